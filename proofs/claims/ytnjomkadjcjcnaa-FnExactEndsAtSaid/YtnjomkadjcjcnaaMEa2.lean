/- found and again, piece for piece: what the matcher tells is the relation's list. Conditions: none beyond those that each theorem names. -/
import Derived.Test.YtnjomkadjcjcnaaQFnExactEndsAtx0
import Derived.Test.YtnjomkadjcjcnaaQFnExactEndsAtx1
import Derived.Test.YtnjomkadjcjcnaaQFnExactEndsAtx2
import Derived.Test.YtnjomkadjcjcnaaQFnExactEndsAtx3
import Derived.Test.YtnjomkadjcjcnaaQFnExactEndsAtx4
import Derived.Test.YtnjomkadjcjcnaaQFnExactEndsAtx5
import Derived.Test.YtnjomkadjcjcnaaQFnExactEndsAtx6
import Derived.Test.YtnjomkadjcjcnaaShelfIdx
import Derived.Test.YtnjomkadjcjcnaaShelfSort
import Derived.Lib.Hide
import Derived.Sort.OwnSortedInts
import Derived.Lib.RowBridge
import Derived.Maps.OwnSet
import Derived.Maps.Views
import Derived.Deep.QuietTactic
import Derived.BigQuiet
import Derived.StillTailTactics
import Derived.IntWalk
import Derived.Lib.IndexAny
import Derived.Deep.RegionHeld3
import Derived.Deep.RegionLaw
import Derived.Deep.AppendLies
import Derived.RegionTactic
import Derived.Shelf.Spec.SlicesGrow
import Derived.Lib.AppendZerosOnto
import Derived.Test.YtnjomkadjcjcnaaMEa1
set_option linter.unusedVariables false
set_option linter.unusedSimpArgs false
set_option maxHeartbeats 4000000
set_option maxRecDepth 100000
namespace Go.Proofs.Ytnjomkadjcjcnaa.QFnExactEndsAt
open Go.RowKit Go.Proofs.YtnjomkadjcjcnaaW.PrintWords Go.Proofs.YtnjomkadjcjcnaaW.PrintLast Go.Proofs.YtnjomkadjcjcnaaW.PrintMore
attribute [local go_sem] max2_int min2_int max_two min_two max_three min_three max_four min_four   -- for this text's walks alone
open Bool renaming true → bT, false → bf
open Go.Proofs.YtnjomkadjcjcnaaW.PrintWords.Kd renaming R_alloc → rA, R_drewN → rN, R_drew → rD, C_alloc → cA, C_drewN → cN, C_drew → cD, R_far → rF, R_below → rB, R_lower → rL, R_lt → rT, R_base → rS, C_below → cB, R_types → rY, R_elder' → rE, R_reads' → rR, R_new' → rW
open Go.Proofs.YtnjomkadjcjcnaaW.PrintWords renaming blk_drewN → bN, blk_drew → bD, blk_alloc → bA, below_set → lS, pw_below_drewN → lN, below_drew1 → lD, below_alloc → lA, blk_cell → bC, blk_below → bB, below_size → lZ, below_step → lP, blk_lt → bL, blk_frozen → bF
open Go.Proofs.YtnjomkadjcjcnaaW.PrintWords.Aside0 renaming mk → aM
theorem int_at {w0 W : World} {A : Option Addr} {n : Nat} {xs : List Int} (h : (Kd.int .i64).C w0 A n xs) (hb : Below w0.heap.size w0 W) (i : Nat) (hi : i < n) : ∃ ad, A = some ad ∧ W.cell? (ad.add i) = some (.int .i64 (rd xs i)) := by
  obtain ⟨ad, e, hx⟩ := Kd.at_int h (i : Int) (by omega) (by omega)
  rw [Int.toNat_natCast] at hx
  exact ⟨ad, e, (hb.cell (World.block_lt_of_cell? w0 _ hx)).trans hx⟩
theorem add_one' (a : Addr) : a.add 1 = ⟨a.block, a.off + 1, none⟩ := by simp [Addr.add]
/-- A list of the call's own, while it grows. -/
structure LS (m : Mt) (P : Nat) (V : Value) (s : ByteArray) (w0 : World) (g mb : Nat) (X : Nat → Prop) (W0 : World) (v : Value) (l : List Nat) (W : World) : Prop where
  own : OwnI W W0.heap.size v (ints l)
  st : MSt m P V s w0 g mb (fun b => X b ∨ v.ownBlock = some b) W
  ex : Ex W0 W (· = mb)
  gB : g < W0.heap.size ∧ mb < W0.heap.size ∧ w0.heap.size ≤ W0.heap.size
  hX : ∀ b, X b → b < W0.heap.size
section
variable {m : Mt} {P : Nat} {V : Value} {s : ByteArray} {w0 : World} {g mb : Nat} {X : Nat → Prop} {W0 : World} {v : Value} {l : List Nat} {W : World}
theorem LS.lt (h : LS m P V s w0 g mb X W0 v l W) : ∀ b, (X b ∨ v.ownBlock = some b) → b < W.heap.size := fun b hb => by
  rcases hb with e | e
  · have := h.hX b e; have := h.ex.size; omega
  · exact own_lt h.own b e
theorem LS.ends (h : LS m P V s w0 g mb X W0 v l W) {W1 : World} (h1 : MSt m P V s w0 g mb (fun b => X b ∨ v.ownBlock = some b) W1) (h2 : Ex W W1 (· = mb)) : LS m P V s w0 g mb X W0 v l W1 :=
  ⟨h.own.kept h2.kept (fun b hb e => by have := own_ge h.own b hb; have := h.gB; omega), h1, h.ex.trans h2 (fun b hb _ => hb), h.gB, h.hX⟩
theorem LS.app (h : LS m P V s w0 g mb X W0 v l W) {v1 : Value} {W1 : World} {l1 : List Nat} (h1 : OwnI W1 W0.heap.size v1 (ints l1)) (h2 : W.grownBy W1 v.ownBlock) (h3 : v1.ownBlock = v.ownBlock ∨ ∃ b, v1.ownBlock = some b ∧ W.heap.size ≤ b) : LS m P V s w0 g mb X W0 v1 l1 W1 := by
  have hx := Ex.of_grown h2
  have hB := h.gB
  refine ⟨h1, h.st.step hx (fun b hb _ => ?_) (fun b hb => ?_), h.ex.trans hx (fun b hb hl => ?_), h.gB, h.hX⟩
  · have := own_ge h.own b hb
    exact ⟨.inr hb, by omega, by omega, by omega⟩
  · rcases hb with e | e
    · exact .inl (.inl e)
    · rcases h3 with h3 | ⟨b', h3, h4⟩
      · exact .inl (.inr (h3 ▸ e))
      · rw [h3] at e; injection e with e; subst e; exact .inr h4
  · have := own_ge h.own b hb
    omega
theorem LS.start (h : MSt m P V s w0 g mb X W0) (hX : ∀ b, X b → b < W0.heap.size) {W1 : World} (hB : Below W0.heap.size W0 W1) (ho : OwnI W1 W0.heap.size v (ints l)) : LS m P V s w0 g mb X W0 v l W1 :=
  ⟨ho, h.step (Ex.of_below hB (fun _ => False)) (fun _ h _ => h.elim) (fun b hb => hb.imp id (fun e => own_ge ho b e)), Ex.of_below hB _, ⟨h.lt.1, h.lt.2, by have := h.bel.size; omega⟩, hX⟩
theorem LS.fin {k i c : Nat} {A : Option Addr} (h : LS m P V s w0 g mb X W0 (.slice A (ints l).length c) l W) (hl : l.length ≤ (m.n + 1) * (m.n + 1) + m.n + 2) (hm : ∀ j, j ∈ l ↔ (j ≤ m.n ∧ m.N k i j)) : FR m P V s w0 g mb k i X W0 (.returned (.slice A (ints l).length c)) W := by
  refine ⟨A, c, ints l, rfl, h.own, by rw [ints_length]; exact hl, fun x => ?_, h.st, h.ex⟩
  rw [mem_ints]
  exact ⟨fun ⟨j, h1, h2⟩ => ⟨j, h1, (hm j).1 h2⟩, fun ⟨j, h1, h2⟩ => ⟨j, h1, (hm j).2 h2⟩⟩
theorem LS.block (h : LS m P V s w0 g mb X W0 v l W) (b : Nat) (hb : b < W0.heap.size) (hne : b ≠ mb) : W.heap[b]? = W0.heap[b]? := h.ex.blk b hb hne
end
theorem row_reads {W : World} {base c : Nat} {A : Option Addr} {l : List Int} (h : OwnI W base (.slice A l.length c) l) : ReadsInt W .i64 A l.length l := by
  obtain ⟨A', c', e, hr⟩ := own_reads h
  injection e with e1 _ e3
  subst e1 e3
  exact hr
theorem f_opt (ps : List S85) (P : Nat) (V : Value) (s : ByteArray) (w0 : World) (g mb K k i : Nat) (X : Nat → Prop) (W : World) (txt : ByteArray) (A2 : Option Addr) (c2 : Nat) (hE : EndsC (mtOf ps s) P V s w0 g mb K) (hOk : (mtOf ps s).Ok P) (hkP : k < P) (hKP : K ≤ P) (hop : (rd_T85 ps k).f0 = 9) (hs : s.size ≤ 1048576) (hi : i ≤ s.size) (hS : MSt (mtOf ps s) P V s w0 g mb X W) (hX : ∀ b, X b → b < W.heap.size) (kids : List Int) (hkids : (rd_T85 ps k).f2 = kids) (hl2 : 1 ≤ kids.length) (hl3 : kids.length ≤ c2) (hC : (Kd.int .i64).C w0 A2 kids.length kids) (q0 : Nat) (hq0 : rd kids 0 = (q0 : Int)) (hq0K : q0 < K) :
    Calls Try.prog 50 #[.pointer (some ⟨g, 0, none⟩), .agg #[.int .i64 9, .string txt, .slice A2 kids.length c2], .int .i64 (i : Int)] W (FR (mtOf ps s) P V s w0 g mb k i X W) := by
  have hn : (mtOf ps s).n = s.size := rfl
  have hkd : (mtOf ps s).kd k = 9 := hop
  have hc0 : (mtOf ps s).c0 k = q0 := by show (rd (rd_T85 ps k).f2 0).toNat = q0; rw [hkids, hq0, Int.toNat_natCast]
  obtain ⟨ad, rfl, hz0⟩ := int_at hC hS.bel 0 (by omega)
  rw [Addr.add_zero'] at hz0
  have hz0 : W.cell? ad = some (.int .i64 (q0 : Int)) := by rw [← hq0]; exact hz0
  have hadb : ad.block < w0.heap.size := by
    obtain ⟨ad2, e2, hx2⟩ := Kd.at_int hC 0 (by omega) (by omega)
    injection e2 with e2
    subst e2
    have := World.block_lt_of_cell? w0 _ hx2
    rwa [show ((0 : Int).toNat) = 0 from rfl, show (ad.add 0).block = ad.block from by unfold Addr.add; split <;> rfl] at this
  obtain ⟨N2, hN2⟩ : ∃ N2, kids.length = N2 := ⟨_, rfl⟩
  rw [hN2] at hl2 hl3 hC ⊢
  have gk0 : (0 < N2) = True := eq_true (by omega)
  have gk0' : decide (0 < N2) = true := decide_eq_true (by omega)
  have gk0i : ((0 : Int) < (N2 : Int)) = True := eq_true (by omega)
  have gk0i' : decide ((0 : Int) < (N2 : Int)) = true := decide_eq_true (by omega)
  obtain ⟨W1, e1, hbel, hsz, hb1, hb2⟩ := box_facts (op := 9) (txt := txt) (kv := .slice (some ad) N2 c2) hS.blk
  obtain ⟨⟨a0, a1, a2⟩, b0, b1, b2⟩ := bC3 hb2
  have hT := m_taken 9 txt s (.slice (some ad) N2 c2) g V _ i W1 hi hs hb1
  have hT2 : tkL 9 txt s i = [] := if_neg (fun h => absurd h.1 (by decide))
  rw [hT2, show isOne 9 = false from rfl] at hT
  have HT := aM hT
  have HV := aM (show W1.heap.size = W.heap.size + 1 ∧ g < W.heap.size ∧ mb < W.heap.size ∧ W1.heap[W.heap.size]? = some (.cells #[.int .i64 9, .string txt, .slice (some ad) N2 c2] 85 (0, 0)) ∧ ad.block < w0.heap.size ∧ w0.heap.size ≤ W.heap.size ∧ Below W.heap.size W W1 ∧ i ≤ s.size ∧ s.size ≤ 1048576 ∧ (mtOf ps s).n = s.size from ⟨hsz, hS.lt.1, hS.lt.2, hb2, hadb, hS.bel.size, hbel, hi, hs, hn⟩)
  have HS := aM hS
  have HX := aM hX
  have HZ0 := aM hz0
  have HE := aM hE
  have HN := aM (show ∀ e, (mtOf ps s).N k i e ↔ e = i ∨ (mtOf ps s).N q0 i e from fun e => by rw [Mt.N9 hOk hkP hkd, hc0])
  have HL := aM (show ∀ e, e ∈ (mtOf ps s).L q0 i ↔ (mtOf ps s).N q0 i e from Mt.mem_L hOk (by omega) (by omega))
  have HQK := aM hq0K
  clear hE hOk hkP hKP hop hs hi hS hX hl2 hl3 hC hq0 hq0K hkids hn hkd hc0 hz0 hadb hN2 hbel hsz hb1 hb2 hT hT2
  go_enter Try.func50, Try.ntmps50
  go_wp2_with fail
  refine HT.out.mono ?_
  rintro e W2 ⟨A, c, rfl, ho2, hbel2⟩
  obtain ⟨v1, v2, v3, v4, v5, v6, v7, v8, v9, v10⟩ := HV.out
  have hB2 : Below W.heap.size W W2 := v7.trans (hbel2.mono (by omega))
  have hS2 := HS.out.still hB2
  have hbx : W2.heap[W.heap.size]? = some (.cells #[.int .i64 9, .string txt, .slice (some ad) N2 c2] 85 (0, 0)) := (hbel2.block W.heap.size (by omega)).trans v4
  clear a0 a1 a2 b0 b1 b2 e1
  obtain ⟨⟨h0, h1, h2⟩, f0, f1, f2⟩ := bC3 hS2.blk
  obtain ⟨⟨x0, x1, x2⟩, y0, y1, y2⟩ := bC3 hbx
  have hz0 : W2.cell? ad = some (.int .i64 (q0 : Int)) := (hB2.cell (by omega)).trans HZ0.out
  obtain ⟨W3, hW3⟩ : ∃ W3, W2.alloc (.cells #[.int .i64 (i : Int)] 3) = W3 := ⟨_, rfl⟩
  have hB3 : Below W2.heap.size W2 W3 := by rw [← hW3]; exact (Below.refl _ _).alloc (Nat.le_refl _) _
  have hLS : LS (mtOf ps s) P V s w0 g mb X W (.slice (some ⟨W2.heap.size, 0, none⟩) (ints [i]).length 1) [i] W3 := LS.start HS.out HX.out (hB2.trans (hB3.mono (by have := hB2.size; omega))) (by rw [← hW3]; exact own_one W2 _ i hB2.size)
  obtain ⟨⟨z0, z1, z2⟩, zf0, zf1, zf2⟩ := bC3 ((hB3.block W.heap.size (blk_lt hbx)).trans hbx)
  have hz3 : W3.cell? ad = some (.int .i64 (q0 : Int)) := (hB3.cell (World.block_lt_of_cell? W2 _ hz0)).trans hz0
  have hcall := HE.out q0 i _ W3 HQK.out (by omega) hLS.st hLS.lt
  have HCALL := aM hcall
  have HLS := aM hLS
  clear hcall hLS hB3 hS2 hbx hB2 v1 v2 v3 v4 v5 v6 v7 v8 v9 v10 ho2 hbel2
  go_wp2_with fail
  refine HCALL.out.mono ?_
  rintro e W4 ⟨A4, c4, rfl, ho4, hn4, hs4, hx4⟩
  have hLS4 := HLS.out.ends hs4 hx4
  have hlen : ((ints [i]).length + (ints ((mtOf ps s).L q0 i)).length) * 8 ≤ 140737488355328 := by
    rw [ints_length, ints_length]; have := (mtOf ps s).L_len q0 i; have := HV.out; simp only [List.length_singleton]; omega
  have hbs : W.heap.size ≤ W4.heap.size := hLS4.ex.size
  have HLS4 := aM hLS4; have HRD := aM (row_reads ho4); have HLEN := aM hlen; have HBS := aM hbs
  clear hLS4 ho4 hn4 hs4 hx4 hlen hbs
  go_wp2_with ((with_reducible refine gate_builtin (b := .append) (xs := #[.tmp 81, .tmp 88]) rfl ?_); at_builtin; refine print_append_row (w0 := _) W.heap.size rfl (.tmp 81) (.tmp 88) 34 3 .i64 8 rfl Try.underlying34 info3 (by decide) (.slice (some ⟨W2.heap.size, 0, none⟩) (ints [i]).length 1) (ints [i]) (ints ((mtOf ps s).L q0 i)) _ _ _ rfl rfl HLS4.out.own HRD.out (Below.refl _ _) HBS.out HLEN.out ?_; intro v5 W5 j1 j2 j3 j4; have hv5 := own_form j1; have HV5 := aM hv5; have HO5 := aM j1; have HG5 := aM j3; have HB5 := aM j4; clear j1 j2 j3 j4 hv5)
  obtain ⟨A5, c5, rfl, _⟩ := HV5.out
  have hll : ints [i] ++ ints ((mtOf ps s).L q0 i) = ints ([i] ++ (mtOf ps s).L q0 i) := (ints_app _ _).symm
  have hO5 := HO5.out
  have hB5 := HB5.out
  rw [hll] at hO5 hB5
  have hF : FR (mtOf ps s) P V s w0 g mb k i X W (.returned (.slice A5 (ints [i] ++ ints ((mtOf ps s).L q0 i)).length c5)) W5 := by
    rw [hll]
    refine (HLS4.out.app hO5 HG5.out hB5).fin ?_ (fun j => ?_)
    · have := (mtOf ps s).L_len q0 i
      simp only [List.length_append, List.length_singleton]
      omega
    · rw [List.mem_append, List.mem_singleton, HL.out, HN.out]
      have h9 := HV.out
      refine ⟨fun h => ⟨?_, h⟩, fun h => h.2⟩
      rcases h with h | h
      · omega
      · exact Mt.L_le ((HL.out j).2 h)
  have HF := aM hF
  clear hF hll hO5 hB5
  go_ret
  exact HF.out
theorem LS.again {m : Mt} {P : Nat} {V : Value} {s : ByteArray} {w0 : World} {g mb : Nat} {X : Nat → Prop} {W0 : World} {v v1 : Value} {l l1 : List Nat} {W W1 : World} (h : LS m P V s w0 g mb X W0 v l W) (h1 : OwnI W1 W0.heap.size v1 (ints l1)) (h2 : MSt m P V s w0 g mb (fun b => X b ∨ v1.ownBlock = some b) W1) (h3 : Ex W W1 (fun b => b = mb ∨ v.ownBlock = some b)) : LS m P V s w0 g mb X W0 v1 l1 W1 :=
  ⟨h1, h2, h.ex.trans h3 (fun b hb hl => by
    rcases hb with e | e
    · exact e
    · have := own_ge h.own b e; omega), h.gB, h.hX⟩
theorem f_star (ps : List S85) (P : Nat) (V : Value) (s : ByteArray) (w0 : World) (g mb K k i : Nat) (X : Nat → Prop) (W : World) (txt : ByteArray) (A2 : Option Addr) (c2 : Nat) (hE : EndsC (mtOf ps s) P V s w0 g mb K) (hOk : (mtOf ps s).Ok P) (hkP : k < P) (hKP : K ≤ P) (hop : (rd_T85 ps k).f0 = 7) (hs : s.size ≤ 1048576) (hi : i ≤ s.size) (hS : MSt (mtOf ps s) P V s w0 g mb X W) (hX : ∀ b, X b → b < W.heap.size) (kids : List Int) (hkids : (rd_T85 ps k).f2 = kids) (hl2 : 1 ≤ kids.length) (hl3 : kids.length ≤ c2) (hC : (Kd.int .i64).C w0 A2 kids.length kids) (q0 : Nat) (hq0 : rd kids 0 = (q0 : Int)) (hq0K : q0 < K) :
    Calls Try.prog 50 #[.pointer (some ⟨g, 0, none⟩), .agg #[.int .i64 7, .string txt, .slice A2 kids.length c2], .int .i64 (i : Int)] W (FR (mtOf ps s) P V s w0 g mb k i X W) := by
  have hn : (mtOf ps s).n = s.size := rfl
  have hkd : (mtOf ps s).kd k = 7 := hop
  have hc0 : (mtOf ps s).c0 k = q0 := by show (rd (rd_T85 ps k).f2 0).toNat = q0; rw [hkids, hq0, Int.toNat_natCast]
  obtain ⟨ad, rfl, hz0⟩ := int_at hC hS.bel 0 (by omega)
  rw [Addr.add_zero'] at hz0
  have hz0 : W.cell? ad = some (.int .i64 (q0 : Int)) := by rw [← hq0]; exact hz0
  have hadb : ad.block < w0.heap.size := by
    obtain ⟨ad2, e2, hx2⟩ := Kd.at_int hC 0 (by omega) (by omega)
    injection e2 with e2
    subst e2
    have := World.block_lt_of_cell? w0 _ hx2
    rwa [show ((0 : Int).toNat) = 0 from rfl, show (ad.add 0).block = ad.block from by unfold Addr.add; split <;> rfl] at this
  obtain ⟨N2, hN2⟩ : ∃ N2, kids.length = N2 := ⟨_, rfl⟩
  rw [hN2] at hl2 hl3 hC ⊢
  have gk0 : (0 < N2) = True := eq_true (by omega)
  have gk0' : decide (0 < N2) = true := decide_eq_true (by omega)
  have gk0i : ((0 : Int) < (N2 : Int)) = True := eq_true (by omega)
  have gk0i' : decide ((0 : Int) < (N2 : Int)) = true := decide_eq_true (by omega)
  obtain ⟨W1, e1, hbel, hsz, hb1, hb2⟩ := box_facts (op := 7) (txt := txt) (kv := .slice (some ad) N2 c2) hS.blk
  obtain ⟨⟨a0, a1, a2⟩, b0, b1, b2⟩ := bC3 hb2
  have hT := m_taken 7 txt s (.slice (some ad) N2 c2) g V _ i W1 hi hs hb1
  have hT2 : tkL 7 txt s i = [] := if_neg (fun h => absurd h.1 (by decide))
  rw [hT2, show isOne 7 = false from rfl] at hT
  have HT := aM hT
  have HV := aM (show W1.heap.size = W.heap.size + 1 ∧ g < W.heap.size ∧ mb < W.heap.size ∧ W1.heap[W.heap.size]? = some (.cells #[.int .i64 7, .string txt, .slice (some ad) N2 c2] 85 (0, 0)) ∧ ad.block < w0.heap.size ∧ w0.heap.size ≤ W.heap.size ∧ Below W.heap.size W W1 ∧ i ≤ s.size ∧ s.size ≤ 1048576 ∧ (mtOf ps s).n = s.size from ⟨hsz, hS.lt.1, hS.lt.2, hb2, hadb, hS.bel.size, hbel, hi, hs, hn⟩)
  have HS := aM hS
  have HX := aM hX
  have HZ0 := aM hz0
  have HE := aM hE
  have HN := aM (show ∀ e, (mtOf ps s).N k i e ↔ Rtc ((mtOf ps s).N q0) i e from fun e => by rw [Mt.N7 hOk hkP hkd, hc0])
  have HNL := aM (show ∀ e, (mtOf ps s).N k i e → e ≤ (mtOf ps s).n from fun e h => Mt.N_le hOk k hkP i e hi h)
  have HL := aM (show ∀ i, i ≤ (mtOf ps s).n → ∀ e, e ∈ (mtOf ps s).L q0 i ↔ (mtOf ps s).N q0 i e from fun i hi => Mt.mem_L hOk (by omega) hi)
  have HQK := aM hq0K
  clear hE hOk hkP hKP hop hs hi hS hX hl2 hl3 hC hq0 hq0K hkids hn hkd hc0 hz0 hadb hN2 hbel hsz hb1 hb2 hT hT2
  go_enter Try.func50, Try.ntmps50
  go_wp2_with fail
  refine HT.out.mono ?_
  rintro e W2 ⟨A, c, rfl, ho2, hbel2⟩
  obtain ⟨v1, v2, v3, v4, v5, v6, v7, v8, v9, v10⟩ := HV.out
  have hB2 : Below W.heap.size W W2 := v7.trans (hbel2.mono (by omega))
  have hS2 := HS.out.still hB2
  have hbx : W2.heap[W.heap.size]? = some (.cells #[.int .i64 7, .string txt, .slice (some ad) N2 c2] 85 (0, 0)) := (hbel2.block W.heap.size (by omega)).trans v4
  clear a0 a1 a2 b0 b1 b2 e1
  obtain ⟨⟨h0, h1, h2⟩, f0, f1, f2⟩ := bC3 hS2.blk
  obtain ⟨⟨x0, x1, x2⟩, y0, y1, y2⟩ := bC3 hbx
  have hz0 : W2.cell? ad = some (.int .i64 (q0 : Int)) := (hB2.cell (by omega)).trans HZ0.out
  obtain ⟨W3, hW3⟩ : ∃ W3, W2.alloc (.cells #[.int .i64 (i : Int)] 3) = W3 := ⟨_, rfl⟩
  have hB3 : Below W2.heap.size W2 W3 := by rw [← hW3]; exact (Below.refl _ _).alloc (Nat.le_refl _) _
  have hLS : LS (mtOf ps s) P V s w0 g mb X W (.slice (some ⟨W2.heap.size, 0, none⟩) (ints [i]).length 1) [i] W3 := LS.start HS.out HX.out (hB2.trans (hB3.mono (by have := hB2.size; omega))) (by rw [← hW3]; exact own_one W2 _ i hB2.size)
  have hcall := m_again (mtOf ps s) P V s w0 g mb K q0 HE.out HQK.out v10 v9 HL.out [i] (some ⟨W2.heap.size, 0, none⟩) 1 X W3 W.heap.size (by simp) (fun x hx => by rw [List.mem_singleton] at hx; omega) hLS.own hLS.st ⟨v2, v3, v6, hLS.ex.size⟩ (fun b hb => hLS.lt b (.inl hb))
  have HCALL := aM hcall
  have HLS := aM hLS
  clear hcall hLS hB3 hS2 hbx hB2 v1 v2 v3 v4 v5 v6 v7 v8 v9 v10 ho2 hbel2
  go_wp2_with fail
  refine HCALL.out.mono ?_
  rintro e W4 ⟨A4, c4, l4, rfl, ho4, hnd4, hm4, hs4, hx4, _⟩
  have hF := (HLS.out.again ho4 hs4 hx4).fin (k := k) (i := i) (by
    have := php ((mtOf ps s).n + 1) l4 hnd4 (fun x hx => by
      obtain ⟨a, ha, hr⟩ := (hm4 x).1 hx
      rw [List.mem_singleton] at ha
      subst ha
      have := HNL.out x ((HN.out x).2 hr)
      omega)
    omega) (fun j => by
    rw [hm4, HN.out]
    constructor
    · rintro ⟨a, ha, hr⟩
      rw [List.mem_singleton] at ha
      subst ha
      exact ⟨HNL.out j ((HN.out j).2 hr), hr⟩
    · rintro ⟨_, hr⟩
      exact ⟨i, List.mem_singleton.2 rfl, hr⟩)
  have HF := aM hF
  clear hF ho4 hnd4 hm4 hs4 hx4
  go_wp2_with fail
  go_ret
  exact HF.out
theorem LS.fin2 {m : Mt} {P : Nat} {V : Value} {s : ByteArray} {w0 : World} {g mb : Nat} {X : Nat → Prop} {W0 W1 : World} {l : List Nat} {W : World} {k i c : Nat} {A : Option Addr} (h : LS m P V s w0 g mb X W1 (.slice A (ints l).length c) l W) (hB : Below W0.heap.size W0 W1) (hl : l.length ≤ (m.n + 1) * (m.n + 1) + m.n + 2) (hm : ∀ j, j ∈ l ↔ (j ≤ m.n ∧ m.N k i j)) : FR m P V s w0 g mb k i X W0 (.returned (.slice A (ints l).length c)) W := by
  refine ⟨A, c, ints l, rfl, h.own.lower hB.size, by rw [ints_length]; exact hl, fun x => ?_, h.st, (Ex.of_below hB _).trans h.ex (fun b hb _ => hb)⟩
  rw [mem_ints]
  exact ⟨fun ⟨j, h1, h2⟩ => ⟨j, h1, (hm j).1 h2⟩, fun ⟨j, h1, h2⟩ => ⟨j, h1, (hm j).2 h2⟩⟩
theorem LS.cell {m : Mt} {P : Nat} {V : Value} {s : ByteArray} {w0 : World} {g mb : Nat} {X : Nat → Prop} {W1 W : World} {v : Value} {l : List Nat} (h : LS m P V s w0 g mb X W1 v l W) {a : Addr} {u : Value} (hc : W1.cell? a = some u) (hne : a.block ≠ mb) : W.cell? a = some u :=
  (World.cell?_of_block (w := W1) (h.block a.block (World.block_lt_of_cell? W1 _ hc) hne)).trans hc
theorem f_cat (ps : List S85) (P : Nat) (V : Value) (s : ByteArray) (w0 : World) (g mb K k i : Nat) (X : Nat → Prop) (W : World) (txt : ByteArray) (A2 : Option Addr) (c2 : Nat) (hE : EndsC (mtOf ps s) P V s w0 g mb K) (hOk : (mtOf ps s).Ok P) (hkP : k < P) (hKP : K ≤ P) (hop : (rd_T85 ps k).f0 = 5) (hs : s.size ≤ 1048576) (hi : i ≤ s.size) (hS : MSt (mtOf ps s) P V s w0 g mb X W) (hX : ∀ b, X b → b < W.heap.size) (kids : List Int) (hkids : (rd_T85 ps k).f2 = kids) (hl2 : 2 ≤ kids.length) (hl3 : kids.length ≤ c2) (hC : (Kd.int .i64).C w0 A2 kids.length kids) (q0 : Nat) (hq0 : rd kids 0 = (q0 : Int)) (hq0K : q0 < K) (q1 : Nat) (hq1 : rd kids 1 = (q1 : Int)) (hq1K : q1 < K) :
    Calls Try.prog 50 #[.pointer (some ⟨g, 0, none⟩), .agg #[.int .i64 5, .string txt, .slice A2 kids.length c2], .int .i64 (i : Int)] W (FR (mtOf ps s) P V s w0 g mb k i X W) := by
  have hn : (mtOf ps s).n = s.size := rfl
  have hkd : (mtOf ps s).kd k = 5 := hop
  have hc0 : (mtOf ps s).c0 k = q0 := by show (rd (rd_T85 ps k).f2 0).toNat = q0; rw [hkids, hq0, Int.toNat_natCast]
  have hc1 : (mtOf ps s).c1 k = q1 := by show (rd (rd_T85 ps k).f2 1).toNat = q1; rw [hkids, hq1, Int.toNat_natCast]
  obtain ⟨ad, rfl, hz0⟩ := int_at hC hS.bel 0 (by omega)
  rw [Addr.add_zero'] at hz0
  have hz0 : W.cell? ad = some (.int .i64 (q0 : Int)) := by rw [← hq0]; exact hz0
  obtain ⟨ad', e', hz1⟩ := int_at hC hS.bel 1 (by omega)
  injection e' with e'
  subst e'
  rw [add_one'] at hz1
  have hz1 : W.cell? ⟨ad.block, ad.off + 1, none⟩ = some (.int .i64 (q1 : Int)) := by rw [← hq1]; exact hz1
  have hadb : ad.block < w0.heap.size := by
    obtain ⟨ad2, e2, hx2⟩ := Kd.at_int hC 0 (by omega) (by omega)
    injection e2 with e2
    subst e2
    have := World.block_lt_of_cell? w0 _ hx2
    rwa [show ((0 : Int).toNat) = 0 from rfl, show (ad.add 0).block = ad.block from by unfold Addr.add; split <;> rfl] at this
  obtain ⟨N2, hN2⟩ : ∃ N2, kids.length = N2 := ⟨_, rfl⟩
  rw [hN2] at hl2 hl3 hC ⊢
  have gk0 : (0 < N2) = True := eq_true (by omega)
  have gk0' : decide (0 < N2) = true := decide_eq_true (by omega)
  have gk0i : ((0 : Int) < (N2 : Int)) = True := eq_true (by omega)
  have gk0i' : decide ((0 : Int) < (N2 : Int)) = true := decide_eq_true (by omega)
  have gk1 : (1 < N2) = True := eq_true (by omega)
  have gk1' : decide (1 < N2) = true := decide_eq_true (by omega)
  have gk1i : ((1 : Int) < (N2 : Int)) = True := eq_true (by omega)
  have gk1i' : decide ((1 : Int) < (N2 : Int)) = true := decide_eq_true (by omega)
  obtain ⟨W1, e1, hbel, hsz, hb1, hb2⟩ := box_facts (op := 5) (txt := txt) (kv := .slice (some ad) N2 c2) hS.blk
  obtain ⟨⟨a0, a1, a2⟩, b0, b1, b2⟩ := bC3 hb2
  have hT := m_taken 5 txt s (.slice (some ad) N2 c2) g V _ i W1 hi hs hb1
  have hT2 : tkL 5 txt s i = [] := if_neg (fun h => absurd h.1 (by decide))
  rw [hT2, show isOne 5 = false from rfl] at hT
  have HT := aM hT
  have HV := aM (show W1.heap.size = W.heap.size + 1 ∧ g < W.heap.size ∧ mb < W.heap.size ∧ W1.heap[W.heap.size]? = some (.cells #[.int .i64 5, .string txt, .slice (some ad) N2 c2] 85 (0, 0)) ∧ ad.block < w0.heap.size ∧ w0.heap.size ≤ W.heap.size ∧ Below W.heap.size W W1 ∧ i ≤ s.size ∧ s.size ≤ 1048576 ∧ (mtOf ps s).n = s.size from ⟨hsz, hS.lt.1, hS.lt.2, hb2, hadb, hS.bel.size, hbel, hi, hs, hn⟩)
  have HS := aM hS
  have HX := aM hX
  have HZ0 := aM hz0
  have HZ1 := aM hz1
  have HE := aM hE
  have HN := aM (show ∀ e, (mtOf ps s).N k i e ↔ ∃ j, (mtOf ps s).N q0 i j ∧ (mtOf ps s).N q1 j e from fun e => by rw [Mt.N5 hOk hkP hkd, hc0, hc1])
  have HNL := aM (show ∀ e, (mtOf ps s).N k i e → e ≤ (mtOf ps s).n from fun e h => Mt.N_le hOk k hkP i e hi h)
  have HL := aM (show ∀ i, i ≤ (mtOf ps s).n → ∀ e, e ∈ (mtOf ps s).L q0 i ↔ (mtOf ps s).N q0 i e from fun i hi => Mt.mem_L hOk (by omega) hi)
  have HL1 := aM (show ∀ i, i ≤ (mtOf ps s).n → ∀ e, e ∈ (mtOf ps s).L q1 i ↔ (mtOf ps s).N q1 i e from fun i hi => Mt.mem_L hOk (by omega) hi)
  have HQK := aM (And.intro hq0K hq1K)
  have HZB0 := aM (show W1.cell? ad = some (.int .i64 (q0 : Int)) from (hbel.cell (by have := hS.bel.size; omega)).trans hz0)
  have HZB1 := aM (show W1.cell? ⟨ad.block, ad.off + 1, none⟩ = some (.int .i64 (q1 : Int)) from (hbel.cell (by have := hS.bel.size; show ad.block < _; omega)).trans hz1)
  have HS1 := aM (hS.still hbel)
  clear hE hOk hkP hKP hop hs hi hS hX hl2 hl3 hC hq0 hq0K hkids hn hkd hc0 hz0 hadb hN2 hbel hsz hb1 hb2 hT hT2 hz1 hq1 hq1K hc1
  go_enter Try.func50, Try.ntmps50
  go_wp2_with fail
  refine HT.out.mono ?_
  rintro e W2 ⟨A, c, rfl, ho2, hbel2⟩
  obtain ⟨v1, v2, v3, v4, v5, v6, v7, v8, v9, v10⟩ := HV.out
  have hB2 : Below W.heap.size W W2 := v7.trans (hbel2.mono (by omega))
  have hS2 := HS.out.still hB2
  have hbx : W2.heap[W.heap.size]? = some (.cells #[.int .i64 5, .string txt, .slice (some ad) N2 c2] 85 (0, 0)) := (hbel2.block W.heap.size (by omega)).trans v4
  clear a0 a1 a2 b0 b1 b2 e1
  have hLS2 : LS (mtOf ps s) P V s w0 g mb X W1 (.slice A (ints []).length c) [] W2 := LS.start HS1.out (fun b hb => by have := HX.out b hb; omega) hbel2 ho2
  obtain ⟨⟨h0, h1, h2⟩, f0, f1, f2⟩ := bC3 hS2.blk
  obtain ⟨⟨x0, x1, x2⟩, y0, y1, y2⟩ := bC3 hbx
  have hmbge := hS2.hmb
  have hzz0 := hLS2.cell HZB0.out (by omega)
  have hcall := HE.out q0 i _ W2 HQK.out.1 (by omega) hLS2.st hLS2.lt
  have HCALL := aM hcall
  have HLS := aM hLS2
  have HMB := aM hmbge
  clear hcall hLS2 hS2 hbx hB2 v1 v2 v3 v4 v5 v6 v7 v8 v9 v10 ho2 hbel2 hmbge
  go_wp2_with fail
  refine HCALL.out.mono ?_
  rintro e W3 ⟨A3, c3, rfl, ho3, hn3, hs3, hx3⟩
  have HLS3 := aM (HLS.out.ends hs3 hx3)
  have HO3 := aM ho3
  have HN3 := aM (show NB (.slice A3 (ints ((mtOf ps s).L q0 i)).length c3) (fun b => b = mb ∨ (Value.slice A (ints []).length c).ownBlock = some b) from fun b hb e => hn3 b hb (by
    rcases e with e | e
    · exact .inr (.inl e)
    · exact .inr (.inr (.inr e))))
  clear ho3 hn3 hs3 hx3 h0 h1 h2 f0 f1 f2 x0 x1 x2 y0 y1 y2 hzz0
  go_wp2_with fail
  clear hz0 hz1
  go_loopg [45, 7] ((mtOf ps s).L q0 i).length (fun gk v45 v7 w' => ∃ (j : Nat) (l : List Nat) (A : Option Addr) (c : Nat), v45 = .int .i64 (j : Int) ∧ v7 = .slice A (ints l).length c ∧ Aside0 (j + gk = ((mtOf ps s).L q0 i).length) ∧ Aside0 (LS (mtOf ps s) P V s w0 g mb X W1 (.slice A (ints l).length c) l w') ∧ Aside0 (l.length ≤ j * ((mtOf ps s).n + 1)) ∧ Aside0 (∀ e, e ∈ l ↔ ∃ a, a ∈ ((mtOf ps s).L q0 i).take j ∧ (mtOf ps s).N q1 a e) ∧ Aside0 (OwnI w' w0.heap.size (.slice A3 (ints ((mtOf ps s).L q0 i)).length c3) (ints ((mtOf ps s).L q0 i))) ∧ Aside0 (NB (.slice A3 (ints ((mtOf ps s).L q0 i)).length c3) (fun b => b = mb ∨ (Value.slice A (ints l).length c).ownBlock = some b)))
  case atStart => exact ⟨0, [], A, c, rfl, rfl, aM (by omega), HLS3, aM (by simp), aM (by simp), HO3, HN3⟩
  case round =>
    clear HLS3 HO3 HN3 HLS HCALL HT HS1 HS
    obtain ⟨j, l, A, c, rfl, rfl, HJ, HLS, HLE, HM, HO, HN3⟩ := hrel
    have hLS := HLS.out
    have h9 := HV.out
    have hmbne : W.heap.size ≠ mb := by omega
    obtain ⟨⟨h0, h1, h2⟩, f0, f1, f2⟩ := bC3 hLS.st.blk
    obtain ⟨⟨x0, x1, x2⟩, y0, y1, y2⟩ := bC3 ((hLS.block W.heap.size (by omega) hmbne).trans h9.2.2.2.1)
    have hadne : ad.block ≠ mb := by have := HMB.out; omega
    have hz1 := hLS.cell HZB1.out hadne
    by_cases c9 : j < ((mtOf ps s).L q0 i).length
    · cases gk with
      | zero => have := HJ.out; omega
      | succ k2 =>
        obtain ⟨bg1, rfl, hb1, hb2, hx1, hx2⟩ := own_cell HO.out j c9
        obtain ⟨y, hy⟩ : ∃ y, y = ((mtOf ps s).L q0 i)[j] := ⟨_, rfl⟩
        have hym : y ∈ (mtOf ps s).L q0 i := by rw [hy]; exact List.getElem_mem c9
        have hyle : y ≤ (mtOf ps s).n := Mt.L_le hym
        rw [← hy] at hx1
        have hj : j ≤ 1000000000000000 := by have := (mtOf ps s).L_len q0 i; omega
        have g1 : decide ((j : Int) < ((ints ((mtOf ps s).L q0 i)).length : Nat)) = true := decide_eq_true (by rw [ints_length]; omega)
        have g3 : ((j : Int) < ((ints ((mtOf ps s).L q0 i)).length : Nat)) = True := eq_true (by rw [ints_length]; omega)
        have p1 : (0 ≤ (j : Int)) = True := eq_true (by omega)
        have hcall := HE.out q1 y _ wr HQK.out.2 hyle hLS.st hLS.lt
        have hin : ∀ e, e ∈ l ++ (mtOf ps s).L q1 y ↔ ∃ a, a ∈ ((mtOf ps s).L q0 i).take (j + 1) ∧ (mtOf ps s).N q1 a e := fun e => by
          rw [List.mem_append, HM.out, HL1.out y hyle]
          constructor
          · rintro (⟨a, h3, h4⟩ | h3)
            · exact ⟨a, (take_succ_mem _ j c9 a).2 (.inl h3), h4⟩
            · exact ⟨y, (take_succ_mem _ j c9 y).2 (.inr hy), h3⟩
          · rintro ⟨a, h3, h4⟩
            rcases (take_succ_mem _ j c9 a).1 h3 with h5 | h5
            · exact .inl ⟨a, h5, h4⟩
            · rw [h5, ← hy] at h4; exact .inr h4
        have hlen2 : (l ++ (mtOf ps s).L q1 y).length ≤ (j + 1) * ((mtOf ps s).n + 1) := by
          have h5 := (mtOf ps s).L_len q1 y
          have h6 := HLE.out
          rw [List.length_append, Nat.add_mul, Nat.one_mul]
          omega
        have hbig : (l ++ (mtOf ps s).L q1 y).length ≤ 1048577 * 1048577 := Nat.le_trans hlen2 (Nat.mul_le_mul (by have := (mtOf ps s).L_len q0 i; omega) (by omega))
        have HCALL := aM hcall; have HIN := aM hin; have HLEN2 := aM hlen2; have HBIG := aM hbig; have HJL := aM hj
        clear c9 hb1 hb2 hy hym hyle hj hcall hin hlen2 hbig h9 hmbne hadne hLS
        go_wp2_with fail
        refine HCALL.out.mono ?_
        rintro e w4 ⟨A4, c4, rfl, ho4, hn4, hs4, hx4⟩
        have hLS4 := HLS.out.ends hs4 hx4
        have hO4 := HO.out.kept hx4.kept (fun b hb e => HN3.out b hb (.inl e))
        have hlen : ((ints l).length + (ints ((mtOf ps s).L q1 y)).length) * 8 ≤ 140737488355328 := by
          have := HBIG.out
          rw [List.length_append] at this
          rw [ints_length, ints_length]
          omega
        have hbs : W1.heap.size ≤ w4.heap.size := hLS4.ex.size
        have HLS4 := aM hLS4; have HRD := aM (row_reads ho4); have HLEN := aM hlen; have HBS := aM hbs; have HO4 := aM hO4
        clear hLS4 ho4 hn4 hs4 hx4 hlen hbs hO4 h0 h1 h2 f0 f1 f2 x0 x1 x2 y0 y1 y2 hz1 hx1 hx2 g1 g3 p1
        go_wp2_with ((with_reducible refine gate_builtin (b := .append) (xs := #[.tmp 49, .tmp 56]) rfl ?_); at_builtin; refine print_append_row (w0 := _) W1.heap.size rfl (.tmp 49) (.tmp 56) 34 3 .i64 8 rfl Try.underlying34 info3 (by decide) (.slice A (ints l).length c) (ints l) (ints ((mtOf ps s).L q1 y)) _ _ _ rfl rfl HLS4.out.own HRD.out (Below.refl _ _) HBS.out HLEN.out ?_; intro v5 w5 j1 j2 j3 j4; have hv5 := own_form j1; have HV5 := aM hv5; have HO5 := aM j1; have HG5 := aM j3; have HB5 := aM j4; clear j1 j2 j3 j4 hv5)
        obtain ⟨A5, c5, rfl, _⟩ := HV5.out
        have hll : ints l ++ ints ((mtOf ps s).L q1 y) = ints (l ++ (mtOf ps s).L q1 y) := (ints_app _ _).symm
        have hO5 := HO5.out
        have hB5 := HB5.out
        rw [hll] at hO5 hB5
        have HLS5 := aM (HLS4.out.app hO5 HG5.out hB5)
        have HO6 := aM (HO4.out.kept (Ex.of_grown HG5.out).kept (fun b hb e => HN3.out b hb (.inr e)))
        have hN4 : NB (.slice (some ⟨bg1, 0, none⟩) (ints ((mtOf ps s).L q0 i)).length c3) (fun b => b = mb ∨ (Value.slice A5 (ints (l ++ (mtOf ps s).L q1 y)).length c5).ownBlock = some b) := fun b hb e => by
          rcases e with e | e
          · exact HN3.out b hb (.inl e)
          · rcases hB5 with h5 | ⟨b', h5, h6⟩
            · rw [h5] at e; exact HN3.out b hb (.inr e)
            · rw [h5] at e; injection e with e; subst e
              have := own_lt HO4.out b' hb
              omega
        have HN4 := aM hN4; have HLL := aM hll
        clear hN4 hll hO5 hB5
        go_roundg k2
        case measure => omega
        case rel => exact ⟨j + 1, l ++ (mtOf ps s).L q1 y, A5, c5, by rw [inc64 j HJL.out], by rw [HLL.out], aM (by have := HJ.out; omega), HLS5, HLEN2, HIN, HO6, HN4⟩
    · have hF := hLS.fin2 (k := k) (i := i) h9.2.2.2.2.2.2.1 (by
        have h5 := (mtOf ps s).L_len q0 i
        have h6 := HLE.out
        have h7 : j * ((mtOf ps s).n + 1) ≤ ((mtOf ps s).n + 1) * ((mtOf ps s).n + 1) := Nat.mul_le_mul_right _ (by have := HJ.out; omega)
        omega) (fun e => by
        have h6 := HM.out e
        rw [List.take_of_length_le (by omega)] at h6
        rw [h6]
        constructor
        · rintro ⟨a, h3, h4⟩
          have h8 : (mtOf ps s).N k i e := (HN.out e).2 ⟨a, (HL.out i (by omega) a).1 h3, h4⟩
          exact ⟨HNL.out e h8, h8⟩
        · rintro ⟨_, h8⟩
          obtain ⟨a, h3, h4⟩ := (HN.out e).1 h8
          exact ⟨a, (HL.out i (by omega) a).2 h3, h4⟩)
      have HF := aM hF
      have g1 : decide ((j : Int) < ((ints ((mtOf ps s).L q0 i)).length : Nat)) = false := decide_eq_false (by rw [ints_length]; omega)
      have g3 : ((j : Int) < ((ints ((mtOf ps s).L q0 i)).length : Nat)) = False := eq_false (by rw [ints_length]; omega)
      clear hF h9 c9 hmbne hadne hLS h0 h1 h2 f0 f1 f2 x0 x1 x2 y0 y1 y2 hz1
      go_wp2
      go_ret
      exact HF.out
theorem keepE {W W' : World} {T : Nat → Prop} (hx : Ex W W' T) {a b : Addr} {u v : Value} (h : W.cell? a = some u ∧ W.cell? b = some v) (h1 : ¬ T a.block) (h2 : ¬ T b.block) : W'.cell? a = some u ∧ W'.cell? b = some v :=
  ⟨(World.cell?_of_block (w := W) (hx.blk a.block (World.block_lt_of_cell? W _ h.1) h1)).trans h.1, (World.cell?_of_block (w := W) (hx.blk b.block (World.block_lt_of_cell? W _ h.2) h2)).trans h.2⟩
theorem own_C {W : World} {base c : Nat} {A : Option Addr} {l : List Int} (h : OwnI W base (.slice A l.length c) l) : Kd.C (Kd.int .i64) W A l.length l := Kd.C_of_reads (d := (0 : Int)) (h1 := fun _ => rfl) (row_reads h)
theorem own_cap {W : World} {base c : Nat} {A : Option Addr} {l : List Int} (h : OwnI W base (.slice A l.length c) l) : l.length ≤ c := by
  obtain ⟨A', c', e, h2⟩ := own_form h
  injection e with _ _ e3
  omega
theorem f_plus (ps : List S85) (P : Nat) (V : Value) (s : ByteArray) (w0 : World) (g mb K k i : Nat) (X : Nat → Prop) (W : World) (txt : ByteArray) (A2 : Option Addr) (c2 : Nat) (hE : EndsC (mtOf ps s) P V s w0 g mb K) (hOk : (mtOf ps s).Ok P) (hkP : k < P) (hKP : K ≤ P) (hop : (rd_T85 ps k).f0 = 8) (hs : s.size ≤ 1048576) (hi : i ≤ s.size) (hS : MSt (mtOf ps s) P V s w0 g mb X W) (hX : ∀ b, X b → b < W.heap.size) (kids : List Int) (hkids : (rd_T85 ps k).f2 = kids) (hl2 : 1 ≤ kids.length) (hl3 : kids.length ≤ c2) (hC : (Kd.int .i64).C w0 A2 kids.length kids) (q0 : Nat) (hq0 : rd kids 0 = (q0 : Int)) (hq0K : q0 < K) :
    Calls Try.prog 50 #[.pointer (some ⟨g, 0, none⟩), .agg #[.int .i64 8, .string txt, .slice A2 kids.length c2], .int .i64 (i : Int)] W (FR (mtOf ps s) P V s w0 g mb k i X W) := by
  have hn : (mtOf ps s).n = s.size := rfl
  have hkd : (mtOf ps s).kd k = 8 := hop
  have hc0 : (mtOf ps s).c0 k = q0 := by show (rd (rd_T85 ps k).f2 0).toNat = q0; rw [hkids, hq0, Int.toNat_natCast]
  obtain ⟨ad, rfl, hz0⟩ := int_at hC hS.bel 0 (by omega)
  rw [Addr.add_zero'] at hz0
  have hz0 : W.cell? ad = some (.int .i64 (q0 : Int)) := by rw [← hq0]; exact hz0
  have hadb : ad.block < w0.heap.size := by
    obtain ⟨ad2, e2, hx2⟩ := Kd.at_int hC 0 (by omega) (by omega)
    injection e2 with e2
    subst e2
    have := World.block_lt_of_cell? w0 _ hx2
    rwa [show ((0 : Int).toNat) = 0 from rfl, show (ad.add 0).block = ad.block from by unfold Addr.add; split <;> rfl] at this
  obtain ⟨N2, hN2⟩ : ∃ N2, kids.length = N2 := ⟨_, rfl⟩
  rw [hN2] at hl2 hl3 hC ⊢
  have gk0 : (0 < N2) = True := eq_true (by omega)
  have gk0' : decide (0 < N2) = true := decide_eq_true (by omega)
  have gk0i : ((0 : Int) < (N2 : Int)) = True := eq_true (by omega)
  have gk0i' : decide ((0 : Int) < (N2 : Int)) = true := decide_eq_true (by omega)
  obtain ⟨W1, e1, hbel, hsz, hb1, hb2⟩ := box_facts (op := 8) (txt := txt) (kv := .slice (some ad) N2 c2) hS.blk
  obtain ⟨⟨a0, a1, a2⟩, b0, b1, b2⟩ := bC3 hb2
  have hT := m_taken 8 txt s (.slice (some ad) N2 c2) g V _ i W1 hi hs hb1
  have hT2 : tkL 8 txt s i = [] := if_neg (fun h => absurd h.1 (by decide))
  rw [hT2, show isOne 8 = false from rfl] at hT
  have HT := aM hT
  have HV := aM (show W1.heap.size = W.heap.size + 1 ∧ g < W.heap.size ∧ mb < W.heap.size ∧ W1.heap[W.heap.size]? = some (.cells #[.int .i64 8, .string txt, .slice (some ad) N2 c2] 85 (0, 0)) ∧ ad.block < w0.heap.size ∧ w0.heap.size ≤ W.heap.size ∧ Below W.heap.size W W1 ∧ i ≤ s.size ∧ s.size ≤ 1048576 ∧ (mtOf ps s).n = s.size from ⟨hsz, hS.lt.1, hS.lt.2, hb2, hadb, hS.bel.size, hbel, hi, hs, hn⟩)
  have HS := aM hS
  have HX := aM hX
  have HZ0 := aM hz0
  have HE := aM hE
  have HN := aM (show ∀ e, (mtOf ps s).N k i e ↔ ∃ j, (mtOf ps s).N q0 i j ∧ Rtc ((mtOf ps s).N q0) j e from fun e => by rw [Mt.N8 hOk hkP hkd, hc0])
  have HNL := aM (show ∀ e, (mtOf ps s).N k i e → e ≤ (mtOf ps s).n from fun e h => Mt.N_le hOk k hkP i e hi h)
  have HL := aM (show ∀ i, i ≤ (mtOf ps s).n → ∀ e, e ∈ (mtOf ps s).L q0 i ↔ (mtOf ps s).N q0 i e from fun i hi => Mt.mem_L hOk (by omega) hi)
  have HQK := aM hq0K
  have HLND := aM (show List.Pairwise (· ≠ ·) ((mtOf ps s).L q0 i) from List.Pairwise.filter _ List.nodup_range)
  clear hE hOk hkP hKP hop hs hi hS hX hl2 hl3 hC hq0 hq0K hkids hn hkd hc0 hz0 hadb hN2 hbel hsz hb1 hb2 hT hT2
  go_enter Try.func50, Try.ntmps50
  go_wp2_with fail
  refine HT.out.mono ?_
  rintro e W2 ⟨A, c, rfl, ho2, hbel2⟩
  obtain ⟨v1, v2, v3, v4, v5, v6, v7, v8, v9, v10⟩ := HV.out
  have hB2 : Below W.heap.size W W2 := v7.trans (hbel2.mono (by omega))
  have hS2 := HS.out.still hB2
  have hbx : W2.heap[W.heap.size]? = some (.cells #[.int .i64 8, .string txt, .slice (some ad) N2 c2] 85 (0, 0)) := (hbel2.block W.heap.size (by omega)).trans v4
  clear a0 a1 a2 b0 b1 b2 e1
  obtain ⟨⟨h0, h1, h2⟩, f0, f1, f2⟩ := bC3 hS2.blk
  obtain ⟨⟨x0, x1, x2⟩, y0, y1, y2⟩ := bC3 hbx
  have hz0 : W2.cell? ad = some (.int .i64 (q0 : Int)) := (hB2.cell (by omega)).trans HZ0.out
  have hmbge := hS2.hmb
  have hWl := blk_lt hbx
  have hS3 : MSt (mtOf ps s) P V s w0 g mb X W2.drew := hS2.still (lD (Below.refl _ _))
  have hcall := HE.out q0 i X W2.drew HQK.out (by omega) hS3 (fun b hb => by have := HX.out b hb; show b < W2.heap.size; omega)
  have HCALL := aM hcall
  have HK1 := aM (show W.heap.size ≠ mb ∧ ad.block ≠ mb ∧ W.heap.size < W2.heap.size ∧ ad.block < W.heap.size from ⟨by omega, by omega, hWl, by omega⟩)
  have HB2 := aM hB2
  have hlen : (([] : List Int)).length + (ints ((mtOf ps s).L q0 i)).length < 17592186044416 := by
    rw [ints_length]; have := (mtOf ps s).L_len q0 i; simp only [List.length_nil]; omega
  have hci : impl_copyInts.f (ints ((mtOf ps s).L q0 i)) = some (ints ((mtOf ps s).L q0 i)) := by
    unfold impl_copyInts.f
    rw [Option.bind_some, if_pos hlen, List.nil_append]
  have HCI := aM hci
  clear hcall hS2 hbx v1 v2 v3 v4 v5 v6 v7 v8 v9 v10 ho2 hbel2 hmbge hWl hS3 hB2 hlen hci
  go_wp2_with fail
  go_region_held3 (fun w' => w'.cell? ⟨W.heap.size, 2, none⟩ = some (.slice (some ad) N2 c2) ∧ w'.cell? ad = some (.int .i64 (q0 : Int)))
    (first | exact ⟨x2, hz0⟩ | exact keepE (W := W2.drew) hx3 ⟨x2, hz0⟩ HK1.out.1 HK1.out.2.1 | exact keepE (T := fun _ => False) (Ex.of_below hb4 _) (keepE (W := W2.drew) hx3 ⟨x2, hz0⟩ HK1.out.1 HK1.out.2.1) (fun h => h) (fun h => h) | exact keepE hx5 (keepE (T := fun _ => False) (Ex.of_below hb4 _) (keepE (W := W2.drew) hx3 ⟨x2, hz0⟩ HK1.out.1 HK1.out.2.1) (fun h => h) (fun h => h)) hne1 hne2)
    (first | (go_at_call 31; refine HCALL.out.mono ?_; rintro e W3 ⟨A3, c3, rfl, ho3, hn3, hs3, hx3⟩) | (go_at_call 35; refine (impl_copyInts.calls A3 c3 _ _ W3 (own_C ho3) (own_cap ho3) HCI.out).mono ?_; rintro e W4 ⟨v4, rfl, hr4, hb4⟩; obtain ⟨A4, c4, rfl, _⟩ := own_form (own_of_R hr4)) | (go_at_call 72; have hq3 : W2.heap.size ≤ W3.heap.size := hx3.size; have hS4 : MSt (mtOf ps s) P V s w0 g mb (fun b => X b ∨ (Value.slice A4 (ints ((mtOf ps s).L q0 i)).length c4).ownBlock = some b) W4 := hs3.step (Ex.of_below hb4 (fun _ => False)) (fun _ h _ => h.elim) (fun b hb => hb.imp id (fun e => own_ge (own_of_R hr4) b e)); refine (m_again (mtOf ps s) P V s w0 g mb K q0 HE.out HQK.out HV.out.2.2.2.2.2.2.2.2.2 HV.out.2.2.2.2.2.2.2.2.1 HL.out ((mtOf ps s).L q0 i) A4 c4 X W4 W3.heap.size HLND.out (fun x hx => Mt.L_le hx) (own_of_R hr4) hS4 ⟨by have := HV.out.2.1; have := HK1.out.2.2.1; omega, by have := HV.out.2.2.1; have := HK1.out.2.2.1; omega, by have := HV.out.2.2.2.2.2.1; have := HK1.out.2.2.1; omega, hb4.size⟩ (fun b hb => by have := HX.out b hb; have := HK1.out.2.2.1; have := hb4.size; omega)).mono ?_; rintro e W5 ⟨A5, c5, l5, rfl, ho5, hnd5, hm5, hs5, hx5, hob5⟩; have hne1 : ¬ (W.heap.size = mb ∨ (Value.slice A4 (ints ((mtOf ps s).L q0 i)).length c4).ownBlock = some W.heap.size) := (fun h => by rcases h with h | h; exact HK1.out.1 h; (have := own_ge (own_of_R hr4) _ h; have := HK1.out.2.2.1; omega)); have hne2 : ¬ (ad.block = mb ∨ (Value.slice A4 (ints ((mtOf ps s).L q0 i)).length c4).ownBlock = some ad.block) := (fun h => by rcases h with h | h; exact HK1.out.2.1 h; (have := own_ge (own_of_R hr4) _ h; have := HK1.out.2.2; omega))))
  have hLS5 : FR (mtOf ps s) P V s w0 g mb k i X W (.returned (.slice A5 (ints l5).length c5)) W5 := by
    have hq3 : W2.heap.size ≤ W3.heap.size := hx3.size
    have hB2 := HB2.out
    have hmg := HV.out
    refine ⟨A5, c5, ints l5, rfl, ho5.lower (by have := hB2.size; omega), ?_, fun x => ?_, hs5, ?_⟩
    · have h6 := php ((mtOf ps s).n + 1) l5 hnd5 (fun x hx => by
        obtain ⟨a, ha, hr⟩ := (hm5 x).1 hx
        have := HNL.out x ((HN.out x).2 ⟨a, (HL.out i (by omega) a).1 ha, hr⟩)
        omega)
      rw [ints_length]
      omega
    · rw [mem_ints]
      constructor
      · rintro ⟨j, rfl, hj⟩
        obtain ⟨a, ha, hr⟩ := (hm5 j).1 hj
        have h7 : (mtOf ps s).N k i j := (HN.out j).2 ⟨a, (HL.out i (by omega) a).1 ha, hr⟩
        exact ⟨j, rfl, HNL.out j h7, h7⟩
      · rintro ⟨j, rfl, _, h7⟩
        obtain ⟨a, ha, hr⟩ := (HN.out j).1 h7
        exact ⟨j, rfl, (hm5 j).2 ⟨a, (HL.out i (by omega) a).2 ha, hr⟩⟩
    · have e1 : Ex W W2.drew (· = mb) := Ex.of_below (lD hB2) _
      have e2 : Ex W W3 (· = mb) := e1.trans hx3 (fun b hb _ => hb)
      have e3 : Ex W W4 (· = mb) := e2.trans (Ex.of_below hb4 (fun _ => False)) (fun b hb _ => hb.elim)
      exact e3.trans hx5 (fun b hb hl => by
        rcases hb with h | h
        · exact h
        · have := own_ge (own_of_R hr4) b h
          have := hB2.size
          omega)
  have HF := aM hLS5
  clear hLS5 hx3 hx5 hb4 hr4 ho5 hnd5 hm5 hs5 hob5 hne1 hne2
  go_wp2_with fail
  go_ret
  exact HF.out
open Go.Lib in
theorem m_grow (n : Nat) (hn : n ≤ 1000000000) (w : World) :
    Calls Try.prog 84 #[.slice none 0 0, .int .i64 (n : Int)] w fun e w' => ∃ A c, e = .returned (.slice A (ints []).length c) ∧ OwnI w' w.heap.size (.slice A (ints []).length c) (ints []) ∧ Below w.heap.size w w' := by
  have h1 : ¬ ((n : Int) < 0) := by omega
  have h3 : wrap64 ((n : Int) - 0) = (n : Int) := by unfold wrap64; omega
  rcases Nat.eq_zero_or_pos n with h0 | h0
  · subst h0
    go_enter Try.func84, Try.ntmps84
    go_wp2
    go_ret
    exact ⟨none, 0, rfl, own_nil _ _, Below.refl _ _⟩
  · have h4 : (n : Int) > 0 := by omega
    obtain ⟨i0, hi, hzz⟩ := Option.map_eq_some_iff.1 info3
    simp only [Prod.mk.injEq] at hzz
    obtain ⟨hz0, hz1, hz2⟩ := hzz
    have hold : (Builtin.firstCells i0.size 0 (.slice none 0 0)).run Try.prog w.drew = .ok ([] : List Value).toArray w.drew := run_firstCells_none w.drew i0.size 0 0 0
    have hrz : ∀ ty, (Builtin.append_ #[34, 3] ty #[.slice none 0 0, .int .i64 (n : Int)]).run Try.prog w = _ := fun ty => Lib.run_append_grow_zeros w 34 3 ty 3 i0 (.int .i64 0) .i64 .i64 Try.underlying34 Try.underlying3 hi hz0 none 0 0 [] hold n h0 (by omega) (by omega) (by omega) (by rw [hz2]; omega) (by rw [hz2]; exact growslice_fits (by omega) (by omega))
    rw [Nat.zero_add] at hrz
    obtain ⟨G, hG⟩ : ∃ G, G = grownCap w n 0 3 := ⟨_, rfl⟩
    have hG1 : n ≤ G := by rw [hG]; exact grownCap_ge w _ _ _
    have hG2 : G ≤ maxLen := by rw [hG]; exact grownCap_le_maxLen w n 0 3 (by unfold maxLen; omega)
    rw [← hG] at hrz
    have HG := aM (And.intro hG1 hG2)
    clear hold hG hi hG1 hG2 hz0 hz1 hz2
    go_enter Try.func84, Try.ntmps84
    go_wp2_with (at_builtin; refine Lib.wpList_append_run _ rfl _ _ _ _ rfl _ _ rfl rfl _ _ (hrz _) ?_)
    go_ret
    obtain ⟨q1, q2⟩ := HG.out
    refine ⟨some ⟨w.heap.size, 0, none⟩, G, rfl, ⟨rfl, .inr ⟨w.heap.size, G, _, rfl, Nat.le_refl _, (MapKept.heap_alloc w _).1, Nat.zero_le _, q2, ?_, by simp [ints, nums]⟩⟩, lD ((Below.refl _ _).alloc (Nat.le_refl _) _)⟩
    simp [Builtin.zeroCells]
    omega
theorem row_readsN {W : World} {base c N : Nat} {A : Option Addr} {l : List Int} (h : OwnI W base (.slice A N c) l) (hN : l.length = N) : ReadsInt W .i64 A N l := by
  subst hN; exact row_reads h
theorem m_concat (l1 l2 : List Nat) (N1 N2 : Nat) (A1 A2 : Option Addr) (c1 c2 cb b1 b2 : Nat) (W : World) (h1 : (ints l1).length = N1) (h2 : (ints l2).length = N2) (hb1 : N1 ≤ 2000000) (hb2 : N2 ≤ 2000000)
    (hc : W.heap[cb]? = some (.cells #[.slice A1 N1 c1, .slice A2 N2 c2] 34 (0, 0))) (ho1 : OwnI W b1 (.slice A1 N1 c1) (ints l1)) (ho2 : OwnI W b2 (.slice A2 N2 c2) (ints l2)) :
    Calls Try.prog 71 #[.slice (some ⟨cb, 0, none⟩) 2 2] W fun e W' => ∃ A c, e = .returned (.slice A (ints (l1 ++ l2)).length c) ∧ OwnI W' W.heap.size (.slice A (ints (l1 ++ l2)).length c) (ints (l1 ++ l2)) ∧ Below W.heap.size W W' := by
  have hcl := blk_lt hc
  have x0 : W.cell? ⟨cb, 0, none⟩ = some (.slice A1 N1 c1) := (bC hc 0).trans rfl
  have x1 : W.cell? ⟨cb, 1, none⟩ = some (.slice A2 N2 c2) := (bC hc 1).trans rfl
  have HR1 := aM (row_readsN ho1 h1)
  have HR2 := aM (row_readsN ho2 h2)
  have HN := aM (show (ints l1).length = N1 ∧ (ints l2).length = N2 ∧ N1 ≤ 2000000 ∧ N2 ≤ 2000000 ∧ cb < W.heap.size from ⟨h1, h2, hb1, hb2, hcl⟩)
  have hgr := m_grow (N1 + N2) (by omega) W
  rw [Int.natCast_add] at hgr
  have HGR := aM hgr
  clear hgr
  have w1 : wrap64 (N1 : Int) = (N1 : Int) := IntWalk.wrap64_in _ (by omega)
  have w2 : wrap64 ((N1 : Int) + (N2 : Int)) = (N1 : Int) + (N2 : Int) := IntWalk.wrap64_in _ (by clear w1; omega)
  have n1 : ((N1 : Int) < 0) = False := eq_false (by clear w1 w2; omega)
  have n2 : ((N1 : Int) + (N2 : Int) < 0) = False := eq_false (by clear w1 w2; omega)
  clear ho1 ho2 h1 h2 hb1 hb2 hcl hc
  go_enter Try.func71, Try.ntmps71
  go_wp2
  go_loopg [11, 3] 2 (fun gk v11 v3 w' => w' = W ∧ ((gk = 2 ∧ v11 = .int .i64 0 ∧ v3 = .int .i64 0) ∨ (gk = 1 ∧ v11 = .int .i64 1 ∧ v3 = .int .i64 (N1 : Int)) ∨ (gk = 0 ∧ v11 = .int .i64 2 ∧ v3 = .int .i64 ((N1 : Int) + (N2 : Int)))))
  case atStart => exact ⟨rfl, .inl ⟨rfl, rfl, rfl⟩⟩
  case round =>
    obtain ⟨rfl, ⟨rfl, rfl, rfl⟩ | ⟨rfl, rfl, rfl⟩ | ⟨rfl, rfl, rfl⟩⟩ := hrel
    · go_wp2
      go_roundg 1
      case measure => omega
      case rel => exact ⟨rfl, .inr (.inl ⟨rfl, rfl, by rw [w1]⟩)⟩
    · go_wp2
      go_roundg 0
      case measure => omega
      case rel => exact ⟨rfl, .inr (.inr ⟨rfl, rfl, by rw [w2]⟩)⟩
    · go_wp2_with fail
      refine HGR.out.mono ?_
      rintro e W3 ⟨A, c, rfl, ho3, hb3⟩
      have HO3 := aM ho3; have HB3 := aM hb3
      obtain ⟨WW, hWW⟩ : ∃ WW, WW = wr := ⟨_, rfl⟩
      rw [← hWW] at HR1 HR2 HO3 HB3 HN x0 x1
      subst hWW
      clear ho3 hb3 HGR w1 w2 n1 n2
      go_wp2_with fail
      go_loopg [27, 6] 2 (fun gk v27 v6 w' => ∃ (l : List Nat) (A : Option Addr) (c : Nat), v6 = .slice A (ints l).length c ∧ Aside0 (OwnI w' WW.heap.size (.slice A (ints l).length c) (ints l)) ∧ Aside0 (Below WW.heap.size WW w') ∧ ((gk = 2 ∧ v27 = .int .i64 0 ∧ l = []) ∨ (gk = 1 ∧ v27 = .int .i64 1 ∧ l = [] ++ l1) ∨ (gk = 0 ∧ v27 = .int .i64 2 ∧ l = l1 ++ l2)))
      case atStart => exact ⟨[], A, c, rfl, HO3, HB3, .inl ⟨rfl, rfl, rfl⟩⟩
      case round =>
        clear HO3 HB3
        obtain ⟨l, A, c, rfl, HO, HB, hcases⟩ := hrel
        have z0 : wr.cell? ⟨cb, 0, none⟩ = some (.slice A1 N1 c1) := (HB.out.cell HN.out.2.2.2.2).trans x0
        have z1 : wr.cell? ⟨cb, 1, none⟩ = some (.slice A2 N2 c2) := (HB.out.cell HN.out.2.2.2.2).trans x1
        rcases hcases with ⟨rfl, rfl, hl⟩ | ⟨rfl, rfl, hl⟩ | ⟨rfl, rfl, hl⟩
        · have HL := aM hl
          clear hl
          go_wp2_with ((with_reducible refine gate_builtin (b := .append) (xs := #[.tmp 31, .tmp 32]) rfl ?_); at_builtin; refine print_append_row (w0 := _) WW.heap.size rfl (.tmp 31) (.tmp 32) 34 3 .i64 8 rfl Try.underlying34 info3 (by decide) (.slice A (ints l).length c) (ints l) (ints l1) _ _ _ rfl rfl HO.out (HR1.out.below HB.out) (Below.refl _ _) HB.out.size (by have := HN.out; rw [HL.out, show (ints []).length = 0 from rfl]; omega) ?_; intro v5 W5 j1 j2 j3 j4; have hv5 := own_form j1; have HV5 := aM hv5; have HO5 := aM j1; have HG5 := aM j3; have HB5 := aM j4; clear j1 j2 j3 j4 hv5)
          obtain ⟨A5, c5, rfl, _⟩ := HV5.out
          have hll : ints l ++ ints l1 = ints (l ++ l1) := (ints_app _ _).symm
          have hO5 := HO5.out
          have hb5 : Below WW.heap.size WW W5 := HB.out.grown HG5.out HB.out.size (fun b hb => own_ge HO.out b hb)
          rw [hll] at hO5
          have HO6 := aM hO5; have HB6 := aM hb5; have HLL := aM hll
          clear hO5 hb5 hll
          go_roundg 1
          case measure => omega
          case rel => exact ⟨l ++ l1, A5, c5, by rw [HLL.out], HO6, HB6, .inr (.inl ⟨rfl, rfl, by rw [HL.out]⟩)⟩
        · have HL := aM hl
          clear hl
          go_wp2_with ((with_reducible refine gate_builtin (b := .append) (xs := #[.tmp 31, .tmp 32]) rfl ?_); at_builtin; refine print_append_row (w0 := _) WW.heap.size rfl (.tmp 31) (.tmp 32) 34 3 .i64 8 rfl Try.underlying34 info3 (by decide) (.slice A (ints l).length c) (ints l) (ints l2) _ _ _ rfl rfl HO.out (HR2.out.below HB.out) (Below.refl _ _) HB.out.size (by have := HN.out; rw [HL.out, List.nil_append]; omega) ?_; intro v5 W5 j1 j2 j3 j4; have hv5 := own_form j1; have HV5 := aM hv5; have HO5 := aM j1; have HG5 := aM j3; have HB5 := aM j4; clear j1 j2 j3 j4 hv5)
          obtain ⟨A5, c5, rfl, _⟩ := HV5.out
          have hll : ints l ++ ints l2 = ints (l ++ l2) := (ints_app _ _).symm
          have hO5 := HO5.out
          have hb5 : Below WW.heap.size WW W5 := HB.out.grown HG5.out HB.out.size (fun b hb => own_ge HO.out b hb)
          rw [hll] at hO5
          have HO6 := aM hO5; have HB6 := aM hb5; have HLL := aM hll
          clear hO5 hb5 hll
          go_roundg 0
          case measure => omega
          case rel => exact ⟨l ++ l2, A5, c5, by rw [HLL.out], HO6, HB6, .inr (.inr ⟨rfl, rfl, by rw [HL.out, List.nil_append]⟩)⟩
        · have hF : ∃ A' c', Ending.returned (.slice A (ints l).length c) = .returned (.slice A' (ints (l1 ++ l2)).length c') ∧ OwnI wr WW.heap.size (.slice A' (ints (l1 ++ l2)).length c') (ints (l1 ++ l2)) ∧ Below WW.heap.size WW wr := by
            rw [← hl]
            exact ⟨A, c, rfl, HO.out, HB.out⟩
          have HF := aM hF
          clear hF hl
          go_wp2
          go_ret
          exact HF.out
theorem keepE3 {W W' : World} {T : Nat → Prop} (hx : Ex W W' T) {a b d : Addr} {u v t : Value} (h : W.cell? a = some u ∧ W.cell? b = some v ∧ W.cell? d = some t) (h1 : ¬ T a.block) (h2 : ¬ T b.block) (h3 : ¬ T d.block) : W'.cell? a = some u ∧ W'.cell? b = some v ∧ W'.cell? d = some t :=
  ⟨(keepE hx ⟨h.1, h.2.1⟩ h1 h2).1, keepE hx ⟨h.2.1, h.2.2⟩ h2 h3⟩
theorem own_alloc {W : World} {base : Nat} {v : Value} {l : List Int} (h : OwnI W base v l) (o : Obj) : OwnI (W.alloc o) base v l := h.kept (Ex.of_below ((Below.refl _ _).alloc (Nat.le_refl _) o) (fun _ => False)).kept (fun _ _ h => h)
theorem keepA {W : World} (o : Obj) : Ex W (W.alloc o) (fun _ => False) := Ex.of_below ((Below.refl _ _).alloc (Nat.le_refl _) o) _
theorem f_alt (ps : List S85) (P : Nat) (V : Value) (s : ByteArray) (w0 : World) (g mb K k i : Nat) (X : Nat → Prop) (W : World) (txt : ByteArray) (A2 : Option Addr) (c2 : Nat) (hE : EndsC (mtOf ps s) P V s w0 g mb K) (hOk : (mtOf ps s).Ok P) (hkP : k < P) (hKP : K ≤ P) (hop : (rd_T85 ps k).f0 = 6) (hs : s.size ≤ 1048576) (hi : i ≤ s.size) (hS : MSt (mtOf ps s) P V s w0 g mb X W) (hX : ∀ b, X b → b < W.heap.size) (kids : List Int) (hkids : (rd_T85 ps k).f2 = kids) (hl2 : 2 ≤ kids.length) (hl3 : kids.length ≤ c2) (hC : (Kd.int .i64).C w0 A2 kids.length kids) (q0 : Nat) (hq0 : rd kids 0 = (q0 : Int)) (hq0K : q0 < K) (q1 : Nat) (hq1 : rd kids 1 = (q1 : Int)) (hq1K : q1 < K) :
    Calls Try.prog 50 #[.pointer (some ⟨g, 0, none⟩), .agg #[.int .i64 6, .string txt, .slice A2 kids.length c2], .int .i64 (i : Int)] W (FR (mtOf ps s) P V s w0 g mb k i X W) := by
  have hn : (mtOf ps s).n = s.size := rfl
  have hkd : (mtOf ps s).kd k = 6 := hop
  have hc0 : (mtOf ps s).c0 k = q0 := by show (rd (rd_T85 ps k).f2 0).toNat = q0; rw [hkids, hq0, Int.toNat_natCast]
  have hc1 : (mtOf ps s).c1 k = q1 := by show (rd (rd_T85 ps k).f2 1).toNat = q1; rw [hkids, hq1, Int.toNat_natCast]
  obtain ⟨ad, rfl, hz0⟩ := int_at hC hS.bel 0 (by omega)
  rw [Addr.add_zero'] at hz0
  have hz0 : W.cell? ad = some (.int .i64 (q0 : Int)) := by rw [← hq0]; exact hz0
  obtain ⟨ad', e', hz1⟩ := int_at hC hS.bel 1 (by omega)
  injection e' with e'
  subst e'
  rw [add_one'] at hz1
  have hz1 : W.cell? ⟨ad.block, ad.off + 1, none⟩ = some (.int .i64 (q1 : Int)) := by rw [← hq1]; exact hz1
  have hadb : ad.block < w0.heap.size := by
    obtain ⟨ad2, e2, hx2⟩ := Kd.at_int hC 0 (by omega) (by omega)
    injection e2 with e2
    subst e2
    have := World.block_lt_of_cell? w0 _ hx2
    rwa [show ((0 : Int).toNat) = 0 from rfl, show (ad.add 0).block = ad.block from by unfold Addr.add; split <;> rfl] at this
  obtain ⟨N2, hN2⟩ : ∃ N2, kids.length = N2 := ⟨_, rfl⟩
  rw [hN2] at hl2 hl3 hC ⊢
  have gk0 : (0 < N2) = True := eq_true (by omega)
  have gk0' : decide (0 < N2) = true := decide_eq_true (by omega)
  have gk0i : ((0 : Int) < (N2 : Int)) = True := eq_true (by omega)
  have gk0i' : decide ((0 : Int) < (N2 : Int)) = true := decide_eq_true (by omega)
  have gk1 : (1 < N2) = True := eq_true (by omega)
  have gk1' : decide (1 < N2) = true := decide_eq_true (by omega)
  have gk1i : ((1 : Int) < (N2 : Int)) = True := eq_true (by omega)
  have gk1i' : decide ((1 : Int) < (N2 : Int)) = true := decide_eq_true (by omega)
  obtain ⟨W1, e1, hbel, hsz, hb1, hb2⟩ := box_facts (op := 6) (txt := txt) (kv := .slice (some ad) N2 c2) hS.blk
  obtain ⟨⟨a0, a1, a2⟩, b0, b1, b2⟩ := bC3 hb2
  have hT := m_taken 6 txt s (.slice (some ad) N2 c2) g V _ i W1 hi hs hb1
  have hT2 : tkL 6 txt s i = [] := if_neg (fun h => absurd h.1 (by decide))
  rw [hT2, show isOne 6 = false from rfl] at hT
  have HT := aM hT
  have HV := aM (show W1.heap.size = W.heap.size + 1 ∧ g < W.heap.size ∧ mb < W.heap.size ∧ W1.heap[W.heap.size]? = some (.cells #[.int .i64 6, .string txt, .slice (some ad) N2 c2] 85 (0, 0)) ∧ ad.block < w0.heap.size ∧ w0.heap.size ≤ W.heap.size ∧ Below W.heap.size W W1 ∧ i ≤ s.size ∧ s.size ≤ 1048576 ∧ (mtOf ps s).n = s.size from ⟨hsz, hS.lt.1, hS.lt.2, hb2, hadb, hS.bel.size, hbel, hi, hs, hn⟩)
  have HS := aM hS
  have HX := aM hX
  have HZ0 := aM hz0
  have HZ1 := aM hz1
  have HE := aM hE
  have HN := aM (show ∀ e, (mtOf ps s).N k i e ↔ (mtOf ps s).N q0 i e ∨ (mtOf ps s).N q1 i e from fun e => by rw [Mt.N6 hOk hkP hkd, hc0, hc1])
  have HNL := aM (show ∀ e, (mtOf ps s).N k i e → e ≤ (mtOf ps s).n from fun e h => Mt.N_le hOk k hkP i e hi h)
  have HL := aM (show ∀ i, i ≤ (mtOf ps s).n → ∀ e, e ∈ (mtOf ps s).L q0 i ↔ (mtOf ps s).N q0 i e from fun i hi => Mt.mem_L hOk (by omega) hi)
  have HL1 := aM (show ∀ i, i ≤ (mtOf ps s).n → ∀ e, e ∈ (mtOf ps s).L q1 i ↔ (mtOf ps s).N q1 i e from fun i hi => Mt.mem_L hOk (by omega) hi)
  have HQK := aM (And.intro hq0K hq1K)
  clear hE hOk hkP hKP hop hs hi hS hX hl2 hl3 hC hq0 hq0K hkids hn hkd hc0 hz0 hadb hN2 hbel hsz hb1 hb2 hT hT2 hz1 hq1 hq1K hc1
  go_enter Try.func50, Try.ntmps50
  go_wp2_with fail
  refine HT.out.mono ?_
  rintro e W2 ⟨A, c, rfl, ho2, hbel2⟩
  obtain ⟨v1, v2, v3, v4, v5, v6, v7, v8, v9, v10⟩ := HV.out
  have hB2 : Below W.heap.size W W2 := v7.trans (hbel2.mono (by omega))
  have hS2 := HS.out.still hB2
  have hbx : W2.heap[W.heap.size]? = some (.cells #[.int .i64 6, .string txt, .slice (some ad) N2 c2] 85 (0, 0)) := (hbel2.block W.heap.size (by omega)).trans v4
  clear a0 a1 a2 b0 b1 b2 e1
  obtain ⟨⟨h0, h1, h2⟩, f0, f1, f2⟩ := bC3 hS2.blk
  obtain ⟨⟨x0, x1, x2⟩, y0, y1, y2⟩ := bC3 hbx
  have hz0 : W2.cell? ad = some (.int .i64 (q0 : Int)) := (hB2.cell (by omega)).trans HZ0.out
  have hz1 : W2.cell? ⟨ad.block, ad.off + 1, none⟩ = some (.int .i64 (q1 : Int)) := (hB2.cell (by show ad.block < _; omega)).trans HZ1.out
  have hmbge := hS2.hmb
  have hWl := blk_lt hbx
  have hS3 : MSt (mtOf ps s) P V s w0 g mb X W2.drew := hS2.still (lD (Below.refl _ _))
  have hcall := HE.out q0 i X W2.drew HQK.out.1 (by omega) hS3 (fun b hb => by have := HX.out b hb; show b < W2.heap.size; omega)
  have HCALL := aM hcall
  have HK1 := aM (show W.heap.size ≠ mb ∧ ad.block ≠ mb ∧ W.heap.size < W2.heap.size ∧ ad.block < W.heap.size from ⟨by omega, by omega, hWl, by omega⟩)
  have HB2 := aM hB2
  have HLE := aM (show (ints ((mtOf ps s).L q0 i)).length ≤ 2000000 ∧ (ints ((mtOf ps s).L q1 i)).length ≤ 2000000 from ⟨by rw [ints_length]; have := (mtOf ps s).L_len q0 i; omega, by rw [ints_length]; have := (mtOf ps s).L_len q1 i; omega⟩)
  clear hcall hS2 hbx v1 v2 v3 v4 v5 v6 v7 v8 v9 v10 ho2 hbel2 hmbge hWl hS3 hB2
  go_wp2_with fail
  go_region_held3 (fun w' => w'.cell? ⟨W.heap.size, 2, none⟩ = some (.slice (some ad) N2 c2) ∧ w'.cell? ad = some (.int .i64 (q0 : Int)) ∧ w'.cell? ⟨ad.block, ad.off + 1, none⟩ = some (.int .i64 (q1 : Int)))
    (first | exact ⟨x2, hz0, hz1⟩ | exact (keepE3 (W := W2.drew) hx3 ⟨x2, hz0, hz1⟩ HK1.out.1 HK1.out.2.1 HK1.out.2.1) | exact (keepE3 hx4 (keepE3 (W := W2.drew) hx3 ⟨x2, hz0, hz1⟩ HK1.out.1 HK1.out.2.1 HK1.out.2.1) HK1.out.1 HK1.out.2.1 HK1.out.2.1) | exact (keepE3 (keepA _) (keepE3 hx4 (keepE3 (W := W2.drew) hx3 ⟨x2, hz0, hz1⟩ HK1.out.1 HK1.out.2.1 HK1.out.2.1) HK1.out.1 HK1.out.2.1 HK1.out.2.1) (fun h => h) (fun h => h) (fun h => h)) | exact (keepE3 (T := fun _ => False) (Ex.of_below hb6 _) (keepE3 (keepA _) (keepE3 hx4 (keepE3 (W := W2.drew) hx3 ⟨x2, hz0, hz1⟩ HK1.out.1 HK1.out.2.1 HK1.out.2.1) HK1.out.1 HK1.out.2.1 HK1.out.2.1) (fun h => h) (fun h => h) (fun h => h)) (fun h => h) (fun h => h) (fun h => h)))
    (first | (go_at_call 31; refine (HE.out q1 i X W3 HQK.out.2 (by have := HV.out; omega) hs3 (fun b hb => by have := HX.out b hb; have hq3 : W2.heap.size ≤ W3.heap.size := hx3.size; have := HK1.out.2.2.1; omega)).mono ?_; rintro e W4 ⟨A4, c4, rfl, ho4, hn4, hs4, hx4⟩) | (go_at_call 31; refine HCALL.out.mono ?_; rintro e W3 ⟨A3, c3, rfl, ho3, hn3, hs3, hx3⟩) | (go_at_call 71; refine (m_concat ((mtOf ps s).L q0 i) ((mtOf ps s).L q1 i) _ _ A3 A4 c3 c4 W4.heap.size w0.heap.size w0.heap.size _ rfl rfl HLE.out.1 HLE.out.2 (MapKept.heap_alloc W4 _).1 (own_alloc (ho3.kept hx4.kept (fun b hb e => hn3 b hb (.inr (.inl e)))) _) (own_alloc ho4 _)).mono ?_; rintro e W6 ⟨A6, c6, rfl, ho6, hb6⟩))
  have hF : FR (mtOf ps s) P V s w0 g mb k i X W (.returned (.slice A6 (ints ((mtOf ps s).L q0 i ++ (mtOf ps s).L q1 i)).length c6)) W6 := by
    have hq3 : W2.heap.size ≤ W3.heap.size := hx3.size
    have hq4 : W3.heap.size ≤ W4.heap.size := hx4.size
    have hB2 := HB2.out
    have hq2 := hB2.size
    have hmg := HV.out
    have hq6 : W.heap.size ≤ W4.heap.size := Nat.le_trans hq2 (Nat.le_trans hq3 hq4)
    have hb5 : Below W4.heap.size W4 W6 := ((Below.refl W4.heap.size W4).alloc (Nat.le_refl _) _).trans (hb6.mono ((Below.refl W4.heap.size W4).alloc (Nat.le_refl _) _).size)
    have ho7 := ho6.lower (base' := W4.heap.size) ((Below.refl W4.heap.size W4).alloc (Nat.le_refl _) _).size
    refine ⟨A6, c6, _, rfl, ho7.lower hq6, ?_, fun x => ?_, hs4.step (Ex.of_below hb5 (fun _ => False)) (fun _ h _ => h.elim) (fun b hb => hb.imp id (fun e => own_ge ho7 b e)), ?_⟩
    · have h5 := (mtOf ps s).L_len q0 i
      have h6 := (mtOf ps s).L_len q1 i
      have h7 : (mtOf ps s).n + 1 ≤ ((mtOf ps s).n + 1) * ((mtOf ps s).n + 1) := Nat.le_mul_of_pos_right _ (by omega)
      rw [ints_length, List.length_append]
      omega
    · rw [mem_ints]
      constructor
      · rintro ⟨j, rfl, hj⟩
        have h7 : (mtOf ps s).N k i j := (HN.out j).2 ((List.mem_append.1 hj).imp (HL.out i (by omega) j).1 (HL1.out i (by omega) j).1)
        exact ⟨j, rfl, HNL.out j h7, h7⟩
      · rintro ⟨j, rfl, _, h7⟩
        exact ⟨j, rfl, List.mem_append.2 (((HN.out j).1 h7).imp (HL.out i (by omega) j).2 (HL1.out i (by omega) j).2)⟩
    · have e1 : Ex W W2.drew (· = mb) := Ex.of_below (lD hB2) _
      have e2 : Ex W W3 (· = mb) := e1.trans hx3 (fun b hb _ => hb)
      have e3 : Ex W W4 (· = mb) := e2.trans hx4 (fun b hb _ => hb)
      exact e3.trans (Ex.of_below hb5 (fun _ => False)) (fun b hb _ => hb.elim)
  have HF := aM hF
  clear hF hx3 hx4 hb6 ho3 ho4 ho6 hs3 hs4 hn3 hn4
  go_wp2_with fail
  go_ret
  exact HF.out
/-- What PatternOk tells of the pieces. -/
structure PsOk (ps : List S85) : Prop where
  len : ps.length ≤ 60
  op : ∀ k : Nat, k < ps.length → 1 ≤ (rd_T85 ps k).f0 ∧ (rd_T85 ps k).f0 ≤ 12
  two : ∀ k : Nat, k < ps.length → (rd_T85 ps k).f0 = 5 ∨ (rd_T85 ps k).f0 = 6 → 2 ≤ (rd_T85 ps k).f2.length ∧ (0 ≤ rd (rd_T85 ps k).f2 0 ∧ rd (rd_T85 ps k).f2 0 < k) ∧ (0 ≤ rd (rd_T85 ps k).f2 1 ∧ rd (rd_T85 ps k).f2 1 < k)
  one : ∀ k : Nat, k < ps.length → (rd_T85 ps k).f0 = 7 ∨ (rd_T85 ps k).f0 = 8 ∨ (rd_T85 ps k).f0 = 9 → 1 ≤ (rd_T85 ps k).f2.length ∧ (0 ≤ rd (rd_T85 ps k).f2 0 ∧ rd (rd_T85 ps k).f2 0 < k)
theorem mt_ok {ps : List S85} (h : PsOk ps) (s : ByteArray) : (mtOf ps s).Ok ps.length where
  two k hk c := by
    obtain ⟨_, h1, h2⟩ := h.two k hk c
    refine ⟨?_, ?_⟩
    · show (rd (rd_T85 ps k).f2 0).toNat < k
      omega
    · show (rd (rd_T85 ps k).f2 1).toNat < k
      omega
  three k hk c := by
    obtain ⟨_, h1⟩ := h.one k hk c
    show (rd (rd_T85 ps k).f2 0).toNat < k
    omega
  one k i e hi h1 := by
    have hn : (mtOf ps s).n = s.size := rfl
    have h2 : (if (rd_T85 ps k).f0 = 10 then i = 0 ∧ e = i else if (rd_T85 ps k).f0 = 11 then i = s.size ∧ e = i else if (rd_T85 ps k).f0 = 12 then e = i else e ∈ tkL (rd_T85 ps k).f0 (rd_T85 ps k).f1 s i) := h1
    split at h2
    · omega
    · split at h2
      · omega
      · split at h2
        · omega
        · unfold tkL at h2
          split at h2
          · rename_i h3
            rw [List.mem_singleton] at h2
            omega
          · cases h2
theorem m_found {ps : List S85} (h : PsOk ps) (V : Value) (s : ByteArray) (w0 : World) (g mb k : Nat) (hk : k < ps.length) (hs : s.size ≤ 1048576) (hE : EndsC (mtOf ps s) ps.length V s w0 g mb k) (A2 : Option Addr) (c2 : Nat) (hl3 : (rd_T85 ps k).f2.length ≤ c2) (hC : (Kd.int .i64).C w0 A2 (rd_T85 ps k).f2.length (rd_T85 ps k).f2) :
    FoundC (mtOf ps s) ps.length V s w0 g mb k (pv85 ps k A2 c2) := by
  intro i X W hi hS hX
  have hi' : i ≤ s.size := hi
  obtain ⟨h1, h2⟩ := h.op k hk
  have hOk := mt_ok h s
  by_cases c1 : isOne (rd_T85 ps k).f0 = true
  · exact f_one ps ps.length V s w0 g mb k i X W _ _ _ rfl rfl hs hi' hS c1
  rw [isOne_iff] at c1
  by_cases c5 : (rd_T85 ps k).f0 = 5
  · obtain ⟨t1, t2, t3⟩ := h.two k hk (.inl c5)
    have := f_cat ps ps.length V s w0 g mb k k i X W (rd_T85 ps k).f1 A2 c2 hE hOk hk (by omega) c5 hs hi' hS hX _ rfl t1 hl3 hC _ (Int.toNat_of_nonneg t2.1).symm (by omega) _ (Int.toNat_of_nonneg t3.1).symm (by omega)
    unfold pv85
    rw [c5]
    exact this
  by_cases c6 : (rd_T85 ps k).f0 = 6
  · obtain ⟨t1, t2, t3⟩ := h.two k hk (.inr c6)
    have := f_alt ps ps.length V s w0 g mb k k i X W (rd_T85 ps k).f1 A2 c2 hE hOk hk (by omega) c6 hs hi' hS hX _ rfl t1 hl3 hC _ (Int.toNat_of_nonneg t2.1).symm (by omega) _ (Int.toNat_of_nonneg t3.1).symm (by omega)
    unfold pv85
    rw [c6]
    exact this
  by_cases c7 : (rd_T85 ps k).f0 = 7
  · obtain ⟨t1, t2⟩ := h.one k hk (.inl c7)
    have := f_star ps ps.length V s w0 g mb k k i X W (rd_T85 ps k).f1 A2 c2 hE hOk hk (by omega) c7 hs hi' hS hX _ rfl t1 hl3 hC _ (Int.toNat_of_nonneg t2.1).symm (by omega)
    unfold pv85
    rw [c7]
    exact this
  by_cases c8 : (rd_T85 ps k).f0 = 8
  · obtain ⟨t1, t2⟩ := h.one k hk (.inr (.inl c8))
    have := f_plus ps ps.length V s w0 g mb k k i X W (rd_T85 ps k).f1 A2 c2 hE hOk hk (by omega) c8 hs hi' hS hX _ rfl t1 hl3 hC _ (Int.toNat_of_nonneg t2.1).symm (by omega)
    unfold pv85
    rw [c8]
    exact this
  by_cases c9 : (rd_T85 ps k).f0 = 9
  · obtain ⟨t1, t2⟩ := h.one k hk (.inr (.inr c9))
    have := f_opt ps ps.length V s w0 g mb k k i X W (rd_T85 ps k).f1 A2 c2 hE hOk hk (by omega) c9 hs hi' hS hX _ rfl t1 hl3 hC _ (Int.toNat_of_nonneg t2.1).symm (by omega)
    unfold pv85
    rw [c9]
    exact this
  by_cases c10 : (rd_T85 ps k).f0 = 10
  · unfold pv85
    rw [c10]
    rcases Nat.eq_zero_or_pos i with q | q
    · exact f_beg1 ps ps.length V s w0 g mb k i X W _ _ c10 hs hi' hS q
    · exact f_beg0 ps ps.length V s w0 g mb k i X W _ _ c10 hs hi' hS q
  by_cases c11 : (rd_T85 ps k).f0 = 11
  · unfold pv85
    rw [c11]
    rcases Nat.lt_or_ge i s.size with q | q
    · exact f_end0 ps ps.length V s w0 g mb k i X W _ _ c11 hs hi' hS q
    · exact f_end1 ps ps.length V s w0 g mb k i X W _ _ c11 hs hi' hS (by omega)
  have c12 : (rd_T85 ps k).f0 = 12 := by omega
  unfold pv85
  rw [c12]
  exact f_none ps ps.length V s w0 g mb k i X W _ _ c12 hs hi' hS
theorem m_all {ps : List S85} (h : PsOk ps) (A0 : Option Addr) (c0 : Nat) (s : ByteArray) (w0 : World) (g mb : Nat) (hs : s.size ≤ 1048576) (hc0 : ps.length ≤ c0) (hR : Kd.C k85 w0 A0 ps.length ps) : ∀ K, K ≤ ps.length → EndsC (mtOf ps s) ps.length (.slice A0 ps.length c0) s w0 g mb K
  | 0, _ => fun k i X W hk => absurd hk (by omega)
  | K + 1, hK => fun k i X W hk hi hS hX => by
    have hE := m_all h A0 c0 s w0 g mb hs hc0 hR K (by omega)
    by_cases c : k < K
    · exact hE k i X W c hi hS hX
    · obtain rfl : k = K := by omega
      exact m_ends (mtOf ps s) ps A0 c0 s w0 g mb k rfl hs h.len hc0 hR (by omega) (fun A2 c2 hl hC => m_found h _ s w0 g mb k (by omega) hs hE A2 c2 hl hC) i X W hi hS hX
/-- A matcher newly made. -/
theorem mst_new (m : Mt) (P : Nat) (V : Value) (s : ByteArray) (Wb : World) : MSt m P V s Wb (Wb.heap.size + 1) Wb.heap.size (fun _ => False) ((Wb.alloc (.map #[] 0)).alloc (.cells #[V, .string s, .map (some Wb.heap.size)] 64)) := by
  have hb1 : Below Wb.heap.size Wb (Wb.alloc (.map #[] 0)) := (Below.refl _ _).alloc (Nat.le_refl _) _
  have hb2 : Below Wb.heap.size Wb ((Wb.alloc (.map #[] 0)).alloc (.cells #[V, .string s, .map (some Wb.heap.size)] 64)) := hb1.alloc hb1.size _
  have hsz : (Wb.alloc (.map #[] 0)).heap.size = Wb.heap.size + 1 := Array.size_push ..
  have hg := (MapKept.heap_alloc (Wb.alloc (.map #[] 0)) (.cells #[V, .string s, .map (some Wb.heap.size)] 64)).1
  rw [hsz] at hg
  refine ⟨hg, by omega, by omega, Nat.le_refl _, hb2, 0, .map [], (World.ownsMap_made Wb Try.prog 3 Rd).alloc _, fun kl hkl => ?_⟩
  rw [Maps.has_eq] at hkl
  cases hkl
theorem m_EndsAt (ps : List S85) (h : PsOk ps) (A0 : Option Addr) (c0 : Nat) (s : ByteArray) (k i K : Nat) (w : World) (hk : k < ps.length) (hi : i ≤ s.size) (hs : s.size ≤ 1048576) (hc0 : ps.length ≤ c0) (hR : Kd.C k85 w A0 ps.length ps) (hP : impl_PatternOk.f K ps = some true) :
    Calls Try.prog 13 #[.agg #[.slice A0 ps.length c0], .int .i64 (k : Int), .string s, .int .i64 (i : Int)] w fun e w' => ∃ v, e = .returned v ∧ OwnI w' w.heap.size v (ints ((mtOf ps s).L k i)) ∧ Below w.heap.size w w' := by
  have hw1 : impl_within.f (k : Int) 0 ((ps.length : Int) - 1) = some true := by
    unfold impl_within.f; rw [if_pos (by omega), decide_eq_true (by omega)]
  have hw2 : impl_within.f (i : Int) 0 (s.size : Int) = some true := by
    unfold impl_within.f; rw [if_pos (by omega), decide_eq_true (by omega)]
  have HW1 := aM hw1; have HW2 := aM hw2
  have HR := aM hR; have HP := aM hP; have HC := aM hc0; have HH := aM h
  have HV := aM (show k < ps.length ∧ i ≤ s.size ∧ s.size ≤ 1048576 from ⟨hk, hi, hs⟩)
  have wn : wrap64 ((ps.length : Int) - 1) = (ps.length : Int) - 1 := IntWalk.wrap64_in _ (by have := h.len; omega)
  obtain ⟨W1, hW1⟩ : ∃ W1, w.alloc (.cells #[.slice A0 ps.length c0] 30) = W1 := ⟨_, rfl⟩
  have hB1 : Below w.heap.size w W1 := by rw [← hW1]; exact (Below.refl _ _).alloc (Nat.le_refl _) _
  have hx1 : W1.heap[w.heap.size]? = some (.cells #[.slice A0 ps.length c0] 30 (0, 0)) := by rw [← hW1]; exact (MapKept.heap_alloc w _).1
  have HB1 := aM hB1; have HX1 := aM hx1
  have HR1 := aM (Kd.C_below hR hB1)
  have y0 : W1.cell? ⟨w.heap.size, 0, none⟩ = some (.slice A0 ps.length c0) := (bC hx1 0).trans rfl
  clear hx1 hB1
  clear hw1 hw2 hR hP hc0 h hk hi hs
  have hmm := @run_makeMap Try.prog
  go_enter Try.func13, Try.ntmps13
  go_wp2_with fail
  refine (impl_PatternOk.calls K A0 c0 ps true _ HR1.out HC.out HP.out).mono ?_
  rintro e W2 ⟨rfl, hb2⟩
  have hy : W2.heap[w.heap.size]? = some (.cells #[.slice A0 ps.length c0] 30 (0, 0)) := (hb2.block _ (blk_lt HX1.out)).trans HX1.out
  have y1 : W2.cell? ⟨w.heap.size, 0, none⟩ = some (.slice A0 ps.length c0) := (bC hy 0).trans rfl
  have HB2 := aM hb2; have HY := aM hy
  clear hb2 hy y0
  go_wp2_with fail
  refine (impl_within.calls (k : Int) 0 ((ps.length : Int) - 1) true _ HW1.out).mono ?_
  rintro e w' ⟨rfl, ⟨nd, rfl⟩⟩
  go_wp2_with fail
  refine (impl_within.calls (i : Int) 0 (s.size : Int) true _ HW2.out).mono ?_
  rintro e w' ⟨rfl, ⟨nd2, rfl⟩⟩
  obtain ⟨W3, hW3⟩ : ∃ W3, (W2.drewN nd).drewN nd2 = W3 := ⟨_, rfl⟩
  have hB3 : Below w.heap.size w W3 := by rw [← hW3]; exact lN (lN (HB1.out.trans (HB2.out.mono HB1.out.size)) _) _
  have y2 : W3.cell? ⟨w.heap.size, 0, none⟩ = some (.slice A0 ps.length c0) := by rw [← hW3]; exact y1
  have HB3 := aM hB3
  obtain ⟨W4, hW4⟩ : ∃ W4, (W3.alloc (.map #[] 0)).alloc (.cells #[.slice A0 ps.length c0, .string s, .map (some W3.heap.size)] 64) = W4 := ⟨_, rfl⟩
  have hS4 := mst_new (mtOf ps s) ps.length (.slice A0 ps.length c0) s W3
  rw [hW4] at hS4
  have hsz : (W3.alloc (.map #[] 0)).heap.size = W3.heap.size + 1 := Array.size_push ..
  have hE := m_all HH.out A0 c0 s W3 (W3.heap.size + 1) W3.heap.size HV.out.2.2 HC.out (Kd.C_below HR1.out ((HB2.out).trans (by rw [← hW3]; exact lN (lN (Below.refl _ _) _) _))) ps.length (Nat.le_refl _) k i (fun _ => False) W4 HV.out.1 HV.out.2.1 hS4 (fun _ h => h.elim)
  have hB4 : Below w.heap.size w W4 := by
    rw [← hW4]
    exact (hB3.alloc hB3.size _).alloc (hB3.alloc hB3.size _).size _
  have hlen : (([] : List Int)).length + (ints ((mtOf ps s).L k i)).length < 17592186044416 := by
    rw [ints_length]; have := (mtOf ps s).L_len k i; have h9 : (mtOf ps s).n = s.size := rfl; have := HV.out; simp only [List.length_nil]; clear hsz wn hB3 hS4 hE; omega
  have hci : impl_copyInts.f (ints ((mtOf ps s).L k i)) = some (ints ((mtOf ps s).L k i)) := by
    unfold impl_copyInts.f
    rw [Option.bind_some, if_pos hlen, List.nil_append]
  have HCI := aM hci; have HB4 := aM hB4
  clear hlen hci hB4
  have HE := aM hE; have HS4 := aM hS4
  clear y1 hB3 hE hS4
  go_wp2_with fail
  refine HE.out.mono ?_
  rintro e W5 ⟨A5, c5, rfl, ho5, hn5, hs5, hx5⟩
  go_wp2_with fail
  refine (impl_copyInts.calls A5 c5 _ _ W5 (own_C ho5) (own_cap ho5) HCI.out).mono ?_
  rintro e W6 ⟨v6, rfl, hr6, hb6⟩
  have hF : ∃ v, Ending.returned v6 = .returned v ∧ OwnI W6 w.heap.size v (ints ((mtOf ps s).L k i)) ∧ Below w.heap.size w W6 := by
    have h45 : Below w.heap.size W4 W5 := hx5.below HB4.out.size (fun b hb => by rw [hb]; exact HB3.out.size)
    exact ⟨v6, rfl, (own_of_R hr6).lower (Nat.le_trans HB4.out.size hx5.size), (HB4.out.trans h45).trans (hb6.mono (Nat.le_trans HB4.out.size hx5.size))⟩
  have HF := aM hF
  clear hF ho5 hn5 hs5 hx5 hr6 hb6
  go_wp2_with fail
  go_ret
  exact HF.out
/-- A row of truth values, of the call's own, with whatever capacity. -/
abbrev OwnV (W : World) (base : Nat) (v : Value) (l : List Bool) : Prop := W.ownsRow base 4 1 v l.length (encs Value.bool l)
theorem OwnV.kept {W W2 : World} {base : Nat} {v : Value} {l : List Bool} {S : Nat → Prop} (h : OwnV W base v l) (hk : Ex W W2 S) (hn : ∀ k, v.ownBlock = some k → ¬ S k) : OwnV W2 base v l :=
  own_move h (fun k hk2 => hk.blk k (own_lt h k hk2) (hn k hk2))
theorem OwnV.lower {W : World} {base base' : Nat} {v : Value} {l : List Bool} (h : OwnV W base v l) (hb : base' ≤ base) : OwnV W base' v l := by
  obtain ⟨h1, h2⟩ := h
  refine ⟨h1, ?_⟩
  rcases h2 with h2 | ⟨g, cap, cur, rfl, hg, r⟩
  · exact .inl h2
  · exact .inr ⟨g, cap, cur, rfl, by omega, r⟩
theorem V_len (m : Mt) (k i : Nat) : (m.V k i).length = m.n + 1 := by unfold Mt.V; simp
/-- Where the memo's rows lie. -/
structure Lay where
  N0 : Nat
  g : Nat
  db : Nat
  eb : Nat
  cd : Nat
  ce : Nat
  D : Nat → Nat
  E : Nat → Nat
structure Lay.Ok (y : Lay) (P base : Nat) : Prop where
  g0 : base ≤ y.g ∧ y.g < y.N0
  db0 : base ≤ y.db ∧ y.db < y.N0 ∧ y.db ≠ y.g
  eb0 : base ≤ y.eb ∧ y.eb < y.N0 ∧ y.eb ≠ y.g ∧ y.eb ≠ y.db
  d0 : ∀ k, k < P → base ≤ y.D k ∧ y.D k < y.N0 ∧ y.D k ≠ y.g ∧ y.D k ≠ y.db ∧ y.D k ≠ y.eb
  e0 : ∀ k, k < P → base ≤ y.E k ∧ y.E k < y.N0 ∧ y.E k ≠ y.g ∧ y.E k ≠ y.db ∧ y.E k ≠ y.eb
  di : ∀ k k', k < P → k' < P → y.D k = y.D k' → k = k'
  ei : ∀ k k', k < P → k' < P → y.E k = y.E k' → k = k'
  de : ∀ k k', k < P → k' < P → y.D k ≠ y.E k'
/-- A memo's value that is told. -/
def Tv (m : Mt) (y : Lay) (X : Nat → Prop) (k i : Nat) (v : Value) (W : World) : Prop := ∃ A c, v = .slice A (m.V k i).length c ∧ NB v X ∧ OwnV W y.N0 v (m.V k i)
/-- The memo, its told rows in none of X. -/
structure SSt (m : Mt) (P : Nat) (V : Value) (s : ByteArray) (w0 : World) (y : Lay) (X : Nat → Prop) (W : World) : Prop where
  lay : y.Ok P w0.heap.size
  n0 : y.N0 ≤ W.heap.size
  blk : W.heap[y.g]? = some (.cells #[V, .string s, .slice (some ⟨y.db, 0, none⟩) P y.cd, .slice (some ⟨y.eb, 0, none⟩) P y.ce] 89 (0, 0))
  bel : Below w0.heap.size w0 W
  dcell : ∀ k, k < P → W.cell? ⟨y.db, k, none⟩ = some (.slice (some ⟨y.D k, 0, none⟩) (m.n + 1) (m.n + 1))
  ecell : ∀ k, k < P → W.cell? ⟨y.eb, k, none⟩ = some (.slice (some ⟨y.E k, 0, none⟩) (m.n + 1) (m.n + 1))
  told : ∃ dn : Nat → Nat → Bool, ∀ k i, k < P → i ≤ m.n → (W.cell? ⟨y.D k, i, none⟩ = some (.bool (dn k i)) ∧ W.frozen? ⟨y.D k, i, none⟩ = false) ∧ ∃ v, W.cell? ⟨y.E k, i, none⟩ = some v ∧ W.frozen? ⟨y.E k, i, none⟩ = false ∧ (dn k i = true → Tv m y X k i v W)
section
variable {m : Mt} {P : Nat} {V : Value} {s : ByteArray} {w0 W : World} {y : Lay} {X : Nat → Prop}
/-- Blocks from N0 on, that the told rows lie not in, may turn. -/
theorem SSt.step (h : SSt m P V s w0 y X W) {W2 : World} {S X' : Nat → Prop} (hk : Ex W W2 S) (hS : ∀ b, S b → b < W.heap.size → X b ∧ y.N0 ≤ b) (hX : ∀ b, X' b → X b ∨ W.heap.size ≤ b) : SSt m P V s w0 y X' W2 := by
  have hb : ∀ b, b < y.N0 → W2.heap[b]? = W.heap[b]? := fun b hb => hk.blk b (by have := h.n0; omega) (fun hs => by have := (hS b hs (by have := h.n0; omega)).2; omega)
  have hc : ∀ b i, b < y.N0 → W2.cell? ⟨b, i, none⟩ = W.cell? ⟨b, i, none⟩ := fun b i hl => World.cell?_of_block (w := W) (hb b hl)
  have hf : ∀ b i, b < y.N0 → W2.frozen? ⟨b, i, none⟩ = W.frozen? ⟨b, i, none⟩ := fun b i hl => World.frozen?_of_block (w := W) (hb b hl)
  obtain ⟨dn, ht⟩ := h.told
  refine ⟨h.lay, by have := hk.size; have := h.n0; omega, (hb _ h.lay.g0.2).trans h.blk, ?_, fun k hk2 => (hc _ _ h.lay.db0.2.1).trans (h.dcell k hk2), fun k hk2 => (hc _ _ h.lay.eb0.2.1).trans (h.ecell k hk2), dn, fun k i hk2 hi => ?_⟩
  · refine h.bel.trans ((hk.mono (S' := fun b => S b ∧ w0.heap.size ≤ b) (fun b hb hl => ⟨hb, ?_⟩)).below (by have := h.bel.size; omega) (fun b hb => hb.2))
    have := (hS b hb hl).2
    have := h.lay.g0
    omega
  · obtain ⟨⟨t1, t2⟩, v, t3, t4, t5⟩ := ht k i hk2 hi
    refine ⟨⟨(hc _ _ (h.lay.d0 k hk2).2.1).trans t1, (hf _ _ (h.lay.d0 k hk2).2.1).trans t2⟩, v, (hc _ _ (h.lay.e0 k hk2).2.1).trans t3, (hf _ _ (h.lay.e0 k hk2).2.1).trans t4, fun hd => ?_⟩
    obtain ⟨A, c, e, n1, o1⟩ := t5 hd
    refine ⟨A, c, e, fun b hb hx => ?_, o1.kept hk (fun b hb hs => n1 b hb (hS b hs (own_lt o1 b hb)).1)⟩
    rcases hX b hx with e2 | e2
    · exact n1 b hb e2
    · have := own_lt o1 b hb; omega
theorem SSt.still (h : SSt m P V s w0 y X W) {W2 : World} (hk : Below W.heap.size W W2) : SSt m P V s w0 y X W2 := h.step (Ex.of_below hk (fun _ => False)) (fun _ h' => h'.elim) (fun _ h' => .inl h')
/-- The contract of at, of the pieces below K. -/
def AtC (m : Mt) (P : Nat) (V : Value) (s : ByteArray) (w0 : World) (y : Lay) (K : Nat) : Prop :=
  ∀ (k i : Nat) (X : Nat → Prop) (W : World), k < K → i ≤ m.n → SSt m P V s w0 y X W → (∀ b, X b → b < W.heap.size) →
    Calls Try.prog 28 #[.pointer (some ⟨y.g, 0, none⟩), .int .i64 (k : Int), .int .i64 (i : Int)] W fun e W' =>
      ∃ A c, e = .returned (.slice A (m.V k i).length c) ∧ OwnV W' y.N0 (.slice A (m.V k i).length c) (m.V k i) ∧ NB (.slice A (m.V k i).length c) X ∧ SSt m P V s w0 y X W' ∧ Ex W W' (fun b => b < y.N0)
end
theorem ownV_ge {W : World} {base : Nat} {v : Value} {l : List Bool} (h : OwnV W base v l) : ∀ b, v.ownBlock = some b → base ≤ b := by
  intro b hb
  rcases h.2 with ⟨rfl, _⟩ | ⟨g, cap, cur, rfl, hg, _⟩
  · simp [Value.ownBlock] at hb
  · have : g = b := by simpa [Value.ownBlock] using hb
    omega
/-- Piece k at i is told: its done cell and its ends cell are written. -/
theorem SSt.put {m : Mt} {P : Nat} {V : Value} {s : ByteArray} {w0 W : World} {y : Lay} {X : Nat → Prop} {k i cc : Nat} {A : Option Addr} (h : SSt m P V s w0 y X W) (hk : k < P) (hi : i ≤ m.n)
    (ho : OwnV W y.N0 (.slice A (m.V k i).length cc) (m.V k i)) (hn : NB (.slice A (m.V k i).length cc) X) :
    SSt m P V s w0 y X ((W.setCell ⟨y.D k, i, none⟩ (.bool true)).setCell ⟨y.E k, i, none⟩ (.slice A (m.V k i).length cc)) ∧ Ex W ((W.setCell ⟨y.D k, i, none⟩ (.bool true)).setCell ⟨y.E k, i, none⟩ (.slice A (m.V k i).length cc)) (fun b => b < y.N0) := by
  obtain ⟨dn, ht⟩ := h.told
  have hx : Ex W ((W.setCell ⟨y.D k, i, none⟩ (.bool true)).setCell ⟨y.E k, i, none⟩ (.slice A (m.V k i).length cc)) (fun b => b = y.D k ∨ b = y.E k) :=
    ⟨((Below.refl 0 W).setCell (Nat.zero_le _) _).setCell (Nat.zero_le _) _, fun b hb hn => (Below.heap_setCell _ _ _ _ (fun e => hn (.inr e))).trans (Below.heap_setCell _ _ _ _ (fun e => hn (.inl e)))⟩
  have hd := h.lay.d0 k hk
  have he := h.lay.e0 k hk
  have hx2 : Ex W ((W.setCell ⟨y.D k, i, none⟩ (.bool true)).setCell ⟨y.E k, i, none⟩ (.slice A (m.V k i).length cc)) (fun b => b < y.N0) := hx.mono (fun b hb _ => by rcases hb with e | e <;> omega)
  have hoth : ∀ b j, b ≠ y.D k → b ≠ y.E k → ((W.setCell ⟨y.D k, i, none⟩ (.bool true)).setCell ⟨y.E k, i, none⟩ (.slice A (m.V k i).length cc)).cell? ⟨b, j, none⟩ = W.cell? ⟨b, j, none⟩ := fun b j h1 h2 =>
    (World.cell?_setCell_far _ _ _ _ (Ne.symm h2)).trans (World.cell?_setCell_far _ _ _ _ (Ne.symm h1))
  refine ⟨⟨h.lay, by have := hx.size; have := h.n0; omega, ?_, h.bel.trans (hx.below h.bel.size (fun b hb => by rcases hb with e | e <;> omega)), fun k' hk' => (hoth _ _ (Ne.symm hd.2.2.2.1) (Ne.symm he.2.2.2.1)).trans (h.dcell k' hk'), fun k' hk' => (hoth _ _ (Ne.symm hd.2.2.2.2) (Ne.symm he.2.2.2.2)).trans (h.ecell k' hk'), fun k' i' => if k' = k ∧ i' = i then true else dn k' i', fun k' i' hk' hi' => ?_⟩, hx2⟩
  · exact (hx.blk y.g (by have := h.n0; have := h.lay.g0; omega) (fun hb => by rcases hb with e | e <;> omega)).trans h.blk
  · obtain ⟨⟨t1, t2⟩, v, t3, t4, t5⟩ := ht k' i' hk' hi'
    by_cases c : k' = k ∧ i' = i
    · obtain ⟨rfl, rfl⟩ := c
      have hde := h.lay.de k' k' hk' hk'
      refine ⟨⟨?_, by rw [World.frozen?_setCell, World.frozen?_setCell]; exact t2⟩, .slice A (m.V k' i').length cc, ?_, by rw [World.frozen?_setCell, World.frozen?_setCell]; exact t4, fun _ => ⟨A, _, rfl, hn, ho.kept hx2 (fun b hb hl => by have := ownV_ge ho b hb; omega)⟩⟩
      · rw [World.cell?_setCell_far _ _ _ _ (Ne.symm hde), World.cell?_setCell_same' _ _ _ (by rw [t1]; rfl)]
        show some (Value.bool true) = some (Value.bool (if k' = k' ∧ i' = i' then true else dn k' i'))
        rw [if_pos ⟨rfl, rfl⟩]
      · exact World.cell?_setCell_same' _ _ _ (by rw [World.cell?_setCell_far _ _ _ _ hde, t3]; rfl)
    · have hde := h.lay.de k' k hk' hk
      have hed := h.lay.de k k' hk hk'
      have hc1 : ((W.setCell ⟨y.D k, i, none⟩ (.bool true)).setCell ⟨y.E k, i, none⟩ (.slice A (m.V k i).length cc)).cell? ⟨y.D k', i', none⟩ = W.cell? ⟨y.D k', i', none⟩ := by
        rw [World.cell?_setCell_far _ _ _ _ (Ne.symm hde)]
        have hne : (⟨y.D k, i, none⟩ : Addr) ≠ ⟨y.D k', i', none⟩ := fun e => by
          injection e with e1 e2
          exact c ⟨h.lay.di k' k hk' hk e1.symm, e2.symm⟩
        exact World.cell?_setCell_other _ _ _ _ hne
      have hc2 : ((W.setCell ⟨y.D k, i, none⟩ (.bool true)).setCell ⟨y.E k, i, none⟩ (.slice A (m.V k i).length cc)).cell? ⟨y.E k', i', none⟩ = W.cell? ⟨y.E k', i', none⟩ := by
        have hne : (⟨y.E k, i, none⟩ : Addr) ≠ ⟨y.E k', i', none⟩ := fun e => by
          injection e with e1 e2
          exact c ⟨h.lay.ei k' k hk' hk e1.symm, e2.symm⟩
        exact (World.cell?_setCell_other _ _ _ _ hne).trans (World.cell?_setCell_far _ _ _ _ hed)
      refine ⟨⟨hc1.trans ?_, by rw [World.frozen?_setCell, World.frozen?_setCell]; exact t2⟩, v, hc2.trans t3, by rw [World.frozen?_setCell, World.frozen?_setCell]; exact t4, fun hd2 => ?_⟩
      · show W.cell? ⟨y.D k', i', none⟩ = some (Value.bool (if k' = k ∧ i' = i then true else dn k' i'))
        rw [if_neg c]; exact t1
      · have hd2 : (if k' = k ∧ i' = i then true else dn k' i') = true := hd2
        rw [if_neg c] at hd2
        obtain ⟨A', c', e, n1, o1⟩ := t5 hd2
        exact ⟨A', c', e, n1, o1.kept hx2 (fun b hb hl => by have := ownV_ge o1 b hb; omega)⟩
open Classical in
theorem V_of_Cm {m : Mt} {k i : Nat} {come : List Bool} (hl : come.length = m.n + 1) (h : Cm come m.n (m.N k i)) : come = m.V k i := by
  apply List.ext_getElem
  · rw [hl, V_len]
  · intro j h1 h2
    have h3 := h j (by omega)
    rw [List.getD_eq_getElem?_getD, List.getElem?_eq_getElem h1, Option.getD_some] at h3
    have h4 : (m.V k i)[j] = decide (m.N k i j) := by simp only [Mt.V, List.getElem_map, List.getElem_range]
    rw [h4]
    by_cases c : m.N k i j
    · rw [decide_eq_true c]; exact h3.2 c
    · rw [decide_eq_false c]; exact Bool.eq_false_iff.mpr (fun hh => c (h3.1 hh))
open Classical in
theorem V_get {m : Mt} {k i : Nat} (j : Nat) (hj : j ≤ m.n) : (m.V k i).getD j false = true ↔ m.N k i j := by
  unfold Mt.V
  rw [List.getD_eq_getElem?_getD, List.getElem?_map, List.getElem?_range (by omega)]
  simp
theorem Cm.none (n N : Nat) (hN : n + 1 = N) : Cm (List.replicate N false) n (fun _ => False) := fun j hj => by
  simp [List.getD_eq_getElem?_getD, List.getElem?_replicate, show j < N by omega]
theorem Cm.congr {come : List Bool} {n : Nat} {Q Q' : Nat → Prop} (h : Cm come n Q) (hq : ∀ j, j ≤ n → (Q j ↔ Q' j)) : Cm come n Q' := fun j hj => (h j hj).trans (hq j hj)
/-- V as the list of the places. -/
theorem V_L {m : Mt} {P k i : Nat} (h : m.Ok P) (hk : k < P) (hi : i ≤ m.n) (j : Nat) : (j ≤ m.n ∧ (m.V k i).getD j false = true) ↔ j ∈ m.L k i := by
  rw [Mt.mem_L h hk hi]
  constructor
  · rintro ⟨h1, h2⟩; exact (V_get j h1).1 h2
  · intro h1
    have := Mt.N_le h k hk i j hi h1
    exact ⟨this, (V_get j this).2 h1⟩
def finB (op : Int) (r : Bool) : Bool := if op = 1 ∨ op = 3 then r else if op = 4 then !r else true
theorem byte_j1 (k : Nat) (a : Bool) (b : Int) (c : Bool) : spec_l04Byte.j1 (k + 1) a b c = if c = true then (some a) else (if b = 4 then (some (!a)) else (some true)) := by rw [spec_l04Byte.j1]
theorem byte_l0 (txt : ByteArray) (l : List Int) (op b : Int) (hs : txt.size ≤ 1048576) : ∀ (n i : Nat) (inn : Bool), i + n = txt.size →
    spec_l04Byte.l0 (n + 2) b inn (i : Int) op txt l = some (finB op (inn || (txt.data.toList.drop i).any fun c => ((c.toNat : Int) == b)))
  | 0, i, inn, h => by
    have hd : txt.data.toList.drop i = [] := List.drop_eq_nil_of_le (by have : txt.data.toList.length = txt.size := data_length txt; omega)
    rw [hd, List.any_nil, Bool.or_false]
    unfold spec_l04Byte.l0
    rw [if_neg (by omega)]
    unfold finB
    by_cases c1 : op = 1
    · subst c1
      rw [if_pos rfl, if_pos (.inl rfl)]
      rfl
    · rw [if_neg c1]
      show spec_l04Byte.j1 (0 + 1) inn op (op == 3) = _
      rw [byte_j1]
      by_cases c3 : op = 3
      · subst c3
        rw [if_pos (show ((3 : Int) == 3) = true from rfl), if_pos (show (3 : Int) = 1 ∨ (3 : Int) = 3 from .inr rfl)]
      · have e3 : ¬ ((op == 3) = true) := by simpa using c3
        rw [if_neg e3, if_neg (show ¬ (op = 1 ∨ op = 3) from fun h => h.elim c1 c3)]
        split <;> rfl
  | n + 1, i, inn, h => by
    have hlen : txt.data.toList.length = txt.size := data_length txt
    have hi : i < txt.data.toList.length := by omega
    have hd : txt.data.toList.drop i = txt.data.toList[i] :: txt.data.toList.drop (i + 1) := List.drop_eq_getElem_cons hi
    have hbt : bt txt (i : Int) = ((txt.data.toList[i]).toNat : Int) := by
      have := bt_at txt (i : Int) (by rw [Int.toNat_natCast]; omega)
      rw [← this]
      simp [ByteArray.getElem_eq_getElem_data]
    rw [hd, List.any_cons]
    show spec_l04Byte.l0 ((n + 2) + 1) b inn (i : Int) op txt l = _
    unfold spec_l04Byte.l0
    rw [if_pos (by omega), inc64 i (by omega)]
    cases inn with
    | true => rw [if_pos rfl, byte_l0 txt l op b hs n (i + 1) true (by omega), Bool.true_or, Bool.true_or]
    | false => rw [if_neg (by decide), if_pos (by omega), byte_l0 txt l op b hs n (i + 1) _ (by omega), hbt, Bool.false_or]
theorem byte_f (txt s : ByteArray) (l : List Int) (op : Int) (i : Nat) (hi : i < s.size) (hs : txt.size ≤ 1048576) (hop : isOne op = true) : spec_l04Byte.f (txt.size + 2) op txt l (bt s (i : Int)) = some (tkB op txt (bt s (i : Int))) := by
  unfold spec_l04Byte.f
  have h1 := byte_l0 txt l op (bt s (i : Int)) hs txt.size 0 false (by omega)
  rw [show ((0 : Nat) : Int) = 0 from rfl] at h1
  rw [h1, List.drop_zero, Bool.false_or]
  have hb : bt s (i : Int) = ((s[i]'hi).toNat : Int) := (bt_at s (i : Int) (by rw [Int.toNat_natCast]; exact hi)).symm
  have h2 : (txt.data.toList.any fun c => ((c.toNat : Int) == bt s (i : Int))) = txt.data.toList.contains (bt s (i : Int)).toNat.toUInt8 := by
    rw [hb, Int.toNat_natCast, List.contains_eq_any_beq]
    congr 1
    funext c
    have h3 : (s[i]'hi).toNat.toUInt8 = s[i]'hi := by simp
    rw [h3]
    by_cases hc : c = s[i]'hi
    · subst hc; simp
    · have : ¬ ((c.toNat : Int) = ((s[i]'hi).toNat : Int)) := fun h => hc (UInt8.toNat_inj.1 (by omega))
      have e1 : ((c.toNat : Int) == ((s[i]'hi).toNat : Int)) = false := by simpa using this
      have e2 : (s[i]'hi == c) = false := by simpa using (Ne.symm hc)
      rw [e1, e2]
  rw [h2]
  obtain ⟨a1, a2⟩ := (isOne_iff op).1 hop
  unfold finB tkB
  by_cases c2 : op = 2
  · rw [if_neg (by omega), if_neg (by omega), if_pos c2]
  · by_cases c4 : op = 4
    · rw [if_neg (by omega), if_pos c4, if_neg c2, if_pos c4]
    · rw [if_pos (by omega), if_neg c2, if_neg c4]
/-- What one tells. -/
def OneR (m : Mt) (k i : Nat) (W : World) (e : Ending) (W' : World) : Prop :=
  ∃ b, e = .returned (.slice (some ⟨b, 0, none⟩) (m.n + 1) (m.n + 1)) ∧ OwnB W' W.heap.size b (m.n + 1) (m.V k i) ∧ Below W.heap.size W W'
theorem bC4 {W : World} {g t : Nat} {a b c d : Value} (h : W.heap[g]? = some (.cells #[a, b, c, d] t (0, 0))) :
    (W.cell? ⟨g, 0, none⟩ = some a ∧ W.cell? ⟨g, 1, none⟩ = some b ∧ W.cell? ⟨g, 2, none⟩ = some c ∧ W.cell? ⟨g, 3, none⟩ = some d) ∧ W.frozen? ⟨g, 0, none⟩ = false ∧ W.frozen? ⟨g, 1, none⟩ = false ∧ W.frozen? ⟨g, 2, none⟩ = false ∧ W.frozen? ⟨g, 3, none⟩ = false :=
  ⟨⟨(bC h 0).trans rfl, (bC h 1).trans rfl, (bC h 2).trans rfl, (bC h 3).trans rfl⟩, bF h 0, bF h 1, bF h 2, bF h 3⟩
theorem box4 {W : World} {g : Nat} {V dv ev kv : Value} {s txt : ByteArray} {op : Int} (hb : W.heap[g]? = some (.cells #[V, .string s, dv, ev] 89 (0, 0))) :
    ∃ W1, W.alloc (.cells #[.int .i64 op, .string txt, kv] 85) = W1 ∧ Below W.heap.size W W1 ∧ W1.heap.size = W.heap.size + 1 ∧ W1.heap[g]? = some (.cells #[V, .string s, dv, ev] 89 (0, 0)) ∧ W1.heap[W.heap.size]? = some (.cells #[.int .i64 op, .string txt, kv] 85 (0, 0)) :=
  ⟨_, rfl, (Below.refl _ _).alloc (Nat.le_refl _) _, Array.size_push .., bA hb _, (MapKept.heap_alloc W _).1⟩
/-- A fresh row of truth values, none true. -/
theorem made4 (W : World) (N : Nat) (hN : N ≤ 1048577) : ∃ W2, W.alloc (.cells (madeCells #[Value.bool false] N) 4) = W2 ∧ Below W.heap.size W W2 ∧ W2.heap.size = W.heap.size + 1 ∧ OwnB W2 W.heap.size W.heap.size N (List.replicate N false) :=
  ⟨_, rfl, (Below.refl _ _).alloc (Nat.le_refl _) _, Array.size_push .., own_made_of W _ _ N (Nat.le_refl _) (Nat.le_trans hN (by decide))⟩
theorem OwnB.lower {W : World} {base base' b n : Nat} {l : List Bool} (h : OwnB W base b n l) (hb : base' ≤ base) : OwnB W base' b n l := by
  obtain ⟨h1, h2⟩ := h
  refine ⟨h1, ?_⟩
  rcases h2 with h2 | ⟨g, cap, cur, e, hg, r⟩
  · exact .inl h2
  · exact .inr ⟨g, cap, cur, e, by omega, r⟩
theorem one_set {N n i : Nat} {Q : Nat → Prop} {x : Bool} (hN : n + 1 = N) (hi : i ≤ n) (hQ : ∀ j, j ≤ n → (Q j ↔ (j = i ∧ x = true))) : Cm ((List.replicate N false).set i x) n Q := by
  intro j hj
  rw [hQ j hj]
  by_cases c : j = i
  · subst c
    simp [List.getD_eq_getElem?_getD, show j < N by omega]
  · simp only [List.getD_eq_getElem?_getD, List.getElem?_set_ne (Ne.symm c), List.getElem?_replicate, if_pos (show j < N by omega)]
    simp [c]
theorem one_fin {m : Mt} {k i j N : Nat} {x : Bool} {W W1 W2 : World} (h0 : Below W.heap.size W W1) (hB : Below W1.heap.size W1 W2) (hO : OwnB W2 W1.heap.size W1.heap.size N (List.replicate N false)) (hN : m.n + 1 = N) (hj : j ≤ m.n) (hQ : ∀ e, e ≤ m.n → (m.N k i e ↔ (e = j ∧ x = true))) :
    OneR m k i W (.returned (.slice (some ⟨W1.heap.size, 0, none⟩) N N)) (W2.setCell ⟨W1.heap.size, j, none⟩ (.bool x)) := by
  obtain ⟨r1, r2⟩ := hO.store j x
  have hV : (List.replicate N false).set j x = m.V k i := V_of_Cm (by simp [hN]) (one_set hN hj hQ)
  subst hN
  refine ⟨_, rfl, ?_, ?_⟩
  · rw [← hV]; exact r1.lower h0.size
  · exact h0.trans ((hB.setCell (Nat.le_refl _) _).mono h0.size)
theorem one_fin0 {m : Mt} {k i N : Nat} {W W1 W2 W3 : World} (h0 : Below W.heap.size W W1) (hB : Below W1.heap.size W1 W2) (hO : OwnB W2 W1.heap.size W1.heap.size N (List.replicate N false)) (hN : m.n + 1 = N) (hB3 : Below W2.heap.size W2 W3) (hs2 : W1.heap.size < W2.heap.size) (hQ : ∀ e, e ≤ m.n → ¬ m.N k i e) :
    OneR m k i W (.returned (.slice (some ⟨W1.heap.size, 0, none⟩) N N)) W3 := by
  have hV : List.replicate N false = m.V k i := V_of_Cm (by simp [hN]) ((Cm.none m.n N hN).congr (fun j hj => ⟨fun h => h.elim, fun h => hQ j hj h⟩))
  subst hN
  refine ⟨_, rfl, ?_, ?_⟩
  · rw [← hV]; exact (hO.kept (Ex.of_below hB3 (fun _ => False)) (fun h => h)).lower h0.size
  · exact h0.trans ((hB.trans (hB3.mono hB.size)).mono h0.size)
theorem s_one12 (m : Mt) (V dv ev kv : Value) (s txt : ByteArray) (g k i : Nat) (W : World) (hn : m.n = s.size) (hs : s.size ≤ 1048576) (hi : i ≤ m.n) (hb : W.heap[g]? = some (.cells #[V, .string s, dv, ev] 89 (0, 0))) (hm : ∀ e, m.N k i e ↔ e = i) :
    Calls Try.prog 47 #[.pointer (some ⟨g, 0, none⟩), .agg #[.int .i64 12, .string txt, kv], .int .i64 (i : Int)] W (OneR m k i W) := by
  obtain ⟨N, hN⟩ : ∃ N, m.n + 1 = N := ⟨_, rfl⟩
  have hN1 : N ≤ 1048577 := by rw [← hN, hn]; exact Nat.succ_le_succ hs
  have hN2 : N * 1 ≤ 281474976710656 := by rw [Nat.mul_one]; exact Nat.le_trans hN1 (by decide)
  have hw1 : wrap64 ((s.size : Int) + 1) = (N : Int) := by rw [← hN, hn]; exact inc64 _ (by omega)
  obtain ⟨W1, e1, hbel, hsz, hb1, hb2⟩ := box4 (op := 12) (txt := txt) (kv := kv) hb
  obtain ⟨⟨h0, h1, h2, h3⟩, f0, f1, f2, f3⟩ := bC4 hb1
  obtain ⟨⟨x0, x1, x2⟩, y0, y1, y2⟩ := bC3 hb2
  obtain ⟨W2, e2, hB2, hz2, hO2⟩ := made4 W1 N hN1
  have hmk := print_make_of (P := Try.prog) 58 4 (.bool false) 1 Try.underlying58 (by kernel_rfl) rfl (by decide) N hN2 W1
  have HF := aM (one_fin (j := i) (x := true) hbel hB2 hO2 hN hi (fun e _ => by rw [hm e]; simp))
  obtain ⟨⟨q0, q1, q2, q3⟩, u0, u1, u2, u3⟩ := bC4 ((hB2.block _ (blk_lt hb1)).trans hb1)
  obtain ⟨⟨z3, z4, z5⟩, z6, z7, z8⟩ := bC3 ((hB2.block _ (by omega)).trans hb2)
  obtain ⟨z1, z2⟩ := hO2.cell i (by omega)
  have g1 : decide ((i : Int) < (N : Int)) = true := decide_eq_true (by omega)
  have g2 : ((i : Int) < (N : Int)) = True := eq_true (by omega)
  have p1 : (0 ≤ (i : Int)) = True := eq_true (by omega)
  rw [e2] at hmk
  clear hn hs hi hb hN hN1 hN2 hbel hb1 hb2 hB2 hO2 hsz hz2
  go_enter Try.func47, Try.ntmps47
  go_wp2_with fail
  go_ret
  exact HF.out
theorem s_one10 (m : Mt) (V dv ev kv : Value) (s txt : ByteArray) (g k i : Nat) (W : World) (hn : m.n = s.size) (hs : s.size ≤ 1048576) (hi : i ≤ m.n) (hb : W.heap[g]? = some (.cells #[V, .string s, dv, ev] 89 (0, 0))) (hm : ∀ e, m.N k i e ↔ (e = i ∧ i = 0)) :
    Calls Try.prog 47 #[.pointer (some ⟨g, 0, none⟩), .agg #[.int .i64 10, .string txt, kv], .int .i64 (i : Int)] W (OneR m k i W) := by
  obtain ⟨N, hN⟩ : ∃ N, m.n + 1 = N := ⟨_, rfl⟩
  have hN1 : N ≤ 1048577 := by rw [← hN, hn]; exact Nat.succ_le_succ hs
  have hN2 : N * 1 ≤ 281474976710656 := by rw [Nat.mul_one]; exact Nat.le_trans hN1 (by decide)
  have hw1 : wrap64 ((s.size : Int) + 1) = (N : Int) := by rw [← hN, hn]; exact inc64 _ (by omega)
  obtain ⟨W1, e1, hbel, hsz, hb1, hb2⟩ := box4 (op := 10) (txt := txt) (kv := kv) hb
  obtain ⟨⟨h0, h1, h2, h3⟩, f0, f1, f2, f3⟩ := bC4 hb1
  obtain ⟨⟨x0, x1, x2⟩, y0, y1, y2⟩ := bC3 hb2
  obtain ⟨W2, e2, hB2, hz2, hO2⟩ := made4 W1 N hN1
  have hmk := print_make_of (P := Try.prog) 58 4 (.bool false) 1 Try.underlying58 (by kernel_rfl) rfl (by decide) N hN2 W1
  have HF := aM (one_fin (j := i) (x := decide ((i : Int) = 0)) hbel hB2 hO2 hN hi (fun e _ => by rw [hm e, decide_eq_true_eq]; omega))
  obtain ⟨⟨q0, q1, q2, q3⟩, u0, u1, u2, u3⟩ := bC4 ((hB2.block _ (blk_lt hb1)).trans hb1)
  obtain ⟨⟨z3, z4, z5⟩, z6, z7, z8⟩ := bC3 ((hB2.block _ (by omega)).trans hb2)
  obtain ⟨z1, z2⟩ := hO2.cell i (by omega)
  have g1 : decide ((i : Int) < (N : Int)) = true := decide_eq_true (by omega)
  have g2 : ((i : Int) < (N : Int)) = True := eq_true (by omega)
  have p1 : (0 ≤ (i : Int)) = True := eq_true (by omega)
  have b1 : decide ((i : Int) = 0) = (i == 0) := by by_cases c : i = 0 <;> simp [c]
  rw [e2] at hmk
  clear hn hs hi hb hN hN1 hN2 hbel hb1 hb2 hB2 hO2 hsz hz2
  go_enter Try.func47, Try.ntmps47
  go_wp2_with fail
  go_ret
  exact HF.out
theorem s_one11 (m : Mt) (V dv ev kv : Value) (s txt : ByteArray) (g k i : Nat) (W : World) (hn : m.n = s.size) (hs : s.size ≤ 1048576) (hi : i ≤ m.n) (hb : W.heap[g]? = some (.cells #[V, .string s, dv, ev] 89 (0, 0))) (hm : ∀ e, m.N k i e ↔ (e = i ∧ i = s.size)) :
    Calls Try.prog 47 #[.pointer (some ⟨g, 0, none⟩), .agg #[.int .i64 11, .string txt, kv], .int .i64 (i : Int)] W (OneR m k i W) := by
  obtain ⟨N, hN⟩ : ∃ N, m.n + 1 = N := ⟨_, rfl⟩
  have hN1 : N ≤ 1048577 := by rw [← hN, hn]; exact Nat.succ_le_succ hs
  have hN2 : N * 1 ≤ 281474976710656 := by rw [Nat.mul_one]; exact Nat.le_trans hN1 (by decide)
  have hw1 : wrap64 ((s.size : Int) + 1) = (N : Int) := by rw [← hN, hn]; exact inc64 _ (by omega)
  obtain ⟨W1, e1, hbel, hsz, hb1, hb2⟩ := box4 (op := 11) (txt := txt) (kv := kv) hb
  obtain ⟨⟨h0, h1, h2, h3⟩, f0, f1, f2, f3⟩ := bC4 hb1
  obtain ⟨⟨x0, x1, x2⟩, y0, y1, y2⟩ := bC3 hb2
  obtain ⟨W2, e2, hB2, hz2, hO2⟩ := made4 W1 N hN1
  have hmk := print_make_of (P := Try.prog) 58 4 (.bool false) 1 Try.underlying58 (by kernel_rfl) rfl (by decide) N hN2 W1
  have HF := aM (one_fin (j := i) (x := decide ((i : Int) = (s.size : Int))) hbel hB2 hO2 hN hi (fun e _ => by rw [hm e, decide_eq_true_eq]; omega))
  obtain ⟨⟨q0, q1, q2, q3⟩, u0, u1, u2, u3⟩ := bC4 ((hB2.block _ (blk_lt hb1)).trans hb1)
  obtain ⟨⟨z3, z4, z5⟩, z6, z7, z8⟩ := bC3 ((hB2.block _ (by omega)).trans hb2)
  obtain ⟨z1, z2⟩ := hO2.cell i (by omega)
  have g1 : decide ((i : Int) < (N : Int)) = true := decide_eq_true (by omega)
  have g2 : ((i : Int) < (N : Int)) = True := eq_true (by omega)
  have p1 : (0 ≤ (i : Int)) = True := eq_true (by omega)
  rw [e2] at hmk
  clear hn hs hi hb hN hN1 hN2 hbel hb1 hb2 hB2 hO2 hsz hz2
  go_enter Try.func47, Try.ntmps47
  go_wp2_with fail
  go_ret
  exact HF.out
theorem bD_ {W W3 : World} (h : Below W.drew.heap.size W.drew W3) : Below W.heap.size W W3 := (lD (Below.refl _ _)).trans h
theorem s_onen (m : Mt) (V dv ev : Value) (s txt : ByteArray) (g k i : Nat) (W : World) (hn : m.n = s.size) (hs : s.size ≤ 1048576) (hi : i ≤ m.n) (hb : W.heap[g]? = some (.cells #[V, .string s, dv, ev] 89 (0, 0))) (A2 : Option Addr) (c2 : Nat) (kids : List Int) (hC : (Kd.int .i64).C W A2 kids.length kids) (hl2 : kids.length ≤ c2) (op : Int) (ho : isOne op = true) (htx : txt.size ≤ 1048576) (hq : i = s.size) (hm : ∀ e, m.N k i e ↔ e ∈ tkL op txt s i) :
    Calls Try.prog 47 #[.pointer (some ⟨g, 0, none⟩), .agg #[.int .i64 op, .string txt, .slice A2 kids.length c2], .int .i64 (i : Int)] W (OneR m k i W) := by
  obtain ⟨N, hN⟩ : ∃ N, m.n + 1 = N := ⟨_, rfl⟩
  have hN1 : N ≤ 1048577 := by rw [← hN, hn]; exact Nat.succ_le_succ hs
  have hN2 : N * 1 ≤ 281474976710656 := by rw [Nat.mul_one]; exact Nat.le_trans hN1 (by decide)
  have hw1 : wrap64 ((s.size : Int) + 1) = (N : Int) := by rw [← hN, hn]; exact inc64 _ (by omega)
  obtain ⟨W1, e1, hbel, hsz, hb1, hb2⟩ := box4 (op := op) (txt := txt) (kv := .slice A2 kids.length c2) hb
  obtain ⟨⟨h0, h1, h2, h3⟩, f0, f1, f2, f3⟩ := bC4 hb1
  obtain ⟨⟨x0, x1, x2⟩, y0, y1, y2⟩ := bC3 hb2
  obtain ⟨W2, e2, hB2, hz2, hO2⟩ := made4 W1 N hN1
  have hmk := print_make_of (P := Try.prog) 58 4 (.bool false) 1 Try.underlying58 (by kernel_rfl) rfl (by decide) N hN2 W1
  obtain ⟨⟨q0, q1, q2, q3⟩, u0, u1, u2, u3⟩ := bC4 ((hB2.block _ (blk_lt hb1)).trans hb1)
  obtain ⟨⟨z3, z4, z5⟩, z6, z7, z8⟩ := bC3 ((hB2.block _ (by omega)).trans hb2)
  have o10 : (op = 10) = False := eq_false (by have := (isOne_iff op).1 ho; omega)
  have o11 : (op = 11) = False := eq_false (by have := (isOne_iff op).1 ho; omega)
  have o12 : (op = 12) = False := eq_false (by have := (isOne_iff op).1 ho; omega)
  have o10d : decide (op = 10) = false := decide_eq_false (by have := (isOne_iff op).1 ho; omega)
  have o11d : decide (op = 11) = false := decide_eq_false (by have := (isOne_iff op).1 ho; omega)
  have o12d : decide (op = 12) = false := decide_eq_false (by have := (isOne_iff op).1 ho; omega)
  have o10e : (op == 10) = false := by simpa using (show ¬ op = 10 by have := (isOne_iff op).1 ho; omega)
  have o11e : (op == 11) = false := by simpa using (show ¬ op = 11 by have := (isOne_iff op).1 ho; omega)
  have o12e : (op == 12) = false := by simpa using (show ¬ op = 12 by have := (isOne_iff op).1 ho; omega)
  have HF := aM (fun (W3 : World) (h3 : Below W2.heap.size W2 W3) => one_fin0 (m := m) (k := k) (i := i) hbel hB2 hO2 hN h3 (by omega) (fun e _ h => by have h5 := (hm e).1 h; unfold tkL at h5; rw [if_neg (fun h6 => absurd h6.2.1 (by omega))] at h5; cases h5))
  have g1 : decide ((i : Int) < (s.size : Int)) = false := decide_eq_false (by omega)
  have g2 : ((i : Int) < (s.size : Int)) = False := eq_false (by omega)
  have g3 : decide (i < s.size) = false := decide_eq_false (by omega)
  rw [e2] at hmk
  clear hm ho hq htx hC hl2 hn hs hi hb hN hN1 hN2 hbel hb1 hb2 hB2 hO2 hsz hz2
  go_enter Try.func47, Try.ntmps47
  go_wp2_with fail
  go_quiet (fail)
  go_wp2
  go_ret
  exact HF.out _ (lN (Below.refl _ _) _)
theorem s_onet (m : Mt) (V dv ev : Value) (s txt : ByteArray) (g k i : Nat) (W : World) (hn : m.n = s.size) (hs : s.size ≤ 1048576) (hi : i ≤ m.n) (hb : W.heap[g]? = some (.cells #[V, .string s, dv, ev] 89 (0, 0))) (A2 : Option Addr) (c2 : Nat) (kids : List Int) (hC : (Kd.int .i64).C W A2 kids.length kids) (hl2 : kids.length ≤ c2) (op : Int) (ho : isOne op = true) (htx : txt.size ≤ 1048576) (hq : i < s.size) (ht : tkB op txt (bt s (i : Int)) = true) (hm : ∀ e, m.N k i e ↔ e ∈ tkL op txt s i) :
    Calls Try.prog 47 #[.pointer (some ⟨g, 0, none⟩), .agg #[.int .i64 op, .string txt, .slice A2 kids.length c2], .int .i64 (i : Int)] W (OneR m k i W) := by
  obtain ⟨N, hN⟩ : ∃ N, m.n + 1 = N := ⟨_, rfl⟩
  have hN1 : N ≤ 1048577 := by rw [← hN, hn]; exact Nat.succ_le_succ hs
  have hN2 : N * 1 ≤ 281474976710656 := by rw [Nat.mul_one]; exact Nat.le_trans hN1 (by decide)
  have hw1 : wrap64 ((s.size : Int) + 1) = (N : Int) := by rw [← hN, hn]; exact inc64 _ (by omega)
  obtain ⟨W1, e1, hbel, hsz, hb1, hb2⟩ := box4 (op := op) (txt := txt) (kv := .slice A2 kids.length c2) hb
  obtain ⟨⟨h0, h1, h2, h3⟩, f0, f1, f2, f3⟩ := bC4 hb1
  obtain ⟨⟨x0, x1, x2⟩, y0, y1, y2⟩ := bC3 hb2
  obtain ⟨W2, e2, hB2, hz2, hO2⟩ := made4 W1 N hN1
  have hmk := print_make_of (P := Try.prog) 58 4 (.bool false) 1 Try.underlying58 (by kernel_rfl) rfl (by decide) N hN2 W1
  obtain ⟨⟨q0, q1, q2, q3⟩, u0, u1, u2, u3⟩ := bC4 ((hB2.block _ (blk_lt hb1)).trans hb1)
  obtain ⟨⟨z3, z4, z5⟩, z6, z7, z8⟩ := bC3 ((hB2.block _ (by omega)).trans hb2)
  have o10 : (op = 10) = False := eq_false (by have := (isOne_iff op).1 ho; omega)
  have o11 : (op = 11) = False := eq_false (by have := (isOne_iff op).1 ho; omega)
  have o12 : (op = 12) = False := eq_false (by have := (isOne_iff op).1 ho; omega)
  have o10d : decide (op = 10) = false := decide_eq_false (by have := (isOne_iff op).1 ho; omega)
  have o11d : decide (op = 11) = false := decide_eq_false (by have := (isOne_iff op).1 ho; omega)
  have o12d : decide (op = 12) = false := decide_eq_false (by have := (isOne_iff op).1 ho; omega)
  have o10e : (op == 10) = false := by simpa using (show ¬ op = 10 by have := (isOne_iff op).1 ho; omega)
  have o11e : (op == 11) = false := by simpa using (show ¬ op = 11 by have := (isOne_iff op).1 ho; omega)
  have o12e : (op == 12) = false := by simpa using (show ¬ op = 12 by have := (isOne_iff op).1 ho; omega)
  have HF := aM (fun (W3 : World) (h3 : Below W2.heap.size W2 W3) => one_fin (m := m) (k := k) (i := i) (j := i + 1) (x := true) hbel (hB2.trans (h3.mono hB2.size)) (hO2.kept (Ex.of_below h3 (fun _ => False)) (fun h => h)) hN (by omega) (fun e _ => by rw [hm e]; unfold tkL; rw [if_pos ⟨ho, hq, ht⟩, List.mem_singleton]; simp))
  have HZ := aM (fun (W3 : World) (h3 : Below W2.heap.size W2 W3) => (hO2.kept (Ex.of_below h3 (fun _ => False)) (fun h => h)).cell (i + 1) (by omega))
  have k1 : decide (((i + 1 : Nat) : Int) < (N : Int)) = true := decide_eq_true (by omega)
  have k2 : (((i + 1 : Nat) : Int) < (N : Int)) = True := eq_true (by omega)
  have k3 : (0 ≤ ((i + 1 : Nat) : Int)) = True := eq_true (by omega)
  have k4 : (0 ≤ (i : Int) + 1) = True := eq_true (by omega)
  have k5 : ((i : Int) + 1 < (N : Int)) = True := eq_true (by omega)
  have k6 : ((i : Int) + 1).toNat = i + 1 := by omega
  have HBY := aM (byte_f txt s kids op i hq htx ho)
  rw [ht] at HBY
  have HCC := aM (Kd.C_below hC (hbel.trans (hB2.mono (by omega))))
  have HL2 := aM hl2
  have hbt : ((s[i]'hq).toNat : Int) = bt s (i : Int) := bt_at s (i : Int) (by rw [Int.toNat_natCast]; exact hq)
  have g1 : decide ((i : Int) < (s.size : Int)) = true := decide_eq_true (by omega)
  have g2 : ((i : Int) < (s.size : Int)) = True := eq_true (by omega)
  have g3 : decide (i < s.size) = true := decide_eq_true (by omega)
  have g4 : (i < s.size) = True := eq_true hq
  have gp : (0 ≤ (i : Int)) = True := eq_true (by omega)
  have hw2 : wrap64 ((i : Int) + 1) = ((i + 1 : Nat) : Int) := inc64 _ (by omega)
  rw [e2] at hmk
  clear hm ho ht htx hC hl2 hn hs hi hb hN hN1 hN2 hbel hb1 hb2 hB2 hO2 hsz hz2
  go_enter Try.func47, Try.ntmps47
  go_wp2_with fail
  go_region_held3 (fun w' => w'.cell? ⟨W.heap.size, 0, none⟩ = some (.int .i64 op) ∧ w'.cell? ⟨W.heap.size, 1, none⟩ = some (.string txt) ∧ w'.cell? ⟨W.heap.size, 2, none⟩ = some (.slice A2 kids.length c2) ∧ w'.cell? ⟨g, 1, none⟩ = some (.string s))
    (first | exact ⟨z3, z4, z5, q1⟩ | exact ⟨(hb3.cell (World.block_lt_of_cell? W2 _ z3)).trans z3, (hb3.cell (World.block_lt_of_cell? W2 _ z4)).trans z4, (hb3.cell (World.block_lt_of_cell? W2 _ z5)).trans z5, (hb3.cell (World.block_lt_of_cell? W2 _ q1)).trans q1⟩)
    (first | (go_at_call 67; refine (spec_l04Byte.calls _ _ _ _ _ _ _ _ _ (cD HCC.out) HL2.out HBY.out).mono ?_; rintro e W3 ⟨rfl, hb3⟩))
  have HF2 := aM (HF.out W3 (bD_ hb3))
  obtain ⟨z1, z2⟩ := HZ.out W3 (bD_ hb3)
  clear HF HZ
  go_wp2
  go_ret
  exact HF2.out
theorem s_onef (m : Mt) (V dv ev : Value) (s txt : ByteArray) (g k i : Nat) (W : World) (hn : m.n = s.size) (hs : s.size ≤ 1048576) (hi : i ≤ m.n) (hb : W.heap[g]? = some (.cells #[V, .string s, dv, ev] 89 (0, 0))) (A2 : Option Addr) (c2 : Nat) (kids : List Int) (hC : (Kd.int .i64).C W A2 kids.length kids) (hl2 : kids.length ≤ c2) (op : Int) (ho : isOne op = true) (htx : txt.size ≤ 1048576) (hq : i < s.size) (ht : tkB op txt (bt s (i : Int)) = false) (hm : ∀ e, m.N k i e ↔ e ∈ tkL op txt s i) :
    Calls Try.prog 47 #[.pointer (some ⟨g, 0, none⟩), .agg #[.int .i64 op, .string txt, .slice A2 kids.length c2], .int .i64 (i : Int)] W (OneR m k i W) := by
  obtain ⟨N, hN⟩ : ∃ N, m.n + 1 = N := ⟨_, rfl⟩
  have hN1 : N ≤ 1048577 := by rw [← hN, hn]; exact Nat.succ_le_succ hs
  have hN2 : N * 1 ≤ 281474976710656 := by rw [Nat.mul_one]; exact Nat.le_trans hN1 (by decide)
  have hw1 : wrap64 ((s.size : Int) + 1) = (N : Int) := by rw [← hN, hn]; exact inc64 _ (by omega)
  obtain ⟨W1, e1, hbel, hsz, hb1, hb2⟩ := box4 (op := op) (txt := txt) (kv := .slice A2 kids.length c2) hb
  obtain ⟨⟨h0, h1, h2, h3⟩, f0, f1, f2, f3⟩ := bC4 hb1
  obtain ⟨⟨x0, x1, x2⟩, y0, y1, y2⟩ := bC3 hb2
  obtain ⟨W2, e2, hB2, hz2, hO2⟩ := made4 W1 N hN1
  have hmk := print_make_of (P := Try.prog) 58 4 (.bool false) 1 Try.underlying58 (by kernel_rfl) rfl (by decide) N hN2 W1
  obtain ⟨⟨q0, q1, q2, q3⟩, u0, u1, u2, u3⟩ := bC4 ((hB2.block _ (blk_lt hb1)).trans hb1)
  obtain ⟨⟨z3, z4, z5⟩, z6, z7, z8⟩ := bC3 ((hB2.block _ (by omega)).trans hb2)
  have o10 : (op = 10) = False := eq_false (by have := (isOne_iff op).1 ho; omega)
  have o11 : (op = 11) = False := eq_false (by have := (isOne_iff op).1 ho; omega)
  have o12 : (op = 12) = False := eq_false (by have := (isOne_iff op).1 ho; omega)
  have o10d : decide (op = 10) = false := decide_eq_false (by have := (isOne_iff op).1 ho; omega)
  have o11d : decide (op = 11) = false := decide_eq_false (by have := (isOne_iff op).1 ho; omega)
  have o12d : decide (op = 12) = false := decide_eq_false (by have := (isOne_iff op).1 ho; omega)
  have o10e : (op == 10) = false := by simpa using (show ¬ op = 10 by have := (isOne_iff op).1 ho; omega)
  have o11e : (op == 11) = false := by simpa using (show ¬ op = 11 by have := (isOne_iff op).1 ho; omega)
  have o12e : (op == 12) = false := by simpa using (show ¬ op = 12 by have := (isOne_iff op).1 ho; omega)
  have HF := aM (fun (W3 : World) (h3 : Below W2.heap.size W2 W3) => one_fin0 (m := m) (k := k) (i := i) hbel hB2 hO2 hN h3 (by omega) (fun e _ h => by have h5 := (hm e).1 h; unfold tkL at h5; rw [if_neg (fun h6 => absurd h6.2.2 (by rw [ht]; decide))] at h5; cases h5))
  have HBY := aM (byte_f txt s kids op i hq htx ho)
  rw [ht] at HBY
  have HCC := aM (Kd.C_below hC (hbel.trans (hB2.mono (by omega))))
  have HL2 := aM hl2
  have hbt : ((s[i]'hq).toNat : Int) = bt s (i : Int) := bt_at s (i : Int) (by rw [Int.toNat_natCast]; exact hq)
  have g1 : decide ((i : Int) < (s.size : Int)) = true := decide_eq_true (by omega)
  have g2 : ((i : Int) < (s.size : Int)) = True := eq_true (by omega)
  have g3 : decide (i < s.size) = true := decide_eq_true (by omega)
  have g4 : (i < s.size) = True := eq_true hq
  have gp : (0 ≤ (i : Int)) = True := eq_true (by omega)
  have hw2 : wrap64 ((i : Int) + 1) = ((i + 1 : Nat) : Int) := inc64 _ (by omega)
  rw [e2] at hmk
  clear hm ho ht htx hC hl2 hn hs hi hb hN hN1 hN2 hbel hb1 hb2 hB2 hO2 hsz hz2
  go_enter Try.func47, Try.ntmps47
  go_wp2_with fail
  go_region_held3 (fun w' => w'.cell? ⟨W.heap.size, 0, none⟩ = some (.int .i64 op) ∧ w'.cell? ⟨W.heap.size, 1, none⟩ = some (.string txt) ∧ w'.cell? ⟨W.heap.size, 2, none⟩ = some (.slice A2 kids.length c2) ∧ w'.cell? ⟨g, 1, none⟩ = some (.string s))
    (first | exact ⟨z3, z4, z5, q1⟩ | exact ⟨(hb3.cell (World.block_lt_of_cell? W2 _ z3)).trans z3, (hb3.cell (World.block_lt_of_cell? W2 _ z4)).trans z4, (hb3.cell (World.block_lt_of_cell? W2 _ z5)).trans z5, (hb3.cell (World.block_lt_of_cell? W2 _ q1)).trans q1⟩)
    (first | (go_at_call 67; refine (spec_l04Byte.calls _ _ _ _ _ _ _ _ _ (cD HCC.out) HL2.out HBY.out).mono ?_; rintro e W3 ⟨rfl, hb3⟩))
  have HF2 := aM (HF.out W3 (bD_ hb3))
  clear HF
  go_wp2
  go_ret
  exact HF2.out
theorem ownV_cell {W : World} {base c N : Nat} {A : Option Addr} {l : List Bool} (h : OwnV W base (.slice A N c) l) (hl : l.length = N) (j : Nat) (hj : j < N) : ∃ bg, A = some ⟨bg, 0, none⟩ ∧ base ≤ bg ∧ bg < W.heap.size ∧ W.cell? ⟨bg, j, none⟩ = some (.bool (l.getD j false)) ∧ W.frozen? ⟨bg, j, none⟩ = false := by
  subst hl
  rcases h.2 with ⟨_, h0⟩ | ⟨g, cap, cur, e, hb, hh, h1, h2⟩
  · omega
  · injection e with e1 _ e3
    subst e1 e3
    obtain ⟨h3, h4⟩ := own_at_of (enc := Value.bool) (d := false) h (j : Int) (by omega) (by omega)
    rw [Int.toNat_natCast] at h3 h4
    refine ⟨g, rfl, hb, blk_lt hh, ?_, h4⟩
    rw [h3]
    unfold rdOf
    rw [Int.toNat_natCast]
theorem SSt.inp {m : Mt} {P : Nat} {V : Value} {s : ByteArray} {w0 W : World} {y : Lay} {X : Nat → Prop} (h : SSt m P V s w0 y X W) {a : Addr} {u : Value} (hc : w0.cell? a = some u) : W.cell? a = some u := (h.bel.cell (World.block_lt_of_cell? w0 _ hc)).trans hc
theorem SSt.less {m : Mt} {P : Nat} {V : Value} {s : ByteArray} {w0 W : World} {y : Lay} {X X' : Nat → Prop} (h : SSt m P V s w0 y X W) (hX : ∀ q, X' q → X q) : SSt m P V s w0 y X' W := h.step (Ex.refl W (fun _ => False)) (fun _ h' => h'.elim) (fun q hq => .inl (hX q hq))
/-- A fresh row of the call's own beside the memo. -/
structure BoS (m : Mt) (P : Nat) (V : Value) (s : ByteArray) (w0 : World) (y : Lay) (X : Nat → Prop) (W0 : World) (b N : Nat) (come : List Bool) (W : World) : Prop where
  row : OwnB W W0.heap.size b N come
  st : SSt m P V s w0 y (fun q => X q ∨ q = b) W
  ex : Ex W0 W (fun q => q < y.N0)
  hX : ∀ q, X q → q < W0.heap.size
  n0 : y.N0 ≤ W0.heap.size
/-- What is told, a fresh row. -/
def BoR (m : Mt) (P : Nat) (V : Value) (s : ByteArray) (w0 : World) (y : Lay) (k i : Nat) (X : Nat → Prop) (W : World) (e : Ending) (W' : World) : Prop :=
  ∃ b, e = .returned (.slice (some ⟨b, 0, none⟩) (m.n + 1) (m.n + 1)) ∧ OwnB W' W.heap.size b (m.n + 1) (m.V k i) ∧ SSt m P V s w0 y (fun q => X q ∨ q = b) W' ∧ Ex W W' (fun q => q < y.N0)
section
variable {m : Mt} {P : Nat} {V : Value} {s : ByteArray} {w0 : World} {y : Lay} {X : Nat → Prop} {W0 : World} {b N : Nat} {come : List Bool} {W : World}
theorem BoS.lt (h : BoS m P V s w0 y X W0 b N come W) : ∀ q, (X q ∨ q = b) → q < W.heap.size := fun q hq => by
  rcases hq with e | e
  · have := h.hX q e; have := h.ex.size; omega
  · have := h.row.lt; omega
theorem BoS.call (h : BoS m P V s w0 y X W0 b N come W) {W1 : World} (h1 : SSt m P V s w0 y (fun q => X q ∨ q = b) W1) (h2 : Ex W W1 (fun q => q < y.N0)) : BoS m P V s w0 y X W0 b N come W1 :=
  ⟨h.row.kept h2 (fun e => by have := h.row.lt; have := h.n0; omega), h1, h.ex.trans h2 (fun q hq _ => hq), h.hX, h.n0⟩
theorem BoS.still (h : BoS m P V s w0 y X W0 b N come W) {W1 : World} (hk : Below W.heap.size W W1) : BoS m P V s w0 y X W0 b N come W1 :=
  ⟨h.row.kept (Ex.of_below hk (fun _ => False)) (fun h => h), h.st.still hk, h.ex.trans (Ex.of_below hk (fun _ => False)) (fun _ h _ => h.elim), h.hX, h.n0⟩
theorem BoS.mark (h : BoS m P V s w0 y X W0 b N come W) (j : Nat) (x : Bool) : BoS m P V s w0 y X W0 b N (come.set j x) (W.setCell ⟨b, j, none⟩ (.bool x)) ∧ Ex W (W.setCell ⟨b, j, none⟩ (.bool x)) (· = b) := by
  obtain ⟨r1, r2⟩ := h.row.store j x
  have hx : Ex W (W.setCell ⟨b, j, none⟩ (.bool x)) (· = b) := (Ex.of_grown r2).mono (fun q hq _ => by injection hq with hq; exact hq.symm)
  have hb := h.row.lt
  have hn := h.n0
  exact ⟨⟨r1, h.st.step hx (fun q hq _ => by subst hq; exact ⟨.inr rfl, by omega⟩) (fun q hq => .inl hq), h.ex.trans hx (fun q hq hl => by omega), h.hX, h.n0⟩, hx⟩
theorem BoS.start (h : SSt m P V s w0 y X W0) (hX : ∀ q, X q → q < W0.heap.size) (hB : Below W0.heap.size W0 W) (ho : OwnB W W0.heap.size b N come) : BoS m P V s w0 y X W0 b N come W :=
  ⟨ho, h.step (Ex.of_below hB (fun _ => False)) (fun _ h _ => h.elim) (fun q hq => hq.imp id (fun e => by have := ho.lt; omega)), Ex.of_below hB _, hX, h.n0⟩
theorem BoS.block (h : BoS m P V s w0 y X W0 b N come W) (q : Nat) (hq : q < W0.heap.size) (hn : y.N0 ≤ q) : W.heap[q]? = W0.heap[q]? := h.ex.blk q hq (by omega)
theorem BoS.fin {W9 : World} {k i : Nat} (h : BoS m P V s w0 y X W0 b N come W) (hB : Below W9.heap.size W9 W0) (hN : m.n + 1 = N) (hc : Cm come m.n (m.N k i)) : BoR m P V s w0 y k i X W9 (.returned (.slice (some ⟨b, 0, none⟩) N N)) W := by
  subst hN
  have hV := V_of_Cm (by rw [h.row.len]) hc
  refine ⟨b, rfl, ?_, h.st, (Ex.of_below hB _).trans h.ex (fun q hq _ => hq)⟩
  rw [← hV]
  exact h.row.lower hB.size
end
theorem Cm.or {come : List Bool} {n j : Nat} {Q : Nat → Prop} {v : Bool} {R : Prop} (h : Cm come n Q) (hl : come.length = n + 1) (hj : j ≤ n) (hv : v = true ↔ R) : Cm (come.set j (come.getD j false || v)) n (fun e => Q e ∨ (e = j ∧ R)) := by
  intro e he
  by_cases c : e = j
  · subst c
    have h1 := h e he
    have h2 : (come.set e (come.getD e false || v)).getD e false = (come.getD e false || v) := by
      simp [List.getD_eq_getElem?_getD, show e < come.length by omega]
    rw [h2, Bool.or_eq_true, h1, hv]
    simp
  · have h1 := h e he
    have h2 : (come.set j (come.getD j false || v)).getD e false = come.getD e false := by
      simp only [List.getD_eq_getElem?_getD, List.getElem?_set_ne (Ne.symm c)]
    rw [h2, h1]
    simp [c]
end Go.Proofs.Ytnjomkadjcjcnaa.QFnExactEndsAt
