/- The reference's again, at, its memo's making; EndsAt and FindIn of the reference; wrong patterns. Conditions: none beyond those that each theorem names. -/
import Derived.Test.YtnjomkadjcjcnaaQFnExactEndsAtx0
import Derived.Test.YtnjomkadjcjcnaaQFnExactEndsAtx1
import Derived.Test.YtnjomkadjcjcnaaQFnExactEndsAtx2
import Derived.Test.YtnjomkadjcjcnaaQFnExactEndsAtx3
import Derived.Test.YtnjomkadjcjcnaaQFnExactEndsAtx4
import Derived.Test.YtnjomkadjcjcnaaQFnExactEndsAtx5
import Derived.Test.YtnjomkadjcjcnaaQFnExactEndsAtx6
import Derived.Test.YtnjomkadjcjcnaaShelfIdx
import Derived.Test.YtnjomkadjcjcnaaShelfSort
import Derived.Lib.Hide
import Derived.Sort.OwnSortedInts
import Derived.Lib.RowBridge
import Derived.Maps.OwnSet
import Derived.Maps.Views
import Derived.Deep.QuietTactic
import Derived.BigQuiet
import Derived.StillTailTactics
import Derived.IntWalk
import Derived.Lib.IndexAny
import Derived.Deep.RegionHeld3
import Derived.Deep.RegionLaw
import Derived.Deep.AppendLies
import Derived.RegionTactic
import Derived.Shelf.Spec.SlicesGrow
import Derived.Lib.AppendZerosOnto
import Derived.Test.YtnjomkadjcjcnaaMEa1
import Derived.Test.YtnjomkadjcjcnaaMEa2
import Derived.Test.YtnjomkadjcjcnaaMEa3
set_option linter.unusedVariables false
set_option linter.unusedSimpArgs false
set_option maxHeartbeats 4000000
set_option maxRecDepth 100000
namespace Go.Proofs.Ytnjomkadjcjcnaa.QFnExactEndsAt
open Go.RowKit Go.Proofs.YtnjomkadjcjcnaaW.PrintWords Go.Proofs.YtnjomkadjcjcnaaW.PrintLast Go.Proofs.YtnjomkadjcjcnaaW.PrintMore
attribute [local go_sem] max2_int min2_int max_two min_two max_three min_three max_four min_four   -- for this text's walks alone
open Bool renaming true → bT, false → bf
open Go.Proofs.YtnjomkadjcjcnaaW.PrintWords.Kd renaming R_alloc → rA, R_drewN → rN, R_drew → rD, C_alloc → cA, C_drewN → cN, C_drew → cD, R_far → rF, R_below → rB, R_lower → rL, R_lt → rT, R_base → rS, C_below → cB, R_types → rY, R_elder' → rE, R_reads' → rR, R_new' → rW
open Go.Proofs.YtnjomkadjcjcnaaW.PrintWords renaming blk_drewN → bN, blk_drew → bD, blk_alloc → bA, below_set → lS, pw_below_drewN → lN, below_drew1 → lD, below_alloc → lA, blk_cell → bC, blk_below → bB, below_size → lZ, below_step → lP, blk_lt → bL, blk_frozen → bF
open Go.Proofs.YtnjomkadjcjcnaaW.PrintWords.Aside0 renaming mk → aM
def rowsOf (N : Nat) (l : List Nat) : List Value := l.map fun b => Value.slice (some ⟨b, 0, none⟩) N N
theorem rowsOf_app (N : Nat) (l : List Nat) (b : Nat) : rowsOf N l ++ [Value.slice (some ⟨b, 0, none⟩) N N] = rowsOf N (l ++ [b]) := by simp [rowsOf]
/-- The memo while it is made: dl, el are the blocks of its rows. -/
structure NwS (w0 : World) (V : Value) (s : ByteArray) (g N : Nat) (vd ve : Value) (dl el : List Nat) (W : World) : Prop where
  blk : W.heap[g]? = some (.cells #[V, .string s, vd, ve] 89 (0, 0))
  hg : w0.heap.size ≤ g
  bel : Below w0.heap.size w0 W
  od : W.ownsRow w0.heap.size 58 1 vd dl.length (rowsOf N dl)
  oe : W.ownsRow w0.heap.size 86 1 ve el.length (rowsOf N el)
  md : ∀ b ∈ dl, w0.heap.size ≤ b ∧ b ≠ g ∧ vd.ownBlock ≠ some b ∧ ve.ownBlock ≠ some b ∧ b ∉ el ∧ W.heap[b]? = some (.cells (madeCells #[Value.bool false] N) 4 (0, 0))
  me : ∀ b ∈ el, w0.heap.size ≤ b ∧ b ≠ g ∧ vd.ownBlock ≠ some b ∧ ve.ownBlock ≠ some b ∧ W.heap[b]? = some (.cells (madeCells #[Value.slice none 0 0] N) 58 (0, 0))
  nd : dl.Nodup
  ne : el.Nodup
  gd : vd.ownBlock ≠ some g
  ge : ve.ownBlock ≠ some g
  de : ∀ b, vd.ownBlock = some b → ve.ownBlock ≠ some b
theorem own_lt' {W : World} {base n e size : Nat} {v : Value} {xs : List Value} (h : W.ownsRow base e size v n xs) : ∀ k, v.ownBlock = some k → base ≤ k ∧ k < W.heap.size := by
  intro k hk
  rcases h.2 with ⟨rfl, _⟩ | ⟨g, cap, cur, rfl, hb, hh, _⟩
  · simp [Value.ownBlock] at hk
  · have : g = k := by simpa [Value.ownBlock] using hk
    subst this
    exact ⟨hb, blk_lt hh⟩
/-- Two new blocks: a row made, and a row of one that holds it. -/
structure Two (W Wl : World) (o1 : Obj) : Prop where
  bel : Below W.heap.size W Wl
  size : Wl.heap.size = W.heap.size + 2
  new : Wl.heap[W.heap.size]? = some o1
theorem Two.mk' (W : World) (o1 o2 : Obj) : Two W ((W.alloc o1).alloc o2) o1 := by
  have h1 : (W.alloc o1).heap.size = W.heap.size + 1 := Array.size_push ..
  refine ⟨((Below.refl _ _).alloc (Nat.le_refl _) _).alloc (by rw [h1]; omega) _, by rw [show ((W.alloc o1).alloc o2).heap.size = (W.alloc o1).heap.size + 1 from Array.size_push .., h1], ?_⟩
  exact (Below.heap_alloc (W.alloc o1) o2 _ (by rw [h1]; omega)).trans (heap_alloc_new W o1)
section
variable {w0 : World} {V : Value} {s : ByteArray} {g N : Nat} {vd ve : Value} {dl el : List Nat} {W : World}
theorem NwS.glt (h : NwS w0 V s g N vd ve dl el W) : g < W.heap.size := blk_lt h.blk
theorem NwS.pushD (h : NwS w0 V s g N vd ve dl el W) {Wl W2 : World} {gg cap : Nat} (ht : Two W Wl (.cells (madeCells #[Value.bool false] N) 4 (0, 0))) (hgr : Wl.grownBy W2 vd.ownBlock) (hat : vd.ownBlock = some gg ∨ gg = W.heap.size + 2)
    (ho : W2.ownsRow w0.heap.size 58 1 (.slice (some ⟨gg, 0, none⟩) (dl.length + 1) cap) (dl.length + 1) (rowsOf N dl ++ [Value.slice (some ⟨W.heap.size, 0, none⟩) N N])) :
    NwS w0 V s g N (.slice (some ⟨gg, 0, none⟩) (dl.length + 1) cap) ve (dl ++ [W.heap.size]) el (W2.setCell ⟨g, 2, none⟩ (.slice (some ⟨gg, 0, none⟩) (dl.length + 1) cap)) := by
  have hg := h.glt
  have hsz := h.bel.size
  have hvd := own_lt' h.od
  have hve := own_lt' h.oe
  have hl : (dl ++ [W.heap.size]).length = dl.length + 1 := by simp
  have hW2 : ∀ b, b < W.heap.size → vd.ownBlock ≠ some b → W2.heap[b]? = W.heap[b]? := fun b hb hn => (hgr.block b (by rw [ht.size]; omega) (fun e => hn e.symm)).trans (ht.bel.block b hb)
  have hk : ∀ b, b < W.heap.size → vd.ownBlock ≠ some b → b ≠ g → (W2.setCell ⟨g, 2, none⟩ (.slice (some ⟨gg, 0, none⟩) (dl.length + 1) cap)).heap[b]? = W.heap[b]? := fun b hb hn hne => (Below.heap_setCell _ _ _ _ hne).trans (hW2 b hb hn)
  have hnew : (W2.setCell ⟨g, 2, none⟩ (.slice (some ⟨gg, 0, none⟩) (dl.length + 1) cap)).heap[W.heap.size]? = some (.cells (madeCells #[Value.bool false] N) 4 (0, 0)) :=
    (Below.heap_setCell _ _ _ _ (by show W.heap.size ≠ g; omega)).trans ((hgr.block _ (by rw [ht.size]; omega) (fun e => by have := (hvd _ e.symm).2; omega)).trans ht.new)
  have hgg : gg ≠ g ∧ gg ≠ W.heap.size ∧ (∀ b, b < W.heap.size → vd.ownBlock ≠ some b → gg ≠ b) := by
    rcases hat with e | e
    · have := hvd gg e
      exact ⟨fun e2 => h.gd (by rw [e, e2]), by omega, fun b _ hn e2 => hn (by rw [e, e2])⟩
    · exact ⟨by omega, by omega, fun b hb _ => by omega⟩
  have hob : ∀ b, (Value.slice (some ⟨gg, 0, none⟩) (dl.length + 1) cap).ownBlock = some b → gg = b := fun b hb => by injection hb
  have hb2 : Below w0.heap.size w0 W2 := (h.bel.trans (ht.bel.mono hsz)).grown hgr (by rw [ht.size]; omega) (fun k hk => (hvd k hk).1)
  refine ⟨?_, h.hg, hb2.setCell h.hg _, ?_, ?_, fun b hb => ?_, fun b hb => ?_, ?_, h.ne, fun e => hgg.1 (hob g e), h.ge, fun b hb e => ?_⟩
  · exact blk_put ((hW2 g hg h.gd).trans h.blk) 2 _ rfl
  · rw [hl, ← rowsOf_app]
    exact own_move ho (fun k hk2 => Below.heap_setCell _ _ _ _ (fun e => hgg.1 ((hob k hk2).trans e)))
  · exact own_move h.oe (fun k hk2 => hk k (hve k hk2).2 (fun e => h.de k e hk2) (fun e => h.ge (by rw [hk2, e])))
  · rcases List.mem_append.1 hb with hb | hb
    · obtain ⟨m1, m2, m3, m4, m5, m6⟩ := h.md b hb
      have hlt := blk_lt m6
      exact ⟨m1, m2, fun e => hgg.2.2 b hlt m3 (hob b e), m4, m5, (hk b hlt m3 m2).trans m6⟩
    · obtain rfl := List.mem_singleton.1 hb
      exact ⟨hsz, by omega, fun e => hgg.2.1 (hob _ e), fun e => by have := (hve _ e).2; omega, fun hm => by have := blk_lt (h.me _ hm).2.2.2.2; omega, hnew⟩
  · obtain ⟨m1, m2, m3, m4, m6⟩ := h.me b hb
    have hlt := blk_lt m6
    exact ⟨m1, m2, fun e => hgg.2.2 b hlt m3 (hob b e), m4, (hk b hlt m3 m2).trans m6⟩
  · exact List.nodup_append.2 ⟨h.nd, by simp, fun a ha b hb e => by
      rw [List.mem_singleton.1 hb] at e
      have := blk_lt (h.md a ha).2.2.2.2.2
      omega⟩
  · have e1 := hob b hb
    subst e1
    rcases hat with e2 | e2
    · exact h.de gg e2 e
    · have := (hve gg e).2; omega
theorem NwS.pushE (h : NwS w0 V s g N vd ve dl el W) {Wl W2 : World} {gg cap : Nat} (ht : Two W Wl (.cells (madeCells #[Value.slice none 0 0] N) 58 (0, 0))) (hgr : Wl.grownBy W2 ve.ownBlock) (hat : ve.ownBlock = some gg ∨ gg = W.heap.size + 2)
    (ho : W2.ownsRow w0.heap.size 86 1 (.slice (some ⟨gg, 0, none⟩) (el.length + 1) cap) (el.length + 1) (rowsOf N el ++ [Value.slice (some ⟨W.heap.size, 0, none⟩) N N])) :
    NwS w0 V s g N vd (.slice (some ⟨gg, 0, none⟩) (el.length + 1) cap) dl (el ++ [W.heap.size]) (W2.setCell ⟨g, 3, none⟩ (.slice (some ⟨gg, 0, none⟩) (el.length + 1) cap)) := by
  have hg := h.glt
  have hsz := h.bel.size
  have hvd := own_lt' h.od
  have hve := own_lt' h.oe
  have hl : (el ++ [W.heap.size]).length = el.length + 1 := by simp
  have hW2 : ∀ b, b < W.heap.size → ve.ownBlock ≠ some b → W2.heap[b]? = W.heap[b]? := fun b hb hn => (hgr.block b (by rw [ht.size]; omega) (fun e => hn e.symm)).trans (ht.bel.block b hb)
  have hk : ∀ b, b < W.heap.size → ve.ownBlock ≠ some b → b ≠ g → (W2.setCell ⟨g, 3, none⟩ (.slice (some ⟨gg, 0, none⟩) (el.length + 1) cap)).heap[b]? = W.heap[b]? := fun b hb hn hne => (Below.heap_setCell _ _ _ _ hne).trans (hW2 b hb hn)
  have hnew : (W2.setCell ⟨g, 3, none⟩ (.slice (some ⟨gg, 0, none⟩) (el.length + 1) cap)).heap[W.heap.size]? = some (.cells (madeCells #[Value.slice none 0 0] N) 58 (0, 0)) :=
    (Below.heap_setCell _ _ _ _ (by show W.heap.size ≠ g; omega)).trans ((hgr.block _ (by rw [ht.size]; omega) (fun e => by have := (hve _ e.symm).2; omega)).trans ht.new)
  have hgg : gg ≠ g ∧ gg ≠ W.heap.size ∧ (∀ b, b < W.heap.size → ve.ownBlock ≠ some b → gg ≠ b) := by
    rcases hat with e | e
    · have := hve gg e
      exact ⟨fun e2 => h.ge (by rw [e, e2]), by omega, fun b _ hn e2 => hn (by rw [e, e2])⟩
    · exact ⟨by omega, by omega, fun b hb _ => by omega⟩
  have hob : ∀ b, (Value.slice (some ⟨gg, 0, none⟩) (el.length + 1) cap).ownBlock = some b → gg = b := fun b hb => by injection hb
  have hb2 : Below w0.heap.size w0 W2 := (h.bel.trans (ht.bel.mono hsz)).grown hgr (by rw [ht.size]; omega) (fun k hk => (hve k hk).1)
  refine ⟨?_, h.hg, hb2.setCell h.hg _, ?_, ?_, fun b hb => ?_, fun b hb => ?_, h.nd, ?_, h.gd, fun e => hgg.1 (hob g e), fun b hb e => ?_⟩
  · exact blk_put ((hW2 g hg h.ge).trans h.blk) 3 _ rfl
  · exact own_move h.od (fun k hk2 => hk k (hvd k hk2).2 (fun e => h.de k hk2 e) (fun e => h.gd (by rw [hk2, e])))
  · rw [hl, ← rowsOf_app]
    exact own_move ho (fun k hk2 => Below.heap_setCell _ _ _ _ (fun e => hgg.1 ((hob k hk2).trans e)))
  · obtain ⟨m1, m2, m3, m4, m5, m6⟩ := h.md b hb
    have hlt := blk_lt m6
    exact ⟨m1, m2, m3, fun e => hgg.2.2 b hlt m4 (hob b e), fun hm => (List.mem_append.1 hm).elim m5 (fun hm => by have := List.mem_singleton.1 hm; omega), (hk b hlt m4 m2).trans m6⟩
  · rcases List.mem_append.1 hb with hb | hb
    · obtain ⟨m1, m2, m3, m4, m6⟩ := h.me b hb
      have hlt := blk_lt m6
      exact ⟨m1, m2, m3, fun e => hgg.2.2 b hlt m4 (hob b e), (hk b hlt m4 m2).trans m6⟩
    · obtain rfl := List.mem_singleton.1 hb
      exact ⟨hsz, by omega, fun e => by have := (hvd _ e).2; omega, fun e => hgg.2.1 (hob _ e), hnew⟩
  · exact List.nodup_append.2 ⟨h.ne, by simp, fun a ha b hb e => by
      rw [List.mem_singleton.1 hb] at e
      have := blk_lt (h.me a ha).2.2.2.2
      omega⟩
  · have e1 := hob b e
    subst e1
    rcases hat with e2 | e2
    · exact h.de gg hb e2
    · have := (hvd gg hb).2; omega
end
theorem push_keep {W Wl W2 : World} {o1 : Obj} {v u : Value} {g j gg bp : Nat} (ht : Two W Wl o1) (hgr : Wl.grownBy W2 v.ownBlock) (hat : v.ownBlock = some gg ∨ gg = W.heap.size + 2) (hbp : bp < W.heap.size) (hne : bp ≠ g) (hn : v.ownBlock ≠ some bp) :
    (W2.setCell ⟨g, j, none⟩ u).heap[bp]? = W.heap[bp]? ∧ gg ≠ bp :=
  ⟨(Below.heap_setCell _ _ _ _ hne).trans ((hgr.block bp (by rw [ht.size]; omega) (fun e => hn e.symm)).trans (ht.bel.block bp hbp)), fun e => by
    rcases hat with h | h
    · exact hn (by rw [h, e])
    · omega⟩
theorem info_r : (Try.prog.info? 58).map (fun i => (i.zero, i.size, i.bytes)) = some (some (.slice none 0 0), 1, 24) := by kernel_rfl
theorem info_rr : (Try.prog.info? 86).map (fun i => (i.zero, i.size, i.bytes)) = some (some (.slice none 0 0), 1, 24) := by kernel_rfl
theorem made_get {z : Value} {N i : Nat} (h : i < N) : (madeCells #[z] N)[i]? = some z := by
  simp [madeCells, Nat.mod_one, h]
theorem NwS.sst {m : Mt} {P : Nat} {w0 : World} {V : Value} {s : ByteArray} {g N : Nat} {vd ve : Value} {dl el : List Nat} {W : World} (h : NwS w0 V s g N vd ve dl el W) (hd : dl.length = P) (he : el.length = P) (hP : 0 < P) (hN : m.n + 1 = N) :
    ∃ y : Lay, y.g = g ∧ SSt m P V s w0 y (fun _ => False) W := by
  have hvd := own_lt' h.od
  have hve := own_lt' h.oe
  have hod := h.od
  have hoe := h.oe
  rcases h.od.2 with ⟨_, h0⟩ | ⟨db, cd, _, rfl, _⟩
  · omega
  rcases h.oe.2 with ⟨_, h0⟩ | ⟨eb, ce, _, rfl, _⟩
  · omega
  have hdb := hvd db rfl
  have heb := hve eb rfl
  have hgd : ∀ k, k < P → dl.getD k 0 ∈ dl := fun k hk => by rw [List.getD_eq_getElem?_getD, List.getElem?_eq_getElem (by omega), Option.getD_some]; exact List.getElem_mem _
  have hge : ∀ k, k < P → el.getD k 0 ∈ el := fun k hk => by rw [List.getD_eq_getElem?_getD, List.getElem?_eq_getElem (by omega), Option.getD_some]; exact List.getElem_mem _
  have hin : ∀ (l : List Nat) k k', l.Nodup → k < l.length → k' < l.length → l.getD k 0 = l.getD k' 0 → k = k' := fun l k k' hn h1 h2 e => by
    rw [List.getD_eq_getElem?_getD, List.getD_eq_getElem?_getD, List.getElem?_eq_getElem h1, List.getElem?_eq_getElem h2, Option.getD_some, Option.getD_some] at e
    rcases Nat.lt_trichotomy k k' with c | c | c
    · exact absurd e (List.pairwise_iff_getElem.1 hn k k' h1 h2 c)
    · exact c
    · exact absurd e.symm (List.pairwise_iff_getElem.1 hn k' k h2 h1 c)
  have hdeb : db ≠ eb := fun e => h.de db rfl (by rw [e]; rfl)
  have hgdb : db ≠ g := fun e => h.gd (by rw [e]; rfl)
  have hgeb : eb ≠ g := fun e => h.ge (by rw [e]; rfl)
  refine ⟨⟨W.heap.size, g, db, eb, cd, ce, fun k => dl.getD k 0, fun k => el.getD k 0⟩, rfl, ⟨⟨h.hg, h.glt⟩, ⟨hdb.1, hdb.2, hgdb⟩, ⟨heb.1, heb.2, hgeb, fun e => hdeb e.symm⟩, fun k hk => ?_, fun k hk => ?_, fun k k' hk hk' e => hin dl k k' h.nd (by omega) (by omega) e, fun k k' hk hk' e => hin el k k' h.ne (by omega) (by omega) e, fun k k' hk hk' e => ?_⟩, Nat.le_refl _, ?_, h.bel, fun k hk => ?_, fun k hk => ?_, fun _ _ => false, fun k i hk hi => ?_⟩
  · obtain ⟨m1, m2, m3, m4, m5, m6⟩ := h.md _ (hgd k hk)
    exact ⟨m1, blk_lt m6, m2, fun e => m3 (congrArg some e.symm), fun e => m4 (congrArg some e.symm)⟩
  · obtain ⟨m1, m2, m3, m4, m6⟩ := h.me _ (hge k hk)
    exact ⟨m1, blk_lt m6, m2, fun e => m3 (congrArg some e.symm), fun e => m4 (congrArg some e.symm)⟩
  · exact (h.md _ (hgd k hk)).2.2.2.2.1 (by have e : dl.getD k 0 = el.getD k' 0 := e; rw [e]; exact hge k' hk')
  · have := h.blk
    rw [hd, he] at this
    exact this
  · have hx : (rowsOf N dl)[k]? = some (Value.slice (some ⟨dl.getD k 0, 0, none⟩) N N) := by
      unfold rowsOf
      rw [List.getElem?_map, List.getD_eq_getElem?_getD, List.getElem?_eq_getElem (by omega)]
      rfl
    have hc := hod.cells (g := db) rfl k _ hx
    rw [add_plain] at hc
    rw [hN]
    exact hc
  · have hx : (rowsOf N el)[k]? = some (Value.slice (some ⟨el.getD k 0, 0, none⟩) N N) := by
      unfold rowsOf
      rw [List.getElem?_map, List.getD_eq_getElem?_getD, List.getElem?_eq_getElem (by omega)]
      rfl
    have hc := hoe.cells (g := eb) rfl k _ hx
    rw [add_plain] at hc
    rw [hN]
    exact hc
  · have m6 := (h.md _ (hgd k hk)).2.2.2.2.2
    have e6 := (h.me _ (hge k hk)).2.2.2.2
    exact ⟨⟨(bC m6 i).trans (made_get (by omega)), bF m6 i⟩, _, (bC e6 i).trans (made_get (by omega)), bF e6 i, fun h => by cases h⟩
theorem Two.drew {W Wl : World} {o1 : Obj} (h : Two W Wl o1) : Two W Wl.drew o1 := ⟨lD h.bel, h.size, h.new⟩
theorem s_new (ps : List S85) (A0 : Option Addr) (c0 : Nat) (s : ByteArray) (w : World) (hlen : ps.length ≤ 60) (hs : s.size ≤ 1048576) :
    Calls Try.prog 26 #[.agg #[.slice A0 ps.length c0], .string s] w fun e w' => ∃ g vd ve dl el, e = .returned (.pointer (some ⟨g, 0, none⟩)) ∧ NwS w (.slice A0 ps.length c0) s g (s.size + 1) vd ve dl el w' ∧ dl.length = ps.length ∧ el.length = ps.length := by
  obtain ⟨N, hN⟩ : ∃ N, s.size + 1 = N := ⟨_, rfl⟩
  have hN1 : N ≤ 1048577 := by omega
  have hN2 : N * 1 ≤ 281474976710656 := by rw [Nat.mul_one]; exact Nat.le_trans hN1 (by decide)
  have hN3 : N * 24 ≤ 281474976710656 := by omega
  obtain ⟨W1, e1⟩ : ∃ W1, w.alloc (.cells #[.slice A0 ps.length c0] 30) = W1 := ⟨_, rfl⟩
  have hb1 : Below w.heap.size w W1 := by rw [← e1]; exact (Below.refl _ _).alloc (Nat.le_refl _) _
  have hz1 : W1.heap.size = w.heap.size + 1 := by rw [← e1]; exact Array.size_push ..
  have hx1 : W1.heap[w.heap.size]? = some (.cells #[.slice A0 ps.length c0] 30 (0, 0)) := by rw [← e1]; exact (MapKept.heap_alloc w _).1
  obtain ⟨W2, e2⟩ : ∃ W2, W1.alloc (.cells #[.slice A0 ps.length c0, .string s, .slice none 0 0, .slice none 0 0] 89) = W2 := ⟨_, rfl⟩
  have hb2 : Below W1.heap.size W1 W2 := by rw [← e2]; exact (Below.refl _ _).alloc (Nat.le_refl _) _
  have hx2 : W2.heap[W1.heap.size]? = some (.cells #[.slice A0 ps.length c0, .string s, .slice none 0 0, .slice none 0 0] 89 (0, 0)) := by rw [← e2]; exact (MapKept.heap_alloc W1 _).1
  have hbx : W2.heap[w.heap.size]? = some (.cells #[.slice A0 ps.length c0] 30 (0, 0)) := (hb2.block _ (by omega)).trans hx1
  have hSt : NwS w (.slice A0 ps.length c0) s W1.heap.size N (.slice none 0 0) (.slice none 0 0) [] [] W2 :=
    ⟨hx2, by omega, hb1.trans (hb2.mono (by omega)), ⟨rfl, .inl ⟨rfl, rfl⟩⟩, ⟨rfl, .inl ⟨rfl, rfl⟩⟩, fun b hb => by (cases hb), fun b hb => by (cases hb), by simp, by simp, by simp [Value.ownBlock], by simp [Value.ownBlock], fun b hb => by simp [Value.ownBlock] at hb⟩
  have HS0 := aM hSt
  have HX0 := aM hbx
  have HW1 := aM (show wrap64 ((s.size : Int) + 1) = (N : Int) ∧ IntKind.i64.wrap ((s.size : Int) + 1) = (N : Int) from ⟨by rw [← hN]; exact inc64 _ (by omega), by rw [IntWalk.i64_in _ (by omega), ← hN]; push_cast; rfl⟩)
  have HV := aM (show ps.length ≤ 60 ∧ W1.heap.size = w.heap.size + 1 ∧ N ≤ 1048577 from ⟨hlen, hz1, hN1⟩)
  have hmk1 := fun W => print_make_of (P := Try.prog) 58 4 (.bool false) 1 Try.underlying58 (by kernel_rfl) rfl (by decide) N hN2 W
  have hmk2 := fun W => print_make_of (P := Try.prog) 86 58 (.slice none 0 0) 24 Try.underlying86 info_r rfl (by decide) N hN3 W
  obtain ⟨i0, hi0, hz0, hzz1, hzz2⟩ := info_parts info_r
  obtain ⟨j0, hj0, hy0, hy1, hy2⟩ := info_parts info_rr
  have y0 : W1.cell? ⟨w.heap.size, 0, none⟩ = some (.slice A0 ps.length c0) := (bC hx1 0).trans rfl
  have q0 : W2.cell? ⟨w.heap.size, 0, none⟩ = some (.slice A0 ps.length c0) := (bC hbx 0).trans rfl
  rw [hN]
  clear hb1 hx1 hb2 hx2 hbx hSt hlen hs hN hN1 hN2 hN3 hz1
  go_enter Try.func26, Try.ntmps26
  go_wp2_with fail
  clear y0 q0
  go_loopg [6] ps.length (fun gk v6 w' => ∃ (i : Nat) (vd ve : Value) (dl el : List Nat), v6 = .int .i64 (i : Int) ∧ Aside0 (i + gk = ps.length) ∧ Aside0 (NwS w (.slice A0 ps.length c0) s W1.heap.size N vd ve dl el w') ∧ Aside0 (dl.length = i ∧ el.length = i) ∧ Aside0 (w'.heap[w.heap.size]? = some (.cells #[.slice A0 ps.length c0] 30 (0, 0)) ∧ vd.ownBlock ≠ some w.heap.size ∧ ve.ownBlock ≠ some w.heap.size))
  case atStart => exact ⟨0, _, _, [], [], rfl, aM (by omega), HS0, aM ⟨rfl, rfl⟩, aM ⟨HX0.out, by simp [Value.ownBlock], by simp [Value.ownBlock]⟩⟩
  case round =>
    clear HS0 HX0
    obtain ⟨i, vd, ve, dl, el, rfl, HI, HS, HL, HX⟩ := hrel
    have q0 : wr.cell? ⟨w.heap.size, 0, none⟩ = some (.slice A0 ps.length c0) := (bC HX.out.1 0).trans rfl
    obtain ⟨⟨v0, v1, v2, v3⟩, u0, u1, u2, u3⟩ := bC4 HS.out.blk
    by_cases c9 : i < ps.length
    · cases gk with
      | zero => have := HI.out; omega
      | succ k1 =>
        have g1 : decide ((i : Int) < (ps.length : Int)) = true := decide_eq_true (by omega)
        have g2 : ((i : Int) < (ps.length : Int)) = True := eq_true (by omega)
        have hlt : W1.heap.size < wr.heap.size := HS.out.glt
        clear c9
        have HTa := aM (Two.mk' wr (.cells (madeCells #[Value.bool false] N) 4) (.cells #[.slice (some ⟨wr.heap.size, 0, none⟩) N N] 58)).drew
        have hsza : (wr.alloc (.cells (madeCells #[Value.bool false] N) 4)).heap.size = wr.heap.size + 1 := Array.size_push ..
        have HOWNa := aM (show (((wr.alloc (.cells (madeCells #[Value.bool false] N) 4)).alloc (.cells #[.slice (some ⟨wr.heap.size, 0, none⟩) N N] 58)).drew).ownsRow w.heap.size 58 1 vd dl.length (rowsOf N dl) from own_drew ((HS.out.od.alloc _).alloc _))
        have HNEWa := aM (show ∀ j u, ([Value.slice (some ⟨wr.heap.size, 0, none⟩) N N] : List Value)[j]? = some u → (((wr.alloc (.cells (madeCells #[Value.bool false] N) 4)).alloc (.cells #[.slice (some ⟨wr.heap.size, 0, none⟩) N N] 58)).drew).cell? ((⟨wr.heap.size + 1, 0, none⟩ : Addr).add j) = some u from World.news_of_block (cs := #[.slice (some ⟨wr.heap.size, 0, none⟩) N N]) (t := 58) (fr := (0, 0)) (by rw [← hsza]; exact heap_alloc_new _ _))
        have HONEa := aM (show ∀ u ∈ ([Value.slice (some ⟨wr.heap.size, 0, none⟩) N N] : List Value), u.oneCell' = true from by simp [Value.oneCell'])
        have HMXa := aM (show dl.length + 1 ≤ maxLen ∧ (dl.length + 1) * 24 ≤ 140737488355328 from by have := HL.out; have := HI.out; have := HV.out; unfold maxLen; omega)
        have HBSa := aM (show w.heap.size ≤ (((wr.alloc (.cells (madeCells #[Value.bool false] N) 4)).alloc (.cells #[.slice (some ⟨wr.heap.size, 0, none⟩) N N] 58)).drew).heap.size from by have := HTa.out.size; have := HS.out.bel.size; omega)
        have HHa := aM (show (((wr.alloc (.cells (madeCells #[Value.bool false] N) 4)).alloc (.cells #[.slice (some ⟨wr.heap.size, 0, none⟩) N N] 58)).drew).heap.size = wr.heap.size + 2 from HTa.out.size)
        obtain ⟨hw1, hw2⟩ := HW1.out
        clear hsza
        go_wp2_with fail
        go_region_law ((refine step_append_lies _ (by rfl) _ _ _ (by rfl) w.heap.size 58 i0 _ 1 24 Try.underlying86 hi0 hz0 hzz1 hzz2 rfl (by omega) vd dl.length (rowsOf N dl) (by rfl) HOWNa.out ⟨wr.heap.size + 1, 0, none⟩ 1 1 [Value.slice (some ⟨wr.heap.size, 0, none⟩) N N] (by rfl) (by rfl) HNEWa.out HONEa.out (by omega) HMXa.out.1 HMXa.out.2 HBSa.out (wr.heap.size + 2) HHa.out ?_; intro gg cap w3 hown3 hgr3 hat3 hlt3; have HOW3 := aM hown3; have HGR3 := aM hgr3; have HAT3 := aM hat3; have hbk3 := aM ((hgr3.block W1.heap.size (by rw [HHa.out]; omega) (fun e => HS.out.gd e.symm)).trans ((HTa.out.bel.block _ hlt).trans HS.out.blk)); obtain ⟨⟨z0, z1, z2, z3⟩, t0, t1, t2, t3⟩ := bC4 hbk3.out; clear hown3 hgr3 hat3 hlt3))
        all_goals
          have hS4 := HS.out.pushD HTa.out HGR3.out HAT3.out HOW3.out
          have hK4 := push_keep (j := 2) (g := W1.heap.size) (bp := w.heap.size) (u := .slice (some ⟨gg, 0, none⟩) (dl.length + 1) cap) HTa.out HGR3.out HAT3.out (by have := HV.out; omega) (by have := HV.out; omega) HX.out.2.1
          obtain ⟨W4, e4⟩ : ∃ W4, w3.setCell ⟨W1.heap.size, 2, none⟩ (.slice (some ⟨gg, 0, none⟩) (dl.length + 1) cap) = W4 := ⟨_, rfl⟩
          rw [e4] at hS4 hK4 ⊢
          have HS4 := aM hS4
          have HX4 := aM (show W4.heap[w.heap.size]? = some (.cells #[.slice A0 ps.length c0] 30 (0, 0)) ∧ gg ≠ w.heap.size ∧ ve.ownBlock ≠ some w.heap.size from ⟨hK4.1.trans HX.out.1, hK4.2, HX.out.2.2⟩)
          clear hS4 hK4 e4 z0 z1 z2 z3 t0 t1 t2 t3 q0 v0 v1 v2 v3 u0 u1 u2 u3 hw1 hw2 hlt HOWNa HNEWa HONEa HMXa HBSa HHa HOW3 HGR3 HAT3 hbk3 HTa
          have hlt : W1.heap.size < W4.heap.size := HS4.out.glt
          obtain ⟨⟨v0, v1, v2, v3⟩, u0, u1, u2, u3⟩ := bC4 HS4.out.blk
          have q0 : W4.cell? ⟨w.heap.size, 0, none⟩ = some (.slice A0 ps.length c0) := (bC HX4.out.1 0).trans rfl
          have HTb := aM (Two.mk' W4 (.cells (madeCells #[Value.slice none 0 0] N) 58) (.cells #[.slice (some ⟨W4.heap.size, 0, none⟩) N N] 86)).drew
          have hszb : (W4.alloc (.cells (madeCells #[Value.slice none 0 0] N) 58)).heap.size = W4.heap.size + 1 := Array.size_push ..
          have HOWNb := aM (show (((W4.alloc (.cells (madeCells #[Value.slice none 0 0] N) 58)).alloc (.cells #[.slice (some ⟨W4.heap.size, 0, none⟩) N N] 86)).drew).ownsRow w.heap.size 86 1 ve el.length (rowsOf N el) from own_drew ((HS4.out.oe.alloc _).alloc _))
          have HNEWb := aM (show ∀ j u, ([Value.slice (some ⟨W4.heap.size, 0, none⟩) N N] : List Value)[j]? = some u → (((W4.alloc (.cells (madeCells #[Value.slice none 0 0] N) 58)).alloc (.cells #[.slice (some ⟨W4.heap.size, 0, none⟩) N N] 86)).drew).cell? ((⟨W4.heap.size + 1, 0, none⟩ : Addr).add j) = some u from World.news_of_block (cs := #[.slice (some ⟨W4.heap.size, 0, none⟩) N N]) (t := 86) (fr := (0, 0)) (by rw [← hszb]; exact heap_alloc_new _ _))
          have HONEb := aM (show ∀ u ∈ ([Value.slice (some ⟨W4.heap.size, 0, none⟩) N N] : List Value), u.oneCell' = true from by simp [Value.oneCell'])
          have HMXb := aM (show el.length + 1 ≤ maxLen ∧ (el.length + 1) * 24 ≤ 140737488355328 from by have := HL.out; have := HI.out; have := HV.out; unfold maxLen; omega)
          have HBSb := aM (show w.heap.size ≤ (((W4.alloc (.cells (madeCells #[Value.slice none 0 0] N) 58)).alloc (.cells #[.slice (some ⟨W4.heap.size, 0, none⟩) N N] 86)).drew).heap.size from by have := HTb.out.size; have := HS4.out.bel.size; omega)
          have HHb := aM (show (((W4.alloc (.cells (madeCells #[Value.slice none 0 0] N) 58)).alloc (.cells #[.slice (some ⟨W4.heap.size, 0, none⟩) N N] 86)).drew).heap.size = W4.heap.size + 2 from HTb.out.size)
          obtain ⟨hw1, hw2⟩ := HW1.out
          clear hszb
          go_wp2_with fail
          go_region_law ((refine step_append_lies _ (by rfl) _ _ _ (by rfl) w.heap.size 86 j0 _ 1 24 Try.underlying87 hj0 hy0 hy1 hy2 rfl (by omega) ve el.length (rowsOf N el) (by rfl) HOWNb.out ⟨W4.heap.size + 1, 0, none⟩ 1 1 [Value.slice (some ⟨W4.heap.size, 0, none⟩) N N] (by rfl) (by rfl) HNEWb.out HONEb.out (by omega) HMXb.out.1 HMXb.out.2 HBSb.out (W4.heap.size + 2) HHb.out ?_; intro gh cap2 w5 hown5 hgr5 hat5 hlt5; have HOW5 := aM hown5; have HGR5 := aM hgr5; have HAT5 := aM hat5; have hbk5 := aM ((hgr5.block W1.heap.size (by rw [HHb.out]; omega) (fun e => HS4.out.ge e.symm)).trans ((HTb.out.bel.block _ hlt).trans HS4.out.blk)); obtain ⟨⟨z0, z1, z2, z3⟩, t0, t1, t2, t3⟩ := bC4 hbk5.out; clear hown5 hgr5 hat5 hlt5))
          all_goals
            have hS6 := HS4.out.pushE HTb.out HGR5.out HAT5.out HOW5.out
            have hK6 := push_keep (j := 3) (g := W1.heap.size) (bp := w.heap.size) (u := .slice (some ⟨gh, 0, none⟩) (el.length + 1) cap2) HTb.out HGR5.out HAT5.out (by have := HV.out; omega) (by have := HV.out; omega) HX4.out.2.2
            obtain ⟨W6, e6⟩ : ∃ W6, w5.setCell ⟨W1.heap.size, 3, none⟩ (.slice (some ⟨gh, 0, none⟩) (el.length + 1) cap2) = W6 := ⟨_, rfl⟩
            rw [e6] at hS6 hK6 ⊢
            have HS6 := aM hS6
            have HX6 := aM (show W6.heap[w.heap.size]? = some (.cells #[.slice A0 ps.length c0] 30 (0, 0)) ∧ (Value.slice (some ⟨gg, 0, none⟩) (dl.length + 1) cap).ownBlock ≠ some w.heap.size ∧ (Value.slice (some ⟨gh, 0, none⟩) (el.length + 1) cap2).ownBlock ≠ some w.heap.size from ⟨hK6.1.trans HX4.out.1, fun e => HX4.out.2.1 (by injection e), fun e => hK6.2 (by injection e)⟩)
            have HIL := aM (show i ≤ 1000000000000000 by have := HI.out; have := HV.out; omega)
            clear hS6 hK6 e6 z0 z1 z2 z3 t0 t1 t2 t3 q0 v0 v1 v2 v3 u0 u1 u2 u3 hw1 hw2 hlt HOWNb HNEWb HONEb HMXb HBSb HHb HOW5 HGR5 HAT5 hbk5 HTb
            go_wp2
            go_roundg k1
            case measure => omega
            case rel => exact ⟨i + 1, _, _, _, _, by rw [inc64 i HIL.out], aM (by have := HI.out; omega), HS6, aM ⟨by rw [List.length_append, List.length_singleton, HL.out.1], by rw [List.length_append, List.length_singleton, HL.out.2]⟩, HX6⟩
    · have hi := HI.out
      have HF := aM (show ∃ g vd' ve' dl' el', Ending.returned (.pointer (some ⟨W1.heap.size, 0, none⟩)) = .returned (.pointer (some ⟨g, 0, none⟩)) ∧ NwS w (.slice A0 ps.length c0) s g N vd' ve' dl' el' wr ∧ dl'.length = ps.length ∧ el'.length = ps.length from ⟨_, vd, ve, dl, el, rfl, HS.out, by have := HL.out; omega, by have := HL.out; omega⟩)
      have g1 : decide ((i : Int) < (ps.length : Int)) = false := decide_eq_false (by omega)
      have g2 : ((i : Int) < (ps.length : Int)) = False := eq_false (by omega)
      clear hi c9
      go_wp2
      go_ret
      exact HF.out
theorem list_l0 (f : Nat → Bool) (N : Nat) (hN : N ≤ 1048577) : ∀ (r j : Nat) (acc : List Int), j + r = N → acc.length ≤ j →
    spec_l04List.l0 (r + 1) ((List.range N).map f) acc (j : Int) = some (acc ++ ints (((List.range N).drop j).filter f))
  | 0, j, acc, h, _ => by
    unfold spec_l04List.l0
    rw [if_neg (by rw [List.length_map, List.length_range]; omega), List.drop_eq_nil_of_le (by rw [List.length_range]; omega)]
    simp [ints]
  | r + 1, j, acc, h, ha => by
    have hlt : j < (List.range N).length := by rw [List.length_range]; omega
    have hd : (List.range N).drop j = j :: (List.range N).drop (j + 1) := by rw [List.drop_eq_getElem_cons hlt, List.getElem_range]
    have hrd : rdOf false ((List.range N).map f) (j : Int) = f j := by
      unfold rdOf
      rw [Int.toNat_natCast, List.getD_eq_getElem?_getD, List.getElem?_map, List.getElem?_range (by omega)]
      rfl
    show spec_l04List.l0 ((r + 1) + 1) _ _ _ = _
    unfold spec_l04List.l0
    rw [if_pos (by rw [List.length_map, List.length_range]; omega), if_pos (by omega), hrd, inc64 j (by omega), hd]
    cases hf : f j with
    | true =>
      rw [if_pos rfl, if_pos (by omega), list_l0 f N hN r (j + 1) (acc ++ [(j : Int)]) (by omega) (by rw [List.length_append, List.length_singleton]; omega), List.filter_cons_of_pos (by rw [hf])]
      simp [ints]
    | false =>
      rw [if_neg (by decide), list_l0 f N hN r (j + 1) acc (by omega) (by omega), List.filter_cons_of_neg (by rw [hf]; decide)]
open Classical in
theorem list_V (m : Mt) (k i : Nat) (hn : m.n ≤ 1048576) : spec_l04List.f (m.n + 2) (m.V k i) = some (ints (m.L k i)) := by
  unfold spec_l04List.f Mt.V Mt.L
  have := list_l0 (fun e => decide (m.N k i e)) (m.n + 1) (by omega) (m.n + 1) 0 [] (by omega) (by simp)
  rw [List.drop_zero, List.nil_append] at this
  exact this
theorem ownV_C {W : World} {base c : Nat} {A : Option Addr} {l : List Bool} (h : OwnV W base (.slice A l.length c) l) : Kd.C Kd.bool W A l.length l ∧ l.length ≤ c := by
  obtain ⟨A', c', e, hle, hr⟩ := own_reads_of_le (d := false) h
  injection e with e1 _ e3
  subst e1 e3
  exact ⟨Kd.C_of_reads (d := false) (h1 := fun _ => rfl) hr, hle⟩
theorem s_in1 (a n : Int) (h0 : 0 ≤ a) (h1 : a ≤ n) : spec_l01In.f a 0 n = some true := by
  unfold spec_l01In.f; rw [if_pos (by omega), decide_eq_true (by omega)]
/-- spec.EndsAt at a right pattern, piece and place. -/
theorem s_EndsAt {ps : List S85} (h : PsOk ps) (htx : ∀ k : Nat, k < ps.length → (rd_T85 ps k).f1.size ≤ 1048576) (A0 : Option Addr) (c0 : Nat) (s : ByteArray) (k i K : Nat) (w : World) (hk : k < ps.length) (hi : i ≤ s.size) (hs : s.size ≤ 1048576) (hc0 : ps.length ≤ c0) (hR : Kd.C k85 w A0 ps.length ps) (hP : spec_PatternOk.f K ps = some true) :
    Calls Try.prog 12 #[.agg #[.slice A0 ps.length c0], .int .i64 (k : Int), .string s, .int .i64 (i : Int)] w fun e w' => ∃ v, e = .returned v ∧ OwnI w' w.heap.size v (ints ((mtOf ps s).L k i)) ∧ Below w.heap.size w w' := by
  have hw1 := s_in1 (k : Int) ((ps.length : Int) - 1) (by omega) (by omega)
  have hw2 := s_in1 (i : Int) (s.size : Int) (by omega) (by omega)
  have HW1 := aM hw1; have HW2 := aM hw2
  have HR := aM hR; have HP := aM hP; have HC := aM hc0; have HH := aM h; have HTX := aM htx
  have HV := aM (show k < ps.length ∧ i ≤ s.size ∧ s.size ≤ 1048576 from ⟨hk, hi, hs⟩)
  have wn : wrap64 ((ps.length : Int) - 1) = (ps.length : Int) - 1 := IntWalk.wrap64_in _ (by have := h.len; omega)
  obtain ⟨W1, hW1⟩ : ∃ W1, w.alloc (.cells #[.slice A0 ps.length c0] 30) = W1 := ⟨_, rfl⟩
  have hB1 : Below w.heap.size w W1 := by rw [← hW1]; exact (Below.refl _ _).alloc (Nat.le_refl _) _
  have hx1 : W1.heap[w.heap.size]? = some (.cells #[.slice A0 ps.length c0] 30 (0, 0)) := by rw [← hW1]; exact (MapKept.heap_alloc w _).1
  have HB1 := aM hB1; have HX1 := aM hx1
  have HR1 := aM (Kd.C_below hR hB1)
  have y0 : W1.cell? ⟨w.heap.size, 0, none⟩ = some (.slice A0 ps.length c0) := (bC hx1 0).trans rfl
  clear hx1 hB1 hw1 hw2 hR hP hc0 h htx hk hi hs
  go_enter Try.func12, Try.ntmps12
  go_wp2_with fail
  refine (spec_PatternOk.calls K A0 c0 ps true _ HR1.out HC.out HP.out).mono ?_
  rintro e W2 ⟨rfl, hb2⟩
  have hy : W2.heap[w.heap.size]? = some (.cells #[.slice A0 ps.length c0] 30 (0, 0)) := (hb2.block _ (blk_lt HX1.out)).trans HX1.out
  have y1 : W2.cell? ⟨w.heap.size, 0, none⟩ = some (.slice A0 ps.length c0) := (bC hy 0).trans rfl
  have HB2 := aM hb2; have HY := aM hy
  clear hb2 hy y0
  go_wp2_with fail
  refine (spec_l01In.calls (k : Int) 0 ((ps.length : Int) - 1) true _ HW1.out).mono ?_
  rintro e w' ⟨rfl, ⟨nd, rfl⟩⟩
  go_wp2_with fail
  refine (spec_l01In.calls (i : Int) 0 (s.size : Int) true _ HW2.out).mono ?_
  rintro e w' ⟨rfl, ⟨nd2, rfl⟩⟩
  obtain ⟨W3, hW3⟩ : ∃ W3, (W2.drewN nd).drewN nd2 = W3 := ⟨_, rfl⟩
  have hB3 : Below w.heap.size w W3 := by rw [← hW3]; exact lN (lN (HB1.out.trans (HB2.out.mono HB1.out.size)) _) _
  have y2 : W3.cell? ⟨w.heap.size, 0, none⟩ = some (.slice A0 ps.length c0) := by rw [← hW3]; exact y1
  have HR3 := aM (show Kd.C k85 W3 A0 ps.length ps from Kd.C_below HR1.out (HB2.out.trans (by rw [← hW3]; exact lN (lN (Below.refl _ _) _) _)))
  have HB3 := aM hB3
  have HN := aM (s_new ps A0 c0 s W3 HH.out.len HV.out.2.2)
  clear y1 hB3
  go_wp2_with fail
  refine HN.out.mono ?_
  rintro e W4 ⟨g, vd, ve, dl, el, rfl, hS4, hdl, hel⟩
  obtain ⟨y, hyg, hSS⟩ := hS4.sst (m := mtOf ps s) hdl hel (by have := HV.out; omega) rfl
  subst hyg
  have HB4 := aM (HB3.out.trans (hS4.bel.mono HB3.out.size))
  have hcall := s_all HH.out HTX.out A0 c0 s W3 y HV.out.2.2 HC.out HR3.out ps.length (Nat.le_refl _) k i (fun _ => False) W4 HV.out.1 HV.out.2.1 hSS (fun _ h => h.elim)
  have HCALL := aM hcall
  have HLV := aM (list_V (mtOf ps s) k i HV.out.2.2)
  have HYW := aM (show y.N0 ≤ W4.heap.size ∧ W3.heap.size ≤ y.g ∧ Below W3.heap.size W3 W4 from ⟨hSS.n0, hSS.lay.g0.1, hS4.bel⟩)
  clear hS4 hdl hel hSS hcall y2
  go_wp2_with fail
  refine HCALL.out.mono ?_
  rintro e W5 ⟨A5, c5, rfl, ho5, hn5, hs5, hx5⟩
  obtain ⟨hc5, hl5⟩ := ownV_C ho5
  have HC5 := aM hc5; have HL5 := aM hl5
  have HB5 := aM (show Below w.heap.size w W5 from HB3.out.trans (hs5.bel.mono HB3.out.size))
  clear ho5 hn5 hs5 hx5 hc5 hl5
  go_wp2_with fail
  refine (spec_l04List.calls _ A5 c5 _ _ W5 HC5.out HL5.out HLV.out).mono ?_
  rintro e W6 ⟨v6, rfl, hr6, hb6⟩
  have HF := aM (show ∃ v, Ending.returned v6 = .returned v ∧ OwnI W6 w.heap.size v (ints ((mtOf ps s).L k i)) ∧ Below w.heap.size w W6 from ⟨v6, rfl, (own_of_R hr6).lower HB5.out.size, HB5.out.trans (hb6.mono HB5.out.size)⟩)
  clear hr6 hb6
  go_wp2_with fail
  go_ret
  exact HF.out
def EaR (w : World) (l : List Nat) (e : Ending) (w' : World) : Prop := ∃ v, e = .returned v ∧ OwnI w' w.heap.size v (ints l) ∧ Below w.heap.size w w'
theorem own_emptyI (W : World) (base : Nat) (hb : base ≤ W.heap.size) : OwnI (W.alloc (.cells #[] 3)) base (.slice (some ⟨W.heap.size, 0, none⟩) 0 0) (ints []) :=
  ⟨rfl, .inr ⟨W.heap.size, 0, #[], rfl, hb, (MapKept.heap_alloc W _).1, Nat.le_refl _, by simp [maxLen], rfl, rfl⟩⟩
theorem own_emptyI' {w W : World} (h : Below w.heap.size w W) : EaR w [] (.returned (.slice (some ⟨W.heap.size, 0, none⟩) 0 0)) (W.alloc (.cells #[] 3)) := ⟨_, rfl, own_emptyI W _ h.size, h.alloc h.size _⟩
theorem own_nilI' {w W : World} (h : Below w.heap.size w W) : EaR w [] (.returned (.slice none 0 0)) W := ⟨_, rfl, own_nil W _, h⟩
theorem m_EndsAt0 (ps : List S85) (A0 : Option Addr) (c0 : Nat) (s : ByteArray) (a1 a3 : Int) (K : Nat) (w : World) (hc0 : ps.length ≤ c0) (hR : Kd.C k85 w A0 ps.length ps) (hP : impl_PatternOk.f K ps = some false) :
    Calls Try.prog 13 #[.agg #[.slice A0 ps.length c0], .int .i64 a1, .string s, .int .i64 a3] w (EaR w []) := by
  have HP := aM hP; have HC := aM hc0
  obtain ⟨W1, hW1⟩ : ∃ W1, w.alloc (.cells #[.slice A0 ps.length c0] 30) = W1 := ⟨_, rfl⟩
  have hB1 : Below w.heap.size w W1 := by rw [← hW1]; exact (Below.refl _ _).alloc (Nat.le_refl _) _
  have hx1 : W1.heap[w.heap.size]? = some (.cells #[.slice A0 ps.length c0] 30 (0, 0)) := by rw [← hW1]; exact (MapKept.heap_alloc w _).1
  have HB1 := aM hB1; have HX1 := aM hx1
  have HR1 := aM (Kd.C_below hR hB1)
  have y0 : W1.cell? ⟨w.heap.size, 0, none⟩ = some (.slice A0 ps.length c0) := (bC hx1 0).trans rfl
  clear hx1 hB1 hR hP hc0
  go_enter Try.func13, Try.ntmps13
  go_wp2_with fail
  refine (impl_PatternOk.calls K A0 c0 ps false _ HR1.out HC.out HP.out).mono ?_
  rintro e W2 ⟨rfl, hb2⟩
  have HB2 := aM (HB1.out.trans (hb2.mono HB1.out.size))
  clear hb2 y0
  have HF := aM (own_nilI' HB2.out)
  go_wp2_with fail
  go_ret
  first | exact HF.out | (have h9 := HF.out; simpa using h9)
theorem m_EndsAt1 (ps : List S85) (A0 : Option Addr) (c0 : Nat) (s : ByteArray) (a1 a3 : Int) (K : Nat) (w : World) (hc0 : ps.length ≤ c0) (hR : Kd.C k85 w A0 ps.length ps) (hP : impl_PatternOk.f K ps = some true) (hl : ps.length ≤ 60) (h1 : impl_within.f a1 0 ((ps.length : Int) - 1) = some false) :
    Calls Try.prog 13 #[.agg #[.slice A0 ps.length c0], .int .i64 a1, .string s, .int .i64 a3] w (EaR w []) := by
  have wn : wrap64 ((ps.length : Int) - 1) = (ps.length : Int) - 1 := IntWalk.wrap64_in _ (by omega)
  have HW1 := aM h1
  have HP := aM hP; have HC := aM hc0
  obtain ⟨W1, hW1⟩ : ∃ W1, w.alloc (.cells #[.slice A0 ps.length c0] 30) = W1 := ⟨_, rfl⟩
  have hB1 : Below w.heap.size w W1 := by rw [← hW1]; exact (Below.refl _ _).alloc (Nat.le_refl _) _
  have hx1 : W1.heap[w.heap.size]? = some (.cells #[.slice A0 ps.length c0] 30 (0, 0)) := by rw [← hW1]; exact (MapKept.heap_alloc w _).1
  have HB1 := aM hB1; have HX1 := aM hx1
  have HR1 := aM (Kd.C_below hR hB1)
  have y0 : W1.cell? ⟨w.heap.size, 0, none⟩ = some (.slice A0 ps.length c0) := (bC hx1 0).trans rfl
  clear hx1 hB1 hR hP hc0 hl h1
  go_enter Try.func13, Try.ntmps13
  go_wp2_with fail
  refine (impl_PatternOk.calls K A0 c0 ps true _ HR1.out HC.out HP.out).mono ?_
  rintro e W2 ⟨rfl, hb2⟩
  have HB2 := aM (HB1.out.trans (hb2.mono HB1.out.size))
  have hy : W2.heap[w.heap.size]? = some (.cells #[.slice A0 ps.length c0] 30 (0, 0)) := (hb2.block _ (blk_lt HX1.out)).trans HX1.out
  have y1 : W2.cell? ⟨w.heap.size, 0, none⟩ = some (.slice A0 ps.length c0) := (bC hy 0).trans rfl
  clear hb2 hy y0
  go_wp2_with fail
  refine (impl_within.calls a1 0 ((ps.length : Int) - 1) false _ HW1.out).mono ?_
  rintro e w' ⟨rfl, ⟨nd, rfl⟩⟩
  have HF := aM (own_nilI' (lN HB2.out nd))
  go_wp2_with fail
  go_ret
  first | exact HF.out | (have h9 := HF.out; simpa using h9)
theorem m_EndsAt2 (ps : List S85) (A0 : Option Addr) (c0 : Nat) (s : ByteArray) (a1 a3 : Int) (K : Nat) (w : World) (hc0 : ps.length ≤ c0) (hR : Kd.C k85 w A0 ps.length ps) (hP : impl_PatternOk.f K ps = some true) (hl : ps.length ≤ 60) (h1 : impl_within.f a1 0 ((ps.length : Int) - 1) = some true) (h2 : impl_within.f a3 0 (s.size : Int) = some false) :
    Calls Try.prog 13 #[.agg #[.slice A0 ps.length c0], .int .i64 a1, .string s, .int .i64 a3] w (EaR w []) := by
  have wn : wrap64 ((ps.length : Int) - 1) = (ps.length : Int) - 1 := IntWalk.wrap64_in _ (by omega)
  have HW1 := aM h1
  have HW2 := aM h2
  have HP := aM hP; have HC := aM hc0
  obtain ⟨W1, hW1⟩ : ∃ W1, w.alloc (.cells #[.slice A0 ps.length c0] 30) = W1 := ⟨_, rfl⟩
  have hB1 : Below w.heap.size w W1 := by rw [← hW1]; exact (Below.refl _ _).alloc (Nat.le_refl _) _
  have hx1 : W1.heap[w.heap.size]? = some (.cells #[.slice A0 ps.length c0] 30 (0, 0)) := by rw [← hW1]; exact (MapKept.heap_alloc w _).1
  have HB1 := aM hB1; have HX1 := aM hx1
  have HR1 := aM (Kd.C_below hR hB1)
  have y0 : W1.cell? ⟨w.heap.size, 0, none⟩ = some (.slice A0 ps.length c0) := (bC hx1 0).trans rfl
  clear hx1 hB1 hR hP hc0 hl h1 h2
  go_enter Try.func13, Try.ntmps13
  go_wp2_with fail
  refine (impl_PatternOk.calls K A0 c0 ps true _ HR1.out HC.out HP.out).mono ?_
  rintro e W2 ⟨rfl, hb2⟩
  have HB2 := aM (HB1.out.trans (hb2.mono HB1.out.size))
  have hy : W2.heap[w.heap.size]? = some (.cells #[.slice A0 ps.length c0] 30 (0, 0)) := (hb2.block _ (blk_lt HX1.out)).trans HX1.out
  have y1 : W2.cell? ⟨w.heap.size, 0, none⟩ = some (.slice A0 ps.length c0) := (bC hy 0).trans rfl
  clear hb2 hy y0
  go_wp2_with fail
  refine (impl_within.calls a1 0 ((ps.length : Int) - 1) true _ HW1.out).mono ?_
  rintro e w' ⟨rfl, ⟨nd, rfl⟩⟩
  go_wp2_with fail
  refine (impl_within.calls a3 0 (s.size : Int) false _ HW2.out).mono ?_
  rintro e w' ⟨rfl, ⟨nd2, rfl⟩⟩
  have HF := aM (own_nilI' (lN (lN HB2.out nd) nd2))
  go_wp2_with fail
  go_ret
  first | exact HF.out | (have h9 := HF.out; simpa using h9)
theorem m_FindIn0 (ps : List S85) (A0 : Option Addr) (c0 : Nat) (s : ByteArray) (K : Nat) (w : World) (hc0 : ps.length ≤ c0) (hR : Kd.C k85 w A0 ps.length ps) (hP : impl_PatternOk.f K ps = some false) :
    Calls Try.prog 10 #[.agg #[.slice A0 ps.length c0], .string s] w fun e w' => e = .returned (.tuple #[.int .i64 0, .int .i64 0, .bool false]) ∧ Below w.heap.size w w' := by
  have HP := aM hP; have HC := aM hc0
  obtain ⟨W1, hW1⟩ : ∃ W1, w.alloc (.cells #[.slice A0 ps.length c0] 30) = W1 := ⟨_, rfl⟩
  have hB1 : Below w.heap.size w W1 := by rw [← hW1]; exact (Below.refl _ _).alloc (Nat.le_refl _) _
  have hx1 : W1.heap[w.heap.size]? = some (.cells #[.slice A0 ps.length c0] 30 (0, 0)) := by rw [← hW1]; exact (MapKept.heap_alloc w _).1
  have HB1 := aM hB1; have HX1 := aM hx1
  have HR1 := aM (Kd.C_below hR hB1)
  have y0 : W1.cell? ⟨w.heap.size, 0, none⟩ = some (.slice A0 ps.length c0) := (bC hx1 0).trans rfl
  clear hx1 hB1 hR hP hc0
  go_enter Try.func10, Try.ntmps10
  go_wp2_with fail
  refine (impl_PatternOk.calls K A0 c0 ps false _ HR1.out HC.out HP.out).mono ?_
  rintro e W2 ⟨rfl, hb2⟩
  have HB2 := aM (HB1.out.trans (hb2.mono HB1.out.size))
  clear hb2 y0
  go_wp2_with fail
  go_ret3
  exact ⟨rfl, HB2.out⟩
theorem s_EndsAt0 (ps : List S85) (A0 : Option Addr) (c0 : Nat) (s : ByteArray) (a1 a3 : Int) (K : Nat) (w : World) (hc0 : ps.length ≤ c0) (hR : Kd.C k85 w A0 ps.length ps) (hP : spec_PatternOk.f K ps = some false) :
    Calls Try.prog 12 #[.agg #[.slice A0 ps.length c0], .int .i64 a1, .string s, .int .i64 a3] w (EaR w []) := by
  have HP := aM hP; have HC := aM hc0
  obtain ⟨W1, hW1⟩ : ∃ W1, w.alloc (.cells #[.slice A0 ps.length c0] 30) = W1 := ⟨_, rfl⟩
  have hB1 : Below w.heap.size w W1 := by rw [← hW1]; exact (Below.refl _ _).alloc (Nat.le_refl _) _
  have hx1 : W1.heap[w.heap.size]? = some (.cells #[.slice A0 ps.length c0] 30 (0, 0)) := by rw [← hW1]; exact (MapKept.heap_alloc w _).1
  have HB1 := aM hB1; have HX1 := aM hx1
  have HR1 := aM (Kd.C_below hR hB1)
  have y0 : W1.cell? ⟨w.heap.size, 0, none⟩ = some (.slice A0 ps.length c0) := (bC hx1 0).trans rfl
  clear hx1 hB1 hR hP hc0
  go_enter Try.func12, Try.ntmps12
  go_wp2_with fail
  refine (spec_PatternOk.calls K A0 c0 ps false _ HR1.out HC.out HP.out).mono ?_
  rintro e W2 ⟨rfl, hb2⟩
  have HB2 := aM (HB1.out.trans (hb2.mono HB1.out.size))
  clear hb2 y0
  have HF := aM (own_emptyI' HB2.out)
  go_wp2_with fail
  go_ret
  first | exact HF.out | (have h9 := HF.out; simpa using h9)
theorem s_EndsAt1 (ps : List S85) (A0 : Option Addr) (c0 : Nat) (s : ByteArray) (a1 a3 : Int) (K : Nat) (w : World) (hc0 : ps.length ≤ c0) (hR : Kd.C k85 w A0 ps.length ps) (hP : spec_PatternOk.f K ps = some true) (hl : ps.length ≤ 60) (h1 : spec_l01In.f a1 0 ((ps.length : Int) - 1) = some false) :
    Calls Try.prog 12 #[.agg #[.slice A0 ps.length c0], .int .i64 a1, .string s, .int .i64 a3] w (EaR w []) := by
  have wn : wrap64 ((ps.length : Int) - 1) = (ps.length : Int) - 1 := IntWalk.wrap64_in _ (by omega)
  have HW1 := aM h1
  have HP := aM hP; have HC := aM hc0
  obtain ⟨W1, hW1⟩ : ∃ W1, w.alloc (.cells #[.slice A0 ps.length c0] 30) = W1 := ⟨_, rfl⟩
  have hB1 : Below w.heap.size w W1 := by rw [← hW1]; exact (Below.refl _ _).alloc (Nat.le_refl _) _
  have hx1 : W1.heap[w.heap.size]? = some (.cells #[.slice A0 ps.length c0] 30 (0, 0)) := by rw [← hW1]; exact (MapKept.heap_alloc w _).1
  have HB1 := aM hB1; have HX1 := aM hx1
  have HR1 := aM (Kd.C_below hR hB1)
  have y0 : W1.cell? ⟨w.heap.size, 0, none⟩ = some (.slice A0 ps.length c0) := (bC hx1 0).trans rfl
  clear hx1 hB1 hR hP hc0 hl h1
  go_enter Try.func12, Try.ntmps12
  go_wp2_with fail
  refine (spec_PatternOk.calls K A0 c0 ps true _ HR1.out HC.out HP.out).mono ?_
  rintro e W2 ⟨rfl, hb2⟩
  have HB2 := aM (HB1.out.trans (hb2.mono HB1.out.size))
  have hy : W2.heap[w.heap.size]? = some (.cells #[.slice A0 ps.length c0] 30 (0, 0)) := (hb2.block _ (blk_lt HX1.out)).trans HX1.out
  have y1 : W2.cell? ⟨w.heap.size, 0, none⟩ = some (.slice A0 ps.length c0) := (bC hy 0).trans rfl
  clear hb2 hy y0
  go_wp2_with fail
  refine (spec_l01In.calls a1 0 ((ps.length : Int) - 1) false _ HW1.out).mono ?_
  rintro e w' ⟨rfl, ⟨nd, rfl⟩⟩
  have HF := aM (own_emptyI' (lN HB2.out nd))
  go_wp2_with fail
  go_ret
  first | exact HF.out | (have h9 := HF.out; simpa using h9)
theorem s_EndsAt2 (ps : List S85) (A0 : Option Addr) (c0 : Nat) (s : ByteArray) (a1 a3 : Int) (K : Nat) (w : World) (hc0 : ps.length ≤ c0) (hR : Kd.C k85 w A0 ps.length ps) (hP : spec_PatternOk.f K ps = some true) (hl : ps.length ≤ 60) (h1 : spec_l01In.f a1 0 ((ps.length : Int) - 1) = some true) (h2 : spec_l01In.f a3 0 (s.size : Int) = some false) :
    Calls Try.prog 12 #[.agg #[.slice A0 ps.length c0], .int .i64 a1, .string s, .int .i64 a3] w (EaR w []) := by
  have wn : wrap64 ((ps.length : Int) - 1) = (ps.length : Int) - 1 := IntWalk.wrap64_in _ (by omega)
  have HW1 := aM h1
  have HW2 := aM h2
  have HP := aM hP; have HC := aM hc0
  obtain ⟨W1, hW1⟩ : ∃ W1, w.alloc (.cells #[.slice A0 ps.length c0] 30) = W1 := ⟨_, rfl⟩
  have hB1 : Below w.heap.size w W1 := by rw [← hW1]; exact (Below.refl _ _).alloc (Nat.le_refl _) _
  have hx1 : W1.heap[w.heap.size]? = some (.cells #[.slice A0 ps.length c0] 30 (0, 0)) := by rw [← hW1]; exact (MapKept.heap_alloc w _).1
  have HB1 := aM hB1; have HX1 := aM hx1
  have HR1 := aM (Kd.C_below hR hB1)
  have y0 : W1.cell? ⟨w.heap.size, 0, none⟩ = some (.slice A0 ps.length c0) := (bC hx1 0).trans rfl
  clear hx1 hB1 hR hP hc0 hl h1 h2
  go_enter Try.func12, Try.ntmps12
  go_wp2_with fail
  refine (spec_PatternOk.calls K A0 c0 ps true _ HR1.out HC.out HP.out).mono ?_
  rintro e W2 ⟨rfl, hb2⟩
  have HB2 := aM (HB1.out.trans (hb2.mono HB1.out.size))
  have hy : W2.heap[w.heap.size]? = some (.cells #[.slice A0 ps.length c0] 30 (0, 0)) := (hb2.block _ (blk_lt HX1.out)).trans HX1.out
  have y1 : W2.cell? ⟨w.heap.size, 0, none⟩ = some (.slice A0 ps.length c0) := (bC hy 0).trans rfl
  clear hb2 hy y0
  go_wp2_with fail
  refine (spec_l01In.calls a1 0 ((ps.length : Int) - 1) true _ HW1.out).mono ?_
  rintro e w' ⟨rfl, ⟨nd, rfl⟩⟩
  go_wp2_with fail
  refine (spec_l01In.calls a3 0 (s.size : Int) false _ HW2.out).mono ?_
  rintro e w' ⟨rfl, ⟨nd2, rfl⟩⟩
  have HF := aM (own_emptyI' (lN (lN HB2.out nd) nd2))
  go_wp2_with fail
  go_ret
  first | exact HF.out | (have h9 := HF.out; simpa using h9)
theorem s_FindIn0 (ps : List S85) (A0 : Option Addr) (c0 : Nat) (s : ByteArray) (K : Nat) (w : World) (hc0 : ps.length ≤ c0) (hR : Kd.C k85 w A0 ps.length ps) (hP : spec_PatternOk.f K ps = some false) :
    Calls Try.prog 8 #[.agg #[.slice A0 ps.length c0], .string s] w fun e w' => e = .returned (.tuple #[.int .i64 0, .int .i64 0, .bool false]) ∧ Below w.heap.size w w' := by
  have HP := aM hP; have HC := aM hc0
  obtain ⟨W1, hW1⟩ : ∃ W1, w.alloc (.cells #[.slice A0 ps.length c0] 30) = W1 := ⟨_, rfl⟩
  have hB1 : Below w.heap.size w W1 := by rw [← hW1]; exact (Below.refl _ _).alloc (Nat.le_refl _) _
  have hx1 : W1.heap[w.heap.size]? = some (.cells #[.slice A0 ps.length c0] 30 (0, 0)) := by rw [← hW1]; exact (MapKept.heap_alloc w _).1
  have HB1 := aM hB1; have HX1 := aM hx1
  have HR1 := aM (Kd.C_below hR hB1)
  have y0 : W1.cell? ⟨w.heap.size, 0, none⟩ = some (.slice A0 ps.length c0) := (bC hx1 0).trans rfl
  clear hx1 hB1 hR hP hc0
  go_enter Try.func8, Try.ntmps8
  go_wp2_with fail
  refine (spec_PatternOk.calls K A0 c0 ps false _ HR1.out HC.out HP.out).mono ?_
  rintro e W2 ⟨rfl, hb2⟩
  have HB2 := aM (HB1.out.trans (hb2.mono HB1.out.size))
  clear hb2 y0
  go_wp2_with fail
  go_ret3
  exact ⟨rfl, HB2.out⟩
/-- What is known of a pattern: both sides' tests tell b, and what it means where it is true. -/
def PatF (k : Nat) (ps : List S85) (b : Bool) : Prop := impl_PatternOk.f k ps = some b ∧ spec_PatternOk.f k ps = some b ∧ (b = true → PsOk ps ∧ 0 < ps.length ∧ ∀ k : Nat, k < ps.length → (rd_T85 ps k).f1.size ≤ 1048576)
def markL (k : Nat) : Nat → List S85 → Int → Nat → Option (Int × List S85)
  | 0, _, _, _ => none
  | n + 1, xs, m, i => if i < xs.length then (if 0 ≤ m ∧ m ≤ 1000000000000000 then (laws_markText.f k (m + 1)).bind fun t => (laws_markIntS.f k (xs.getD i z85).f2 (m + 1 + 1)).bind fun r => markL k n (xs.set i ⟨m, t, r.2⟩) r.1 (i + 1) else none) else some (m, xs)
theorem seg1 (w : World) (g o : Nat) (v : Value) : w.setCells g o [v] = w.setCell ⟨g, o, none⟩ v := rfl
theorem H_cells {α : Type} {d : Kd α} {e base g n cap : Nat} {W : World} {ok oki : Nat → Prop} {xs : List α} {i : Int} {c : List Value} (h : Kd.H d e W base ok (.slice (some ⟨g, 0, none⟩) n cap) xs i oki c) (h0 : 0 ≤ i) (h1 : i < n) :
    (∀ j u, c[j]? = some u → W.cell? ⟨g, i.toNat * d.sz + j, none⟩ = some u) ∧ ∀ j, W.frozen? ⟨g, i.toNat * d.sz + j, none⟩ = false := by
  obtain ⟨rows, _, hraw, _, _, hcc, _⟩ := Kd.H_raw h h0 h1
  obtain ⟨_, _, _, _, hfr⟩ := Kd.R_elem hraw [] i h0 h1
  exact ⟨hcc, hfr⟩
theorem H_put {e base g n cap : Nat} {W : World} {ok oki : Nat → Prop} {xs : List S85} {i : Nat} {c c' : List Value} (h : Kd.H k85 e W base ok (.slice (some ⟨g, 0, none⟩) n cap) xs (i : Int) oki c) (h1 : (i : Int) < n) (j : Nat) (v : Value) (hv : v.oneCell' = true) (hj : j + 1 ≤ 3) (hc : c' = c.take j ++ [v] ++ c.drop (j + 1)) :
    Kd.H k85 e (W.setCell ⟨g, i * 3 + j, none⟩ v) base ok (.slice (some ⟨g, 0, none⟩) n cap) xs (i : Int) oki c' := by
  have := (Kd.H_seg h (by omega) h1 (seg := [v]) (j := j) hj (fun q hq => by rw [List.mem_singleton.1 hq]; exact hv)).1
  rw [Int.toNat_natCast] at this
  rw [hc]
  exact this
set_option maxHeartbeats 4000000 in
set_option maxRecDepth 100000 in
theorem smark_cons (k : Nat) (ok : Nat → Prop) (g c : Nat) (xs : List S85) (hl : xs.length ≤ 1048576) (m r : Int) (zs : List S85) (w0 w : World) (hB : Below w0.heap.size w0 w) (hS : Kd.S k85 85 w w0.heap.size ok (.slice (some ⟨g, 0, none⟩) xs.length c) xs) (h : markL k k xs m 0 = some (r, zs)) :
    Calls Try.prog 36 #[.slice (some ⟨g, 0, none⟩) xs.length c, .int .i64 m] w fun e w' => e = .returned (.int .i64 r) ∧ Kd.S k85 85 w' w0.heap.size ok (.slice (some ⟨g, 0, none⟩) xs.length c) zs ∧ Below w0.heap.size w0 w' ∧ Kept w w' ok := by
  have HS0 := aM hS; have HB0 := aM hB; have HH := aM h; have HL := aM hl
  have hokg : ok g := by obtain ⟨f, hR⟩ := hS; exact hR.1 g (by simp [Value.ownBlock])
  have HOG := aM hokg
  have hgb : w0.heap.size ≤ g := Kd.S_base hS g (by simp [Value.ownBlock])
  have HGB := aM hgb
  obtain ⟨n0, hn0⟩ : ∃ n0, xs.length = n0 := ⟨_, rfl⟩
  rw [hn0]
  rw [hn0] at HS0 HL
  have HN0 := aM hn0
  clear hS hB h hl hokg hgb hn0
  go_enter Try.func36, Try.ntmps36
  go_wp2
  go_loopg [1, 5] k (fun n m_ i_ w' => ∃ (m : Int) (i : Nat) (ys : List S85), m_ = .int .i64 m ∧ i_ = .int .i64 i ∧ Aside0 (markL k n ys m i = some (r, zs)) ∧ Aside0 (ys.length = n0) ∧ Aside0 (Kd.S k85 85 w' w0.heap.size ok (.slice (some ⟨g, 0, none⟩) n0 c) ys) ∧ Aside0 (Below w0.heap.size w0 w') ∧ Aside0 (Kept w w' ok))
  case atStart => exact ⟨m, 0, xs, rfl, rfl, HH, HN0, HS0, HB0, aM (Kept.refl w ok)⟩
  case round =>
    clear HS0 HB0 HH HN0
    obtain ⟨m, i, ys, rfl, rfl, HM, HY, HS, HB, HK⟩ := hrel
    cases gk with
    | zero => exact absurd HM.out (by simp [markL])
    | succ n =>
      have h := HM.out
      unfold markL at h
      by_cases hi : i < ys.length
      · rw [if_pos hi] at h
        by_cases hm : 0 ≤ m ∧ m ≤ 1000000000000000
        · rw [if_pos hm] at h
          obtain ⟨t, ht, h⟩ := Option.bind_eq_some_iff.mp h
          obtain ⟨⟨r1, ks⟩, hk, h⟩ := Option.bind_eq_some_iff.mp h
          have HT := aM ht; have HKS := aM hk; have HR := aM h
          have hin : i < n0 := by have := HY.out; omega
          clear HM h ht hk
          obtain ⟨oki, c3, hcl, hMi, hcc, hfr, hoki, hH⟩ := Kd.S_elem HS.out z85 (i : Int) (by omega) (by omega)
          obtain ⟨v2, rfl, hRk⟩ := k85_openM hMi
          rw [Int.toNat_natCast] at hRk hcc hfr
          have b0 : wr.cell? ⟨g, i * 3, none⟩ = some (.int .i64 (ys.getD i z85).f0) := hcc 0 _ rfl
          have b1 : wr.cell? ⟨g, i * 3 + 1, none⟩ = some (.string (ys.getD i z85).f1) := hcc 1 _ rfl
          have b2 : wr.cell? ⟨g, i * 3 + 2, none⟩ = some v2 := hcc 2 _ rfl
          have f0 : wr.frozen? ⟨g, i * 3, none⟩ = false := hfr 0
          have f1 : wr.frozen? ⟨g, i * 3 + 1, none⟩ = false := hfr 1
          have f2 : wr.frozen? ⟨g, i * 3 + 2, none⟩ = false := hfr 2
          have HHo := aM hH; have HRK := aM hRk; have HOK := aM hoki
          have hlt : g < wr.heap.size := World.block_lt_of_cell? wr _ b0
          have hi0 : (0 : Int) ≤ (i : Int) := by omega
          have hi1 : (i : Int) < (n0 : Int) := by omega
          have hi2 : (i : Int) + 1 ≤ 2000000 := by have := HL.out; omega
          obtain ⟨hm0, hm1⟩ := hm
          clear hH hRk hoki hMi hcc hfr hcl hi
          go_wp2_with fail
          have H1 := aM (H_put HHo.out hi1 0 (.int .i64 m) rfl (by omega) rfl)
          have R1 := aM (Kd.R_far (p := ⟨g, i * 3 + 0, none⟩) HRK.out (fun k hk => (HOK.out k hk).2) (.int .i64 m))
          have K1 := aM (Kept.setCell (p := ⟨g, i * 3 + 0, none⟩) HK.out (.inl HOG.out) (.int .i64 m))
          have B1 := aM (lS (j := i * 3 + 0) (v := .int .i64 m) HB.out HGB.out)
          clear HHo HRK HK HB
          refine (laws_markText.calls k (m + 1) t _ HT.out).mono ?_
          rintro e w2 ⟨rfl, hb⟩
          have H2 := aM (Kd.H_below H1.out hb); have R2 := aM (Kd.R_below R1.out hb); have K2 := aM (Kept.below K1.out hb); have B2 := aM (lP B1.out hb)
          clear H1 R1 K1 B1 hb b0 b1 b2 f0 f1 f2 hlt
          obtain ⟨hcc, hfr⟩ := H_cells H2.out hi0 hi1
          rw [Int.toNat_natCast] at hcc hfr
          have b1 : w2.cell? ⟨g, i * 3 + 1, none⟩ = some (.string (ys.getD i z85).f1) := hcc 1 _ rfl
          have b2 : w2.cell? ⟨g, i * 3 + 2, none⟩ = some v2 := hcc 2 _ rfl
          have f1 : w2.frozen? ⟨g, i * 3 + 1, none⟩ = false := hfr 1
          clear hcc hfr
          have H3 := aM (H_put H2.out hi1 1 (.string t) rfl (by omega) rfl)
          have R3 := aM (Kd.R_far (p := ⟨g, i * 3 + 1, none⟩) R2.out (fun k hk => (HOK.out k hk).2) (.string t))
          have K3 := aM (Kept.setCell (p := ⟨g, i * 3 + 1, none⟩) K2.out (.inl HOG.out) (.string t))
          have B3 := aM (lS (j := i * 3 + 1) (v := .string t) B2.out HGB.out)
          clear H2 R2 K2 B2
          have hm2 : m + 1 ≤ 1000000000000002 := by omega
          go_wp2_with fail
          refine (laws_markIntS.calls k oki v2 (ys.getD i z85).f2 (m + 1 + 1) r1 ks w0 _ B3.out R3.out HKS.out).mono ?_
          rintro e w4 ⟨rfl, hR4, hB4, hK4⟩
          have S4 := aM (Kd.H_back (x' := (⟨m, t, ks⟩ : S85)) (Kd.H_step H3.out (fun k _ hn hlt => hK4.2 k hlt hn)) (k85_mkM w4 w0.heap.size oki (⟨m, t, ks⟩ : S85) (Kd.R_mono (Kd.R_tight rfl hR4) (fun q hq => R3.out.1 q hq.symm))) (fun _ hk => hk))
          have K4 := aM (Kept.then_ K3.out hK4 (fun q hq => .inl (HOK.out q hq).1))
          have B4 := aM hB4
          clear H3 R3 K3 B3 hR4 hB4 hK4
          go_wp2_with fail
          go_roundg n
          case measure => omega
          case rel => exact ⟨r1, i + 1, ys.set i ⟨m, t, ks⟩, rfl, rfl, HR, aM (by rw [List.length_set]; exact HY.out), S4, B4, K4⟩
        · rw [if_neg hm] at h
          cases h
      · rw [if_neg hi] at h
        have h2 := Option.some.inj h
        injection h2 with e1 e2
        subst e1 e2
        have hi1 : ¬ ((i : Int) < (n0 : Int)) := by have := HY.out; omega
        clear h hi HM
        go_wp2
        go_ret
        exact ⟨rfl, HS.out, HB.out, HK.out⟩
theorem smark_nil (k : Nat) (ok : Nat → Prop) (m : Int) (A : Option Addr) (c : Nat) (w : World) :
    Calls Try.prog 36 #[.slice A 0 c, .int .i64 m] w fun e w' => e = .returned (.int .i64 m) ∧ w = w' := by
  go_enter Try.func36, Try.ntmps36
  go_wp2
  refine wp_loop_rounds 1 ?_
  rw [rounds_succ]
  go_wp2
  go_ret
  exact ⟨rfl, rfl⟩
def markP (k : Nat) (xs : List S85) (m : Int) : Option (Int × List S85) := if xs.length ≤ 1048576 then (if xs.length = 0 then some (m, xs) else markL k k xs m 0) else none
theorem smarkS (k : Nat) (ok : Nat → Prop) (v : Value) (xs : List S85) (m r : Int) (zs : List S85) (w0 w : World) (hB : Below w0.heap.size w0 w) (hS : Kd.S k85 85 w w0.heap.size ok v xs) (h : markP k xs m = some (r, zs)) :
    Calls Try.prog 36 #[v, .int .i64 m] w fun e w' => e = .returned (.int .i64 r) ∧ Kd.S k85 85 w' w0.heap.size ok v zs ∧ Below w0.heap.size w0 w' ∧ Kept w w' ok := by
  unfold markP at h
  by_cases hl : xs.length ≤ 1048576
  · rw [if_pos hl] at h
    by_cases h0 : xs.length = 0
    · rw [if_pos h0] at h
      obtain ⟨A, c, rfl⟩ := Kd.S_slice hS
      have h2 := Option.some.inj h
      injection h2 with e1 e2
      subst e1 e2
      rw [h0] at hS ⊢
      refine (smark_nil k ok m A c w).mono ?_
      rintro e w' ⟨rfl, rfl⟩
      exact ⟨rfl, hS, hB, Kept.refl _ _⟩
    · rw [if_neg h0] at h
      obtain ⟨g, c, rfl, _⟩ := Kd.S_form hS (by omega)
      exact smark_cons k ok g c xs hl m r zs w0 w hB hS h
  · rw [if_neg hl] at h
    cases h
set_option maxHeartbeats 4000000 in
set_option maxRecDepth 100000 in
theorem smarkP (k : Nat) (ok : Nat → Prop) (v : Value) (xs : List S85) (m r : Int) (zs : List S85) (w0 w : World) (hB : Below w0.heap.size w0 w) (hS : Kd.S k85 85 w w0.heap.size ok v xs) (h : markP k xs m = some (r, zs)) :
    Calls Try.prog 15 #[.agg #[v], .int .i64 m] w fun e w' => e = .returned (.int .i64 r) ∧ Kd.S k85 85 w' w0.heap.size ok v zs ∧ Below w0.heap.size w0 w' ∧ Kept w w' ok := by
  have hv := Kd.R_val (Kd.S_R hS)
  obtain ⟨A, c, rfl⟩ := Kd.S_slice hS
  have HX := aM (smarkS k ok (.slice A xs.length c) xs m r zs w0 (w.alloc (.cells #[.slice A xs.length c] 30)) (lA hB _) (Kd.S_alloc hS _) h)
  clear hS hB h hv
  go_enter Try.func15, Try.ntmps15
  go_wp2_with fail
  refine HX.out.mono ?_
  rintro e w2 ⟨rfl, h1, h2, h3⟩
  have H1 := aM h1; have H2 := aM h2; have H3 := aM h3
  clear h1 h2 h3
  go_wp2
  go_ret
  exact ⟨rfl, H1.out, H2.out, Kept.then_ (Kept.alloc (Kept.refl w ok) _) H3.out (fun q hq => .inl hq)⟩
open Classical in
/-- The answer of EndsAt. -/
noncomputable def EL (ps : List S85) (s : ByteArray) (b : Bool) (a1 a3 : Int) : List Nat := if b = true ∧ (0 ≤ a1 ∧ a1 < (ps.length : Int)) ∧ (0 ≤ a3 ∧ a3 ≤ (s.size : Int)) then (mtOf ps s).L a1.toNat a3.toNat else []
theorem EL_len (ps : List S85) (s : ByteArray) (b : Bool) (a1 a3 : Int) : (EL ps s b a1 a3).length ≤ s.size + 1 := by
  unfold EL
  split
  · exact (mtOf ps s).L_len _ _
  · simp
theorem in_no (a n : Int) (h : ¬ (0 ≤ a ∧ a ≤ n)) : impl_within.f a 0 n = some false ∧ spec_l01In.f a 0 n = some false := by
  unfold impl_within.f spec_l01In.f
  by_cases c : a ≥ 0
  · rw [if_pos c, decide_eq_false (fun h2 => h ⟨c, h2⟩)]
    exact ⟨rfl, rfl⟩
  · rw [if_neg c]
    exact ⟨rfl, rfl⟩
theorem in_yes (a n : Int) (h0 : 0 ≤ a) (h1 : a ≤ n) : impl_within.f a 0 n = some true := by
  unfold impl_within.f; rw [if_pos (by omega), decide_eq_true (by omega)]
theorem i_ends {k : Nat} {ps : List S85} {b : Bool} (h : PatF k ps b) (s : ByteArray) (a1 a3 : Int) (hs : s.size ≤ 1048576) (A0 : Option Addr) (c0 : Nat) (w : World) (hc0 : ps.length ≤ c0) (hR : Kd.C k85 w A0 ps.length ps) :
    Calls Try.prog 13 #[.agg #[.slice A0 ps.length c0], .int .i64 a1, .string s, .int .i64 a3] w (EaR w (EL ps s b a1 a3)) := by
  cases b with
  | false =>
    rw [show EL ps s false a1 a3 = [] from if_neg (fun h => absurd h.1 (by decide))]
    exact m_EndsAt0 ps A0 c0 s a1 a3 k w hc0 hR h.1
  | true =>
    obtain ⟨h1, h2, h3⟩ := h.2.2 rfl
    by_cases c1 : 0 ≤ a1 ∧ a1 < (ps.length : Int)
    · by_cases c3 : 0 ≤ a3 ∧ a3 ≤ (s.size : Int)
      · rw [show EL ps s true a1 a3 = (mtOf ps s).L a1.toNat a3.toNat from if_pos ⟨rfl, c1, c3⟩]
        have := m_EndsAt ps h1 A0 c0 s a1.toNat a3.toNat k w (by omega) (by omega) hs hc0 hR h.1
        rw [Int.toNat_of_nonneg c1.1, Int.toNat_of_nonneg c3.1] at this
        exact this
      · rw [show EL ps s true a1 a3 = [] from if_neg (fun h => c3 h.2.2)]
        exact m_EndsAt2 ps A0 c0 s a1 a3 k w hc0 hR h.1 h1.len (in_yes _ _ c1.1 (by omega)) (in_no _ _ c3).1
    · rw [show EL ps s true a1 a3 = [] from if_neg (fun h => c1 h.2.1)]
      exact m_EndsAt1 ps A0 c0 s a1 a3 k w hc0 hR h.1 h1.len (in_no _ _ (by omega)).1
theorem s_ends {k : Nat} {ps : List S85} {b : Bool} (h : PatF k ps b) (s : ByteArray) (a1 a3 : Int) (hs : s.size ≤ 1048576) (A0 : Option Addr) (c0 : Nat) (w : World) (hc0 : ps.length ≤ c0) (hR : Kd.C k85 w A0 ps.length ps) :
    Calls Try.prog 12 #[.agg #[.slice A0 ps.length c0], .int .i64 a1, .string s, .int .i64 a3] w (EaR w (EL ps s b a1 a3)) := by
  cases b with
  | false =>
    rw [show EL ps s false a1 a3 = [] from if_neg (fun h => absurd h.1 (by decide))]
    exact s_EndsAt0 ps A0 c0 s a1 a3 k w hc0 hR h.2.1
  | true =>
    obtain ⟨h1, h2, h3⟩ := h.2.2 rfl
    by_cases c1 : 0 ≤ a1 ∧ a1 < (ps.length : Int)
    · by_cases c3 : 0 ≤ a3 ∧ a3 ≤ (s.size : Int)
      · rw [show EL ps s true a1 a3 = (mtOf ps s).L a1.toNat a3.toNat from if_pos ⟨rfl, c1, c3⟩]
        have := s_EndsAt h1 h3 A0 c0 s a1.toNat a3.toNat k w (by omega) (by omega) hs hc0 hR h.2.1
        rw [Int.toNat_of_nonneg c1.1, Int.toNat_of_nonneg c3.1] at this
        exact this
      · rw [show EL ps s true a1 a3 = [] from if_neg (fun h => c3 h.2.2)]
        exact s_EndsAt2 ps A0 c0 s a1 a3 k w hc0 hR h.2.1 h1.len (s_in1 _ _ c1.1 (by omega)) (in_no _ _ c3).2
    · rw [show EL ps s true a1 a3 = [] from if_neg (fun h => c1 h.2.1)]
      exact s_EndsAt1 ps A0 c0 s a1 a3 k w hc0 hR h.2.1 h1.len (in_no _ _ (by omega)).2
theorem R_of_own {W : World} {base : Nat} {v : Value} {l : List Int} {ok : Nat → Prop} (h : OwnI W base v l) (hok : ∀ k, v.ownBlock = some k → ok k) : (Kd.int .i64).R 3 W base ok v l := by
  refine ⟨fun k hk => hok k (by first | exact hk | exact hk.symm), nums .i64 l, h, by simp [nums, Kd.int, Kd.scalar], fun j p hj => ?_⟩
  show ((nums .i64 l).drop (j * 1)).take 1 = [Value.int .i64 p]
  obtain ⟨hlt, hp⟩ := List.getElem?_eq_some_iff.1 hj
  rw [Nat.mul_one, List.drop_eq_getElem_cons (by simpa [nums] using hlt)]
  simp [nums, hp]
theorem name_w {P : Program} {f : FuncId} {a : Array Value} {w : World} {Q : Ending → World → Prop} (h : ∀ W, w = W → Calls P f a W Q) : Calls P f a w Q := h w rfl
theorem ends_walk (k : Nat) (A0 : Option Addr) (c0 : Nat) (l0 : List S84) (a1 : Int) (s : ByteArray) (a3 : Int) (ps : List S85) (b : Bool) (r : Int) (w : World) (hr0 : Kd.C k84 w A0 l0.length l0) (hc0 : l0.length ≤ c0) (hs : s.size ≤ 1048576) (hz : laws_szPattern.f k l0 1048576 = some r) (hr : 0 ≤ r) (ht : laws_toPattern.f k l0 = some ps) (hP : PatF k ps b) (he : laws_eqPattern.f k ps ps = some true)
    (q : Int) (zs : List S85) (hm : markP k ps 1 = some (q, zs)) (hq : 0 ≤ q) (hL : laws_eqIntS.f k (ints (EL ps s b a1 a3)) (ints (EL ps s b a1 a3)) = some true) (t : Int) (us : List Int) (hmi : laws_markIntS.f k (ints (EL ps s b a1 a3)) 1 = some (t, us)) (hhe : laws_heldIntS.f k us 1 = some t) (ht0 : 0 ≤ t) :
    Calls Try.prog 4 #[.agg #[.slice A0 l0.length c0], .int .i64 a1, .string s, .int .i64 a3] w fun e w' => e = .returned (.bool true) ∧ Below w.heap.size w w' := by
  obtain ⟨W1, hW1⟩ : ∃ W1, w.alloc (.cells #[.slice A0 l0.length c0] 24) = W1 := ⟨_, rfl⟩
  have hB1 : Below w.heap.size w W1 := by rw [← hW1]; exact (Below.refl _ _).alloc (Nat.le_refl _) _
  have hx1 : W1.heap[w.heap.size]? = some (.cells #[.slice A0 l0.length c0] 24 (0, 0)) := by rw [← hW1]; exact (MapKept.heap_alloc w _).1
  have HS := aM hs; have HZ := aM hz; have HT := aM ht; have HP := aM hP; have HE := aM he; have HC := aM hc0; have HM := aM hm; have HL := aM hL; have HMI := aM hmi; have HHE := aM hhe
  obtain ⟨L, hLe⟩ : ∃ L, EL ps s b a1 a3 = L := ⟨_, rfl⟩
  have HLE := aM hLe
  rw [hLe] at HL HMI
  have HR0 := aM hr0
  have B1 := aM hB1; have X1 := aM hx1; have R1 := aM (Kd.C_below hr0 hB1)
  have y1 : W1.cell? ⟨w.heap.size, 0, none⟩ = some (.slice A0 l0.length c0) := (bC hx1 0).trans rfl
  have h20 : decide ((1048576 : Int) < (s.size : Int)) = false := decide_eq_false (by omega)
  have h21 : ¬ ((1048576 : Int) < (s.size : Int)) := by omega
  have h22 : decide (1048576 < s.size) = false := decide_eq_false (by omega)
  have h30 : ¬ (r < 0) := by omega
  have h31 : ¬ (q < 0) := by omega
  have h32 : ¬ (t < 0) := by omega
  clear hB1 hx1 hr0 hc0 hs hz ht hP he hm hL hmi hhe hr hq ht0 hLe
  go_enter Try.func4, Try.ntmps4
  go_wp2_with fail
  refine (laws_szPattern.calls k A0 c0 l0 1048576 r _ R1.out HC.out HZ.out).mono ?_
  rintro e W2 ⟨rfl, hb⟩
  have B2 := aM (B1.out.trans (hb.mono B1.out.size)); have X2 := aM (bB X1.out hb); have R2 := aM (Kd.C_below R1.out hb)
  have y2 : W2.cell? ⟨w.heap.size, 0, none⟩ = some (.slice A0 l0.length c0) := (bC X2.out 0).trans rfl
  clear hb y1 B1 X1 R1
  go_wp2_with fail
  refine (laws_toPattern.calls k A0 c0 l0 ps _ R2.out HC.out HT.out).mono ?_
  rintro e W3 ⟨v3, rfl, hS3, hb⟩
  obtain ⟨A3, c3, rfl⟩ := Kd.S_slice hS3
  obtain ⟨_, l3, C3⟩ := Kd.S_reads' hS3
  have B3 := aM (B2.out.trans (hb.mono B2.out.size)); have X3 := aM (bB X2.out hb); have R3 := aM (Kd.C_below R2.out hb)
  have L3 := aM l3; have C3 := aM C3
  clear hb hS3 l3 y2 B2 X2 R2
  go_wp2_with fail
  refine (s_ends HP.out s a1 a3 HS.out A3 c3 W3 L3.out C3.out).mono ?_
  rintro e W4 ⟨v4, rfl, ho4, hb⟩
  rw [HLE.out] at ho4
  obtain ⟨A4, c4, rfl, hlc4⟩ := own_form ho4
  have B4 := aM (B3.out.trans (hb.mono B3.out.size)); have X4 := aM (bB X3.out hb); have R4 := aM (Kd.C_below R3.out hb)
  have BK4 := aM B4.out; have N40 := aM (blk_lt X4.out)
  have O4 := aM ho4; have LC4 := aM hlc4; have N4 := aM (own_lt ho4)
  have y4 : W4.cell? ⟨w.heap.size, 0, none⟩ = some (.slice A0 l0.length c0) := (bC X4.out 0).trans rfl
  clear hb ho4 hlc4 B3 X3 R3 L3 C3
  go_wp2_with fail
  refine (laws_toPattern.calls k A0 c0 l0 ps _ R4.out HC.out HT.out).mono ?_
  rintro e W5 ⟨v5, rfl, hS5, hb⟩
  obtain ⟨A5, c5, rfl⟩ := Kd.S_slice hS5
  obtain ⟨W6, hW6⟩ : ∃ W6, W5.alloc (.cells #[.slice A5 ps.length c5] 30) = W6 := ⟨_, rfl⟩
  have hB6 : Below W5.heap.size W5 W6 := by rw [← hW6]; exact (Below.refl _ _).alloc (Nat.le_refl _) _
  have hz6 : W6.heap.size = W5.heap.size + 1 := by rw [← hW6]; exact Array.size_push ..
  have hb6 : Below W4.heap.size W4 W6 := hb.trans (hB6.mono hb.size)
  have B6 := aM (B4.out.trans (hb6.mono B4.out.size)); have X6 := aM (bB X4.out hb6); have R6 := aM (Kd.C_below R4.out hb6)
  have T6 := aM (show Kd.S k85 85 W6 W4.heap.size (fun q => W4.heap.size ≤ q ∧ q < W5.heap.size) (.slice A5 ps.length c5) ps from by rw [← hW6]; exact Kd.S_alloc (Kd.S_mono (Kd.S_bound hS5) (fun q hq => ⟨hq.2.1, hq.2.2.1⟩)) _)
  have O6 := aM (O4.out.kept (Ex.of_below hb6 (fun _ => False)).kept (fun _ _ h => h))
  have D6 := aM hb6
  have Z6 := aM (show W4.heap.size ≤ W5.heap.size ∧ W6.heap.size = W5.heap.size + 1 from ⟨hb.size, hz6⟩)
  have G6 := aM (show W6.heap[W5.heap.size]? = some (.cells #[.slice A5 ps.length c5] 30 (0, 0)) from by rw [← hW6]; exact (MapKept.heap_alloc W5 _).1)
  have y6 : W6.cell? ⟨W5.heap.size, 0, none⟩ = some (.slice A5 ps.length c5) := (bC G6.out 0).trans rfl
  clear hb hS5 y4 hB6 B4 X4 R4 O4 hb6 hz6
  go_wp2_with fail
  obtain ⟨_, l6, C6⟩ := Kd.S_reads' T6.out
  refine (i_ends HP.out s a1 a3 HS.out A5 c5 W6 l6 C6).mono ?_
  clear l6 C6
  rintro e W7 ⟨v7, rfl, ho7, hb⟩
  rw [HLE.out] at ho7
  obtain ⟨A7, c7, rfl, hlc7⟩ := own_form ho7
  have B7 := aM (B6.out.trans (hb.mono B6.out.size)); have X7 := aM (bB X6.out hb); have R7 := aM (Kd.C_below R6.out hb)
  have T7 := aM (Kd.S_below T6.out hb); have O7 := aM (O6.out.kept (Ex.of_below hb (fun _ => False)).kept (fun _ _ h => h)); have G7 := aM (bB G6.out hb)
  have D7 := aM (D6.out.trans (hb.mono D6.out.size))
  have P7 := aM ho7; have LC7 := aM hlc7
  have Q7 := aM hb
  clear hb ho7 hlc7 y6 B6 X6 R6 T6 O6 G6 D6
  go_wp2_with fail
  refine (laws_eqIntS.calls k A7 c7 (ints L) A4 c4 (ints L) true _ (own_C P7.out) LC7.out (own_C O7.out) LC4.out HL.out).mono ?_
  rintro e w' ⟨rfl, ⟨nd, rfl⟩⟩
  obtain ⟨W8, hW8⟩ : ∃ W8, W7.drewN nd = W8 := ⟨_, rfl⟩
  have hb : Below W7.heap.size W7 W8 := by rw [← hW8]; exact lN (Below.refl _ _) nd
  rw [hW8]
  have B8 := aM (B7.out.trans (hb.mono B7.out.size)); have X8 := aM (bB X7.out hb); have R8 := aM (Kd.C_below R7.out hb)
  have T8 := aM (Kd.S_below T7.out hb); have O8 := aM (O7.out.kept (Ex.of_below hb (fun _ => False)).kept (fun _ _ h => h)); have G8 := aM (bB G7.out hb)
  have D8 := aM (D7.out.trans (hb.mono D7.out.size)); have P8 := aM (P7.out.kept (Ex.of_below hb (fun _ => False)).kept (fun _ _ h => h)); have Q8 := aM (Q7.out.trans (hb.mono Q7.out.size))
  clear hb B7 X7 R7 T7 O7 G7 D7 P7 Q7 hW8
  have y8 : W8.cell? ⟨W5.heap.size, 0, none⟩ = some (.slice A5 ps.length c5) := (bC G8.out 0).trans rfl
  have z8 : W8.cell? ⟨w.heap.size, 0, none⟩ = some (.slice A0 l0.length c0) := (bC X8.out 0).trans rfl
  go_wp2_with fail
  go_region_held3 (fun w' => w'.cell? ⟨W5.heap.size, 0, none⟩ = some (.slice A5 ps.length c5) ∧ w'.cell? ⟨w.heap.size, 0, none⟩ = some (.slice A0 l0.length c0))
    (first | exact ⟨y8, z8⟩ | exact ⟨(hb8.cell (World.block_lt_of_cell? W8 _ y8)).trans y8, (hb8.cell (World.block_lt_of_cell? W8 _ z8)).trans z8⟩ | exact ⟨(hb9.cell (Nat.lt_of_lt_of_le (World.block_lt_of_cell? W8 _ y8) hb8.size)).trans ((hb8.cell (World.block_lt_of_cell? W8 _ y8)).trans y8), (hb9.cell (Nat.lt_of_lt_of_le (World.block_lt_of_cell? W8 _ z8) hb8.size)).trans ((hb8.cell (World.block_lt_of_cell? W8 _ z8)).trans z8)⟩)
    (first | (go_at_call 9; refine (laws_toPattern.calls k A0 c0 l0 ps _ (cD R8.out) HC.out HT.out).mono ?_; rintro e W9 ⟨v9, rfl, hS9, hb8⟩; obtain ⟨A9, c9, rfl⟩ := Kd.S_slice hS9; obtain ⟨_, l9, C9⟩ := Kd.S_reads' hS9; obtain ⟨_, l8, C8⟩ := Kd.S_reads' T8.out) | (go_at_call 11; refine (laws_eqPattern.calls k A5 c5 ps A9 c9 ps true W9 (Kd.C_below (cD C8) hb8) l8 C9 l9 HE.out).mono ?_; rintro e W10 ⟨rfl, hb9⟩))
  have hb : Below W8.heap.size W8 W10 := (lD (Below.refl _ _)).trans (hb8.trans (hb9.mono hb8.size))
  clear hS9 l9 C9 l8 C8 hb8 hb9 y8 z8
  have B10 := aM (B8.out.trans (hb.mono B8.out.size)); have X10 := aM (bB X8.out hb); have R10 := aM (Kd.C_below R8.out hb)
  have T10 := aM (Kd.S_below T8.out hb); have O10 := aM (O8.out.kept (Ex.of_below hb (fun _ => False)).kept (fun _ _ h => h)); have G10 := aM (bB G8.out hb)
  have D10 := aM (D8.out.trans (hb.mono D8.out.size)); have P10 := aM (P8.out.kept (Ex.of_below hb (fun _ => False)).kept (fun _ _ h => h)); have Q10 := aM (Q8.out.trans (hb.mono Q8.out.size))
  clear hb B8 X8 R8 T8 O8 G8 D8 P8 Q8
  have y10 : W10.cell? ⟨W5.heap.size, 0, none⟩ = some (.slice A5 ps.length c5) := (bC G10.out 0).trans rfl
  go_wp2_with fail
  refine (smarkP k _ _ ps 1 q zs W4 W10 D10.out T10.out HM.out).mono ?_
  rintro e W11 ⟨rfl, hT, hD, hK⟩
  have hB11 : Below w.heap.size w W11 := BK4.out.trans (hD.mono BK4.out.size)
  have hw4 : w.heap.size < W4.heap.size := N40.out
  have B11 := aM hB11
  have X11 := aM ((hK.2 w.heap.size (blk_lt X10.out) (fun h => by omega)).trans X10.out)
  have R11 := aM (Kd.C_below HR0.out hB11)
  have O11 := aM (O10.out.kept hK (fun k hk h => by have := N4.out k hk; omega))
  have P11 := aM (P10.out.kept hK (fun k hk h => by have := own_ge P10.out k hk; have := Z6.out; omega))
  have D11 := aM hD
  clear hT hD hK hB11 hw4 y10 B10 X10 R10 T10 O10 G10 D10 P10 Q10
  go_wp2_with fail
  refine (laws_eqIntS.calls k A7 c7 (ints L) A4 c4 (ints L) true _ (own_C P11.out) LC7.out (own_C O11.out) LC4.out HL.out).mono ?_
  rintro e w' ⟨rfl, ⟨nd2, rfl⟩⟩
  obtain ⟨W12, hW12⟩ : ∃ W12, W11.drewN nd2 = W12 := ⟨_, rfl⟩
  have hb : Below W11.heap.size W11 W12 := by rw [← hW12]; exact lN (Below.refl _ _) nd2
  rw [hW12]
  have B12 := aM (B11.out.trans (hb.mono B11.out.size)); have X12 := aM (bB X11.out hb); have R12 := aM (Kd.C_below R11.out hb)
  have O12 := aM (O11.out.kept (Ex.of_below hb (fun _ => False)).kept (fun _ _ h => h)); have P12 := aM (P11.out.kept (Ex.of_below hb (fun _ => False)).kept (fun _ _ h => h)); have D12 := aM (D11.out.trans (hb.mono D11.out.size))
  clear hb B11 X11 R11 O11 P11 D11 hW12
  go_wp2_with fail
  refine (laws_markIntS.calls k (fun q => (Value.slice A7 (ints L).length c7).ownBlock = some q) _ (ints L) 1 t us W4 W12 D12.out (R_of_own (P12.out.lower (by have := Z6.out; omega)) (fun k hk => hk)) HMI.out).mono ?_
  rintro e W13 ⟨rfl, hU, hD, hK⟩
  have hU2 := own_of_R hU
  obtain ⟨A8, c8, e8, hlc8⟩ := own_form hU2
  injection e8 with ea el ec
  rw [← ec] at hlc8
  have hB13 : Below w.heap.size w W13 := BK4.out.trans (hD.mono BK4.out.size)
  have hw4 : w.heap.size < W4.heap.size := N40.out
  have B13 := aM hB13
  have X13 := aM ((hK.2 w.heap.size (blk_lt X12.out) (fun h => by have := own_ge P12.out _ h; have := Z6.out; omega)).trans X12.out)
  have R13 := aM (Kd.C_below HR0.out hB13)
  have O13 := aM (O12.out.kept hK (fun k hk h => by have := N4.out k hk; have := own_ge P12.out k h; have := Z6.out; omega))
  have D13 := aM hD
  rw [el] at hU2
  have U13 := aM hU2; have LC8 := aM hlc8
  have HEL := aM el
  clear hU hU2 hD hK hB13 hw4 B12 X12 R12 O12 D12 P12 ea el ec hlc8
  go_wp2_with fail
  have hheld := laws_heldIntS.calls k A7 c7 us 1 t W13 (own_C U13.out) LC8.out HHE.out
  rw [← HEL.out] at hheld
  refine hheld.mono ?_
  clear hheld
  rintro e w' ⟨rfl, ⟨nd3, rfl⟩⟩
  obtain ⟨W14, hW14⟩ : ∃ W14, W13.drewN nd3 = W14 := ⟨_, rfl⟩
  have hb : Below W13.heap.size W13 W14 := by rw [← hW14]; exact lN (Below.refl _ _) nd3
  rw [hW14]
  have B14 := aM (B13.out.trans (hb.mono B13.out.size)); have X14 := aM (bB X13.out hb); have R14 := aM (Kd.C_below R13.out hb)
  have O14 := aM (O13.out.kept (Ex.of_below hb (fun _ => False)).kept (fun _ _ h => h)); have U14 := aM (U13.out.kept (Ex.of_below hb (fun _ => False)).kept (fun _ _ h => h)); have D14 := aM (D13.out.trans (hb.mono D13.out.size))
  clear hb B13 X13 R13 O13 U13 D13 hW14
  have z14 : W14.cell? ⟨w.heap.size, 0, none⟩ = some (.slice A0 l0.length c0) := (bC X14.out 0).trans rfl
  go_wp2_with fail
  refine (laws_toPattern.calls k A0 c0 l0 ps _ R14.out HC.out HT.out).mono ?_
  rintro e W15 ⟨v15, rfl, hS15, hb⟩
  obtain ⟨A15, c15, rfl⟩ := Kd.S_slice hS15
  obtain ⟨_, l15, C15⟩ := Kd.S_reads' hS15
  have L15 := aM l15; have C15 := aM C15
  have B15 := aM (B14.out.trans (hb.mono B14.out.size)); have X15 := aM (bB X14.out hb); have R15 := aM (Kd.C_below R14.out hb)
  have O15 := aM (O14.out.kept (Ex.of_below hb (fun _ => False)).kept (fun _ _ h => h)); have U15 := aM (U14.out.kept (Ex.of_below hb (fun _ => False)).kept (fun _ _ h => h)); have D15 := aM (D14.out.trans (hb.mono D14.out.size))
  clear hb B14 X14 R14 O14 U14 D14 hS15 l15 z14
  go_wp2_with fail
  refine (i_ends HP.out s a1 a3 HS.out A15 c15 W15 L15.out C15.out).mono ?_
  rintro e W16 ⟨v16, rfl, ho16, hb⟩
  rw [HLE.out] at ho16
  obtain ⟨A16, c16, rfl, hlc16⟩ := own_form ho16
  have P16 := aM ho16; have LC16 := aM hlc16
  have B16 := aM (B15.out.trans (hb.mono B15.out.size)); have X16 := aM (bB X15.out hb); have R16 := aM (Kd.C_below R15.out hb)
  have O16 := aM (O15.out.kept (Ex.of_below hb (fun _ => False)).kept (fun _ _ h => h)); have U16 := aM (U15.out.kept (Ex.of_below hb (fun _ => False)).kept (fun _ _ h => h)); have D16 := aM (D15.out.trans (hb.mono D15.out.size))
  clear hb B15 X15 R15 O15 U15 D15 ho16 hlc16 L15 C15
  go_wp2_with fail
  refine (laws_eqIntS.calls k A16 c16 (ints L) A4 c4 (ints L) true _ (own_C P16.out) LC16.out (own_C O16.out) LC4.out HL.out).mono ?_
  rintro e w' ⟨rfl, ⟨nd4, rfl⟩⟩
  obtain ⟨W17, hW17⟩ : ∃ W17, W16.drewN nd4 = W17 := ⟨_, rfl⟩
  have hb : Below W16.heap.size W16 W17 := by rw [← hW17]; exact lN (Below.refl _ _) nd4
  rw [hW17]
  clear P16
  have B17 := aM (B16.out.trans (hb.mono B16.out.size)); have X17 := aM (bB X16.out hb); have R17 := aM (Kd.C_below R16.out hb)
  have O17 := aM (O16.out.kept (Ex.of_below hb (fun _ => False)).kept (fun _ _ h => h)); have U17 := aM (U16.out.kept (Ex.of_below hb (fun _ => False)).kept (fun _ _ h => h)); have D17 := aM (D16.out.trans (hb.mono D16.out.size))
  clear hb B16 X16 R16 O16 U16 D16 hW17
  go_wp2_with fail
  have hheld := laws_heldIntS.calls k A7 c7 us 1 t W17 (own_C U17.out) LC8.out HHE.out
  rw [← HEL.out] at hheld
  refine hheld.mono ?_
  clear hheld
  rintro e w' ⟨rfl, ⟨nd5, rfl⟩⟩
  have B18 := aM (lN B17.out nd5)
  go_wp2
  go_ret
  exact ⟨rfl, B18.out⟩
end Go.Proofs.Ytnjomkadjcjcnaa.QFnExactEndsAt
