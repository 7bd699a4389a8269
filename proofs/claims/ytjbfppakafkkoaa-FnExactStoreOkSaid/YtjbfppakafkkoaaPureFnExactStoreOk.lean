/- The pure statement of FnExactStoreOk: over numbers and lists, what the printed functions come to is what the law wants, for every input. -/
import Derived.Test.YtjbfppakafkkoaaQFnExactStoreOkx7
set_option linter.unusedVariables false
set_option linter.unusedSimpArgs false
namespace Go.Proofs.Ytjbfppakafkkoaa.Pure
open Go.RowKit Go.Proofs.Ytjbfppakafkkoaa.QFnExactStoreOk Go.Proofs.YtjbfppakafkkoaaW.PrintWords Go.Proofs.YtjbfppakafkkoaaW.PrintLast
/-! Words on strings as lists of numbers. -/
theorem w64 {x : Int} (h0 : -9223372036854775808 ≤ x) (h1 : x ≤ 9223372036854775807) : wrap64 x = x := by
  unfold wrap64
  omega
theorem bx_len (s : ByteArray) : (bytesOf s).length = s.size := bytesOf_length s
theorem bx_byte (s : ByteArray) : ∀ c ∈ bytesOf s, 0 ≤ c ∧ c ≤ 255 := by
  intro c hc
  unfold bytesOf at hc
  obtain ⟨b, _, rfl⟩ := List.mem_map.1 hc
  have := b.toNat_lt
  omega
theorem bx_at {s : ByteArray} {pre ys : List Int} {c : Int} (h : bytesOf s = pre ++ c :: ys) : bt s (pre.length : Int) = c := by
  rw [← rd_bytesOf, h, rd, Int.toNat_natCast, List.getD_eq_getElem?_getD, List.getElem?_append_right (Nat.le_refl _)]
  simp
theorem bx_lt {s : ByteArray} {pre ys : List Int} {c : Int} (h : bytesOf s = pre ++ c :: ys) : (pre.length : Int) < (s.size : Int) := by
  have := congrArg List.length h
  rw [bx_len, List.length_append, List.length_cons] at this
  omega
theorem bx_end {s : ByteArray} {pre : List Int} (h : bytesOf s = pre ++ []) : (s.size : Int) = (pre.length : Int) := by
  have := congrArg List.length h
  rw [bx_len, List.append_nil] at this
  omega
theorem bx_next {s : ByteArray} {pre ys : List Int} {c : Int} (h : bytesOf s = pre ++ c :: ys) : bytesOf s = (pre ++ [c]) ++ ys := by
  rw [h, List.append_assoc]; rfl
theorem len_next (pre : List Int) (c : Int) : ((pre ++ [c]).length : Int) = (pre.length : Int) + 1 := by
  rw [List.length_append, List.length_singleton]; omega
theorem bx_inj {s t : ByteArray} (h : bytesOf s = bytesOf t) : s = t := by
  unfold bytesOf at h
  have h2 : s.data.toList = t.data.toList := by
    refine (List.map_inj_right (f := fun b : UInt8 => (b.toNat : Int)) ?_).1 h
    intro x y hxy
    exact UInt8.toNat_inj.1 (Int.ofNat_inj.1 hxy)
  exact ByteArray.ext (Array.toList_inj.1 h2)
theorem tl_inj {s t : ByteArray} (h : s.toList = t.toList) : s = t := by
  rw [ByteArray.toList_eq, ByteArray.toList_eq] at h
  exact ByteArray.ext (Array.toList_inj.1 h)
theorem tl_iff {s t : ByteArray} : s.toList = t.toList ↔ bytesOf s = bytesOf t := ⟨fun h => by rw [tl_inj h], fun h => by rw [bx_inj h]⟩
theorem bx_app (s t : ByteArray) : bytesOf (s ++ t) = bytesOf s ++ bytesOf t := by
  simp [bytesOf]
theorem bx_cut (s : ByteArray) (a b : Nat) : bytesOf (s.extract a b) = ((bytesOf s).take b).drop a := by
  simp [bytesOf, ByteArray.data_extract, List.map_drop, List.map_take, List.take_drop]
  rw [List.drop_take, List.drop_take]
  congr 1
  omega
theorem bx_str {xs : List Int} (h : ∀ c ∈ xs, 0 ≤ c ∧ c ≤ 255) : bytesOf (strOfNums xs) = xs := by
  unfold bytesOf
  rw [strOfNums_data, List.map_map]
  induction xs with
  | nil => rfl
  | cons c xs ih =>
    rw [List.map_cons, ih (fun d hd => h d (List.mem_cons_of_mem _ hd))]
    have hc := h c (List.mem_cons_self ..)
    congr 1
    have e : (UInt8.ofNat c.toNat).toNat = c.toNat := by
      rw [UInt8.toNat_ofNat']
      omega
    show ((UInt8.ofNat c.toNat).toNat : Int) = c
    rw [e]
    omega
theorem bx_wrap {s : ByteArray} {pre ys : List Int} {c : Int} (h : bytesOf s = pre ++ c :: ys) (hs : s.size ≤ 140737488351232) : wrap64 ((pre.length : Int) + 1) = ((pre ++ [c]).length : Int) := by
  rw [len_next]
  have := bx_lt h
  exact w64 (by omega) (by omega)
theorem bx_in {s : ByteArray} {pre ys : List Int} {c : Int} (h : bytesOf s = pre ++ c :: ys) : 0 ≤ c ∧ c ≤ 255 :=
  bx_byte s c (by rw [h]; exact List.mem_append_right _ (List.mem_cons_self ..))
theorem succ_of {n k : Nat} (h : n < k) : ∃ m, k = m + 1 := ⟨k - 1, by omega⟩
theorem ev2 {α β : Type} {g : Nat → Option α} {f : Nat → Option β} {a : α} {b : β} (h : Ev g a) (h' : Ev f b) : ∃ k, g k = some a ∧ f k = some b := by
  obtain ⟨K, h⟩ := h
  obtain ⟨K', h'⟩ := h'
  exact ⟨K + K', h _ (by omega), h' _ (by omega)⟩

theorem getD_at {α : Type} (pre ys : List α) (y d : α) : (pre ++ y :: ys).getD (pre.length : Int).toNat d = y := by
  rw [Int.toNat_natCast, List.getD_eq_getElem?_getD, List.getElem?_append_right (Nat.le_refl _)]
  simp
theorem len_cons {α : Type} (pre ys : List α) (y : α) : (pre.length : Int) < ((pre ++ y :: ys).length : Int) := by
  rw [List.length_append, List.length_cons]; omega
theorem len_nil {α : Type} (pre : List α) : ¬ (pre.length : Int) < ((pre ++ []).length : Int) := by
  rw [List.append_nil]; omega
theorem len_succ {α : Type} (pre ys : List α) (y : α) (h : (pre ++ y :: ys).length ≤ 9223372036854775807) : wrap64 ((pre.length : Int) + 1) = ((pre ++ [y]).length : Int) := by
  rw [List.length_append, List.length_cons] at h
  rw [List.length_append, List.length_singleton, w64 (by omega) (by omega)]
  omega
theorem app_cons {α : Type} (pre ys : List α) (y : α) : pre ++ y :: ys = (pre ++ [y]) ++ ys := by rw [List.append_assoc]; rfl
theorem set_at {α : Type} (pre ys : List α) (y z : α) : (pre ++ y :: ys).set (pre.length : Int).toNat z = pre ++ z :: ys := by
  rw [Int.toNat_natCast, List.set_append_right _ _ (Nat.le_refl _), Nat.sub_self]
  rfl

/-! What the laws ask of a store's size. -/
theorem szVar_ok (a b : ByteArray) {left : Int} (h0 : 0 ≤ left) (h1 : left ≤ 1048576) (ha : a.size ≤ 9223372036854775807) (hb : b.size ≤ 9223372036854775807) :
    ∃ r, laws_szVar.f a b left = some r ∧ r ≤ left ∧ (0 ≤ r → (a.size : Int) ≤ left ∧ (b.size : Int) ≤ left) := by
  unfold laws_szVar.f
  rw [w64 (show _ ≤ left - (a.size : Int) by omega) (by omega)]
  by_cases c : left - (a.size : Int) < 0
  · rw [if_pos c]; exact ⟨-1, rfl, by omega, by omega⟩
  · rw [if_neg c, w64 (show _ ≤ left - (a.size : Int) - (b.size : Int) by omega) (by omega)]
    by_cases c2 : left - (a.size : Int) - (b.size : Int) < 0
    · rw [if_pos c2]; exact ⟨-1, rfl, by omega, by omega⟩
    · rw [if_neg c2]; exact ⟨_, rfl, by omega, by omega⟩
theorem szVarS_l : ∀ (ys pre : List S141) (k : Nat) (left : Int), 0 ≤ left → left ≤ 1048576 → ys.length < k → (pre ++ ys).length ≤ 9223372036854775807 → (∀ y ∈ ys, y.f0.size ≤ 9223372036854775807 ∧ y.f1.size ≤ 9223372036854775807) →
    ∃ r, laws_szVarS.l0 k (pre ++ ys) left (pre.length : Int) = some r ∧ r ≤ left ∧ (0 ≤ r → ∀ y ∈ ys, (y.f0.size : Int) ≤ left ∧ (y.f1.size : Int) ≤ left) := by
  intro ys
  induction ys with
  | nil =>
    intro pre k left h0 h1 hk hl hy
    obtain ⟨k, rfl⟩ := succ_of hk
    simp only [laws_szVarS.l0]
    rw [if_neg (len_nil pre)]
    exact ⟨_, rfl, Int.le_refl _, fun _ y hy => by cases hy⟩
  | cons y ys ih =>
    intro pre k left h0 h1 hk hl hy
    obtain ⟨k, rfl⟩ := succ_of hk
    have hy0 := hy y (List.mem_cons_self ..)
    obtain ⟨r, e, hr, hq⟩ := szVar_ok y.f0 y.f1 h0 h1 hy0.1 hy0.2
    simp only [laws_szVarS.l0]
    rw [if_pos (len_cons pre ys y), if_pos (by omega)]
    rw [show rd_T141 (pre ++ y :: ys) (pre.length : Int) = y from getD_at pre ys y _, e, Option.bind_some]
    by_cases c : r < 0
    · rw [if_pos c]; exact ⟨-1, rfl, by omega, by omega⟩
    · rw [if_neg c, len_succ pre ys y hl, app_cons pre ys y]
      obtain ⟨r2, e2, hr2, hq2⟩ := ih (pre ++ [y]) k r (by omega) (by omega) (by simpa using hk) (by rw [← app_cons]; exact hl) (fun z hz => hy z (List.mem_cons_of_mem _ hz))
      refine ⟨r2, e2, by omega, fun h z hz => ?_⟩
      rcases List.mem_cons.1 hz with rfl | hz
      · exact hq (by omega)
      · have := hq2 h z hz
        omega
theorem szVarS_ok {l : List S141} {left : Int} (h0 : 0 ≤ left) (h1 : left ≤ 1048576) (hl : l.length ≤ 9223372036854775807) (hy : ∀ y ∈ l, y.f0.size ≤ 9223372036854775807 ∧ y.f1.size ≤ 9223372036854775807) :
    ∃ r, Ev (fun k => laws_szVarS.f k l left) r ∧ r ≤ left ∧ (0 ≤ r → l.length ≤ 1048576 ∧ ∀ y ∈ l, y.f0.size ≤ 1048576 ∧ y.f1.size ≤ 1048576) := by
  by_cases c : left - (l.length : Int) < 0
  · exact ⟨-1, ⟨0, fun k _ => by dsimp only; unfold laws_szVarS.f; rw [w64 (by omega) (by omega), if_pos c]⟩, by omega, by omega⟩
  · have key : ∀ k, l.length < k → ∃ r, laws_szVarS.l0 k l (left - (l.length : Int)) 0 = some r ∧ r ≤ left - (l.length : Int) ∧ (0 ≤ r → ∀ y ∈ l, (y.f0.size : Int) ≤ left - (l.length : Int) ∧ (y.f1.size : Int) ≤ left - (l.length : Int)) :=
      fun k hk => szVarS_l l [] k (left - (l.length : Int)) (by omega) (by omega) hk hl hy
    obtain ⟨r, e, hr, hq⟩ := key (l.length + 1) (by omega)
    refine ⟨r, ⟨l.length + 1, fun k hk => ?_⟩, by omega, fun h => ⟨by omega, fun y hy => ?_⟩⟩
    · dsimp only
      unfold laws_szVarS.f
      rw [w64 (by omega) (by omega), if_neg c]
      exact at_rounds (g := fun k => laws_szVarS.l0 k l (left - (l.length : Int)) 0) (fun k => laws_szVarS.mono_l k _ _ _) hk e
    · have := hq h y hy
      omega
theorem szCell_ok (a b c : ByteArray) {left : Int} (h0 : 0 ≤ left) (h1 : left ≤ 1048576) (ha : a.size ≤ 9223372036854775807) (hb : b.size ≤ 9223372036854775807) (hc : c.size ≤ 9223372036854775807) :
    ∃ r, laws_szCell.f a b c left = some r ∧ r ≤ left ∧ (0 ≤ r → (a.size : Int) ≤ left ∧ (b.size : Int) ≤ left ∧ (c.size : Int) ≤ left) := by
  unfold laws_szCell.f
  rw [w64 (show _ ≤ left - (a.size : Int) by omega) (by omega)]
  by_cases c1 : left - (a.size : Int) < 0
  · rw [if_pos c1]; exact ⟨-1, rfl, by omega, by omega⟩
  · rw [if_neg c1, w64 (show _ ≤ left - (a.size : Int) - (b.size : Int) by omega) (by omega)]
    by_cases c2 : left - (a.size : Int) - (b.size : Int) < 0
    · rw [if_pos c2]; exact ⟨-1, rfl, by omega, by omega⟩
    · rw [if_neg c2, w64 (show _ ≤ left - (a.size : Int) - (b.size : Int) - (c.size : Int) by omega) (by omega)]
      by_cases c3 : left - (a.size : Int) - (b.size : Int) - (c.size : Int) < 0
      · rw [if_pos c3]; exact ⟨-1, rfl, by omega, by omega⟩
      · rw [if_neg c3]; exact ⟨_, rfl, by omega, by omega⟩
theorem szCellS_l : ∀ (ys pre : List S143) (k : Nat) (left : Int), 0 ≤ left → left ≤ 1048576 → ys.length < k → (pre ++ ys).length ≤ 9223372036854775807 → (∀ y ∈ ys, y.f0.size ≤ 9223372036854775807 ∧ y.f1.size ≤ 9223372036854775807 ∧ y.f2.size ≤ 9223372036854775807) →
    ∃ r, laws_szCellS.l0 k (pre ++ ys) left (pre.length : Int) = some r ∧ r ≤ left ∧ (0 ≤ r → ∀ y ∈ ys, (y.f0.size : Int) ≤ left ∧ (y.f1.size : Int) ≤ left ∧ (y.f2.size : Int) ≤ left) := by
  intro ys
  induction ys with
  | nil =>
    intro pre k left h0 h1 hk hl hy
    obtain ⟨k, rfl⟩ := succ_of hk
    simp only [laws_szCellS.l0]
    rw [if_neg (len_nil pre)]
    exact ⟨_, rfl, Int.le_refl _, fun _ y hy => by cases hy⟩
  | cons y ys ih =>
    intro pre k left h0 h1 hk hl hy
    obtain ⟨k, rfl⟩ := succ_of hk
    have hy0 := hy y (List.mem_cons_self ..)
    obtain ⟨r, e, hr, hq⟩ := szCell_ok y.f0 y.f1 y.f2 h0 h1 hy0.1 hy0.2.1 hy0.2.2
    simp only [laws_szCellS.l0]
    rw [if_pos (len_cons pre ys y), if_pos (by omega)]
    rw [show rd_T143 (pre ++ y :: ys) (pre.length : Int) = y from getD_at pre ys y _, e, Option.bind_some]
    by_cases c : r < 0
    · rw [if_pos c]; exact ⟨-1, rfl, by omega, by omega⟩
    · rw [if_neg c, len_succ pre ys y hl, app_cons pre ys y]
      obtain ⟨r2, e2, hr2, hq2⟩ := ih (pre ++ [y]) k r (by omega) (by omega) (by simpa using hk) (by rw [← app_cons]; exact hl) (fun z hz => hy z (List.mem_cons_of_mem _ hz))
      refine ⟨r2, e2, by omega, fun h z hz => ?_⟩
      rcases List.mem_cons.1 hz with rfl | hz
      · exact hq (by omega)
      · have := hq2 h z hz
        omega
theorem szCellS_ok {l : List S143} {left : Int} (h0 : 0 ≤ left) (h1 : left ≤ 1048576) (hl : l.length ≤ 9223372036854775807) (hy : ∀ y ∈ l, y.f0.size ≤ 9223372036854775807 ∧ y.f1.size ≤ 9223372036854775807 ∧ y.f2.size ≤ 9223372036854775807) :
    ∃ r, Ev (fun k => laws_szCellS.f k l left) r ∧ r ≤ left ∧ (0 ≤ r → l.length ≤ 1048576 ∧ ∀ y ∈ l, y.f0.size ≤ 1048576 ∧ y.f1.size ≤ 1048576 ∧ y.f2.size ≤ 1048576) := by
  by_cases c : left - (l.length : Int) < 0
  · exact ⟨-1, ⟨0, fun k _ => by dsimp only; unfold laws_szCellS.f; rw [w64 (by omega) (by omega), if_pos c]⟩, by omega, by omega⟩
  · have key : ∀ k, l.length < k → ∃ r, laws_szCellS.l0 k l (left - (l.length : Int)) 0 = some r ∧ r ≤ left - (l.length : Int) ∧ (0 ≤ r → ∀ y ∈ l, (y.f0.size : Int) ≤ left - (l.length : Int) ∧ (y.f1.size : Int) ≤ left - (l.length : Int) ∧ (y.f2.size : Int) ≤ left - (l.length : Int)) :=
      fun k hk => szCellS_l l [] k (left - (l.length : Int)) (by omega) (by omega) hk hl hy
    obtain ⟨r, e, hr, hq⟩ := key (l.length + 1) (by omega)
    refine ⟨r, ⟨l.length + 1, fun k hk => ?_⟩, by omega, fun h => ⟨by omega, fun y hy => ?_⟩⟩
    · dsimp only
      unfold laws_szCellS.f
      rw [w64 (by omega) (by omega), if_neg c]
      exact at_rounds (g := fun k => laws_szCellS.l0 k l (left - (l.length : Int)) 0) (fun k => laws_szCellS.mono_l k _ _ _) hk e
    · have := hq h y hy
      omega
def BigStore (vs : List S141) (cs : List S143) (o : ByteArray) : Prop :=
  (vs.length ≤ 9223372036854775807 ∧ ∀ y ∈ vs, y.f0.size ≤ 9223372036854775807 ∧ y.f1.size ≤ 9223372036854775807) ∧ (cs.length ≤ 9223372036854775807 ∧ ∀ y ∈ cs, y.f0.size ≤ 9223372036854775807 ∧ y.f1.size ≤ 9223372036854775807 ∧ y.f2.size ≤ 9223372036854775807) ∧ o.size ≤ 9223372036854775807
def SmallStore (vs : List S141) (cs : List S143) (o : ByteArray) : Prop :=
  (vs.length ≤ 1048576 ∧ ∀ y ∈ vs, y.f0.size ≤ 1048576 ∧ y.f1.size ≤ 1048576) ∧ (cs.length ≤ 1048576 ∧ ∀ y ∈ cs, y.f0.size ≤ 1048576 ∧ y.f1.size ≤ 1048576 ∧ y.f2.size ≤ 1048576) ∧ o.size ≤ 1048576
theorem szStore_ok {vs : List S141} {cs : List S143} {o : ByteArray} (hb : BigStore vs cs o) {left : Int} (h0 : 0 ≤ left) (h1 : left ≤ 1048576) :
    ∃ r, Ev (fun k => laws_szStore.f k vs cs o left) r ∧ r ≤ left ∧ (0 ≤ r → SmallStore vs cs o) := by
  obtain ⟨⟨b1, b2⟩, ⟨b3, b4⟩, b5⟩ := hb
  obtain ⟨r, ⟨K, e⟩, hr, hq⟩ := szVarS_ok h0 h1 b1 b2
  by_cases c : r < 0
  · refine ⟨-1, ⟨K, fun k hk => ?_⟩, by omega, by omega⟩
    have e := e k hk
    dsimp only at e ⊢
    unfold laws_szStore.f
    rw [e, Option.bind_some, if_pos c]
  · obtain ⟨r2, ⟨K2, e2⟩, hr2, hq2⟩ := szCellS_ok (left := r) (by omega) (by omega) b3 b4
    by_cases c2 : r2 < 0
    · refine ⟨-1, ⟨K + K2, fun k hk => ?_⟩, by omega, by omega⟩
      have e := e k (by omega)
      have e2 := e2 k (by omega)
      dsimp only at e e2 ⊢
      unfold laws_szStore.f
      rw [e, Option.bind_some, if_neg c, e2, Option.bind_some, if_pos c2]
    · by_cases c3 : r2 - (o.size : Int) < 0
      · refine ⟨-1, ⟨K + K2, fun k hk => ?_⟩, by omega, by omega⟩
        have e := e k (by omega)
        have e2 := e2 k (by omega)
        dsimp only at e e2 ⊢
        unfold laws_szStore.f
        rw [e, Option.bind_some, if_neg c, e2, Option.bind_some, if_neg c2, w64 (by omega) (by omega), if_pos c3]
      · refine ⟨r2 - (o.size : Int), ⟨K + K2, fun k hk => ?_⟩, by omega, fun _ => ⟨hq (by omega), hq2 (by omega), by omega⟩⟩
        have e := e k (by omega)
        have e2 := e2 k (by omega)
        dsimp only at e e2 ⊢
        unfold laws_szStore.f
        rw [e, Option.bind_some, if_neg c, e2, Option.bind_some, if_neg c2, w64 (by omega) (by omega), if_neg c3]

/-! A store of the laws as one of the program's. -/
def cV (x : S141) : S105 := ⟨x.f0, x.f1⟩
def cC (x : S143) : S61 := ⟨x.f0, x.f1, x.f2⟩
theorem toVarS_l : ∀ (ys pre : List S141) (k : Nat), ys.length < k → (pre ++ ys).length ≤ 1048576 →
    laws_toVarS.l0 k (pre ++ ys) (pre.map cV ++ List.replicate ys.length z105) (pre.length : Int) = some ((pre ++ ys).map cV) := by
  intro ys
  induction ys with
  | nil =>
    intro pre k hk hl
    obtain ⟨k, rfl⟩ := succ_of hk
    simp only [laws_toVarS.l0]
    rw [if_neg (len_nil pre)]
    simp
  | cons y ys ih =>
    intro pre k hk hl
    obtain ⟨k, rfl⟩ := succ_of hk
    simp only [laws_toVarS.l0]
    have h1 : pre.length + (ys.length + 1) ≤ 1048576 := by rw [List.length_append, List.length_cons] at hl; exact hl
    rw [if_pos (len_cons pre ys y), if_pos (by omega), show rd_T141 (pre ++ y :: ys) (pre.length : Int) = y from getD_at pre ys y _]
    unfold laws_toVar.f
    rw [Option.bind_some]
    have e : (List.map cV pre).length = pre.length := List.length_map _
    have e2 : List.replicate (y :: ys).length z105 = z105 :: List.replicate ys.length z105 := rfl
    rw [if_pos (by rw [List.length_append, List.length_replicate, List.length_cons, e]; omega), e2, ← e, set_at, e, len_succ pre ys y (by omega), app_cons pre ys y]
    have := ih (pre ++ [y]) k (by simpa using hk) (by rw [← app_cons]; exact hl)
    have e3 : List.map cV pre ++ cV y :: List.replicate ys.length z105 = List.map cV (pre ++ [y]) ++ List.replicate ys.length z105 := by
      rw [List.map_append, List.append_assoc]; rfl
    rw [← e3] at this
    exact this
theorem toVarS_ok {l : List S141} (hl : l.length ≤ 1048576) {k : Nat} (hk : l.length < k) : laws_toVarS.f k l = some (l.map cV) := by
  unfold laws_toVarS.f
  rw [if_pos (by omega), if_pos (by omega), Int.toNat_natCast]
  exact toVarS_l l [] k hk hl
theorem toCellS_l : ∀ (ys pre : List S143) (k : Nat), ys.length < k → (pre ++ ys).length ≤ 1048576 →
    laws_toCellS.l0 k (pre ++ ys) (pre.map cC ++ List.replicate ys.length z61) (pre.length : Int) = some ((pre ++ ys).map cC) := by
  intro ys
  induction ys with
  | nil =>
    intro pre k hk hl
    obtain ⟨k, rfl⟩ := succ_of hk
    simp only [laws_toCellS.l0]
    rw [if_neg (len_nil pre)]
    simp
  | cons y ys ih =>
    intro pre k hk hl
    obtain ⟨k, rfl⟩ := succ_of hk
    simp only [laws_toCellS.l0]
    have h1 : pre.length + (ys.length + 1) ≤ 1048576 := by rw [List.length_append, List.length_cons] at hl; exact hl
    rw [if_pos (len_cons pre ys y), if_pos (by omega), show rd_T143 (pre ++ y :: ys) (pre.length : Int) = y from getD_at pre ys y _]
    unfold laws_toCell.f
    rw [Option.bind_some]
    have e : (List.map cC pre).length = pre.length := List.length_map _
    have e2 : List.replicate (y :: ys).length z61 = z61 :: List.replicate ys.length z61 := rfl
    rw [if_pos (by rw [List.length_append, List.length_replicate, List.length_cons, e]; omega), e2, ← e, set_at, e, len_succ pre ys y (by omega), app_cons pre ys y]
    have := ih (pre ++ [y]) k (by simpa using hk) (by rw [← app_cons]; exact hl)
    have e3 : List.map cC pre ++ cC y :: List.replicate ys.length z61 = List.map cC (pre ++ [y]) ++ List.replicate ys.length z61 := by
      rw [List.map_append, List.append_assoc]; rfl
    rw [← e3] at this
    exact this
theorem toCellS_ok {l : List S143} (hl : l.length ≤ 1048576) {k : Nat} (hk : l.length < k) : laws_toCellS.f k l = some (l.map cC) := by
  unfold laws_toCellS.f
  rw [if_pos (by omega), if_pos (by omega), Int.toNat_natCast]
  exact toCellS_l l [] k hk hl
theorem toStore_ok {vs : List S141} {cs : List S143} {o : ByteArray} (h : SmallStore vs cs o) {k : Nat} (hk : 1048577 ≤ k) : laws_toStore.f k vs cs o = some (vs.map cV, cs.map cC, o) := by
  obtain ⟨⟨h1, _⟩, ⟨h2, _⟩, _⟩ := h
  unfold laws_toStore.f
  rw [toVarS_ok h1 (by omega), Option.bind_some, toCellS_ok h2 (by omega), Option.bind_some]

/-! A store is the same as itself. -/
theorem eqVarS_l : ∀ (ys pre : List S105) (k : Nat), ys.length < k → (pre ++ ys).length ≤ 9223372036854775807 → laws_eqVarS.l0 k (pre ++ ys) (pre ++ ys) (pre.length : Int) = some true := by
  intro ys
  induction ys with
  | nil =>
    intro pre k hk hl
    obtain ⟨k, rfl⟩ := succ_of hk
    simp only [laws_eqVarS.l0]
    rw [if_neg (len_nil pre)]
  | cons y ys ih =>
    intro pre k hk hl
    obtain ⟨k, rfl⟩ := succ_of hk
    simp only [laws_eqVarS.l0]
    rw [if_pos (len_cons pre ys y), if_pos (by omega), if_pos (len_cons pre ys y), show rd_T105 (pre ++ y :: ys) (pre.length : Int) = y from getD_at pre ys y _]
    unfold laws_eqVar.f
    rw [if_pos rfl, if_pos rfl, Option.bind_some, if_pos rfl, len_succ pre ys y hl, app_cons pre ys y]
    exact ih (pre ++ [y]) k (by simpa using hk) (by rw [← app_cons]; exact hl)
theorem eqCellS_l : ∀ (ys pre : List S61) (k : Nat), ys.length < k → (pre ++ ys).length ≤ 9223372036854775807 → laws_eqCellS.l0 k (pre ++ ys) (pre ++ ys) (pre.length : Int) = some true := by
  intro ys
  induction ys with
  | nil =>
    intro pre k hk hl
    obtain ⟨k, rfl⟩ := succ_of hk
    simp only [laws_eqCellS.l0]
    rw [if_neg (len_nil pre)]
  | cons y ys ih =>
    intro pre k hk hl
    obtain ⟨k, rfl⟩ := succ_of hk
    simp only [laws_eqCellS.l0]
    rw [if_pos (len_cons pre ys y), if_pos (by omega), if_pos (len_cons pre ys y), show rd_T61 (pre ++ y :: ys) (pre.length : Int) = y from getD_at pre ys y _]
    unfold laws_eqCell.f
    rw [if_pos rfl, if_pos rfl, if_pos rfl, Option.bind_some, if_pos rfl, len_succ pre ys y hl, app_cons pre ys y]
    exact ih (pre ++ [y]) k (by simpa using hk) (by rw [← app_cons]; exact hl)
theorem eqStore_ok {vs : List S105} {cs : List S61} {o : ByteArray} (h1 : vs.length ≤ 1048576) (h2 : cs.length ≤ 1048576) {k : Nat} (hk : 1048577 ≤ k) : laws_eqStore.f k vs cs o vs cs o = some true := by
  unfold laws_eqStore.f laws_eqVarS.f laws_eqCellS.f
  rw [if_pos rfl, if_pos rfl]
  rw [show laws_eqVarS.l0 k vs vs 0 = some true from eqVarS_l vs [] k (by omega) (by simp; omega), Option.bind_some, if_pos rfl]
  rw [show laws_eqCellS.l0 k cs cs 0 = some true from eqCellS_l cs [] k (by omega) (by simp; omega), Option.bind_some, if_pos rfl, if_pos rfl]

theorem sIn (a b c : Int) : spec_l01In.f a b c = some (decide (b ≤ a) && decide (a ≤ c)) := by
  unfold spec_l01In.f
  by_cases h : a ≥ b
  · rw [if_pos h]; simp [show b ≤ a from h]
  · rw [if_neg h]; simp [show ¬ b ≤ a from h]

theorem iIn (a b c : Int) : impl_within.f a b c = some (decide (b ≤ a) && decide (a ≤ c)) := by
  unfold impl_within.f
  by_cases h : a ≥ b
  · rw [if_pos h]; simp [show b ≤ a from h]
  · rw [if_neg h]; simp [show ¬ b ≤ a from h]

/-! A name: the two programs' rules are one. -/
theorem bt_in (s : ByteArray) (i : Int) : 0 ≤ bt s i ∧ bt s i ≤ 255 := by
  rw [← rd_bytesOf, rd, List.getD_eq_getElem?_getD]
  cases h : (bytesOf s)[i.toNat]? with
  | none => exact ⟨by decide, by decide⟩
  | some c =>
    have := bx_byte s c (List.mem_of_getElem? h)
    simpa using this
theorem letter_eq {b : Int} (h0 : 0 ≤ b) (h1 : b ≤ 255) : spec_l05Letter.f b = impl_isLetter.f b := by
  unfold impl_isLetter.f spec_l05Letter.f
  rw [w64 (by omega) (by omega), iIn, Option.bind_some, iIn, Option.bind_some]
  by_cases c1 : 97 ≤ b <;> by_cases c2 : b ≤ 122 <;> by_cases c3 : 65 ≤ b <;> by_cases c4 : b ≤ 90 <;> simp [c1, c2, c3, c4] <;> omega
theorem letter_some {b : Int} (h0 : 0 ≤ b) (h1 : b ≤ 255) : ∃ r, impl_isLetter.f b = some r := by
  unfold impl_isLetter.f
  rw [w64 (by omega) (by omega), iIn, Option.bind_some, iIn, Option.bind_some]
  split
  · exact ⟨_, rfl⟩
  · exact ⟨_, rfl⟩
theorem name_eq (s : ByteArray) : ∀ (k : Nat) (i : Int), spec_l07Name.l0 k s i = impl_isLetters.l0 k s (s.size : Int) i := by
  intro k
  induction k with
  | zero => intro i; rfl
  | succ k ih =>
    intro i
    simp only [spec_l07Name.l0, impl_isLetters.l0]
    rw [letter_eq (bt_in s i).1 (bt_in s i).2, ih, sIn, iIn]
    by_cases c : i < (s.size : Int)
    · rw [if_pos c, if_pos c, if_pos c]
    · rw [if_neg c, if_neg c]
theorem name_eqf (s : ByteArray) (k : Nat) : spec_l07Name.f k s = impl_isLetters.f k s := name_eq s k 0
theorem name_some_l {s : ByteArray} (hs : s.size ≤ 140737488351232) : ∀ (d k : Nat) (i : Int), 0 ≤ i → i + d = (s.size : Int) → d < k → ∃ r, impl_isLetters.l0 k s (s.size : Int) i = some r := by
  intro d
  induction d with
  | zero =>
    intro k i h0 h1 hk
    obtain ⟨k, rfl⟩ := succ_of hk
    simp only [impl_isLetters.l0]
    rw [if_neg (by omega), iIn]
    exact ⟨_, rfl⟩
  | succ d ih =>
    intro k i h0 h1 hk
    obtain ⟨k, rfl⟩ := succ_of hk
    simp only [impl_isLetters.l0]
    obtain ⟨r, e⟩ := letter_some (bt_in s i).1 (bt_in s i).2
    rw [if_pos (by omega), if_pos h0, if_pos (by omega), e, Option.bind_some, w64 (by omega) (by omega)]
    cases r with
    | false => exact ⟨_, by rw [if_neg (by decide)]⟩
    | true =>
      rw [if_pos rfl]
      exact ih k (i + 1) (by omega) (by omega) (by omega)
theorem name_some {s : ByteArray} (hs : s.size ≤ 1048576) {k : Nat} (hk : 1048577 ≤ k) : ∃ r, impl_isLetters.f k s = some r :=
  name_some_l (by omega) s.size k 0 (by omega) (by omega) (by omega)

/-! Which comes first: the two programs' rules are one. -/
theorem less_cmp : ∀ (a b : List UInt8), Op.bytesLess a b = decide (Go.Lib.compareBytes a b < 0)
  | [], [] => rfl
  | [], _ :: _ => rfl
  | _ :: _, [] => rfl
  | a :: xs, b :: ys => by
    have ih := less_cmp xs ys
    simp only [Op.bytesLess, Go.Lib.compareBytes]
    rw [ih]
    by_cases h : a < b
    · simp [h]
    · by_cases h2 : b < a
      · have : a ≠ b := fun e => by subst e; exact h h2
        simp [h, h2, this]
      · have : a = b := UInt8.le_antisymm (UInt8.not_lt.1 h2) (UInt8.not_lt.1 h)
        simp [h, h2, this]
theorem cmp_self : ∀ (a : List UInt8), Go.Lib.compareBytes a a = 0
  | [] => rfl
  | a :: xs => by
    simp only [Go.Lib.compareBytes]
    rw [if_neg (UInt8.lt_irrefl a), if_neg (UInt8.lt_irrefl a)]
    exact cmp_self xs
theorem ahead_key (a b c a' b' c' : ByteArray) : ∃ t, impl_byKey.f a b c a' b' c' = some t ∧ spec_l08Ahead.f a b c a' b' c' = some (decide (t < 0)) := by
  unfold impl_byKey.f spec_l08Ahead.f strings_Compare.f
  rw [less_cmp, less_cmp]
  by_cases h : a.toList = a'.toList
  · rw [if_pos h, Option.bind_some, if_neg (by rw [h, cmp_self]; decide), if_pos h]
    exact ⟨_, rfl, by rw [ByteArray.toList_eq, ByteArray.toList_eq]⟩
  · rw [if_neg h, Option.bind_some]
    refine ⟨_, rfl, ?_⟩
    rw [ByteArray.toList_eq, ByteArray.toList_eq]
    split
    · next h2 => rw [h2]
    · next h2 =>
      rw [ByteArray.toList_eq, ByteArray.toList_eq] at h
      rw [if_neg h, Bool.eq_false_iff.2 h2]
theorem storeOk_eq1 (vs : List S105) (cs : List S61) (o : ByteArray) : ∀ (k : Nat) (i : Int), spec_StoreOk.l1 k i vs cs o = impl_StoreOk.l1 k cs (cs.length : Int) i vs cs o := by
  intro k
  induction k with
  | zero => intro i; simp only [spec_StoreOk.l1, impl_StoreOk.l1]
  | succ k ih =>
    intro i
    simp only [spec_StoreOk.l1, impl_StoreOk.l1]
    obtain ⟨t, e1, e2⟩ := ahead_key (rd_T61 cs (wrap64 (i - 1))).f0 (rd_T61 cs (wrap64 (i - 1))).f1 (rd_T61 cs (wrap64 (i - 1))).f2 (rd_T61 cs i).f0 (rd_T61 cs i).f1 (rd_T61 cs i).f2
    rw [name_eqf, ih, e1, e2, Option.bind_some, Option.bind_some]
    have : (if decide (t < 0) = true then impl_StoreOk.l1 k cs (cs.length : Int) (wrap64 (i + 1)) vs cs o else some false) = (if t ≥ 0 then some false else impl_StoreOk.l1 k cs (cs.length : Int) (wrap64 (i + 1)) vs cs o) := by
      by_cases h : t < 0
      · rw [if_pos (decide_eq_true h), if_neg (by omega)]
      · rw [if_neg (by simpa using h), if_pos (by omega)]
    rw [this]
    by_cases c : i < (cs.length : Int)
    · rw [if_pos c, if_pos c, if_pos c]
    · rw [if_neg c, if_neg c]
theorem storeOk_eq0 (vs : List S105) (cs : List S61) (o : ByteArray) : ∀ (k : Nat) (i : Int), spec_StoreOk.l0 k i vs cs o = impl_StoreOk.l0 k vs (vs.length : Int) i vs cs o := by
  intro k
  induction k with
  | zero => intro i; simp only [spec_StoreOk.l0, impl_StoreOk.l0]
  | succ k ih =>
    intro i
    simp only [spec_StoreOk.l0, impl_StoreOk.l0]
    rw [name_eqf, ih, storeOk_eq1]
    by_cases c : i < (vs.length : Int)
    · rw [if_pos c, if_pos c, if_pos c]
    · rw [if_neg c, if_neg c]
theorem rd_memV {vs : List S105} {i : Int} (h0 : 0 ≤ i) (h : i < (vs.length : Int)) : rd_T105 vs i ∈ vs := by
  unfold rd_T105
  rw [List.getD_eq_getElem?_getD, List.getElem?_eq_getElem (by omega)]
  exact List.getElem_mem _
theorem rd_memC {vs : List S61} {i : Int} (h0 : 0 ≤ i) (h : i < (vs.length : Int)) : rd_T61 vs i ∈ vs := by
  unfold rd_T61
  rw [List.getD_eq_getElem?_getD, List.getElem?_eq_getElem (by omega)]
  exact List.getElem_mem _
theorem storeOk_some1 {vs : List S105} {cs : List S61} {o : ByteArray} (hl : cs.length ≤ 1048576) (hc : ∀ y ∈ cs, y.f0.size ≤ 1048576) : ∀ (d k : Nat) (i : Int), 0 ≤ i → i + d = (cs.length : Int) → 1048577 + d < k →
    ∃ r, impl_StoreOk.l1 k cs (cs.length : Int) i vs cs o = some r := by
  intro d
  induction d with
  | zero =>
    intro k i h0 h1 hk
    obtain ⟨k, rfl⟩ := succ_of hk
    simp only [impl_StoreOk.l1]
    rw [if_neg (by omega)]
    repeat' split
    all_goals exact ⟨_, rfl⟩
  | succ d ih =>
    intro k i h0 h1 hk
    obtain ⟨k, rfl⟩ := succ_of hk
    simp only [impl_StoreOk.l1]
    obtain ⟨r, e⟩ := name_some (hc _ (rd_memC h0 (show i < (cs.length : Int) by omega))) (k := k) (by omega)
    obtain ⟨r2, e2⟩ := ih k (i + 1) (by omega) (by omega) (by omega)
    rw [if_pos (by omega), if_pos h0, if_pos (by omega), e, Option.bind_some, w64 (show _ ≤ i + 1 by omega) (by omega), e2, w64 (show _ ≤ i - 1 by omega) (by omega)]
    by_cases c : i > 0
    · obtain ⟨t, e1, _⟩ := ahead_key (rd_T61 cs (i - 1)).f0 (rd_T61 cs (i - 1)).f1 (rd_T61 cs (i - 1)).f2 (rd_T61 cs i).f0 (rd_T61 cs i).f1 (rd_T61 cs i).f2
      rw [if_pos c, if_pos (show 0 ≤ i - 1 by omega), if_pos (show i - 1 < (cs.length : Int) by omega), e1, Option.bind_some]
      repeat' split
      all_goals exact ⟨_, rfl⟩
    · rw [if_neg c]
      repeat' split
      all_goals exact ⟨_, rfl⟩
theorem storeOk_some0 {vs : List S105} {cs : List S61} {o : ByteArray} (hl : vs.length ≤ 1048576) (hc : ∀ y ∈ vs, y.f0.size ≤ 1048576) (hl1 : cs.length ≤ 1048576) (hc1 : ∀ y ∈ cs, y.f0.size ≤ 1048576) : ∀ (d k : Nat) (i : Int), 0 ≤ i → i + d = (vs.length : Int) → 2097155 + d < k →
    ∃ r, impl_StoreOk.l0 k vs (vs.length : Int) i vs cs o = some r := by
  intro d
  induction d with
  | zero =>
    intro k i h0 h1 hk
    obtain ⟨k, rfl⟩ := succ_of hk
    simp only [impl_StoreOk.l0]
    rw [if_neg (by omega)]
    exact storeOk_some1 hl1 hc1 cs.length k 0 (by omega) (by omega) (by omega)
  | succ d ih =>
    intro k i h0 h1 hk
    obtain ⟨k, rfl⟩ := succ_of hk
    simp only [impl_StoreOk.l0]
    obtain ⟨r, e⟩ := name_some (hc _ (rd_memV h0 (show i < (vs.length : Int) by omega))) (k := k) (by omega)
    obtain ⟨r2, e2⟩ := ih k (i + 1) (by omega) (by omega) (by omega)
    rw [if_pos (by omega), if_pos h0, if_pos (by omega), e, Option.bind_some, w64 (show _ ≤ i + 1 by omega) (by omega), e2, w64 (show _ ≤ i - 1 by omega) (by omega)]
    by_cases c : i > 0
    · rw [if_pos c, if_pos (show 0 ≤ i - 1 by omega), if_pos (show i - 1 < (vs.length : Int) by omega)]
      repeat' split
      all_goals exact ⟨_, rfl⟩
    · rw [if_neg c]
      repeat' split
      all_goals exact ⟨_, rfl⟩

theorem FnExactStoreOk : ∀ (vs : List S141) (cs : List S143) (o : ByteArray), BigStore vs cs o → ∃ k, laws_FnExactStoreOk.f k vs cs o = some true := by
  intro vs cs o hb
  obtain ⟨r, ⟨K, e⟩, _, hs⟩ := szStore_ok hb (left := 1048576) (by omega) (by omega)
  have e := e (K + 4000000) (by omega)
  refine ⟨K + 4000000, ?_⟩
  dsimp only at e
  unfold laws_FnExactStoreOk.f
  rw [e, Option.bind_some]
  by_cases c : r < 0
  · rw [if_pos c]
  · have hs := hs (by omega)
    rw [if_neg c, toStore_ok hs (by omega), Option.bind_some]
    have h1 : (vs.map cV).length ≤ 1048576 := by rw [List.length_map]; exact hs.1.1
    have h2 : (cs.map cC).length ≤ 1048576 := by rw [List.length_map]; exact hs.2.1.1
    obtain ⟨t, e2⟩ := storeOk_some0 (o := o) h1 (fun y hy => by obtain ⟨z, hz, rfl⟩ := List.mem_map.1 hy; exact (hs.1.2 z hz).1) h2 (fun y hy => by obtain ⟨z, hz, rfl⟩ := List.mem_map.1 hy; exact (hs.2.1.2 z hz).1) (vs.map cV).length (K + 4000000) 0 (by omega) (by omega) (by omega)
    have e3 : spec_StoreOk.f (K + 4000000) (vs.map cV) (cs.map cC) o = some t := (storeOk_eq0 _ _ _ _ 0).trans e2
    have e4 : impl_StoreOk.f (K + 4000000) (vs.map cV) (cs.map cC) o = some t := e2
    dsimp only
    rw [e3, Option.bind_some, Option.bind_some, e4, Option.bind_some, if_neg (by simp), Option.bind_some, eqStore_ok h1 h2 (by omega), Option.bind_some, if_pos rfl]

end Go.Proofs.Ytjbfppakafkkoaa.Pure
