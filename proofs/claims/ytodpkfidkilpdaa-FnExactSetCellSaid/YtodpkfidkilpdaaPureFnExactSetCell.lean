/- The pure statement of FnExactSetCell: over numbers and lists, what the printed functions come to is what the law wants, for every input. -/
import Derived.Test.YtodpkfidkilpdaaQFnExactSetCellx10
set_option linter.unusedVariables false
set_option linter.unusedSimpArgs false
namespace Go.Proofs.Ytodpkfidkilpdaa.Pure
open Go.RowKit Go.Proofs.Ytodpkfidkilpdaa.QFnExactSetCell Go.Proofs.YtodpkfidkilpdaaW.PrintWords Go.Proofs.YtodpkfidkilpdaaW.PrintLast
/-! Words on strings as lists of numbers. -/
theorem w64 {x : Int} (h0 : -9223372036854775808 ≤ x) (h1 : x ≤ 9223372036854775807) : wrap64 x = x := by
  unfold wrap64
  omega
theorem bx_len (s : ByteArray) : (bytesOf s).length = s.size := bytesOf_length s
theorem bx_byte (s : ByteArray) : ∀ c ∈ bytesOf s, 0 ≤ c ∧ c ≤ 255 := by
  intro c hc
  unfold bytesOf at hc
  obtain ⟨b, _, rfl⟩ := List.mem_map.1 hc
  have := b.toNat_lt
  omega
theorem bx_at {s : ByteArray} {pre ys : List Int} {c : Int} (h : bytesOf s = pre ++ c :: ys) : bt s (pre.length : Int) = c := by
  rw [← rd_bytesOf, h, rd, Int.toNat_natCast, List.getD_eq_getElem?_getD, List.getElem?_append_right (Nat.le_refl _)]
  simp
theorem bx_lt {s : ByteArray} {pre ys : List Int} {c : Int} (h : bytesOf s = pre ++ c :: ys) : (pre.length : Int) < (s.size : Int) := by
  have := congrArg List.length h
  rw [bx_len, List.length_append, List.length_cons] at this
  omega
theorem bx_end {s : ByteArray} {pre : List Int} (h : bytesOf s = pre ++ []) : (s.size : Int) = (pre.length : Int) := by
  have := congrArg List.length h
  rw [bx_len, List.append_nil] at this
  omega
theorem bx_next {s : ByteArray} {pre ys : List Int} {c : Int} (h : bytesOf s = pre ++ c :: ys) : bytesOf s = (pre ++ [c]) ++ ys := by
  rw [h, List.append_assoc]; rfl
theorem len_next (pre : List Int) (c : Int) : ((pre ++ [c]).length : Int) = (pre.length : Int) + 1 := by
  rw [List.length_append, List.length_singleton]; omega
theorem bx_inj {s t : ByteArray} (h : bytesOf s = bytesOf t) : s = t := by
  unfold bytesOf at h
  have h2 : s.data.toList = t.data.toList := by
    refine (List.map_inj_right (f := fun b : UInt8 => (b.toNat : Int)) ?_).1 h
    intro x y hxy
    exact UInt8.toNat_inj.1 (Int.ofNat_inj.1 hxy)
  exact ByteArray.ext (Array.toList_inj.1 h2)
theorem tl_inj {s t : ByteArray} (h : s.toList = t.toList) : s = t := by
  rw [ByteArray.toList_eq, ByteArray.toList_eq] at h
  exact ByteArray.ext (Array.toList_inj.1 h)
theorem tl_iff {s t : ByteArray} : s.toList = t.toList ↔ bytesOf s = bytesOf t := ⟨fun h => by rw [tl_inj h], fun h => by rw [bx_inj h]⟩
theorem bx_app (s t : ByteArray) : bytesOf (s ++ t) = bytesOf s ++ bytesOf t := by
  simp [bytesOf]
theorem bx_cut (s : ByteArray) (a b : Nat) : bytesOf (s.extract a b) = ((bytesOf s).take b).drop a := by
  simp [bytesOf, ByteArray.data_extract, List.map_drop, List.map_take, List.take_drop]
  rw [List.drop_take, List.drop_take]
  congr 1
  omega
theorem bx_str {xs : List Int} (h : ∀ c ∈ xs, 0 ≤ c ∧ c ≤ 255) : bytesOf (strOfNums xs) = xs := by
  unfold bytesOf
  rw [strOfNums_data, List.map_map]
  induction xs with
  | nil => rfl
  | cons c xs ih =>
    rw [List.map_cons, ih (fun d hd => h d (List.mem_cons_of_mem _ hd))]
    have hc := h c (List.mem_cons_self ..)
    congr 1
    have e : (UInt8.ofNat c.toNat).toNat = c.toNat := by
      rw [UInt8.toNat_ofNat']
      omega
    show ((UInt8.ofNat c.toNat).toNat : Int) = c
    rw [e]
    omega
theorem bx_wrap {s : ByteArray} {pre ys : List Int} {c : Int} (h : bytesOf s = pre ++ c :: ys) (hs : s.size ≤ 140737488351232) : wrap64 ((pre.length : Int) + 1) = ((pre ++ [c]).length : Int) := by
  rw [len_next]
  have := bx_lt h
  exact w64 (by omega) (by omega)
theorem bx_in {s : ByteArray} {pre ys : List Int} {c : Int} (h : bytesOf s = pre ++ c :: ys) : 0 ≤ c ∧ c ≤ 255 :=
  bx_byte s c (by rw [h]; exact List.mem_append_right _ (List.mem_cons_self ..))
theorem succ_of {n k : Nat} (h : n < k) : ∃ m, k = m + 1 := ⟨k - 1, by omega⟩
theorem ev2 {α β : Type} {g : Nat → Option α} {f : Nat → Option β} {a : α} {b : β} (h : Ev g a) (h' : Ev f b) : ∃ k, g k = some a ∧ f k = some b := by
  obtain ⟨K, h⟩ := h
  obtain ⟨K', h'⟩ := h'
  exact ⟨K + K', h _ (by omega), h' _ (by omega)⟩

theorem getD_at {α : Type} (pre ys : List α) (y d : α) : (pre ++ y :: ys).getD (pre.length : Int).toNat d = y := by
  rw [Int.toNat_natCast, List.getD_eq_getElem?_getD, List.getElem?_append_right (Nat.le_refl _)]
  simp
theorem len_cons {α : Type} (pre ys : List α) (y : α) : (pre.length : Int) < ((pre ++ y :: ys).length : Int) := by
  rw [List.length_append, List.length_cons]; omega
theorem len_nil {α : Type} (pre : List α) : ¬ (pre.length : Int) < ((pre ++ []).length : Int) := by
  rw [List.append_nil]; omega
theorem len_succ {α : Type} (pre ys : List α) (y : α) (h : (pre ++ y :: ys).length ≤ 9223372036854775807) : wrap64 ((pre.length : Int) + 1) = ((pre ++ [y]).length : Int) := by
  rw [List.length_append, List.length_cons] at h
  rw [List.length_append, List.length_singleton, w64 (by omega) (by omega)]
  omega
theorem app_cons {α : Type} (pre ys : List α) (y : α) : pre ++ y :: ys = (pre ++ [y]) ++ ys := by rw [List.append_assoc]; rfl
theorem set_at {α : Type} (pre ys : List α) (y z : α) : (pre ++ y :: ys).set (pre.length : Int).toNat z = pre ++ z :: ys := by
  rw [Int.toNat_natCast, List.set_append_right _ _ (Nat.le_refl _), Nat.sub_self]
  rfl

/-! What the laws ask of a store's size. -/
theorem szVar_ok (a b : ByteArray) {left : Int} (h0 : 0 ≤ left) (h1 : left ≤ 1048576) (ha : a.size ≤ 9223372036854775807) (hb : b.size ≤ 9223372036854775807) :
    ∃ r, laws_szVar.f a b left = some r ∧ r ≤ left ∧ (0 ≤ r → (a.size : Int) ≤ left ∧ (b.size : Int) ≤ left) := by
  unfold laws_szVar.f
  rw [w64 (show _ ≤ left - (a.size : Int) by omega) (by omega)]
  by_cases c : left - (a.size : Int) < 0
  · rw [if_pos c]; exact ⟨-1, rfl, by omega, by omega⟩
  · rw [if_neg c, w64 (show _ ≤ left - (a.size : Int) - (b.size : Int) by omega) (by omega)]
    by_cases c2 : left - (a.size : Int) - (b.size : Int) < 0
    · rw [if_pos c2]; exact ⟨-1, rfl, by omega, by omega⟩
    · rw [if_neg c2]; exact ⟨_, rfl, by omega, by omega⟩
theorem szVarS_l : ∀ (ys pre : List S91) (k : Nat) (left : Int), 0 ≤ left → left ≤ 1048576 → ys.length < k → (pre ++ ys).length ≤ 9223372036854775807 → (∀ y ∈ ys, y.f0.size ≤ 9223372036854775807 ∧ y.f1.size ≤ 9223372036854775807) →
    ∃ r, laws_szVarS.l0 k (pre ++ ys) left (pre.length : Int) = some r ∧ r ≤ left ∧ (0 ≤ r → ∀ y ∈ ys, (y.f0.size : Int) ≤ left ∧ (y.f1.size : Int) ≤ left) := by
  intro ys
  induction ys with
  | nil =>
    intro pre k left h0 h1 hk hl hy
    obtain ⟨k, rfl⟩ := succ_of hk
    simp only [laws_szVarS.l0]
    rw [if_neg (len_nil pre)]
    exact ⟨_, rfl, Int.le_refl _, fun _ y hy => by cases hy⟩
  | cons y ys ih =>
    intro pre k left h0 h1 hk hl hy
    obtain ⟨k, rfl⟩ := succ_of hk
    have hy0 := hy y (List.mem_cons_self ..)
    obtain ⟨r, e, hr, hq⟩ := szVar_ok y.f0 y.f1 h0 h1 hy0.1 hy0.2
    simp only [laws_szVarS.l0]
    rw [if_pos (len_cons pre ys y), if_pos (by omega)]
    rw [show rd_T91 (pre ++ y :: ys) (pre.length : Int) = y from getD_at pre ys y _, e, Option.bind_some]
    by_cases c : r < 0
    · rw [if_pos c]; exact ⟨-1, rfl, by omega, by omega⟩
    · rw [if_neg c, len_succ pre ys y hl, app_cons pre ys y]
      obtain ⟨r2, e2, hr2, hq2⟩ := ih (pre ++ [y]) k r (by omega) (by omega) (by simpa using hk) (by rw [← app_cons]; exact hl) (fun z hz => hy z (List.mem_cons_of_mem _ hz))
      refine ⟨r2, e2, by omega, fun h z hz => ?_⟩
      rcases List.mem_cons.1 hz with rfl | hz
      · exact hq (by omega)
      · have := hq2 h z hz
        omega
theorem szVarS_ok {l : List S91} {left : Int} (h0 : 0 ≤ left) (h1 : left ≤ 1048576) (hl : l.length ≤ 9223372036854775807) (hy : ∀ y ∈ l, y.f0.size ≤ 9223372036854775807 ∧ y.f1.size ≤ 9223372036854775807) :
    ∃ r, Ev (fun k => laws_szVarS.f k l left) r ∧ r ≤ left ∧ (0 ≤ r → l.length ≤ 1048576 ∧ ∀ y ∈ l, y.f0.size ≤ 1048576 ∧ y.f1.size ≤ 1048576) := by
  by_cases c : left - (l.length : Int) < 0
  · exact ⟨-1, ⟨0, fun k _ => by dsimp only; unfold laws_szVarS.f; rw [w64 (by omega) (by omega), if_pos c]⟩, by omega, by omega⟩
  · have key : ∀ k, l.length < k → ∃ r, laws_szVarS.l0 k l (left - (l.length : Int)) 0 = some r ∧ r ≤ left - (l.length : Int) ∧ (0 ≤ r → ∀ y ∈ l, (y.f0.size : Int) ≤ left - (l.length : Int) ∧ (y.f1.size : Int) ≤ left - (l.length : Int)) :=
      fun k hk => szVarS_l l [] k (left - (l.length : Int)) (by omega) (by omega) hk hl hy
    obtain ⟨r, e, hr, hq⟩ := key (l.length + 1) (by omega)
    refine ⟨r, ⟨l.length + 1, fun k hk => ?_⟩, by omega, fun h => ⟨by omega, fun y hy => ?_⟩⟩
    · dsimp only
      unfold laws_szVarS.f
      rw [w64 (by omega) (by omega), if_neg c]
      exact at_rounds (g := fun k => laws_szVarS.l0 k l (left - (l.length : Int)) 0) (fun k => laws_szVarS.mono_l k _ _ _) hk e
    · have := hq h y hy
      omega
theorem szCell_ok (a b c : ByteArray) {left : Int} (h0 : 0 ≤ left) (h1 : left ≤ 1048576) (ha : a.size ≤ 9223372036854775807) (hb : b.size ≤ 9223372036854775807) (hc : c.size ≤ 9223372036854775807) :
    ∃ r, laws_szCell.f a b c left = some r ∧ r ≤ left ∧ (0 ≤ r → (a.size : Int) ≤ left ∧ (b.size : Int) ≤ left ∧ (c.size : Int) ≤ left) := by
  unfold laws_szCell.f
  rw [w64 (show _ ≤ left - (a.size : Int) by omega) (by omega)]
  by_cases c1 : left - (a.size : Int) < 0
  · rw [if_pos c1]; exact ⟨-1, rfl, by omega, by omega⟩
  · rw [if_neg c1, w64 (show _ ≤ left - (a.size : Int) - (b.size : Int) by omega) (by omega)]
    by_cases c2 : left - (a.size : Int) - (b.size : Int) < 0
    · rw [if_pos c2]; exact ⟨-1, rfl, by omega, by omega⟩
    · rw [if_neg c2, w64 (show _ ≤ left - (a.size : Int) - (b.size : Int) - (c.size : Int) by omega) (by omega)]
      by_cases c3 : left - (a.size : Int) - (b.size : Int) - (c.size : Int) < 0
      · rw [if_pos c3]; exact ⟨-1, rfl, by omega, by omega⟩
      · rw [if_neg c3]; exact ⟨_, rfl, by omega, by omega⟩
theorem szCellS_l : ∀ (ys pre : List S93) (k : Nat) (left : Int), 0 ≤ left → left ≤ 1048576 → ys.length < k → (pre ++ ys).length ≤ 9223372036854775807 → (∀ y ∈ ys, y.f0.size ≤ 9223372036854775807 ∧ y.f1.size ≤ 9223372036854775807 ∧ y.f2.size ≤ 9223372036854775807) →
    ∃ r, laws_szCellS.l0 k (pre ++ ys) left (pre.length : Int) = some r ∧ r ≤ left ∧ (0 ≤ r → ∀ y ∈ ys, (y.f0.size : Int) ≤ left ∧ (y.f1.size : Int) ≤ left ∧ (y.f2.size : Int) ≤ left) := by
  intro ys
  induction ys with
  | nil =>
    intro pre k left h0 h1 hk hl hy
    obtain ⟨k, rfl⟩ := succ_of hk
    simp only [laws_szCellS.l0]
    rw [if_neg (len_nil pre)]
    exact ⟨_, rfl, Int.le_refl _, fun _ y hy => by cases hy⟩
  | cons y ys ih =>
    intro pre k left h0 h1 hk hl hy
    obtain ⟨k, rfl⟩ := succ_of hk
    have hy0 := hy y (List.mem_cons_self ..)
    obtain ⟨r, e, hr, hq⟩ := szCell_ok y.f0 y.f1 y.f2 h0 h1 hy0.1 hy0.2.1 hy0.2.2
    simp only [laws_szCellS.l0]
    rw [if_pos (len_cons pre ys y), if_pos (by omega)]
    rw [show rd_T93 (pre ++ y :: ys) (pre.length : Int) = y from getD_at pre ys y _, e, Option.bind_some]
    by_cases c : r < 0
    · rw [if_pos c]; exact ⟨-1, rfl, by omega, by omega⟩
    · rw [if_neg c, len_succ pre ys y hl, app_cons pre ys y]
      obtain ⟨r2, e2, hr2, hq2⟩ := ih (pre ++ [y]) k r (by omega) (by omega) (by simpa using hk) (by rw [← app_cons]; exact hl) (fun z hz => hy z (List.mem_cons_of_mem _ hz))
      refine ⟨r2, e2, by omega, fun h z hz => ?_⟩
      rcases List.mem_cons.1 hz with rfl | hz
      · exact hq (by omega)
      · have := hq2 h z hz
        omega
theorem szCellS_ok {l : List S93} {left : Int} (h0 : 0 ≤ left) (h1 : left ≤ 1048576) (hl : l.length ≤ 9223372036854775807) (hy : ∀ y ∈ l, y.f0.size ≤ 9223372036854775807 ∧ y.f1.size ≤ 9223372036854775807 ∧ y.f2.size ≤ 9223372036854775807) :
    ∃ r, Ev (fun k => laws_szCellS.f k l left) r ∧ r ≤ left ∧ (0 ≤ r → l.length ≤ 1048576 ∧ ∀ y ∈ l, y.f0.size ≤ 1048576 ∧ y.f1.size ≤ 1048576 ∧ y.f2.size ≤ 1048576) := by
  by_cases c : left - (l.length : Int) < 0
  · exact ⟨-1, ⟨0, fun k _ => by dsimp only; unfold laws_szCellS.f; rw [w64 (by omega) (by omega), if_pos c]⟩, by omega, by omega⟩
  · have key : ∀ k, l.length < k → ∃ r, laws_szCellS.l0 k l (left - (l.length : Int)) 0 = some r ∧ r ≤ left - (l.length : Int) ∧ (0 ≤ r → ∀ y ∈ l, (y.f0.size : Int) ≤ left - (l.length : Int) ∧ (y.f1.size : Int) ≤ left - (l.length : Int) ∧ (y.f2.size : Int) ≤ left - (l.length : Int)) :=
      fun k hk => szCellS_l l [] k (left - (l.length : Int)) (by omega) (by omega) hk hl hy
    obtain ⟨r, e, hr, hq⟩ := key (l.length + 1) (by omega)
    refine ⟨r, ⟨l.length + 1, fun k hk => ?_⟩, by omega, fun h => ⟨by omega, fun y hy => ?_⟩⟩
    · dsimp only
      unfold laws_szCellS.f
      rw [w64 (by omega) (by omega), if_neg c]
      exact at_rounds (g := fun k => laws_szCellS.l0 k l (left - (l.length : Int)) 0) (fun k => laws_szCellS.mono_l k _ _ _) hk e
    · have := hq h y hy
      omega
def BigStore (vs : List S91) (cs : List S93) (o : ByteArray) : Prop :=
  (vs.length ≤ 9223372036854775807 ∧ ∀ y ∈ vs, y.f0.size ≤ 9223372036854775807 ∧ y.f1.size ≤ 9223372036854775807) ∧ (cs.length ≤ 9223372036854775807 ∧ ∀ y ∈ cs, y.f0.size ≤ 9223372036854775807 ∧ y.f1.size ≤ 9223372036854775807 ∧ y.f2.size ≤ 9223372036854775807) ∧ o.size ≤ 9223372036854775807
def SmallStore (vs : List S91) (cs : List S93) (o : ByteArray) : Prop :=
  (vs.length ≤ 1048576 ∧ ∀ y ∈ vs, y.f0.size ≤ 1048576 ∧ y.f1.size ≤ 1048576) ∧ (cs.length ≤ 1048576 ∧ ∀ y ∈ cs, y.f0.size ≤ 1048576 ∧ y.f1.size ≤ 1048576 ∧ y.f2.size ≤ 1048576) ∧ o.size ≤ 1048576
theorem szStore_ok {vs : List S91} {cs : List S93} {o : ByteArray} (hb : BigStore vs cs o) {left : Int} (h0 : 0 ≤ left) (h1 : left ≤ 1048576) :
    ∃ r, Ev (fun k => laws_szStore.f k vs cs o left) r ∧ r ≤ left ∧ (0 ≤ r → SmallStore vs cs o) := by
  obtain ⟨⟨b1, b2⟩, ⟨b3, b4⟩, b5⟩ := hb
  obtain ⟨r, ⟨K, e⟩, hr, hq⟩ := szVarS_ok h0 h1 b1 b2
  by_cases c : r < 0
  · refine ⟨-1, ⟨K, fun k hk => ?_⟩, by omega, by omega⟩
    have e := e k hk
    dsimp only at e ⊢
    unfold laws_szStore.f
    rw [e, Option.bind_some, if_pos c]
  · obtain ⟨r2, ⟨K2, e2⟩, hr2, hq2⟩ := szCellS_ok (left := r) (by omega) (by omega) b3 b4
    by_cases c2 : r2 < 0
    · refine ⟨-1, ⟨K + K2, fun k hk => ?_⟩, by omega, by omega⟩
      have e := e k (by omega)
      have e2 := e2 k (by omega)
      dsimp only at e e2 ⊢
      unfold laws_szStore.f
      rw [e, Option.bind_some, if_neg c, e2, Option.bind_some, if_pos c2]
    · by_cases c3 : r2 - (o.size : Int) < 0
      · refine ⟨-1, ⟨K + K2, fun k hk => ?_⟩, by omega, by omega⟩
        have e := e k (by omega)
        have e2 := e2 k (by omega)
        dsimp only at e e2 ⊢
        unfold laws_szStore.f
        rw [e, Option.bind_some, if_neg c, e2, Option.bind_some, if_neg c2, w64 (by omega) (by omega), if_pos c3]
      · refine ⟨r2 - (o.size : Int), ⟨K + K2, fun k hk => ?_⟩, by omega, fun _ => ⟨hq (by omega), hq2 (by omega), by omega⟩⟩
        have e := e k (by omega)
        have e2 := e2 k (by omega)
        dsimp only at e e2 ⊢
        unfold laws_szStore.f
        rw [e, Option.bind_some, if_neg c, e2, Option.bind_some, if_neg c2, w64 (by omega) (by omega), if_neg c3]

/-! A store of the laws as one of the program's. -/
def cV (x : S91) : S53 := ⟨x.f0, x.f1⟩
def cC (x : S93) : S57 := ⟨x.f0, x.f1, x.f2⟩
theorem toVarS_l : ∀ (ys pre : List S91) (k : Nat), ys.length < k → (pre ++ ys).length ≤ 1048576 →
    laws_toVarS.l0 k (pre ++ ys) (pre.map cV ++ List.replicate ys.length z53) (pre.length : Int) = some ((pre ++ ys).map cV) := by
  intro ys
  induction ys with
  | nil =>
    intro pre k hk hl
    obtain ⟨k, rfl⟩ := succ_of hk
    simp only [laws_toVarS.l0]
    rw [if_neg (len_nil pre)]
    simp
  | cons y ys ih =>
    intro pre k hk hl
    obtain ⟨k, rfl⟩ := succ_of hk
    simp only [laws_toVarS.l0]
    have h1 : pre.length + (ys.length + 1) ≤ 1048576 := by rw [List.length_append, List.length_cons] at hl; exact hl
    rw [if_pos (len_cons pre ys y), if_pos (by omega), show rd_T91 (pre ++ y :: ys) (pre.length : Int) = y from getD_at pre ys y _]
    unfold laws_toVar.f
    rw [Option.bind_some]
    have e : (List.map cV pre).length = pre.length := List.length_map _
    have e2 : List.replicate (y :: ys).length z53 = z53 :: List.replicate ys.length z53 := rfl
    rw [if_pos (by rw [List.length_append, List.length_replicate, List.length_cons, e]; omega), e2, ← e, set_at, e, len_succ pre ys y (by omega), app_cons pre ys y]
    have := ih (pre ++ [y]) k (by simpa using hk) (by rw [← app_cons]; exact hl)
    have e3 : List.map cV pre ++ cV y :: List.replicate ys.length z53 = List.map cV (pre ++ [y]) ++ List.replicate ys.length z53 := by
      rw [List.map_append, List.append_assoc]; rfl
    rw [← e3] at this
    exact this
theorem toVarS_ok {l : List S91} (hl : l.length ≤ 1048576) {k : Nat} (hk : l.length < k) : laws_toVarS.f k l = some (l.map cV) := by
  unfold laws_toVarS.f
  rw [if_pos (by omega), if_pos (by omega), Int.toNat_natCast]
  exact toVarS_l l [] k hk hl
theorem toCellS_l : ∀ (ys pre : List S93) (k : Nat), ys.length < k → (pre ++ ys).length ≤ 1048576 →
    laws_toCellS.l0 k (pre ++ ys) (pre.map cC ++ List.replicate ys.length z57) (pre.length : Int) = some ((pre ++ ys).map cC) := by
  intro ys
  induction ys with
  | nil =>
    intro pre k hk hl
    obtain ⟨k, rfl⟩ := succ_of hk
    simp only [laws_toCellS.l0]
    rw [if_neg (len_nil pre)]
    simp
  | cons y ys ih =>
    intro pre k hk hl
    obtain ⟨k, rfl⟩ := succ_of hk
    simp only [laws_toCellS.l0]
    have h1 : pre.length + (ys.length + 1) ≤ 1048576 := by rw [List.length_append, List.length_cons] at hl; exact hl
    rw [if_pos (len_cons pre ys y), if_pos (by omega), show rd_T93 (pre ++ y :: ys) (pre.length : Int) = y from getD_at pre ys y _]
    unfold laws_toCell.f
    rw [Option.bind_some]
    have e : (List.map cC pre).length = pre.length := List.length_map _
    have e2 : List.replicate (y :: ys).length z57 = z57 :: List.replicate ys.length z57 := rfl
    rw [if_pos (by rw [List.length_append, List.length_replicate, List.length_cons, e]; omega), e2, ← e, set_at, e, len_succ pre ys y (by omega), app_cons pre ys y]
    have := ih (pre ++ [y]) k (by simpa using hk) (by rw [← app_cons]; exact hl)
    have e3 : List.map cC pre ++ cC y :: List.replicate ys.length z57 = List.map cC (pre ++ [y]) ++ List.replicate ys.length z57 := by
      rw [List.map_append, List.append_assoc]; rfl
    rw [← e3] at this
    exact this
theorem toCellS_ok {l : List S93} (hl : l.length ≤ 1048576) {k : Nat} (hk : l.length < k) : laws_toCellS.f k l = some (l.map cC) := by
  unfold laws_toCellS.f
  rw [if_pos (by omega), if_pos (by omega), Int.toNat_natCast]
  exact toCellS_l l [] k hk hl
theorem toStore_ok {vs : List S91} {cs : List S93} {o : ByteArray} (h : SmallStore vs cs o) {k : Nat} (hk : 1048577 ≤ k) : laws_toStore.f k vs cs o = some (vs.map cV, cs.map cC, o) := by
  obtain ⟨⟨h1, _⟩, ⟨h2, _⟩, _⟩ := h
  unfold laws_toStore.f
  rw [toVarS_ok h1 (by omega), Option.bind_some, toCellS_ok h2 (by omega), Option.bind_some]

/-! A store is the same as itself. -/
theorem eqVarS_l : ∀ (ys pre : List S53) (k : Nat), ys.length < k → (pre ++ ys).length ≤ 9223372036854775807 → laws_eqVarS.l0 k (pre ++ ys) (pre ++ ys) (pre.length : Int) = some true := by
  intro ys
  induction ys with
  | nil =>
    intro pre k hk hl
    obtain ⟨k, rfl⟩ := succ_of hk
    simp only [laws_eqVarS.l0]
    rw [if_neg (len_nil pre)]
  | cons y ys ih =>
    intro pre k hk hl
    obtain ⟨k, rfl⟩ := succ_of hk
    simp only [laws_eqVarS.l0]
    rw [if_pos (len_cons pre ys y), if_pos (by omega), if_pos (len_cons pre ys y), show rd_T53 (pre ++ y :: ys) (pre.length : Int) = y from getD_at pre ys y _]
    unfold laws_eqVar.f
    rw [if_pos rfl, if_pos rfl, Option.bind_some, if_pos rfl, len_succ pre ys y hl, app_cons pre ys y]
    exact ih (pre ++ [y]) k (by simpa using hk) (by rw [← app_cons]; exact hl)
theorem eqCellS_l : ∀ (ys pre : List S57) (k : Nat), ys.length < k → (pre ++ ys).length ≤ 9223372036854775807 → laws_eqCellS.l0 k (pre ++ ys) (pre ++ ys) (pre.length : Int) = some true := by
  intro ys
  induction ys with
  | nil =>
    intro pre k hk hl
    obtain ⟨k, rfl⟩ := succ_of hk
    simp only [laws_eqCellS.l0]
    rw [if_neg (len_nil pre)]
  | cons y ys ih =>
    intro pre k hk hl
    obtain ⟨k, rfl⟩ := succ_of hk
    simp only [laws_eqCellS.l0]
    rw [if_pos (len_cons pre ys y), if_pos (by omega), if_pos (len_cons pre ys y), show rd_T57 (pre ++ y :: ys) (pre.length : Int) = y from getD_at pre ys y _]
    unfold laws_eqCell.f
    rw [if_pos rfl, if_pos rfl, if_pos rfl, Option.bind_some, if_pos rfl, len_succ pre ys y hl, app_cons pre ys y]
    exact ih (pre ++ [y]) k (by simpa using hk) (by rw [← app_cons]; exact hl)
theorem eqStore_ok {vs : List S53} {cs : List S57} {o : ByteArray} (h1 : vs.length ≤ 1048576) (h2 : cs.length ≤ 1048576) {k : Nat} (hk : 1048577 ≤ k) : laws_eqStore.f k vs cs o vs cs o = some true := by
  unfold laws_eqStore.f laws_eqVarS.f laws_eqCellS.f
  rw [if_pos rfl, if_pos rfl]
  rw [show laws_eqVarS.l0 k vs vs 0 = some true from eqVarS_l vs [] k (by omega) (by simp; omega), Option.bind_some, if_pos rfl]
  rw [show laws_eqCellS.l0 k cs cs 0 = some true from eqCellS_l cs [] k (by omega) (by simp; omega), Option.bind_some, if_pos rfl, if_pos rfl]

/-! Marks: what the laws write into a store, and read there again. -/
theorem markText_l : ∀ (d k : Nat) (n : Int) (s : ByteArray), 0 ≤ n → n < 10 ^ d → n ≤ 9223372036854775807 → s.size + d ≤ 1000 → d < k → ∃ t, laws_markText.l0 k n s = some t := by
  intro d
  induction d with
  | zero =>
    intro k n s h0 h1 _ hs hk
    obtain ⟨k, rfl⟩ := succ_of hk
    simp only [laws_markText.l0]
    rw [if_neg (by simp at h1; omega), if_pos (by omega)]
    exact ⟨_, rfl⟩
  | succ d ih =>
    intro k n s h0 h1 hm hs hk
    obtain ⟨k, rfl⟩ := succ_of hk
    simp only [laws_markText.l0]
    by_cases c : n > 0
    · rw [if_pos c, Option.bind_some]
      have hz : (strOfNums [(wrap64 (48 + (Int.tmod n 10))) % 256]).size = 1 := by rw [strOfNums_size]; rfl
      rw [if_pos (by rw [hz]; omega), Int.tdiv_eq_ediv_of_nonneg h0, w64 (by omega) (by omega)]
      exact ih k (n / 10) _ (by omega) (by rw [Int.pow_succ] at h1; omega) (by omega) (by rw [ByteArray.size_append, hz]; omega) (by omega)
    · rw [if_neg c, if_pos (by omega)]
      exact ⟨_, rfl⟩
def MT (n : Int) : ByteArray := ((laws_markText.f 64 n)).getD ⟨#[]⟩
theorem markText_k {n : Int} (h0 : 1 ≤ n) (h1 : n ≤ 1000000000) {k : Nat} (hk : 64 ≤ k) : laws_markText.f k n = some (MT n) := by
  have e : ∃ t, laws_markText.f 64 n = some t := by
    unfold laws_markText.f
    rw [if_neg (by omega)]
    exact markText_l 20 64 n _ (by omega) (by omega) (by omega) (by decide) (by decide)
  obtain ⟨t, e⟩ := e
  have e2 : MT n = t := by unfold MT; rw [e]; rfl
  rw [e2]
  exact at_rounds (g := fun k => laws_markText.f k n) (fun k => laws_markText.mono n k) hk e
def markV : Int → List S53 → List S53
  | _, [] => []
  | m, _ :: ys => ⟨MT m, MT (m + 1)⟩ :: markV (m + 2) ys
def markC : Int → List S57 → List S57
  | _, [] => []
  | m, _ :: ys => ⟨MT m, MT (m + 1), MT (m + 2)⟩ :: markC (m + 3) ys
theorem markV_len : ∀ (ys : List S53) (m : Int), (markV m ys).length = ys.length
  | [], _ => rfl
  | _ :: ys, m => by rw [markV, List.length_cons, List.length_cons, markV_len ys]
theorem markC_len : ∀ (ys : List S57) (m : Int), (markC m ys).length = ys.length
  | [], _ => rfl
  | _ :: ys, m => by rw [markC, List.length_cons, List.length_cons, markC_len ys]
theorem markVarS_l : ∀ (ys pre : List S53) (k : Nat) (m : Int), 1 ≤ m → m + 2 * ys.length ≤ 1000000000 → ys.length + 64 < k → (pre ++ ys).length ≤ 100000000 →
    laws_markVarS.l0 k (pre ++ ys) m (pre.length : Int) = some (m + 2 * ys.length, pre ++ markV m ys) := by
  intro ys
  induction ys with
  | nil =>
    intro pre k m h1 h2 hk hl
    obtain ⟨k, rfl⟩ := succ_of hk
    simp only [laws_markVarS.l0]
    rw [if_neg (len_nil pre)]
    simp [markV]
  | cons y ys ih =>
    intro pre k m h1 h2 hk hl
    obtain ⟨k, rfl⟩ := succ_of hk
    rw [List.length_cons] at hk h2
    simp only [laws_markVarS.l0]
    rw [if_pos (len_cons pre ys y), markText_k h1 (by omega) (by omega), Option.bind_some, if_pos (by omega), Option.bind_some, w64 (by omega) (by omega), markText_k (by omega) (by omega) (by omega), Option.bind_some,
      show rd_T53 (pre ++ y :: ys) (pre.length : Int) = y from getD_at pre ys y _, set_at, show rd_T53 (pre ++ (⟨MT m, y.f1⟩ : S53) :: ys) (pre.length : Int) = ⟨MT m, y.f1⟩ from getD_at pre ys _ _, set_at, w64 (show _ ≤ m + 1 + 1 by omega) (by omega),
      len_succ pre ys y (by omega), app_cons pre ys (⟨MT m, MT (m + 1)⟩ : S53)]
    have := ih (pre ++ [(⟨MT m, MT (m + 1)⟩ : S53)]) k (m + 2) (by omega) (by omega) (by omega) (by rw [List.length_append, List.length_append, List.length_singleton]; rw [List.length_append, List.length_cons] at hl; omega)
    rw [List.length_append, List.length_singleton] at this ⊢
    rw [show m + 1 + 1 = m + 2 by omega, this, markV, ← app_cons, List.length_cons]
    congr 2
    omega
theorem markCellS_l : ∀ (ys pre : List S57) (k : Nat) (m : Int), 1 ≤ m → m + 3 * ys.length ≤ 1000000000 → ys.length + 64 < k → (pre ++ ys).length ≤ 100000000 →
    laws_markCellS.l0 k (pre ++ ys) m (pre.length : Int) = some (m + 3 * ys.length, pre ++ markC m ys) := by
  intro ys
  induction ys with
  | nil =>
    intro pre k m h1 h2 hk hl
    obtain ⟨k, rfl⟩ := succ_of hk
    simp only [laws_markCellS.l0]
    rw [if_neg (len_nil pre)]
    simp [markC]
  | cons y ys ih =>
    intro pre k m h1 h2 hk hl
    obtain ⟨k, rfl⟩ := succ_of hk
    rw [List.length_cons] at hk h2
    simp only [laws_markCellS.l0]
    rw [if_pos (len_cons pre ys y), markText_k h1 (by omega) (by omega), Option.bind_some, if_pos (by omega), Option.bind_some, w64 (show _ ≤ m + 1 by omega) (by omega), markText_k (show 1 ≤ m + 1 by omega) (by omega) (by omega), Option.bind_some,
      show rd_T57 (pre ++ y :: ys) (pre.length : Int) = y from getD_at pre ys y _, set_at, show rd_T57 (pre ++ (⟨MT m, y.f1, y.f2⟩ : S57) :: ys) (pre.length : Int) = ⟨MT m, y.f1, y.f2⟩ from getD_at pre ys _ _, set_at, Option.bind_some, w64 (show _ ≤ m + 1 + 1 by omega) (by omega), markText_k (show 1 ≤ m + 1 + 1 by omega) (by omega) (by omega), Option.bind_some,
      show rd_T57 (pre ++ (⟨MT m, MT (m + 1), y.f2⟩ : S57) :: ys) (pre.length : Int) = ⟨MT m, MT (m + 1), y.f2⟩ from getD_at pre ys _ _, set_at, w64 (show _ ≤ m + 1 + 1 + 1 by omega) (by omega),
      len_succ pre ys y (by omega), app_cons pre ys (⟨MT m, MT (m + 1), MT (m + 1 + 1)⟩ : S57)]
    have := ih (pre ++ [(⟨MT m, MT (m + 1), MT (m + 2)⟩ : S57)]) k (m + 3) (by omega) (by omega) (by omega) (by rw [List.length_append, List.length_append, List.length_singleton]; rw [List.length_append, List.length_cons] at hl; omega)
    rw [List.length_append, List.length_singleton] at this ⊢
    rw [show m + 1 + 1 + 1 = m + 3 by omega, show m + 1 + 1 = m + 2 by omega, this, markC, ← app_cons, List.length_cons]
    congr 2
    omega
theorem heldVarS_l : ∀ (ys pre : List S53) (k : Nat) (m : Int), 1 ≤ m → m + 2 * ys.length ≤ 1000000000 → ys.length + 64 < k → (pre ++ ys).length ≤ 100000000 →
    laws_heldVarS.l0 k (pre ++ markV m ys) m (pre.length : Int) = some (m + 2 * ys.length) := by
  intro ys
  induction ys with
  | nil =>
    intro pre k m h1 h2 hk hl
    obtain ⟨k, rfl⟩ := succ_of hk
    rw [show markV m [] = [] from rfl]
    simp only [laws_heldVarS.l0]
    rw [if_neg (len_nil pre)]
    simp
  | cons y ys ih =>
    intro pre k m h1 h2 hk hl
    obtain ⟨k, rfl⟩ := succ_of hk
    rw [List.length_cons] at hk h2
    rw [List.length_append, List.length_cons] at hl
    rw [show markV m (y :: ys) = ⟨MT m, MT (m + 1)⟩ :: markV (m + 2) ys from rfl]
    simp only [laws_heldVarS.l0]
    have hl2 : (pre ++ (⟨MT m, MT (m + 1)⟩ : S53) :: markV (m + 2) ys).length ≤ 9223372036854775807 := by rw [List.length_append, List.length_cons, markV_len]; omega
    rw [if_pos (len_cons pre _ _), if_pos (by omega), markText_k h1 (by omega) (by omega), Option.bind_some, show rd_T53 (pre ++ (⟨MT m, MT (m + 1)⟩ : S53) :: markV (m + 2) ys) (pre.length : Int) = ⟨MT m, MT (m + 1)⟩ from getD_at pre _ _ _, if_pos rfl,
      w64 (show _ ≤ m + 1 by omega) (by omega), markText_k (show 1 ≤ m + 1 by omega) (by omega) (by omega), Option.bind_some, if_pos rfl, w64 (show _ ≤ m + 1 + 1 by omega) (by omega), len_succ pre _ _ hl2, app_cons]
    have := ih (pre ++ [(⟨MT m, MT (m + 1)⟩ : S53)]) k (m + 2) (by omega) (by omega) (by omega) (by rw [List.length_append, List.length_append, List.length_singleton]; omega)
    rw [show m + 1 + 1 = m + 2 by omega, this, List.length_cons]
    congr 1
    omega
theorem heldCellS_l : ∀ (ys pre : List S57) (k : Nat) (m : Int), 1 ≤ m → m + 3 * ys.length ≤ 1000000000 → ys.length + 64 < k → (pre ++ ys).length ≤ 100000000 →
    laws_heldCellS.l0 k (pre ++ markC m ys) m (pre.length : Int) = some (m + 3 * ys.length) := by
  intro ys
  induction ys with
  | nil =>
    intro pre k m h1 h2 hk hl
    obtain ⟨k, rfl⟩ := succ_of hk
    rw [show markC m [] = [] from rfl]
    simp only [laws_heldCellS.l0]
    rw [if_neg (len_nil pre)]
    simp
  | cons y ys ih =>
    intro pre k m h1 h2 hk hl
    obtain ⟨k, rfl⟩ := succ_of hk
    rw [List.length_cons] at hk h2
    rw [List.length_append, List.length_cons] at hl
    rw [show markC m (y :: ys) = ⟨MT m, MT (m + 1), MT (m + 2)⟩ :: markC (m + 3) ys from rfl]
    simp only [laws_heldCellS.l0]
    have hl2 : (pre ++ (⟨MT m, MT (m + 1), MT (m + 2)⟩ : S57) :: markC (m + 3) ys).length ≤ 9223372036854775807 := by rw [List.length_append, List.length_cons, markC_len]; omega
    rw [if_pos (len_cons pre _ _), if_pos (by omega), markText_k h1 (by omega) (by omega), Option.bind_some, show rd_T57 (pre ++ (⟨MT m, MT (m + 1), MT (m + 2)⟩ : S57) :: markC (m + 3) ys) (pre.length : Int) = ⟨MT m, MT (m + 1), MT (m + 2)⟩ from getD_at pre _ _ _, if_pos rfl,
      w64 (show _ ≤ m + 1 by omega) (by omega), markText_k (show 1 ≤ m + 1 by omega) (by omega) (by omega), Option.bind_some, if_pos rfl, w64 (show _ ≤ m + 1 + 1 by omega) (by omega), markText_k (show 1 ≤ m + 1 + 1 by omega) (by omega) (by omega), Option.bind_some, show m + 1 + 1 = m + 2 by omega, if_pos rfl, w64 (show _ ≤ m + 2 + 1 by omega) (by omega), len_succ pre _ _ hl2, app_cons]
    have := ih (pre ++ [(⟨MT m, MT (m + 1), MT (m + 2)⟩ : S57)]) k (m + 3) (by omega) (by omega) (by omega) (by rw [List.length_append, List.length_append, List.length_singleton]; omega)
    rw [show m + 2 + 1 = m + 3 by omega, this, List.length_cons]
    congr 1
    omega
theorem markStore_ok {vs : List S53} {cs : List S57} {o : ByteArray} (h1 : vs.length ≤ 2000000) (h2 : cs.length ≤ 2000000) {k : Nat} (hk : 3000000 ≤ k) :
    laws_markStore.f k vs cs o 1 = some ((1 : Int) + 2 * (vs.length : Int) + 3 * (cs.length : Int), markV 1 vs, markC ((1 : Int) + 2 * (vs.length : Int)) cs) := by
  unfold laws_markStore.f laws_markVarS.f laws_markCellS.f
  rw [show laws_markVarS.l0 k vs 1 0 = some (1 + 2 * (vs.length : Int), markV 1 vs) from markVarS_l vs [] k 1 (by omega) (by omega) (by omega) (by simp; omega), Option.bind_some]
  dsimp only
  rw [show laws_markCellS.l0 k cs (1 + 2 * (vs.length : Int)) 0 = some (1 + 2 * (vs.length : Int) + 3 * cs.length, markC (1 + 2 * (vs.length : Int)) cs) from markCellS_l cs [] k _ (by omega) (by omega) (by omega) (by simp; omega), Option.bind_some]
theorem heldStore_ok {vs : List S53} {cs : List S57} {o : ByteArray} (h1 : vs.length ≤ 2000000) (h2 : cs.length ≤ 2000000) {k : Nat} (hk : 3000000 ≤ k) :
    laws_heldStore.f k (markV 1 vs) (markC ((1 : Int) + 2 * (vs.length : Int)) cs) o 1 = some ((1 : Int) + 2 * (vs.length : Int) + 3 * (cs.length : Int)) := by
  unfold laws_heldStore.f laws_heldVarS.f laws_heldCellS.f
  rw [show laws_heldVarS.l0 k (markV 1 vs) 1 0 = some (1 + 2 * (vs.length : Int)) from heldVarS_l vs [] k 1 (by omega) (by omega) (by omega) (by simp; omega), Option.bind_some, if_neg (by omega)]
  rw [show laws_heldCellS.l0 k (markC (1 + 2 * (vs.length : Int)) cs) (1 + 2 * (vs.length : Int)) 0 = some (1 + 2 * (vs.length : Int) + 3 * cs.length) from heldCellS_l cs [] k _ (by omega) (by omega) (by omega) (by simp; omega), Option.bind_some, if_neg (by omega)]

def cutB (s : ByteArray) : ByteArray := if s.size ≤ 40 then s else s.extract 0 40
theorem extract_all (s : ByteArray) {n : Nat} (h : s.size ≤ n) : s.extract 0 n = s := by
  apply bx_inj
  rw [bx_cut, List.drop_zero, List.take_of_length_le (by rw [bx_len]; exact h)]

/-! Which comes first: the two programs' rules are one. -/
theorem less_cmp : ∀ (a b : List UInt8), Op.bytesLess a b = decide (Go.Lib.compareBytes a b < 0)
  | [], [] => rfl
  | [], _ :: _ => rfl
  | _ :: _, [] => rfl
  | a :: xs, b :: ys => by
    have ih := less_cmp xs ys
    simp only [Op.bytesLess, Go.Lib.compareBytes]
    rw [ih]
    by_cases h : a < b
    · simp [h]
    · by_cases h2 : b < a
      · have : a ≠ b := fun e => by subst e; exact h h2
        simp [h, h2, this]
      · have : a = b := UInt8.le_antisymm (UInt8.not_lt.1 h2) (UInt8.not_lt.1 h)
        simp [h, h2, this]
theorem cmp_self : ∀ (a : List UInt8), Go.Lib.compareBytes a a = 0
  | [] => rfl
  | a :: xs => by
    simp only [Go.Lib.compareBytes]
    rw [if_neg (UInt8.lt_irrefl a), if_neg (UInt8.lt_irrefl a)]
    exact cmp_self xs

/-! One cell, or one var, put in its place. -/
theorem cmp_gt : ∀ (a b : List UInt8), (Go.Lib.compareBytes a b > 0) = (Go.Lib.compareBytes b a < 0)
  | [], [] => by decide
  | [], _ :: _ => by simp [Go.Lib.compareBytes]
  | _ :: _, [] => by simp [Go.Lib.compareBytes]
  | a :: xs, b :: ys => by
    have ih := cmp_gt xs ys
    simp only [Go.Lib.compareBytes]
    by_cases h : a < b
    · have h1 : ¬ b < a := UInt8.not_lt.2 (UInt8.le_of_lt h)
      simp [h, h1]
    · by_cases h2 : b < a
      · simp [h, h2]
      · rw [if_neg h, if_neg h2, if_neg h2, if_neg h, ih]
def aheadV (x y : S53) : Bool := Op.bytesLess x.f0.toList y.f0.toList
def aheadC (x y : S57) : Bool := if Op.bytesLess x.f0.toList y.f0.toList = true then true else if x.f0.toList = y.f0.toList then Op.bytesLess x.f1.toList y.f1.toList else false
def placeL {α : Type} (ahead : α → α → Bool) (own : α) (l : List α) : List α := l.filter (fun x => ahead x own) ++ own :: l.filter (fun x => ahead own x)
def putL {α : Type} (ahead : α → α → Bool) (most : Nat) (own : α) (l : List α) : List α := if (placeL ahead own l).length ≤ most then placeL ahead own l else l
theorem placeL_len {α : Type} (ahead : α → α → Bool) (own : α) (l : List α) : (placeL ahead own l).length ≤ 2 * l.length + 1 := by
  unfold placeL
  rw [List.length_append, List.length_cons]
  have h1 := List.length_filter_le (fun x => ahead x own) l
  have h2 := List.length_filter_le (fun x => ahead own x) l
  omega
theorem putL_len {α : Type} (ahead : α → α → Bool) (most : Nat) (own : α) (l : List α) : (putL ahead most own l).length ≤ most ∨ (putL ahead most own l).length ≤ l.length := by
  unfold putL
  split
  · next h => exact .inl h
  · exact .inr (Nat.le_refl _)

theorem ahead_key (a b c a' b' c' : ByteArray) : ∃ t, impl_byKey.f a b c a' b' c' = some t ∧ spec_l08Ahead.f a b c a' b' c' = some (decide (t < 0)) := by
  unfold impl_byKey.f spec_l08Ahead.f strings_Compare.f
  rw [less_cmp, less_cmp]
  by_cases h : a.toList = a'.toList
  · rw [if_pos h, Option.bind_some, if_neg (by rw [h, cmp_self]; decide), if_pos h]
    exact ⟨_, rfl, by rw [ByteArray.toList_eq, ByteArray.toList_eq]⟩
  · rw [if_neg h, Option.bind_some]
    refine ⟨_, rfl, ?_⟩
    rw [ByteArray.toList_eq, ByteArray.toList_eq]
    split
    · next h2 => rw [h2]
    · next h2 =>
      rw [ByteArray.toList_eq, ByteArray.toList_eq] at h
      rw [if_neg h, Bool.eq_false_iff.2 h2]

theorem sAheadC (x y : S57) : spec_l08Ahead.f x.f0 x.f1 x.f2 y.f0 y.f1 y.f2 = some (aheadC x y) := by
  unfold spec_l08Ahead.f aheadC
  split
  · rfl
  · split
    · rfl
    · rfl
theorem iKeyC (x y : S57) : ∃ t, impl_byKey.f x.f0 x.f1 x.f2 y.f0 y.f1 y.f2 = some t ∧ (t < 0 ↔ aheadC x y = true) ∧ (t > 0 ↔ aheadC y x = true) := by
  obtain ⟨t, e1, e2⟩ := ahead_key x.f0 x.f1 x.f2 y.f0 y.f1 y.f2
  obtain ⟨t2, e3, e4⟩ := ahead_key y.f0 y.f1 y.f2 x.f0 x.f1 x.f2
  rw [sAheadC] at e2 e4
  injection e2 with e2
  injection e4 with e4
  have hg : (t > 0) = (t2 < 0) := by
    unfold impl_byKey.f strings_Compare.f at e1 e3
    by_cases h : x.f0.toList = y.f0.toList
    · rw [if_pos h, Option.bind_some] at e1
      rw [if_pos h.symm, Option.bind_some] at e3
      injection e1 with e1
      injection e3 with e3
      rw [← e1, ← e3, cmp_gt]
    · rw [if_neg h, Option.bind_some] at e1
      rw [if_neg (fun h2 => h h2.symm), Option.bind_some] at e3
      injection e1 with e1
      injection e3 with e3
      rw [← e1, ← e3, cmp_gt]
  refine ⟨t, e1, ?_, ?_⟩
  · rw [e2]; simp
  · rw [hg, e4]; simp
theorem specC_l1 (vs cv : List S53) (o co : ByteArray) (cc : List S57) (own : S57) : ∀ (ys pre acc : List S57) (k : Nat), ys.length < k → (pre ++ ys).length ≤ 100000000 → acc.length + ys.length ≤ 100000000 →
    spec_SetCell.l1 k acc (pre.length : Int) vs (pre ++ ys) o cv cc co own.f0 own.f1 own.f2 = some (if (acc ++ ys.filter (fun x => aheadC own x)).length ≤ 2000 then (cv, acc ++ ys.filter (fun x => aheadC own x), co) else (cv, cc, co)) := by
  intro ys
  induction ys with
  | nil =>
    intro pre acc k hk hl ha
    obtain ⟨k, rfl⟩ := succ_of hk
    simp only [spec_SetCell.l1]
    rw [if_neg (len_nil pre), List.filter_nil, List.append_nil]
    by_cases c : acc.length ≤ 2000
    · rw [if_pos (by omega), if_pos c]
    · rw [if_neg (by omega), if_neg c]
  | cons y ys ih =>
    intro pre acc k hk hl ha
    obtain ⟨k, rfl⟩ := succ_of hk
    rw [List.length_cons] at hk ha
    simp only [spec_SetCell.l1]
    have hl' : (pre ++ [y] ++ ys).length ≤ 100000000 := by rw [← app_cons]; exact hl
    rw [if_pos (len_cons pre ys y), if_pos (by omega), show rd_T57 (pre ++ y :: ys) (pre.length : Int) = y from getD_at pre ys y _, sAheadC own y, Option.bind_some, len_succ pre ys y (by omega), app_cons pre ys y]
    cases h : aheadC own y with
    | true =>
      have := ih (pre ++ [y]) (acc ++ [y]) k (by omega) hl' (by rw [List.length_append, List.length_singleton]; omega)
      rw [if_pos rfl, if_pos (by omega), List.filter_cons_of_pos (by simpa using h)]
      simp only [List.append_assoc, List.singleton_append, List.cons_append, List.nil_append] at this ⊢
      exact this
    | false =>
      have := ih (pre ++ [y]) acc k (by omega) hl' (by omega)
      rw [if_neg (by decide), List.filter_cons_of_neg (by simp [h])]
      exact this
theorem specC_l0 (vs cv : List S53) (o co : ByteArray) (all cc : List S57) (hall : all.length ≤ 10000000) (own : S57) : ∀ (ys pre acc : List S57) (k : Nat), all = pre ++ ys → ys.length + all.length + 2 < k → acc.length + ys.length ≤ 50000000 →
    spec_SetCell.l0 k acc (pre.length : Int) vs all o cv cc co own.f0 own.f1 own.f2 = some (if (acc ++ ys.filter (fun x => aheadC x own) ++ own :: all.filter (fun x => aheadC own x)).length ≤ 2000 then (cv, acc ++ ys.filter (fun x => aheadC x own) ++ own :: all.filter (fun x => aheadC own x), co) else (cv, cc, co)) := by
  intro ys
  induction ys with
  | nil =>
    intro pre acc k he hk ha
    obtain ⟨k, rfl⟩ := succ_of (show all.length + 2 < k by omega)
    rw [List.append_nil] at he
    subst he
    simp only [spec_SetCell.l0]
    rw [if_neg (by omega), if_pos (by simp at ha; omega)]
    have := specC_l1 vs cv o co cc own all [] (acc ++ [own]) k (by omega) (by simpa using (by omega : all.length ≤ 100000000)) (by simp at ha ⊢; omega)
    simp only [List.nil_append, List.length_nil, List.append_assoc, List.singleton_append] at this
    rw [List.filter_nil, List.append_nil]
    exact this
  | cons y ys ih =>
    intro pre acc k he hk ha
    rw [List.length_cons] at hk ha
    obtain ⟨k, rfl⟩ := succ_of (show all.length + 2 < k by omega)
    simp only [spec_SetCell.l0]
    have hlt : (pre.length : Int) < (all.length : Int) := by rw [he]; exact len_cons pre ys y
    have hrd : rd_T57 all (pre.length : Int) = y := by rw [he]; exact getD_at pre ys y _
    have hw : wrap64 ((pre.length : Int) + 1) = ((pre ++ [y]).length : Int) := len_succ pre ys y (by rw [← he]; omega)
    rw [if_pos hlt, if_pos (by omega), hrd, sAheadC y own, Option.bind_some, hw]
    cases h : aheadC y own with
    | true =>
      have := ih (pre ++ [y]) (acc ++ [y]) k (by rw [← app_cons]; exact he) (by omega) (by rw [List.length_append, List.length_singleton]; omega)
      rw [if_pos rfl, if_pos (by omega), List.filter_cons_of_pos (by simpa using h)]
      simp only [List.append_assoc, List.singleton_append, List.cons_append, List.nil_append] at this ⊢
      exact this
    | false =>
      have := ih (pre ++ [y]) acc k (by rw [← app_cons]; exact he) (by omega) (by omega)
      rw [if_neg (by decide), List.filter_cons_of_neg (by simp [h])]
      exact this
theorem implC_l1 (l0 : List S57) (own : S57) : ∀ (ys pre acc : List S57) (k : Nat), ys.length < k → (pre ++ ys).length ≤ 100000000 → acc.length + ys.length ≤ 100000000 →
    impl_Cell.l1 k l0 2000 acc (pre ++ ys) ((pre ++ ys).length : Int) (pre.length : Int) own.f0 own.f1 own.f2 = some (if (acc ++ ys.filter (fun x => aheadC own x)).length ≤ 2000 then acc ++ ys.filter (fun x => aheadC own x) else l0) := by
  intro ys
  induction ys with
  | nil =>
    intro pre acc k hk hl ha
    obtain ⟨k, rfl⟩ := succ_of hk
    simp only [impl_Cell.l1]
    rw [if_neg (len_nil pre), List.filter_nil, List.append_nil]
    by_cases c : acc.length ≤ 2000
    · rw [if_neg (by omega), if_pos c]
    · rw [if_pos (by omega), if_neg c]
  | cons y ys ih =>
    intro pre acc k hk hl ha
    obtain ⟨k, rfl⟩ := succ_of hk
    rw [List.length_cons] at hk ha
    simp only [impl_Cell.l1]
    have hl' : (pre ++ [y] ++ ys).length ≤ 100000000 := by rw [← app_cons]; exact hl
    obtain ⟨t, e, _, hg⟩ := iKeyC y own
    rw [if_pos (len_cons pre ys y), if_pos (by omega), if_pos (len_cons pre ys y), show rd_T57 (pre ++ y :: ys) (pre.length : Int) = y from getD_at pre ys y _, e, Option.bind_some, len_succ pre ys y (by omega), app_cons pre ys y]
    cases h : aheadC own y with
    | true =>
      have := ih (pre ++ [y]) (acc ++ [y]) k (by omega) hl' (by rw [List.length_append, List.length_singleton]; omega)
      rw [if_pos (hg.2 h), if_pos (by omega), List.filter_cons_of_pos (by simpa using h)]
      simp only [List.append_assoc, List.singleton_append, List.cons_append, List.nil_append] at this ⊢
      exact this
    | false =>
      have := ih (pre ++ [y]) acc k (by omega) hl' (by omega)
      rw [if_neg (fun hc => by rw [hg.1 hc] at h; cases h), List.filter_cons_of_neg (by simp [h])]
      exact this
theorem implC_l0 (all : List S57) (hall : all.length ≤ 10000000) (own : S57) : ∀ (ys pre acc : List S57) (k : Nat), all = pre ++ ys → ys.length + all.length + 2 < k → acc.length + ys.length ≤ 50000000 →
    impl_Cell.l0 k all 2000 acc all (all.length : Int) (pre.length : Int) own.f0 own.f1 own.f2 = some (if (acc ++ ys.filter (fun x => aheadC x own) ++ own :: all.filter (fun x => aheadC own x)).length ≤ 2000 then acc ++ ys.filter (fun x => aheadC x own) ++ own :: all.filter (fun x => aheadC own x) else all) := by
  intro ys
  induction ys with
  | nil =>
    intro pre acc k he hk ha
    obtain ⟨k, rfl⟩ := succ_of (show all.length + 2 < k by omega)
    rw [List.append_nil] at he
    subst he
    simp only [impl_Cell.l0]
    rw [if_neg (by omega), if_pos (by simp at ha; omega)]
    have := implC_l1 all own all [] (acc ++ [own]) k (by omega) (by simpa using (by omega : all.length ≤ 100000000)) (by simp at ha ⊢; omega)
    simp only [List.nil_append, List.length_nil, List.append_assoc, List.singleton_append] at this
    rw [List.filter_nil, List.append_nil]
    exact this
  | cons y ys ih =>
    intro pre acc k he hk ha
    rw [List.length_cons] at hk ha
    obtain ⟨k, rfl⟩ := succ_of (show all.length + 2 < k by omega)
    simp only [impl_Cell.l0]
    have hlt : (pre.length : Int) < (all.length : Int) := by rw [he]; exact len_cons pre ys y
    have hrd : rd_T57 all (pre.length : Int) = y := by rw [he]; exact getD_at pre ys y _
    have hw : wrap64 ((pre.length : Int) + 1) = ((pre ++ [y]).length : Int) := len_succ pre ys y (by rw [← he]; omega)
    obtain ⟨t, e, hg, _⟩ := iKeyC y own
    rw [if_pos hlt, if_pos (by omega), if_pos hlt, hrd, e, Option.bind_some, hw]
    cases h : aheadC y own with
    | true =>
      have := ih (pre ++ [y]) (acc ++ [y]) k (by rw [← app_cons]; exact he) (by omega) (by rw [List.length_append, List.length_singleton]; omega)
      rw [if_pos (hg.2 h), if_pos (by omega), List.filter_cons_of_pos (by simpa using h)]
      simp only [List.append_assoc, List.singleton_append, List.cons_append, List.nil_append] at this ⊢
      exact this
    | false =>
      have := ih (pre ++ [y]) acc k (by rw [← app_cons]; exact he) (by omega) (by omega)
      rw [if_neg (fun hc => by rw [hg.1 hc] at h; cases h), List.filter_cons_of_neg (by simp [h])]
      exact this

theorem sCut (s : ByteArray) : spec_Cut.f s = some (cutB s) := by
  unfold spec_Cut.f cutB
  by_cases h : (s.size : Int) > 40
  · rw [if_pos h, if_pos (by omega), if_pos (by omega), if_neg (by omega)]
  · rw [if_neg h, if_pos (by omega)]

theorem iCut (s : ByteArray) : impl_Cut.f s = some (cutB s) := by
  unfold impl_Cut.f cutB
  by_cases h : s.size ≤ 40
  · have e : mn (s.size : Int) 40 = (s.size : Int) := by unfold mn; split <;> omega
    rw [e, if_pos (by omega), if_pos (by omega), if_pos h, Int.toNat_natCast, extract_all s (Nat.le_refl _)]
  · have e : mn (s.size : Int) 40 = 40 := by unfold mn; split <;> omega
    rw [e, if_pos (by omega), if_pos (by omega), if_neg h]
    rfl

theorem sCopy {vs : List S53} {cs : List S57} {o : ByteArray} (h1 : vs.length ≤ 1048576) (h2 : cs.length ≤ 1048576) : spec_l08Copy.f vs cs o = some (vs, cs, o) := by
  unfold spec_l08Copy.f
  rw [Option.bind_some, if_pos (by simp; omega), Option.bind_some, if_pos (by simp; omega)]
  rfl

theorem iCopy {vs : List S53} {cs : List S57} {o : ByteArray} (h1 : vs.length ≤ 1048576) (h2 : cs.length ≤ 1048576) : impl_copyStore.f vs cs o = some (vs, cs, o) := by
  unfold impl_copyStore.f
  rw [Option.bind_some, if_pos (by simp; omega), Option.bind_some, if_pos (by simp; omega)]
  rfl

theorem specSetCell_ok {vs : List S53} {cs : List S57} {o n key val : ByteArray} (h1 : vs.length ≤ 1048576) (h2 : cs.length ≤ 1048576) {k : Nat} (hk : 4000000 ≤ k) : spec_SetCell.f k vs cs o n key val = some (vs, putL aheadC 2000 ⟨n, cutB key, cutB val⟩ cs, o) := by
  unfold spec_SetCell.f
  rw [sCopy h1 h2, Option.bind_some, sCut, Option.bind_some, sCut, Option.bind_some]
  dsimp only
  rw [show spec_SetCell.l0 k [] 0 vs cs o vs cs o n (cutB key) (cutB val) = _ from specC_l0 vs vs o o cs cs (by omega) ⟨n, cutB key, cutB val⟩ cs [] [] k rfl (by omega) (by simp; omega)]
  unfold putL placeL
  rw [List.nil_append]
  split <;> rfl
theorem implSetCell_ok {vs : List S53} {cs : List S57} {o n key val : ByteArray} (h1 : vs.length ≤ 1048576) (h2 : cs.length ≤ 1048576) {k : Nat} (hk : 4000000 ≤ k) : impl_SetCell.f k vs cs o n key val = some (vs, putL aheadC 2000 ⟨n, cutB key, cutB val⟩ cs, o) := by
  unfold impl_SetCell.f impl_Cell.f
  rw [iCopy h1 h2, Option.bind_some, iCut, Option.bind_some, iCut, Option.bind_some]
  dsimp only
  rw [w64 (by omega) (by omega), if_pos (by omega), if_pos (by omega)]
  rw [show impl_Cell.l0 k cs 2000 [] cs (cs.length : Int) 0 n (cutB key) (cutB val) = _ from implC_l0 cs (by omega) ⟨n, cutB key, cutB val⟩ cs [] [] k rfl (by omega) (by simp; omega), Option.bind_some]
  unfold putL placeL
  rw [List.nil_append]

theorem FnExactSetCell : ∀ (vs : List S91) (cs : List S93) (o n key val : ByteArray), BigStore vs cs o → n.size ≤ 140737488351232 → key.size ≤ 140737488351232 → val.size ≤ 140737488351232 → ∃ k, laws_FnExactSetCell.f k vs cs o n key val = some true := by
  intro vs cs o n key val hb _ _ _
  by_cases c0 : (n.size : Int) > 1048576
  · refine ⟨0, ?_⟩
    unfold laws_FnExactSetCell.f
    rw [if_pos c0]
  by_cases c1 : (key.size : Int) > 1048576
  · refine ⟨0, ?_⟩
    unfold laws_FnExactSetCell.f
    rw [if_neg c0, if_pos c1]
  by_cases c2 : (val.size : Int) > 1048576
  · refine ⟨0, ?_⟩
    unfold laws_FnExactSetCell.f
    rw [if_neg c0, if_neg c1, if_pos c2]
  obtain ⟨r, ⟨K, e⟩, _, hs⟩ := szStore_ok hb (left := 1048576) (by omega) (by omega)
  obtain ⟨m, hm⟩ : ∃ m, m = K + 5000000 := ⟨_, rfl⟩
  have e := e (m + 1) (by omega)
  refine ⟨m + 1, ?_⟩
  dsimp only at e
  unfold laws_FnExactSetCell.f
  rw [if_neg c0, if_neg c1, if_neg c2, e, Option.bind_some]
  by_cases c : r < 0
  · rw [if_pos c]
  · have hs := hs (by omega)
    have h1 : (vs.map cV).length ≤ 1048576 := by rw [List.length_map]; exact hs.1.1
    have h2 : (cs.map cC).length ≤ 1048576 := by rw [List.length_map]; exact hs.2.1.1
    have te : ∀ k, 1048577 ≤ k → laws_toStore.f k vs cs o = some (vs.map cV, cs.map cC, o) := fun k hk => toStore_ok hs hk
    generalize vs.map cV = v at h1 te ⊢
    generalize cs.map cC = w at h2 te ⊢
    have hg : (putL aheadC 2000 ⟨n, cutB key, cutB val⟩ w).length ≤ 1048576 := by
      rcases putL_len aheadC 2000 ⟨n, cutB key, cutB val⟩ w with h | h <;> omega
    rw [if_neg c, te _ (by omega), Option.bind_some]
    dsimp only
    rw [specSetCell_ok h1 h2 (by omega), Option.bind_some, Option.bind_some]
    dsimp only
    rw [implSetCell_ok h1 h2 (by omega), Option.bind_some]
    dsimp only
    have hI := fun {k : Nat} (hk : 4000000 ≤ k) => implSetCell_ok (o := o) (n := n) (key := key) (val := val) h1 h2 hk
    generalize putL aheadC 2000 ⟨n, cutB key, cutB val⟩ w = g at hg hI ⊢
    rw [eqStore_ok h1 hg (by omega), Option.bind_some, if_pos rfl, Option.bind_some]
    dsimp only
    rw [eqStore_ok h1 h2 (by omega), Option.bind_some, if_pos rfl, markStore_ok (by omega) (by omega) (by omega), Option.bind_some]
    dsimp only
    rw [if_neg (by omega), Option.bind_some, Bool.not_true]
    simp only [laws_FnExactSetCell.j0]
    rw [if_neg (by decide), markStore_ok (by omega) (by omega) (by omega), Option.bind_some]
    dsimp only
    rw [heldStore_ok (by omega) (by omega) (by omega), Option.bind_some, if_neg (by omega), if_pos rfl, te _ (by omega), Option.bind_some]
    dsimp only
    rw [hI (by omega), Option.bind_some]
    dsimp only
    rw [eqStore_ok h1 hg (by omega), Option.bind_some, if_pos rfl, Option.bind_some, if_neg (by omega), if_pos rfl]

end Go.Proofs.Ytodpkfidkilpdaa.Pure
