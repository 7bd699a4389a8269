/- The pure statement of FnCells: over numbers and lists, what the printed functions come to is what the law wants, for every input. -/
import Derived.Test.YtodpkfidkilpdaaQFnCellsx13
set_option linter.unusedVariables false
set_option linter.unusedSimpArgs false
namespace Go.Proofs.Ytodpkfidkilpdaa.Pure
open Go.RowKit Go.Proofs.Ytodpkfidkilpdaa.QFnCells Go.Proofs.YtodpkfidkilpdaaW.PrintWords Go.Proofs.YtodpkfidkilpdaaW.PrintLast
/-! Words on strings as lists of numbers. -/
theorem w64 {x : Int} (h0 : -9223372036854775808 ≤ x) (h1 : x ≤ 9223372036854775807) : wrap64 x = x := by
  unfold wrap64
  omega
theorem bx_len (s : ByteArray) : (bytesOf s).length = s.size := bytesOf_length s
theorem bx_byte (s : ByteArray) : ∀ c ∈ bytesOf s, 0 ≤ c ∧ c ≤ 255 := by
  intro c hc
  unfold bytesOf at hc
  obtain ⟨b, _, rfl⟩ := List.mem_map.1 hc
  have := b.toNat_lt
  omega
theorem bx_at {s : ByteArray} {pre ys : List Int} {c : Int} (h : bytesOf s = pre ++ c :: ys) : bt s (pre.length : Int) = c := by
  rw [← rd_bytesOf, h, rd, Int.toNat_natCast, List.getD_eq_getElem?_getD, List.getElem?_append_right (Nat.le_refl _)]
  simp
theorem bx_lt {s : ByteArray} {pre ys : List Int} {c : Int} (h : bytesOf s = pre ++ c :: ys) : (pre.length : Int) < (s.size : Int) := by
  have := congrArg List.length h
  rw [bx_len, List.length_append, List.length_cons] at this
  omega
theorem bx_end {s : ByteArray} {pre : List Int} (h : bytesOf s = pre ++ []) : (s.size : Int) = (pre.length : Int) := by
  have := congrArg List.length h
  rw [bx_len, List.append_nil] at this
  omega
theorem bx_next {s : ByteArray} {pre ys : List Int} {c : Int} (h : bytesOf s = pre ++ c :: ys) : bytesOf s = (pre ++ [c]) ++ ys := by
  rw [h, List.append_assoc]; rfl
theorem len_next (pre : List Int) (c : Int) : ((pre ++ [c]).length : Int) = (pre.length : Int) + 1 := by
  rw [List.length_append, List.length_singleton]; omega
theorem bx_inj {s t : ByteArray} (h : bytesOf s = bytesOf t) : s = t := by
  unfold bytesOf at h
  have h2 : s.data.toList = t.data.toList := by
    refine (List.map_inj_right (f := fun b : UInt8 => (b.toNat : Int)) ?_).1 h
    intro x y hxy
    exact UInt8.toNat_inj.1 (Int.ofNat_inj.1 hxy)
  exact ByteArray.ext (Array.toList_inj.1 h2)
theorem tl_inj {s t : ByteArray} (h : s.toList = t.toList) : s = t := by
  rw [ByteArray.toList_eq, ByteArray.toList_eq] at h
  exact ByteArray.ext (Array.toList_inj.1 h)
theorem tl_iff {s t : ByteArray} : s.toList = t.toList ↔ bytesOf s = bytesOf t := ⟨fun h => by rw [tl_inj h], fun h => by rw [bx_inj h]⟩
theorem bx_app (s t : ByteArray) : bytesOf (s ++ t) = bytesOf s ++ bytesOf t := by
  simp [bytesOf]
theorem bx_cut (s : ByteArray) (a b : Nat) : bytesOf (s.extract a b) = ((bytesOf s).take b).drop a := by
  simp [bytesOf, ByteArray.data_extract, List.map_drop, List.map_take, List.take_drop]
  rw [List.drop_take, List.drop_take]
  congr 1
  omega
theorem bx_str {xs : List Int} (h : ∀ c ∈ xs, 0 ≤ c ∧ c ≤ 255) : bytesOf (strOfNums xs) = xs := by
  unfold bytesOf
  rw [strOfNums_data, List.map_map]
  induction xs with
  | nil => rfl
  | cons c xs ih =>
    rw [List.map_cons, ih (fun d hd => h d (List.mem_cons_of_mem _ hd))]
    have hc := h c (List.mem_cons_self ..)
    congr 1
    have e : (UInt8.ofNat c.toNat).toNat = c.toNat := by
      rw [UInt8.toNat_ofNat']
      omega
    show ((UInt8.ofNat c.toNat).toNat : Int) = c
    rw [e]
    omega
theorem bx_wrap {s : ByteArray} {pre ys : List Int} {c : Int} (h : bytesOf s = pre ++ c :: ys) (hs : s.size ≤ 140737488351232) : wrap64 ((pre.length : Int) + 1) = ((pre ++ [c]).length : Int) := by
  rw [len_next]
  have := bx_lt h
  exact w64 (by omega) (by omega)
theorem bx_in {s : ByteArray} {pre ys : List Int} {c : Int} (h : bytesOf s = pre ++ c :: ys) : 0 ≤ c ∧ c ≤ 255 :=
  bx_byte s c (by rw [h]; exact List.mem_append_right _ (List.mem_cons_self ..))
theorem succ_of {n k : Nat} (h : n < k) : ∃ m, k = m + 1 := ⟨k - 1, by omega⟩
theorem ev2 {α β : Type} {g : Nat → Option α} {f : Nat → Option β} {a : α} {b : β} (h : Ev g a) (h' : Ev f b) : ∃ k, g k = some a ∧ f k = some b := by
  obtain ⟨K, h⟩ := h
  obtain ⟨K', h'⟩ := h'
  exact ⟨K + K', h _ (by omega), h' _ (by omega)⟩

theorem getD_at {α : Type} (pre ys : List α) (y d : α) : (pre ++ y :: ys).getD (pre.length : Int).toNat d = y := by
  rw [Int.toNat_natCast, List.getD_eq_getElem?_getD, List.getElem?_append_right (Nat.le_refl _)]
  simp
theorem len_cons {α : Type} (pre ys : List α) (y : α) : (pre.length : Int) < ((pre ++ y :: ys).length : Int) := by
  rw [List.length_append, List.length_cons]; omega
theorem len_nil {α : Type} (pre : List α) : ¬ (pre.length : Int) < ((pre ++ []).length : Int) := by
  rw [List.append_nil]; omega
theorem len_succ {α : Type} (pre ys : List α) (y : α) (h : (pre ++ y :: ys).length ≤ 9223372036854775807) : wrap64 ((pre.length : Int) + 1) = ((pre ++ [y]).length : Int) := by
  rw [List.length_append, List.length_cons] at h
  rw [List.length_append, List.length_singleton, w64 (by omega) (by omega)]
  omega
theorem app_cons {α : Type} (pre ys : List α) (y : α) : pre ++ y :: ys = (pre ++ [y]) ++ ys := by rw [List.append_assoc]; rfl
theorem set_at {α : Type} (pre ys : List α) (y z : α) : (pre ++ y :: ys).set (pre.length : Int).toNat z = pre ++ z :: ys := by
  rw [Int.toNat_natCast, List.set_append_right _ _ (Nat.le_refl _), Nat.sub_self]
  rfl

def cutB (s : ByteArray) : ByteArray := if s.size ≤ 40 then s else s.extract 0 40
theorem extract_all (s : ByteArray) {n : Nat} (h : s.size ≤ n) : s.extract 0 n = s := by
  apply bx_inj
  rw [bx_cut, List.drop_zero, List.take_of_length_le (by rw [bx_len]; exact h)]

/-! One cell, or one var, put in its place. -/
def aheadV (x y : S53) : Bool := Op.bytesLess x.f0.toList y.f0.toList
def aheadC (x y : S57) : Bool := if Op.bytesLess x.f0.toList y.f0.toList = true then true else if x.f0.toList = y.f0.toList then Op.bytesLess x.f1.toList y.f1.toList else false
def placeL {α : Type} (ahead : α → α → Bool) (own : α) (l : List α) : List α := l.filter (fun x => ahead x own) ++ own :: l.filter (fun x => ahead own x)
def putL {α : Type} (ahead : α → α → Bool) (most : Nat) (own : α) (l : List α) : List α := if (placeL ahead own l).length ≤ most then placeL ahead own l else l
theorem placeL_len {α : Type} (ahead : α → α → Bool) (own : α) (l : List α) : (placeL ahead own l).length ≤ 2 * l.length + 1 := by
  unfold placeL
  rw [List.length_append, List.length_cons]
  have h1 := List.length_filter_le (fun x => ahead x own) l
  have h2 := List.length_filter_le (fun x => ahead own x) l
  omega
theorem putL_len {α : Type} (ahead : α → α → Bool) (most : Nat) (own : α) (l : List α) : (putL ahead most own l).length ≤ most ∨ (putL ahead most own l).length ≤ l.length := by
  unfold putL
  split
  · next h => exact .inl h
  · exact .inr (Nat.le_refl _)

theorem sAheadC (x y : S57) : spec_l08Ahead.f x.f0 x.f1 x.f2 y.f0 y.f1 y.f2 = some (aheadC x y) := by
  unfold spec_l08Ahead.f aheadC
  split
  · rfl
  · split
    · rfl
    · rfl
theorem specC_l1 (vs cv : List S53) (o co : ByteArray) (cc : List S57) (own : S57) : ∀ (ys pre acc : List S57) (k : Nat), ys.length < k → (pre ++ ys).length ≤ 100000000 → acc.length + ys.length ≤ 100000000 →
    spec_SetCell.l1 k acc (pre.length : Int) vs (pre ++ ys) o cv cc co own.f0 own.f1 own.f2 = some (if (acc ++ ys.filter (fun x => aheadC own x)).length ≤ 2000 then (cv, acc ++ ys.filter (fun x => aheadC own x), co) else (cv, cc, co)) := by
  intro ys
  induction ys with
  | nil =>
    intro pre acc k hk hl ha
    obtain ⟨k, rfl⟩ := succ_of hk
    simp only [spec_SetCell.l1]
    rw [if_neg (len_nil pre), List.filter_nil, List.append_nil]
    by_cases c : acc.length ≤ 2000
    · rw [if_pos (by omega), if_pos c]
    · rw [if_neg (by omega), if_neg c]
  | cons y ys ih =>
    intro pre acc k hk hl ha
    obtain ⟨k, rfl⟩ := succ_of hk
    rw [List.length_cons] at hk ha
    simp only [spec_SetCell.l1]
    have hl' : (pre ++ [y] ++ ys).length ≤ 100000000 := by rw [← app_cons]; exact hl
    rw [if_pos (len_cons pre ys y), if_pos (by omega), show rd_T57 (pre ++ y :: ys) (pre.length : Int) = y from getD_at pre ys y _, sAheadC own y, Option.bind_some, len_succ pre ys y (by omega), app_cons pre ys y]
    cases h : aheadC own y with
    | true =>
      have := ih (pre ++ [y]) (acc ++ [y]) k (by omega) hl' (by rw [List.length_append, List.length_singleton]; omega)
      rw [if_pos rfl, if_pos (by omega), List.filter_cons_of_pos (by simpa using h)]
      simp only [List.append_assoc, List.singleton_append, List.cons_append, List.nil_append] at this ⊢
      exact this
    | false =>
      have := ih (pre ++ [y]) acc k (by omega) hl' (by omega)
      rw [if_neg (by decide), List.filter_cons_of_neg (by simp [h])]
      exact this
theorem specC_l0 (vs cv : List S53) (o co : ByteArray) (all cc : List S57) (hall : all.length ≤ 10000000) (own : S57) : ∀ (ys pre acc : List S57) (k : Nat), all = pre ++ ys → ys.length + all.length + 2 < k → acc.length + ys.length ≤ 50000000 →
    spec_SetCell.l0 k acc (pre.length : Int) vs all o cv cc co own.f0 own.f1 own.f2 = some (if (acc ++ ys.filter (fun x => aheadC x own) ++ own :: all.filter (fun x => aheadC own x)).length ≤ 2000 then (cv, acc ++ ys.filter (fun x => aheadC x own) ++ own :: all.filter (fun x => aheadC own x), co) else (cv, cc, co)) := by
  intro ys
  induction ys with
  | nil =>
    intro pre acc k he hk ha
    obtain ⟨k, rfl⟩ := succ_of (show all.length + 2 < k by omega)
    rw [List.append_nil] at he
    subst he
    simp only [spec_SetCell.l0]
    rw [if_neg (by omega), if_pos (by simp at ha; omega)]
    have := specC_l1 vs cv o co cc own all [] (acc ++ [own]) k (by omega) (by simpa using (by omega : all.length ≤ 100000000)) (by simp at ha ⊢; omega)
    simp only [List.nil_append, List.length_nil, List.append_assoc, List.singleton_append] at this
    rw [List.filter_nil, List.append_nil]
    exact this
  | cons y ys ih =>
    intro pre acc k he hk ha
    rw [List.length_cons] at hk ha
    obtain ⟨k, rfl⟩ := succ_of (show all.length + 2 < k by omega)
    simp only [spec_SetCell.l0]
    have hlt : (pre.length : Int) < (all.length : Int) := by rw [he]; exact len_cons pre ys y
    have hrd : rd_T57 all (pre.length : Int) = y := by rw [he]; exact getD_at pre ys y _
    have hw : wrap64 ((pre.length : Int) + 1) = ((pre ++ [y]).length : Int) := len_succ pre ys y (by rw [← he]; omega)
    rw [if_pos hlt, if_pos (by omega), hrd, sAheadC y own, Option.bind_some, hw]
    cases h : aheadC y own with
    | true =>
      have := ih (pre ++ [y]) (acc ++ [y]) k (by rw [← app_cons]; exact he) (by omega) (by rw [List.length_append, List.length_singleton]; omega)
      rw [if_pos rfl, if_pos (by omega), List.filter_cons_of_pos (by simpa using h)]
      simp only [List.append_assoc, List.singleton_append, List.cons_append, List.nil_append] at this ⊢
      exact this
    | false =>
      have := ih (pre ++ [y]) acc k (by rw [← app_cons]; exact he) (by omega) (by omega)
      rw [if_neg (by decide), List.filter_cons_of_neg (by simp [h])]
      exact this

theorem sCut (s : ByteArray) : spec_Cut.f s = some (cutB s) := by
  unfold spec_Cut.f cutB
  by_cases h : (s.size : Int) > 40
  · rw [if_pos h, if_pos (by omega), if_pos (by omega), if_neg (by omega)]
  · rw [if_neg h, if_pos (by omega)]

theorem sCopy {vs : List S53} {cs : List S57} {o : ByteArray} (h1 : vs.length ≤ 1048576) (h2 : cs.length ≤ 1048576) : spec_l08Copy.f vs cs o = some (vs, cs, o) := by
  unfold spec_l08Copy.f
  rw [Option.bind_some, if_pos (by simp; omega), Option.bind_some, if_pos (by simp; omega)]
  rfl

theorem specSetCell_ok {vs : List S53} {cs : List S57} {o n key val : ByteArray} (h1 : vs.length ≤ 1048576) (h2 : cs.length ≤ 1048576) {k : Nat} (hk : 4000000 ≤ k) : spec_SetCell.f k vs cs o n key val = some (vs, putL aheadC 2000 ⟨n, cutB key, cutB val⟩ cs, o) := by
  unfold spec_SetCell.f
  rw [sCopy h1 h2, Option.bind_some, sCut, Option.bind_some, sCut, Option.bind_some]
  dsimp only
  rw [show spec_SetCell.l0 k [] 0 vs cs o vs cs o n (cutB key) (cutB val) = _ from specC_l0 vs vs o o cs cs (by omega) ⟨n, cutB key, cutB val⟩ cs [] [] k rfl (by omega) (by simp; omega)]
  unfold putL placeL
  rw [List.nil_append]
  split <;> rfl

/-! Which comes first: the two programs' rules are one. -/
theorem less_cmp : ∀ (a b : List UInt8), Op.bytesLess a b = decide (Go.Lib.compareBytes a b < 0)
  | [], [] => rfl
  | [], _ :: _ => rfl
  | _ :: _, [] => rfl
  | a :: xs, b :: ys => by
    have ih := less_cmp xs ys
    simp only [Op.bytesLess, Go.Lib.compareBytes]
    rw [ih]
    by_cases h : a < b
    · simp [h]
    · by_cases h2 : b < a
      · have : a ≠ b := fun e => by subst e; exact h h2
        simp [h, h2, this]
      · have : a = b := UInt8.le_antisymm (UInt8.not_lt.1 h2) (UInt8.not_lt.1 h)
        simp [h, h2, this]
theorem cmp_self : ∀ (a : List UInt8), Go.Lib.compareBytes a a = 0
  | [] => rfl
  | a :: xs => by
    simp only [Go.Lib.compareBytes]
    rw [if_neg (UInt8.lt_irrefl a), if_neg (UInt8.lt_irrefl a)]
    exact cmp_self xs

theorem cmp_gt : ∀ (a b : List UInt8), (Go.Lib.compareBytes a b > 0) = (Go.Lib.compareBytes b a < 0)
  | [], [] => by decide
  | [], _ :: _ => by simp [Go.Lib.compareBytes]
  | _ :: _, [] => by simp [Go.Lib.compareBytes]
  | a :: xs, b :: ys => by
    have ih := cmp_gt xs ys
    simp only [Go.Lib.compareBytes]
    by_cases h : a < b
    · have h1 : ¬ b < a := UInt8.not_lt.2 (UInt8.le_of_lt h)
      simp [h, h1]
    · by_cases h2 : b < a
      · simp [h, h2]
      · rw [if_neg h, if_neg h2, if_neg h2, if_neg h, ih]

theorem ahead_key (a b c a' b' c' : ByteArray) : ∃ t, impl_byKey.f a b c a' b' c' = some t ∧ spec_l08Ahead.f a b c a' b' c' = some (decide (t < 0)) := by
  unfold impl_byKey.f spec_l08Ahead.f strings_Compare.f
  rw [less_cmp, less_cmp]
  by_cases h : a.toList = a'.toList
  · rw [if_pos h, Option.bind_some, if_neg (by rw [h, cmp_self]; decide), if_pos h]
    exact ⟨_, rfl, by rw [ByteArray.toList_eq, ByteArray.toList_eq]⟩
  · rw [if_neg h, Option.bind_some]
    refine ⟨_, rfl, ?_⟩
    rw [ByteArray.toList_eq, ByteArray.toList_eq]
    split
    · next h2 => rw [h2]
    · next h2 =>
      rw [ByteArray.toList_eq, ByteArray.toList_eq] at h
      rw [if_neg h, Bool.eq_false_iff.2 h2]

theorem iKeyC (x y : S57) : ∃ t, impl_byKey.f x.f0 x.f1 x.f2 y.f0 y.f1 y.f2 = some t ∧ (t < 0 ↔ aheadC x y = true) ∧ (t > 0 ↔ aheadC y x = true) := by
  obtain ⟨t, e1, e2⟩ := ahead_key x.f0 x.f1 x.f2 y.f0 y.f1 y.f2
  obtain ⟨t2, e3, e4⟩ := ahead_key y.f0 y.f1 y.f2 x.f0 x.f1 x.f2
  rw [sAheadC] at e2 e4
  injection e2 with e2
  injection e4 with e4
  have hg : (t > 0) = (t2 < 0) := by
    unfold impl_byKey.f strings_Compare.f at e1 e3
    by_cases h : x.f0.toList = y.f0.toList
    · rw [if_pos h, Option.bind_some] at e1
      rw [if_pos h.symm, Option.bind_some] at e3
      injection e1 with e1
      injection e3 with e3
      rw [← e1, ← e3, cmp_gt]
    · rw [if_neg h, Option.bind_some] at e1
      rw [if_neg (fun h2 => h h2.symm), Option.bind_some] at e3
      injection e1 with e1
      injection e3 with e3
      rw [← e1, ← e3, cmp_gt]
  refine ⟨t, e1, ?_, ?_⟩
  · rw [e2]; simp
  · rw [hg, e4]; simp

theorem implC_l1 (l0 : List S57) (own : S57) : ∀ (ys pre acc : List S57) (k : Nat), ys.length < k → (pre ++ ys).length ≤ 100000000 → acc.length + ys.length ≤ 100000000 →
    impl_Cell.l1 k l0 2000 acc (pre ++ ys) ((pre ++ ys).length : Int) (pre.length : Int) own.f0 own.f1 own.f2 = some (if (acc ++ ys.filter (fun x => aheadC own x)).length ≤ 2000 then acc ++ ys.filter (fun x => aheadC own x) else l0) := by
  intro ys
  induction ys with
  | nil =>
    intro pre acc k hk hl ha
    obtain ⟨k, rfl⟩ := succ_of hk
    simp only [impl_Cell.l1]
    rw [if_neg (len_nil pre), List.filter_nil, List.append_nil]
    by_cases c : acc.length ≤ 2000
    · rw [if_neg (by omega), if_pos c]
    · rw [if_pos (by omega), if_neg c]
  | cons y ys ih =>
    intro pre acc k hk hl ha
    obtain ⟨k, rfl⟩ := succ_of hk
    rw [List.length_cons] at hk ha
    simp only [impl_Cell.l1]
    have hl' : (pre ++ [y] ++ ys).length ≤ 100000000 := by rw [← app_cons]; exact hl
    obtain ⟨t, e, _, hg⟩ := iKeyC y own
    rw [if_pos (len_cons pre ys y), if_pos (by omega), if_pos (len_cons pre ys y), show rd_T57 (pre ++ y :: ys) (pre.length : Int) = y from getD_at pre ys y _, e, Option.bind_some, len_succ pre ys y (by omega), app_cons pre ys y]
    cases h : aheadC own y with
    | true =>
      have := ih (pre ++ [y]) (acc ++ [y]) k (by omega) hl' (by rw [List.length_append, List.length_singleton]; omega)
      rw [if_pos (hg.2 h), if_pos (by omega), List.filter_cons_of_pos (by simpa using h)]
      simp only [List.append_assoc, List.singleton_append, List.cons_append, List.nil_append] at this ⊢
      exact this
    | false =>
      have := ih (pre ++ [y]) acc k (by omega) hl' (by omega)
      rw [if_neg (fun hc => by rw [hg.1 hc] at h; cases h), List.filter_cons_of_neg (by simp [h])]
      exact this
theorem implC_l0 (all : List S57) (hall : all.length ≤ 10000000) (own : S57) : ∀ (ys pre acc : List S57) (k : Nat), all = pre ++ ys → ys.length + all.length + 2 < k → acc.length + ys.length ≤ 50000000 →
    impl_Cell.l0 k all 2000 acc all (all.length : Int) (pre.length : Int) own.f0 own.f1 own.f2 = some (if (acc ++ ys.filter (fun x => aheadC x own) ++ own :: all.filter (fun x => aheadC own x)).length ≤ 2000 then acc ++ ys.filter (fun x => aheadC x own) ++ own :: all.filter (fun x => aheadC own x) else all) := by
  intro ys
  induction ys with
  | nil =>
    intro pre acc k he hk ha
    obtain ⟨k, rfl⟩ := succ_of (show all.length + 2 < k by omega)
    rw [List.append_nil] at he
    subst he
    simp only [impl_Cell.l0]
    rw [if_neg (by omega), if_pos (by simp at ha; omega)]
    have := implC_l1 all own all [] (acc ++ [own]) k (by omega) (by simpa using (by omega : all.length ≤ 100000000)) (by simp at ha ⊢; omega)
    simp only [List.nil_append, List.length_nil, List.append_assoc, List.singleton_append] at this
    rw [List.filter_nil, List.append_nil]
    exact this
  | cons y ys ih =>
    intro pre acc k he hk ha
    rw [List.length_cons] at hk ha
    obtain ⟨k, rfl⟩ := succ_of (show all.length + 2 < k by omega)
    simp only [impl_Cell.l0]
    have hlt : (pre.length : Int) < (all.length : Int) := by rw [he]; exact len_cons pre ys y
    have hrd : rd_T57 all (pre.length : Int) = y := by rw [he]; exact getD_at pre ys y _
    have hw : wrap64 ((pre.length : Int) + 1) = ((pre ++ [y]).length : Int) := len_succ pre ys y (by rw [← he]; omega)
    obtain ⟨t, e, hg, _⟩ := iKeyC y own
    rw [if_pos hlt, if_pos (by omega), if_pos hlt, hrd, e, Option.bind_some, hw]
    cases h : aheadC y own with
    | true =>
      have := ih (pre ++ [y]) (acc ++ [y]) k (by rw [← app_cons]; exact he) (by omega) (by rw [List.length_append, List.length_singleton]; omega)
      rw [if_pos (hg.2 h), if_pos (by omega), List.filter_cons_of_pos (by simpa using h)]
      simp only [List.append_assoc, List.singleton_append, List.cons_append, List.nil_append] at this ⊢
      exact this
    | false =>
      have := ih (pre ++ [y]) acc k (by rw [← app_cons]; exact he) (by omega) (by omega)
      rw [if_neg (fun hc => by rw [hg.1 hc] at h; cases h), List.filter_cons_of_neg (by simp [h])]
      exact this

theorem iCut (s : ByteArray) : impl_Cut.f s = some (cutB s) := by
  unfold impl_Cut.f cutB
  by_cases h : s.size ≤ 40
  · have e : mn (s.size : Int) 40 = (s.size : Int) := by unfold mn; split <;> omega
    rw [e, if_pos (by omega), if_pos (by omega), if_pos h, Int.toNat_natCast, extract_all s (Nat.le_refl _)]
  · have e : mn (s.size : Int) 40 = 40 := by unfold mn; split <;> omega
    rw [e, if_pos (by omega), if_pos (by omega), if_neg h]
    rfl

theorem iCopy {vs : List S53} {cs : List S57} {o : ByteArray} (h1 : vs.length ≤ 1048576) (h2 : cs.length ≤ 1048576) : impl_copyStore.f vs cs o = some (vs, cs, o) := by
  unfold impl_copyStore.f
  rw [Option.bind_some, if_pos (by simp; omega), Option.bind_some, if_pos (by simp; omega)]
  rfl

theorem implSetCell_ok {vs : List S53} {cs : List S57} {o n key val : ByteArray} (h1 : vs.length ≤ 1048576) (h2 : cs.length ≤ 1048576) {k : Nat} (hk : 4000000 ≤ k) : impl_SetCell.f k vs cs o n key val = some (vs, putL aheadC 2000 ⟨n, cutB key, cutB val⟩ cs, o) := by
  unfold impl_SetCell.f impl_Cell.f
  rw [iCopy h1 h2, Option.bind_some, iCut, Option.bind_some, iCut, Option.bind_some]
  dsimp only
  rw [w64 (by omega) (by omega), if_pos (by omega), if_pos (by omega)]
  rw [show impl_Cell.l0 k cs 2000 [] cs (cs.length : Int) 0 n (cutB key) (cutB val) = _ from implC_l0 cs (by omega) ⟨n, cutB key, cutB val⟩ cs [] [] k rfl (by omega) (by simp; omega), Option.bind_some]
  unfold putL placeL
  rw [List.nil_append]

/-! The order of names and keys, and what a put keeps of it. -/
theorem less_self : ∀ (a : List UInt8), Op.bytesLess a a = false
  | [] => rfl
  | a :: x => by simp [Op.bytesLess, less_self x]
theorem less_trans : ∀ (a b c : List UInt8), Op.bytesLess a b = true → Op.bytesLess b c = true → Op.bytesLess a c = true
  | _, [], c, h, _ => by cases ‹List UInt8› <;> simp [Op.bytesLess] at h
  | _, _ :: _, [], _, h => by simp [Op.bytesLess] at h
  | [], _ :: _, _ :: _, _, _ => rfl
  | a :: x, b :: y, c :: z, h1, h2 => by
    have ih := less_trans x y z
    simp only [Op.bytesLess, Bool.or_eq_true, decide_eq_true_eq, Bool.and_eq_true, beq_iff_eq] at h1 h2 ⊢
    rcases h1 with h1 | ⟨rfl, h1⟩
    · rcases h2 with h2 | ⟨rfl, h2⟩
      · exact .inl (UInt8.lt_trans h1 h2)
      · exact .inl h1
    · rcases h2 with h2 | ⟨rfl, h2⟩
      · exact .inl h2
      · exact .inr ⟨rfl, ih h1 h2⟩
theorem less_tri : ∀ (a b : List UInt8), a = b ∨ Op.bytesLess a b = true ∨ Op.bytesLess b a = true
  | [], [] => .inl rfl
  | [], _ :: _ => .inr (.inl rfl)
  | _ :: _, [] => .inr (.inr rfl)
  | a :: x, b :: y => by
    have ih := less_tri x y
    simp only [Op.bytesLess, Bool.or_eq_true, decide_eq_true_eq, Bool.and_eq_true, beq_iff_eq]
    by_cases h : a < b
    · exact .inr (.inl (.inl h))
    · by_cases h2 : b < a
      · exact .inr (.inr (.inl h2))
      · have e : a = b := UInt8.le_antisymm (UInt8.not_lt.1 h2) (UInt8.not_lt.1 h)
        subst e
        rcases ih with rfl | ih | ih
        · exact .inl rfl
        · exact .inr (.inl (.inr ⟨rfl, ih⟩))
        · exact .inr (.inr (.inr ⟨rfl, ih⟩))
theorem aheadV_trans (x y z : S53) (h1 : aheadV x y = true) (h2 : aheadV y z = true) : aheadV x z = true := less_trans _ _ _ h1 h2
theorem aheadV_self (x y : S53) (h : aheadV x y = true) : x.f0.toList ≠ y.f0.toList := by
  intro e
  unfold aheadV at h
  rw [e, less_self] at h
  cases h
theorem aheadC_trans (x y z : S57) (h1 : aheadC x y = true) (h2 : aheadC y z = true) : aheadC x z = true := by
  unfold aheadC at h1 h2 ⊢
  by_cases a : Op.bytesLess x.f0.toList y.f0.toList = true
  · by_cases b : Op.bytesLess y.f0.toList z.f0.toList = true
    · rw [if_pos (less_trans _ _ _ a b)]
    · rw [if_neg b] at h2
      by_cases c : y.f0.toList = z.f0.toList
      · rw [← c, if_pos a]
      · rw [if_neg c] at h2; cases h2
  · rw [if_neg a] at h1
    by_cases d : x.f0.toList = y.f0.toList
    · rw [if_pos d] at h1
      rw [d]
      by_cases b : Op.bytesLess y.f0.toList z.f0.toList = true
      · rw [if_pos b]
      · rw [if_neg b] at h2 ⊢
        by_cases c : y.f0.toList = z.f0.toList
        · rw [if_pos c] at h2 ⊢
          exact less_trans _ _ _ h1 h2
        · rw [if_neg c] at h2; cases h2
    · rw [if_neg d] at h1; cases h1
theorem aheadC_self (x y : S57) (h : aheadC x y = true) (e0 : x.f0.toList = y.f0.toList) : x.f1.toList ≠ y.f1.toList := by
  intro e
  unfold aheadC at h
  rw [e0, less_self, if_neg (by decide), if_pos rfl, e, less_self] at h
  cases h
theorem aheadC_tri (x y : S57) (h : ¬ (x.f0.toList = y.f0.toList ∧ x.f1.toList = y.f1.toList)) : aheadC x y = true ∨ aheadC y x = true := by
  unfold aheadC
  rcases less_tri x.f0.toList y.f0.toList with e | e | e
  · rw [e, less_self, if_neg (by decide), if_pos rfl, if_neg (by decide), if_pos rfl]
    rcases less_tri x.f1.toList y.f1.toList with e2 | e2 | e2
    · exact (h ⟨e, e2⟩).elim
    · exact .inl e2
    · exact .inr e2
  · rw [e]; exact .inl (if_pos rfl)
  · rw [e]; exact .inr (if_pos rfl)
theorem placeL_sorted {α : Type} {ahead : α → α → Bool} (ht : ∀ x y z, ahead x y = true → ahead y z = true → ahead x z = true) (own : α) {l : List α} (h : l.Pairwise (fun x y => ahead x y = true)) : (placeL ahead own l).Pairwise (fun x y => ahead x y = true) := by
  unfold placeL
  rw [List.pairwise_append]
  refine ⟨h.sublist List.filter_sublist, ?_, ?_⟩
  · rw [List.pairwise_cons]
    exact ⟨fun y hy => (List.mem_filter.1 hy).2, h.sublist List.filter_sublist⟩
  · intro x hx y hy
    have h1 := (List.mem_filter.1 hx).2
    rcases List.mem_cons.1 hy with rfl | hy
    · exact h1
    · exact ht _ _ _ h1 (List.mem_filter.1 hy).2
theorem putL_sorted {α : Type} {ahead : α → α → Bool} (ht : ∀ x y z, ahead x y = true → ahead y z = true → ahead x z = true) (most : Nat) (own : α) {l : List α} (h : l.Pairwise (fun x y => ahead x y = true)) : (putL ahead most own l).Pairwise (fun x y => ahead x y = true) := by
  unfold putL
  split
  · exact placeL_sorted ht own h
  · exact h
theorem putL_mem {α : Type} {ahead : α → α → Bool} {most : Nat} {own y : α} {l : List α} (h : y ∈ putL ahead most own l) : y = own ∨ y ∈ l := by
  unfold putL placeL at h
  split at h
  · rcases List.mem_append.1 h with h | h
    · exact .inr (List.mem_filter.1 h).1
    · rcases List.mem_cons.1 h with h | h
      · exact .inl h
      · exact .inr (List.mem_filter.1 h).1
  · exact .inr h
theorem filter_two {α : Type} (p q : α → Bool) (h : ∀ x, p x = true → q x = true → False) : ∀ l : List α, (l.filter p).length + (l.filter q).length ≤ l.length
  | [] => Nat.le_refl _
  | x :: l => by
    have ih := filter_two p q h l
    rw [List.filter_cons, List.filter_cons, List.length_cons]
    cases hp : p x with
    | true =>
      cases hq : q x with
      | true => exact (h x hp hq).elim
      | false => simp; omega
    | false => cases q x <;> simp <;> omega
theorem placeL_one {α : Type} {ahead : α → α → Bool} (h : ∀ x y, ahead x y = true → ahead y x = true → False) (own : α) (l : List α) : (placeL ahead own l).length ≤ l.length + 1 := by
  unfold placeL
  rw [List.length_append, List.length_cons]
  have := filter_two (fun x => ahead x own) (fun x => ahead own x) (fun x => h x own) l
  omega
theorem putL_one {α : Type} {ahead : α → α → Bool} (h : ∀ x y, ahead x y = true → ahead y x = true → False) (most : Nat) (own : α) (l : List α) : (putL ahead most own l).length ≤ l.length + 1 := by
  unfold putL
  split
  · exact placeL_one h own l
  · omega
theorem putL_place {α : Type} {ahead : α → α → Bool} (h : ∀ x y, ahead x y = true → ahead y x = true → False) {most : Nat} (own : α) {l : List α} (hl : l.length < most) : putL ahead most own l = placeL ahead own l := by
  unfold putL
  have := placeL_one h own l
  rw [if_pos (by omega)]
theorem aheadV_asym (x y : S53) (h1 : aheadV x y = true) (h2 : aheadV y x = true) : False := aheadV_self x x (aheadV_trans x y x h1 h2) rfl
theorem aheadC_asym (x y : S57) (h1 : aheadC x y = true) (h2 : aheadC y x = true) : False := aheadC_self x x (aheadC_trans x y x h1 h2) rfl rfl
theorem cutB_size (s : ByteArray) : (cutB s).size ≤ 40 := by
  unfold cutB
  split
  · next h => exact h
  · rw [ByteArray.size_extract]; omega
theorem cutB_self {s : ByteArray} (h : s.size ≤ 40) : cutB s = s := by
  unfold cutB; rw [if_pos h]

def cellOfL (name key : ByteArray) : List S57 → ByteArray
  | [] => ⟨#[]⟩
  | y :: ys => if y.f0.toList = name.toList then (if y.f1.toList = key.toList then y.f2 else cellOfL name key ys) else cellOfL name key ys

theorem cellOfL_none {n q : ByteArray} : ∀ {l : List S57}, (∀ y ∈ l, y.f1.toList ≠ q.toList) → cellOfL n q l = ⟨#[]⟩
  | [], _ => rfl
  | y :: l, h => by
    have ih := cellOfL_none (n := n) (fun z hz => h z (List.mem_cons_of_mem _ hz))
    rw [cellOfL, if_neg (h y (List.mem_cons_self ..)), ih]
    split <;> rfl
theorem cellOfL_mem {y : S57} {n q : ByteArray} (e : y.f0.toList = n.toList) (e1 : y.f1.toList = q.toList) : ∀ {l : List S57}, l.Pairwise (fun x y => aheadC x y = true) → y ∈ l → cellOfL n q l = y.f2
  | [], _, h => by cases h
  | z :: l, hp, h => by
    rw [List.pairwise_cons] at hp
    rw [cellOfL]
    rcases List.mem_cons.1 h with rfl | h
    · rw [if_pos e, if_pos e1]
    · rw [cellOfL_mem e e1 hp.2 h]
      by_cases c : z.f0.toList = n.toList
      · rw [if_pos c, if_neg (fun e2 => aheadC_self z y (hp.1 y h) (c.trans e.symm) (e2.trans e1.symm))]
      · rw [if_neg c]
theorem cellOf_own {l : List S57} (hp : l.Pairwise (fun x y => aheadC x y = true)) (own : S57) : cellOfL own.f0 own.f1 (placeL aheadC own l) = own.f2 :=
  cellOfL_mem rfl rfl (placeL_sorted aheadC_trans own hp) (by unfold placeL; exact List.mem_append_right _ (List.mem_cons_self ..))
theorem cellOf_other {l : List S57} (hp : l.Pairwise (fun x y => aheadC x y = true)) (own y : S57) (hy : y ∈ l) (hn : ¬ (y.f0.toList = own.f0.toList ∧ y.f1.toList = own.f1.toList)) : cellOfL y.f0 y.f1 (placeL aheadC own l) = y.f2 := by
  refine cellOfL_mem rfl rfl (placeL_sorted aheadC_trans own hp) ?_
  unfold placeL
  rcases aheadC_tri y own hn with e | e
  · exact List.mem_append_left _ (List.mem_filter.2 ⟨hy, e⟩)
  · exact List.mem_append_right _ (List.mem_cons_of_mem _ (List.mem_filter.2 ⟨hy, e⟩))
theorem aheadC_own (n q v w : ByteArray) : aheadC ⟨n, q, v⟩ ⟨n, q, w⟩ = false := by
  unfold aheadC
  dsimp only
  rw [less_self, if_neg (by decide), if_pos rfl, less_self]
theorem placeC_again (n q v w : ByteArray) (l : List S57) : placeL aheadC ⟨n, q, w⟩ (placeL aheadC ⟨n, q, v⟩ l) = placeL aheadC ⟨n, q, w⟩ l := by
  have e1 : ∀ x, aheadC x ⟨n, q, v⟩ = aheadC x ⟨n, q, w⟩ := fun x => rfl
  have e2 : ∀ x, aheadC ⟨n, q, v⟩ x = aheadC ⟨n, q, w⟩ x := fun x => rfl
  unfold placeL
  rw [List.filter_append, List.filter_append, List.filter_cons, List.filter_cons, aheadC_own, aheadC_own, if_neg (by decide), if_neg (by decide)]
  simp only [List.filter_filter, e1, e2]
  have h1 : ∀ x, (aheadC x ⟨n, q, w⟩ && aheadC ⟨n, q, w⟩ x) = false := fun x => by
    cases h : aheadC x ⟨n, q, w⟩ with
    | false => rfl
    | true => cases h2 : aheadC ⟨n, q, w⟩ x with
      | false => rfl
      | true => exact (aheadC_asym _ _ h h2).elim
  have h2 : ∀ x, (aheadC ⟨n, q, w⟩ x && aheadC x ⟨n, q, w⟩) = false := fun x => by rw [Bool.and_comm]; exact h1 x
  have hf : l.filter (fun _ => false) = [] := List.filter_eq_nil_iff.2 (fun _ _ h => by cases h)
  simp only [h1, h2, Bool.and_self, hf, List.append_nil, List.nil_append]

theorem impl_CellOf_l (name key : ByteArray) : ∀ (ys pre : List S57) (k : Nat), ys.length < k → (pre ++ ys).length ≤ 9223372036854775807 →
    impl_CellOf.l0 k name key (pre ++ ys) ((pre ++ ys).length : Int) (pre.length : Int) = some (cellOfL name (cutB key) ys) := by
  intro ys
  induction ys with
  | nil =>
    intro pre k hk hl
    obtain ⟨k, rfl⟩ := succ_of hk
    simp only [impl_CellOf.l0]
    rw [if_neg (len_nil pre)]
    rfl
  | cons y ys ih =>
    intro pre k hk hl
    obtain ⟨k, rfl⟩ := succ_of hk
    simp only [impl_CellOf.l0]
    have hi := ih (pre ++ [y]) k (by simpa using hk) (by rw [← app_cons]; exact hl)
    rw [if_pos (len_cons pre ys y), if_pos (by omega), if_pos (len_cons pre ys y), show rd_T57 (pre ++ y :: ys) (pre.length : Int) = y from getD_at pre ys y _, cellOfL, len_succ pre ys y hl, iCut, Option.bind_some, app_cons pre ys y, hi]
    by_cases c : y.f0.toList = name.toList
    · rw [if_pos c, if_pos c]
      by_cases c2 : y.f1.toList = (cutB key).toList
      · rw [if_pos c2, if_pos c2]
      · rw [if_neg c2, if_neg c2]
    · rw [if_neg c, if_neg c]
theorem impl_CellOf_k {vs : List S53} {cs : List S57} {o name key : ByteArray} (h : cs.length ≤ 1048576) {k : Nat} (hk : 1048577 ≤ k) : impl_CellOf.f k vs cs o name key = some (cellOfL name (cutB key) cs) :=
  impl_CellOf_l name key cs [] k (by omega) (by simp; omega)

theorem specV_l1 (cs cc : List S57) (o co : ByteArray) (cv : List S53) (own : S53) : ∀ (ys pre acc : List S53) (k : Nat), ys.length < k → (pre ++ ys).length ≤ 100000000 → acc.length + ys.length ≤ 100000000 →
    spec_SetVar.l1 k own.f0 acc (pre.length : Int) (pre ++ ys) cs o cv cc co = some (if (acc ++ ys.filter (fun x => aheadV own x)).length ≤ 60 then (acc ++ ys.filter (fun x => aheadV own x), cc, co) else (cv, cc, co)) := by
  intro ys
  induction ys with
  | nil =>
    intro pre acc k hk hl ha
    obtain ⟨k, rfl⟩ := succ_of hk
    simp only [spec_SetVar.l1]
    rw [if_neg (len_nil pre), List.filter_nil, List.append_nil]
    by_cases c : acc.length ≤ 60
    · rw [if_pos (by omega), if_pos c]
    · rw [if_neg (by omega), if_neg c]
  | cons y ys ih =>
    intro pre acc k hk hl ha
    obtain ⟨k, rfl⟩ := succ_of hk
    rw [List.length_cons] at hk ha
    simp only [spec_SetVar.l1]
    have hl' : (pre ++ [y] ++ ys).length ≤ 100000000 := by rw [← app_cons]; exact hl
    rw [if_pos (len_cons pre ys y), if_pos (by omega), show rd_T53 (pre ++ y :: ys) (pre.length : Int) = y from getD_at pre ys y _, len_succ pre ys y (by omega), app_cons pre ys y, show Op.bytesLess own.f0.toList y.f0.toList = aheadV own y from rfl]
    cases h : aheadV own y with
    | true =>
      have := ih (pre ++ [y]) (acc ++ [y]) k (by omega) hl' (by rw [List.length_append, List.length_singleton]; omega)
      rw [if_pos rfl, if_pos (by omega), List.filter_cons_of_pos (by simpa using h)]
      simp only [List.append_assoc, List.singleton_append, List.cons_append, List.nil_append] at this ⊢
      exact this
    | false =>
      have := ih (pre ++ [y]) acc k (by omega) hl' (by omega)
      rw [if_neg (by decide), List.filter_cons_of_neg (by simp [h])]
      exact this
theorem specV_l0 (cs cc : List S57) (o co val : ByteArray) (all cv : List S53) (hall : all.length ≤ 10000000) (n : ByteArray) : ∀ (ys pre acc : List S53) (k : Nat), all = pre ++ ys → ys.length + all.length + 2 < k → acc.length + ys.length ≤ 50000000 →
    spec_SetVar.l0 k n val acc (pre.length : Int) all cs o cv cc co = some (if (acc ++ ys.filter (fun x => aheadV x ⟨n, cutB val⟩) ++ ⟨n, cutB val⟩ :: all.filter (fun x => aheadV ⟨n, cutB val⟩ x)).length ≤ 60 then (acc ++ ys.filter (fun x => aheadV x ⟨n, cutB val⟩) ++ ⟨n, cutB val⟩ :: all.filter (fun x => aheadV ⟨n, cutB val⟩ x), cc, co) else (cv, cc, co)) := by
  intro ys
  induction ys with
  | nil =>
    intro pre acc k he hk ha
    obtain ⟨k, rfl⟩ := succ_of (show all.length + 2 < k by omega)
    rw [List.append_nil] at he
    subst he
    simp only [spec_SetVar.l0]
    rw [if_neg (by omega), sCut, Option.bind_some, if_pos (by simp at ha; omega)]
    have := specV_l1 cs cc o co cv ⟨n, cutB val⟩ all [] (acc ++ [⟨n, cutB val⟩]) k (by omega) (by simpa using (by omega : all.length ≤ 100000000)) (by simp at ha ⊢; omega)
    simp only [List.nil_append, List.length_nil, List.append_assoc, List.singleton_append] at this
    rw [List.filter_nil, List.append_nil]
    exact this
  | cons y ys ih =>
    intro pre acc k he hk ha
    rw [List.length_cons] at hk ha
    obtain ⟨k, rfl⟩ := succ_of (show all.length + 2 < k by omega)
    simp only [spec_SetVar.l0]
    have hlt : (pre.length : Int) < (all.length : Int) := by rw [he]; exact len_cons pre ys y
    have hrd : rd_T53 all (pre.length : Int) = y := by rw [he]; exact getD_at pre ys y _
    have hw : wrap64 ((pre.length : Int) + 1) = ((pre ++ [y]).length : Int) := len_succ pre ys y (by rw [← he]; omega)
    rw [if_pos hlt, if_pos (by omega), hrd, hw, show Op.bytesLess y.f0.toList n.toList = aheadV y ⟨n, cutB val⟩ from rfl]
    cases h : aheadV y ⟨n, cutB val⟩ with
    | true =>
      have := ih (pre ++ [y]) (acc ++ [y]) k (by rw [← app_cons]; exact he) (by omega) (by rw [List.length_append, List.length_singleton]; omega)
      rw [if_pos rfl, if_pos (by omega), List.filter_cons_of_pos (by simpa using h)]
      simp only [List.append_assoc, List.singleton_append, List.cons_append, List.nil_append] at this ⊢
      exact this
    | false =>
      have := ih (pre ++ [y]) acc k (by rw [← app_cons]; exact he) (by omega) (by omega)
      rw [if_neg (by decide), List.filter_cons_of_neg (by simp [h])]
      exact this

theorem specSetVar_ok {vs : List S53} {cs : List S57} {o n val : ByteArray} (h1 : vs.length ≤ 1048576) (h2 : cs.length ≤ 1048576) {k : Nat} (hk : 4000000 ≤ k) : spec_SetVar.f k vs cs o n val = some (putL aheadV 60 ⟨n, cutB val⟩ vs, cs, o) := by
  unfold spec_SetVar.f
  rw [sCopy h1 h2, Option.bind_some]
  dsimp only
  rw [show spec_SetVar.l0 k n val [] 0 vs cs o vs cs o = _ from specV_l0 cs cs o o val vs vs (by omega) n vs [] [] k rfl (by omega) (by simp; omega)]
  unfold putL placeL
  rw [List.nil_append]
  split <;> rfl

def sayB (o line : ByteArray) : ByteArray := if (o ++ line ++ (⟨#[10]⟩ : ByteArray)).size ≤ 3000 then o ++ line ++ (⟨#[10]⟩ : ByteArray) else (o ++ line ++ (⟨#[10]⟩ : ByteArray)).extract 0 3000
theorem say_size (o line : ByteArray) : (o ++ line ++ (⟨#[10]⟩ : ByteArray)).size = o.size + line.size + 1 := by
  rw [ByteArray.size_append, ByteArray.size_append]; rfl
theorem sOut (s : ByteArray) : spec_l08Out.f s = some (if s.size ≤ 3000 then s else s.extract 0 3000) := by
  unfold spec_l08Out.f
  by_cases c : s.size ≤ 3000
  · rw [if_neg (by omega), if_pos c]
  · rw [if_pos (by omega), if_pos (by omega), if_pos (by omega), if_neg c]

theorem specSay_ok {vs : List S53} {cs : List S57} {o line : ByteArray} (h1 : vs.length ≤ 1048576) (h2 : cs.length ≤ 1048576) (h : o.size + line.size ≤ 9000000000000000000) : spec_Say.f vs cs o line = some (vs, cs, sayB o line) := by
  unfold spec_Say.f
  have hz := say_size o line
  rw [sCopy h1 h2, Option.bind_some, if_pos (by omega), if_pos (by rw [ByteArray.size_append]; omega), sOut, Option.bind_some]
  rfl

theorem and255_in (x : Int) : 0 ≤ Go.bits .and .i64 x 255 ∧ Go.bits .and .i64 x 255 ≤ 255 := by
  simp only [Go.bits]
  rw [IntKind.wrap_i64]
  have h : (BitVec.ofInt IntKind.i64.bits x &&& BitVec.ofInt IntKind.i64.bits 255).toNat ≤ 255 := by
    rw [BitVec.toNat_and]
    exact Nat.le_trans Nat.and_le_right (by decide)
  omega
/-- The drawn bytes are bytes, and no more than can be. -/
def IsCode (b : List Int) : Prop := b.length ≤ 9223372036854775807

theorem byte_ok {b : List Int} (hb : IsCode b) {i : Int} (hi : 0 ≤ i) (h : Int) : ∃ r i' h', spec_l01Byte.f b i h = some (r, i', h') ∧ 0 ≤ r ∧ r ≤ 255 ∧ 0 ≤ i' := by
  unfold IsCode at hb
  unfold spec_l01Byte.f
  by_cases h1 : i < (b.length : Int)
  · rw [if_pos h1, if_pos hi]
    refine ⟨_, _, _, rfl, (and255_in _).1, (and255_in _).2, ?_⟩
    rw [w64 (by omega) (by omega)]
    omega
  · rw [if_neg h1]
    exact ⟨_, _, _, rfl, (and255_in _).1, (and255_in _).2, hi⟩
theorem below_ok {b : List Int} (hb : IsCode b) {i : Int} (hi : 0 ≤ i) (h : Int) {n : Int} (h0 : 0 < n) (h1 : n ≤ 4294967296) :
    ∃ r i' h', spec_l01Below.f b i h n = some (r, i', h') ∧ 0 ≤ r ∧ r < n ∧ 0 ≤ i' := by
  unfold spec_l01Below.f
  rw [if_neg (by omega)]
  obtain ⟨r1, i1, h1', e1, a1, b1, c1⟩ := byte_ok hb hi h
  by_cases hn : n ≤ 256
  · rw [if_pos hn, e1, Option.bind_some, if_neg (by omega)]
    refine ⟨_, _, _, rfl, ?_, ?_, c1⟩
    · rw [Int.tmod_eq_emod_of_nonneg a1]; exact Int.emod_nonneg _ (by omega)
    · rw [Int.tmod_eq_emod_of_nonneg a1]; exact Int.emod_lt_of_pos _ h0
  · rw [if_neg hn, e1, Option.bind_some]
    obtain ⟨r2, i2, h2', e2, a2, b2, c2⟩ := byte_ok hb c1 h1'
    obtain ⟨r3, i3, h3', e3, a3, b3, c3⟩ := byte_ok hb c2 h2'
    obtain ⟨r4, i4, h4', e4, a4, b4, c4⟩ := byte_ok hb c3 h3'
    dsimp only
    rw [e2, Option.bind_some]
    dsimp only
    rw [e3, Option.bind_some]
    dsimp only
    rw [e4, Option.bind_some, if_neg (by omega)]
    dsimp only
    rw [w64 (show _ ≤ r1 * 16777216 by omega) (by omega), w64 (show _ ≤ r2 * 65536 by omega) (by omega), w64 (show _ ≤ r3 * 256 by omega) (by omega),
      w64 (show _ ≤ r1 * 16777216 + r2 * 65536 by omega) (by omega), w64 (show _ ≤ r1 * 16777216 + r2 * 65536 + r3 * 256 by omega) (by omega), w64 (show _ ≤ r1 * 16777216 + r2 * 65536 + r3 * 256 + r4 by omega) (by omega)]
    refine ⟨_, _, _, rfl, ?_, ?_, c4⟩
    · rw [Int.tmod_eq_emod_of_nonneg (by omega)]; exact Int.emod_nonneg _ (by omega)
    · rw [Int.tmod_eq_emod_of_nonneg (by omega)]; exact Int.emod_lt_of_pos _ h0
theorem new_l {b : List Int} (hb : IsCode b) : ∀ (d : Nat) (k : Nat) (h i : Int), 0 ≤ i → (4000 : Int) - i ≤ d → d < k → ∃ h', spec_l01New.l0 k b h i = some (b, 0, h') := by
  unfold IsCode at hb
  intro d
  induction d with
  | zero =>
    intro k h i hi hd hk
    obtain ⟨k, rfl⟩ := succ_of hk
    simp only [spec_l01New.l0]
    by_cases h1 : i < (b.length : Int)
    · rw [if_pos h1, if_neg (by omega)]; exact ⟨_, rfl⟩
    · rw [if_neg h1]; exact ⟨_, rfl⟩
  | succ d ih =>
    intro k h i hi hd hk
    obtain ⟨k, rfl⟩ := succ_of hk
    simp only [spec_l01New.l0]
    by_cases h1 : i < (b.length : Int)
    · rw [if_pos h1]
      by_cases h2 : i < 4000
      · rw [if_pos h2, if_pos hi, w64 (show _ ≤ i + 1 by omega) (by omega)]
        exact ih k _ (i + 1) (by omega) (by omega) (by omega)
      · rw [if_neg h2]; exact ⟨_, rfl⟩
    · rw [if_neg h1]; exact ⟨_, rfl⟩
theorem new_ok {b : List Int} (hb : IsCode b) : ∃ h', ∀ k, 4001 ≤ k → spec_l01New.f k b = some (b, 0, h') := by
  obtain ⟨h', e⟩ := new_l hb 4000 4001 (wrap64 (38001 + (b.length : Int))) 0 (by omega) (by omega) (by omega)
  refine ⟨h', fun k hk => ?_⟩
  have hm : ∀ k, LeO (spec_l01New.l0 k b (wrap64 (38001 + (b.length : Int))) 0) (spec_l01New.l0 (k + 1) b (wrap64 (38001 + (b.length : Int))) 0) := fun k => by
    have := spec_l01New.mono_l k
    exact this _ _ _
  exact at_rounds (g := fun k => spec_l01New.l0 k b (wrap64 (38001 + (b.length : Int))) 0) hm hk e

theorem pick_ok {b : List Int} (hb : IsCode b) {i : Int} (hi : 0 ≤ i) (h : Int) {l : List ByteArray} (h0 : 0 < l.length) (h1 : l.length ≤ 4294967296) :
    ∃ r i' h', spec_l01Pick.f b i h l = some (r, i', h') ∧ r ∈ l ∧ 0 ≤ i' := by
  unfold spec_l01Pick.f
  obtain ⟨r, i', h', e, a, b', c⟩ := below_ok hb hi h (n := (l.length : Int)) (by omega) (by omega)
  rw [e, Option.bind_some]
  dsimp only
  rw [if_pos a, if_pos b']
  refine ⟨_, _, _, rfl, ?_, c⟩
  unfold rdOf
  rw [List.getD_eq_getElem?_getD, List.getElem?_eq_getElem (by omega)]
  exact List.getElem_mem _

theorem val_ok {b : List Int} (hb : IsCode b) {i : Int} (hi : 0 ≤ i) (h : Int) : ∃ s i' h', spec_l03Val.f b i h = some (s, i', h') ∧ s.size ≤ 42 ∧ 0 ≤ i' := by
  unfold spec_l03Val.f
  generalize hl : ([_, _, _, _, _, _, _, _, _, _, _, _, _, _, _, _] : List ByteArray) = l
  have hlen : l.length = 16 := by rw [← hl]; rfl
  have hall : ∀ s ∈ l, s.size ≤ 42 := by
    rw [← hl]
    intro s hs
    simp only [List.mem_cons, List.mem_nil_iff, or_false] at hs
    rcases hs with rfl | rfl | rfl | rfl | rfl | rfl | rfl | rfl | rfl | rfl | rfl | rfl | rfl | rfl | rfl | rfl <;> decide
  obtain ⟨r, i', h', e, hr, c⟩ := pick_ok hb hi h (l := l) (by omega) (by omega)
  rw [e, Option.bind_some]
  exact ⟨_, _, _, rfl, hall r hr, c⟩

def nameS (s : ByteArray) : Prop := s = ⟨#[110]⟩ ∨ s = ⟨#[115]⟩ ∨ s = ⟨#[116]⟩ ∨ s = ⟨#[117]⟩ ∨ s = ⟨#[112, 114, 101]⟩
def nameC (s : ByteArray) : Prop := s = ⟨#[116]⟩ ∨ s = ⟨#[117]⟩
def InvS (n : Nat) (vs : List S53) (cs : List S57) (o : ByteArray) : Prop :=
  vs.length ≤ n ∧ cs.length ≤ n ∧ vs.Pairwise (fun x y => aheadV x y = true) ∧ cs.Pairwise (fun x y => aheadC x y = true) ∧
    (∀ y ∈ vs, nameS y.f0 ∧ y.f1.size ≤ 40) ∧ (∀ y ∈ cs, nameC y.f0 ∧ y.f1.size ≤ 40 ∧ y.f2.size ≤ 40 ∧ y.f1.size ≠ 4) ∧ o.size ≤ 3000
theorem sayB_3000 (o line : ByteArray) : (sayB o line).size ≤ 3000 := by
  unfold sayB
  split
  · next h => exact h
  · rw [ByteArray.size_extract]; omega
theorem name_ok {b : List Int} (hb : IsCode b) {i : Int} (hi : 0 ≤ i) (h : Int) : ∃ r i' h', spec_l08Name.f b i h = some (r, i', h') ∧ nameS r ∧ 0 ≤ i' := by
  unfold spec_l08Name.f
  obtain ⟨r, i', h', e, hm, c⟩ := pick_ok hb hi h (l := [(⟨#[110]⟩ : ByteArray), (⟨#[115]⟩ : ByteArray), (⟨#[116]⟩ : ByteArray), (⟨#[117]⟩ : ByteArray), (⟨#[112, 114, 101]⟩ : ByteArray)]) (by decide) (by decide)
  rw [e, Option.bind_some]
  exact ⟨_, _, _, rfl, by simpa [nameS] using hm, c⟩
theorem cutB_four {s : ByteArray} (h : s.size ≠ 4) : (cutB s).size ≠ 4 := by
  unfold cutB
  split
  · exact h
  · rw [ByteArray.size_extract]; omega
theorem val_ok4 {b : List Int} (hb : IsCode b) {i : Int} (hi : 0 ≤ i) (h : Int) : ∃ s i' h', spec_l03Val.f b i h = some (s, i', h') ∧ (s.size ≤ 42 ∧ s.size ≠ 4) ∧ 0 ≤ i' := by
  unfold spec_l03Val.f
  generalize hl : ([_, _, _, _, _, _, _, _, _, _, _, _, _, _, _, _] : List ByteArray) = l
  have hlen : l.length = 16 := by rw [← hl]; rfl
  have hall : ∀ s ∈ l, s.size ≤ 42 ∧ s.size ≠ 4 := by
    rw [← hl]
    intro s hs
    simp only [List.mem_cons, List.mem_nil_iff, or_false] at hs
    rcases hs with rfl | rfl | rfl | rfl | rfl | rfl | rfl | rfl | rfl | rfl | rfl | rfl | rfl | rfl | rfl | rfl <;> decide
  obtain ⟨r, i', h', e, hr, c⟩ := pick_ok hb hi h (l := l) (by omega) (by omega)
  rw [e, Option.bind_some]
  exact ⟨_, _, _, rfl, hall r hr, c⟩
theorem store_l {b : List Int} (hb : IsCode b) : ∀ (d k : Nat) (i p h : Int) (vs : List S53) (cs : List S57) (o : ByteArray), 0 ≤ i → i + d = 8 → 0 ≤ p → 4000000 + d < k → InvS (8 - d) vs cs o →
    ∃ vs' cs' o' p' h', spec_l08Store.l0 k i b p h vs cs o = some (vs', cs', o', p', h') ∧ InvS 8 vs' cs' o' := by
  intro d
  induction d with
  | zero =>
    intro k i p h vs cs o h0 h1 hp hk hI
    obtain ⟨k, rfl⟩ := succ_of hk
    simp only [spec_l08Store.l0]
    obtain ⟨r, i', h', e, a, b', c⟩ := below_ok hb hp h (n := 8) (by omega) (by omega)
    rw [e, Option.bind_some]
    dsimp only
    rw [if_neg (by omega)]
    exact ⟨_, _, _, _, _, rfl, hI⟩
  | succ d ih =>
    intro k i p h vs cs o h0 h1 hp hk hI
    obtain ⟨k, rfl⟩ := succ_of hk
    obtain ⟨hv, hc, sv, sc, hx, hy, ho⟩ := hI
    simp only [spec_l08Store.l0]
    obtain ⟨r, i1, h1', e, a, b', c⟩ := below_ok hb hp h (n := 8) (by omega) (by omega)
    rw [e, Option.bind_some]
    dsimp only
    by_cases cc : i < r
    · rw [if_pos cc]
      obtain ⟨r2, i2, h2', e2, a2, b2', c2⟩ := below_ok hb c h1' (n := 3) (by omega) (by omega)
      rw [e2, Option.bind_some]
      dsimp only
      by_cases z0 : r2 = 0
      · rw [if_pos z0]
        obtain ⟨n, i3, h3, e3, hn, c3⟩ := name_ok hb c2 h2'
        obtain ⟨v, i4, h4, e4, hv4, c4⟩ := val_ok4 hb c3 h3
        rw [e3, Option.bind_some]
        dsimp only
        rw [e4, Option.bind_some]
        dsimp only
        rw [specSetVar_ok (by omega) (by omega) (by omega), Option.bind_some]
        dsimp only
        rw [w64 (by omega) (by omega)]
        have hl := putL_one aheadV_asym 60 ⟨n, cutB v⟩ vs
        refine ih k (i + 1) i4 h4 _ _ _ (by omega) (by omega) c4 (by omega) ⟨by omega, by omega, putL_sorted aheadV_trans _ _ sv, sc, fun y hm => ?_, hy, ho⟩
        rcases putL_mem hm with rfl | hm
        · exact ⟨hn, cutB_size _⟩
        · exact hx y hm
      · rw [if_neg z0]
        by_cases z1 : r2 = 1
        · rw [if_pos z1]
          obtain ⟨n, i3, h3, e3, hn, c3⟩ := pick_ok hb c2 h2' (l := [(⟨#[116]⟩ : ByteArray), (⟨#[117]⟩ : ByteArray)]) (by decide) (by decide)
          obtain ⟨v, i4, h4, e4, hv4, c4⟩ := val_ok4 hb c3 h3
          obtain ⟨v5, i5, h5, e5, hv5, c5⟩ := val_ok4 hb c4 h4
          rw [e3, Option.bind_some]
          dsimp only
          rw [e4, Option.bind_some]
          dsimp only
          rw [e5, Option.bind_some]
          dsimp only
          rw [specSetCell_ok (by omega) (by omega) (by omega), Option.bind_some]
          dsimp only
          rw [w64 (by omega) (by omega)]
          have hl := putL_one aheadC_asym 2000 ⟨n, cutB v, cutB v5⟩ cs
          refine ih k (i + 1) i5 h5 _ _ _ (by omega) (by omega) c5 (by omega) ⟨by omega, by omega, sv, putL_sorted aheadC_trans _ _ sc, hx, fun y hm => ?_, ho⟩
          rcases putL_mem hm with rfl | hm
          · exact ⟨by simpa [nameC] using hn, cutB_size _, cutB_size _, cutB_four hv4.2⟩
          · exact hy y hm
        · rw [if_neg z1]
          obtain ⟨v, i4, h4, e4, hv4, c4⟩ := val_ok4 hb c2 h2'
          rw [e4, Option.bind_some]
          dsimp only
          rw [specSay_ok (by omega) (by omega) (by omega), Option.bind_some]
          dsimp only
          rw [w64 (by omega) (by omega)]
          exact ih k (i + 1) i4 h4 _ _ _ (by omega) (by omega) c4 (by omega) ⟨by omega, by omega, sv, sc, hx, hy, sayB_3000 _ _⟩
    · rw [if_neg cc]
      exact ⟨_, _, _, _, _, rfl, by omega, by omega, sv, sc, hx, hy, ho⟩
theorem drawStore_ok {b : List Int} (hb : IsCode b) : ∃ vs cs o, (∀ k, 4000100 ≤ k → spec_DrawStore.f k b = some (vs, cs, o)) ∧ InvS 8 vs cs o := by
  obtain ⟨h', en⟩ := new_ok hb
  obtain ⟨vs, cs, o, p', h2, e, hI⟩ := store_l hb 8 4000100 0 0 h' [] [] ⟨#[]⟩ (by omega) (by omega) (by omega) (by omega) ⟨by decide, by decide, List.Pairwise.nil, List.Pairwise.nil, (fun y hy => by cases hy), (fun y hy => by cases hy), by decide⟩
  refine ⟨vs, cs, o, fun k hk => ?_, hI⟩
  unfold spec_DrawStore.f
  rw [en k (by omega), Option.bind_some]
  dsimp only
  have : spec_l08Store.f k b 0 h' = some (vs, cs, o, p', h2) := at_rounds (g := fun k => spec_l08Store.f k b 0 h') (fun k => spec_l08Store.mono _ _ _ k) hk e
  rw [this, Option.bind_some]

theorem rd_memV {vs : List S53} {i : Int} (h0 : 0 ≤ i) (h : i < (vs.length : Int)) : rd_T53 vs i ∈ vs := by
  unfold rd_T53
  rw [List.getD_eq_getElem?_getD, List.getElem?_eq_getElem (by omega)]
  exact List.getElem_mem _
theorem rd_memC {vs : List S57} {i : Int} (h0 : 0 ≤ i) (h : i < (vs.length : Int)) : rd_T57 vs i ∈ vs := by
  unfold rd_T57
  rw [List.getD_eq_getElem?_getD, List.getElem?_eq_getElem (by omega)]
  exact List.getElem_mem _
theorem rd_nextV {vs : List S53} {i : Int} (hs : vs.Pairwise (fun x y => aheadV x y = true)) (h0 : 0 < i) (h : i < (vs.length : Int)) : aheadV (rd_T53 vs (i - 1)) (rd_T53 vs i) = true := by
  unfold rd_T53
  rw [List.getD_eq_getElem?_getD, List.getElem?_eq_getElem (by omega), List.getD_eq_getElem?_getD, List.getElem?_eq_getElem (by omega)]
  exact List.pairwise_iff_getElem.1 hs _ _ _ _ (by omega)
theorem rd_nextC {vs : List S57} {i : Int} (hs : vs.Pairwise (fun x y => aheadC x y = true)) (h0 : 0 < i) (h : i < (vs.length : Int)) : aheadC (rd_T57 vs (i - 1)) (rd_T57 vs i) = true := by
  unfold rd_T57
  rw [List.getD_eq_getElem?_getD, List.getElem?_eq_getElem (by omega), List.getD_eq_getElem?_getD, List.getElem?_eq_getElem (by omega)]
  exact List.pairwise_iff_getElem.1 hs _ _ _ _ (by omega)
def nameA (s : ByteArray) : Prop := nameS s ∨ s = ⟨#[110, 101, 119]⟩
theorem letters_ok {s : ByteArray} (h : nameA s) {k : Nat} (hk : 20 ≤ k) : impl_isLetters.f k s = some true := by
  refine at_rounds (g := fun k => impl_isLetters.f k s) (fun k => impl_isLetters.mono _ k) hk ?_
  rcases h with (rfl | rfl | rfl | rfl | rfl) | rfl <;> decide +kernel
theorem storeOk_t1 {vs : List S53} {cs : List S57} {o : ByteArray} (hs : cs.Pairwise (fun x y => aheadC x y = true)) (hv : vs.length ≤ 60) (hc : cs.length ≤ 2000) (ha : ∀ y ∈ cs, nameA y.f0 ∧ y.f1.size ≤ 40 ∧ y.f2.size ≤ 40) (ho : o.size ≤ 3000) : ∀ (d k : Nat) (i : Int), 0 ≤ i → i + d = (cs.length : Int) → 100 + d < k →
    impl_StoreOk.l1 k cs (cs.length : Int) i vs cs o = some true := by
  intro d
  induction d with
  | zero =>
    intro k i h0 h1 hk
    obtain ⟨k, rfl⟩ := succ_of hk
    simp only [impl_StoreOk.l1]
    rw [if_neg (by omega), if_pos (by omega), if_pos (by omega), decide_eq_true (by omega)]
  | succ d ih =>
    intro k i h0 h1 hk
    obtain ⟨k, rfl⟩ := succ_of hk
    have hm := ha _ (rd_memC h0 (show i < (cs.length : Int) by omega))
    have e2 := ih k (i + 1) (by omega) (by omega) (by omega)
    simp only [impl_StoreOk.l1]
    rw [if_pos (by omega), if_pos h0, if_pos (by omega), letters_ok hm.1 (by omega), Option.bind_some, if_pos rfl, if_neg (by omega), if_neg (by omega), w64 (show _ ≤ i + 1 by omega) (by omega), e2, w64 (show _ ≤ i - 1 by omega) (by omega)]
    by_cases c : i > 0
    · obtain ⟨t, e1, hl, _⟩ := iKeyC (rd_T57 cs (i - 1)) (rd_T57 cs i)
      have := hl.2 (rd_nextC hs c (by omega))
      rw [if_pos c, if_pos (show 0 ≤ i - 1 by omega), if_pos (show i - 1 < (cs.length : Int) by omega), e1, Option.bind_some, if_neg (by omega)]
    · rw [if_neg c]
theorem storeOk_t0 {vs : List S53} {cs : List S57} {o : ByteArray} (hsv : vs.Pairwise (fun x y => aheadV x y = true)) (hs : cs.Pairwise (fun x y => aheadC x y = true)) (hv : vs.length ≤ 60) (hc : cs.length ≤ 2000) (hav : ∀ y ∈ vs, nameA y.f0 ∧ y.f1.size ≤ 40) (ha : ∀ y ∈ cs, nameA y.f0 ∧ y.f1.size ≤ 40 ∧ y.f2.size ≤ 40) (ho : o.size ≤ 3000) : ∀ (d k : Nat) (i : Int), 0 ≤ i → i + d = (vs.length : Int) → 2200 + d < k →
    impl_StoreOk.l0 k vs (vs.length : Int) i vs cs o = some true := by
  intro d
  induction d with
  | zero =>
    intro k i h0 h1 hk
    obtain ⟨k, rfl⟩ := succ_of hk
    simp only [impl_StoreOk.l0]
    rw [if_neg (by omega)]
    exact storeOk_t1 hs hv hc ha ho cs.length k 0 (by omega) (by omega) (by omega)
  | succ d ih =>
    intro k i h0 h1 hk
    obtain ⟨k, rfl⟩ := succ_of hk
    have hm := hav _ (rd_memV h0 (show i < (vs.length : Int) by omega))
    have e2 := ih k (i + 1) (by omega) (by omega) (by omega)
    simp only [impl_StoreOk.l0]
    rw [if_pos (by omega), if_pos h0, if_pos (by omega), letters_ok hm.1 (by omega), Option.bind_some, if_pos rfl, if_neg (by omega), w64 (show _ ≤ i + 1 by omega) (by omega), e2, w64 (show _ ≤ i - 1 by omega) (by omega)]
    by_cases c : i > 0
    · have := rd_nextV hsv c (by omega)
      unfold aheadV at this
      rw [if_pos c, if_pos (show 0 ≤ i - 1 by omega), if_pos (show i - 1 < (vs.length : Int) by omega), if_pos this]
    · rw [if_neg c]
/-- A store as the rules want it. -/
def GoodS (vs : List S53) (cs : List S57) (o : ByteArray) : Prop :=
  vs.length ≤ 60 ∧ cs.length ≤ 2000 ∧ vs.Pairwise (fun x y => aheadV x y = true) ∧ cs.Pairwise (fun x y => aheadC x y = true) ∧
    (∀ y ∈ vs, nameA y.f0 ∧ y.f1.size ≤ 40) ∧ (∀ y ∈ cs, nameA y.f0 ∧ y.f1.size ≤ 40 ∧ y.f2.size ≤ 40) ∧ o.size ≤ 3000
theorem nameA_C {s : ByteArray} (h : nameC s) : nameA s := by
  rcases h with rfl | rfl
  · exact .inl (.inr (.inr (.inl rfl)))
  · exact .inl (.inr (.inr (.inr (.inl rfl))))
theorem good_of {vs : List S53} {cs : List S57} {o : ByteArray} {n : Nat} (hn : n ≤ 60) (h : InvS n vs cs o) : GoodS vs cs o :=
  ⟨by have := h.1; omega, by have := h.2.1; omega, h.2.2.1, h.2.2.2.1, fun y hy => ⟨.inl (h.2.2.2.2.1 y hy).1, (h.2.2.2.2.1 y hy).2⟩, fun y hy => ⟨nameA_C (h.2.2.2.2.2.1 y hy).1, (h.2.2.2.2.2.1 y hy).2.1, (h.2.2.2.2.2.1 y hy).2.2.1⟩, h.2.2.2.2.2.2⟩
theorem storeOk_good {vs : List S53} {cs : List S57} {o : ByteArray} (h : GoodS vs cs o) {k : Nat} (hk : 3000 ≤ k) : impl_StoreOk.f k vs cs o = some true := by
  obtain ⟨h1, h2, h3, h4, h5, h6, h7⟩ := h
  unfold impl_StoreOk.f
  exact storeOk_t0 h3 h4 h1 h2 h5 h6 h7 vs.length k 0 (by omega) (by omega) (by omega)
theorem good_putV {vs : List S53} {cs : List S57} {o n v : ByteArray} (h : GoodS vs cs o) (hn : nameA n) : GoodS (putL aheadV 60 ⟨n, cutB v⟩ vs) cs o := by
  obtain ⟨h1, h2, h3, h4, h5, h6, h7⟩ := h
  refine ⟨?_, h2, putL_sorted aheadV_trans _ _ h3, h4, fun y hy => ?_, h6, h7⟩
  · rcases putL_len aheadV 60 ⟨n, cutB v⟩ vs with g | g <;> omega
  · rcases putL_mem hy with rfl | hy
    · exact ⟨hn, cutB_size _⟩
    · exact h5 y hy
theorem good_putC {vs : List S53} {cs : List S57} {o n k v : ByteArray} (h : GoodS vs cs o) (hn : nameA n) : GoodS vs (putL aheadC 2000 ⟨n, cutB k, cutB v⟩ cs) o := by
  obtain ⟨h1, h2, h3, h4, h5, h6, h7⟩ := h
  refine ⟨h1, ?_, h3, putL_sorted aheadC_trans _ _ h4, h5, fun y hy => ?_, h7⟩
  · rcases putL_len aheadC 2000 ⟨n, cutB k, cutB v⟩ cs with g | g <;> omega
  · rcases putL_mem hy with rfl | hy
    · exact ⟨hn, cutB_size _, cutB_size _⟩
    · exact h6 y hy

def sameL {α : Type} (f : α → α → Bool) : List α → List α → Bool
  | x :: xs, y :: ys => f x y && sameL f xs ys
  | _, _ => true
theorem getD_at2 {α : Type} (pre1 pre2 ys : List α) (y d : α) (h : pre1.length = pre2.length) : (pre2 ++ y :: ys).getD (pre1.length : Int).toNat d = y := by
  rw [h]; exact getD_at pre2 ys y d
theorem len_cons2 {α : Type} (pre1 pre2 ys : List α) (y : α) (h : pre1.length = pre2.length) : (pre1.length : Int) < ((pre2 ++ y :: ys).length : Int) := by
  rw [h]; exact len_cons pre2 ys y
theorem bool_round {b r : Bool} {R : Option Bool} (h : R = some r) : (if (!b) = true then some false else R) = some (b && r) := by
  cases b <;> simp [h]

/-! Two stores are the same: the rule, on lists. -/
def sameV (a b : S53) : Bool := (a.f0.toList == b.f0.toList) && (a.f1.toList == b.f1.toList)
def sameC (a b : S57) : Bool := (a.f0.toList == b.f0.toList) && ((a.f1.toList == b.f1.toList) && (a.f2.toList == b.f2.toList))
theorem spec_sameC (vs1 vs2 : List S53) (o1 o2 : ByteArray) : ∀ (ys1 ys2 pre1 pre2 : List S57) (k : Nat), ys1.length = ys2.length → pre1.length = pre2.length → ys1.length < k → (pre1 ++ ys1).length ≤ 9223372036854775807 →
    spec_SameStore.l1 k (pre1.length : Int) vs1 (pre1 ++ ys1) o1 vs2 (pre2 ++ ys2) o2 = some (sameL sameC ys1 ys2) := by
  intro ys1
  induction ys1 with
  | nil =>
    intro ys2 pre1 pre2 k h1 h2 hk hl
    obtain ⟨k, rfl⟩ := succ_of hk
    simp only [spec_SameStore.l1]
    rw [if_neg (len_nil pre1)]
    rfl
  | cons y ys ih =>
    intro ys2 pre1 pre2 k h1 h2 hk hl
    obtain ⟨k, rfl⟩ := succ_of hk
    obtain ⟨y2, zs, rfl⟩ : ∃ a b, ys2 = a :: b := by cases ys2 with
      | nil => simp at h1
      | cons a b => exact ⟨a, b, rfl⟩
    simp only [spec_SameStore.l1]
    have hi := ih zs (pre1 ++ [y]) (pre2 ++ [y2]) k (by simpa using h1) (by simp [h2]) (by simpa using hk) (by rw [← app_cons]; exact hl)
    rw [if_pos (len_cons pre1 ys y), if_pos (by omega), if_pos (len_cons2 pre1 pre2 zs y2 h2), show rd_T57 (pre1 ++ y :: ys) (pre1.length : Int) = y from getD_at pre1 ys y _, show rd_T57 (pre2 ++ y2 :: zs) (pre1.length : Int) = y2 from getD_at2 pre1 pre2 zs y2 _ h2, len_succ pre1 ys y hl, app_cons pre1 ys y, app_cons pre2 zs y2]
    rw [← Bool.not_and, ← Bool.not_and]
    exact bool_round hi
theorem spec_sameV (cs1 cs2 : List S57) (o1 o2 : ByteArray) (hc : cs1.length = cs2.length) (hcl : cs1.length ≤ 1048576) : ∀ (ys1 ys2 pre1 pre2 : List S53) (k : Nat), ys1.length = ys2.length → pre1.length = pre2.length → 1048577 + ys1.length < k → (pre1 ++ ys1).length ≤ 9223372036854775807 →
    spec_SameStore.l0 k (pre1.length : Int) (pre1 ++ ys1) cs1 o1 (pre2 ++ ys2) cs2 o2 = some (sameL sameV ys1 ys2 && sameL sameC cs1 cs2) := by
  intro ys1
  induction ys1 with
  | nil =>
    intro ys2 pre1 pre2 k h1 h2 hk hl
    obtain ⟨k, rfl⟩ := succ_of hk
    simp only [spec_SameStore.l0]
    rw [if_neg (len_nil pre1)]
    have := spec_sameC (pre1 ++ []) (pre2 ++ ys2) o1 o2 cs1 cs2 [] [] k hc rfl (by omega) (by simp; omega)
    simpa [sameL] using this
  | cons y ys ih =>
    intro ys2 pre1 pre2 k h1 h2 hk hl
    obtain ⟨k, rfl⟩ := succ_of hk
    rw [List.length_cons] at hk
    obtain ⟨y2, zs, rfl⟩ : ∃ a b, ys2 = a :: b := by cases ys2 with
      | nil => simp at h1
      | cons a b => exact ⟨a, b, rfl⟩
    simp only [spec_SameStore.l0]
    have hi := ih zs (pre1 ++ [y]) (pre2 ++ [y2]) k (by simpa using h1) (by simp [h2]) (by omega) (by rw [← app_cons]; exact hl)
    rw [if_pos (len_cons pre1 ys y), if_pos (by omega), if_pos (len_cons2 pre1 pre2 zs y2 h2), show rd_T53 (pre1 ++ y :: ys) (pre1.length : Int) = y from getD_at pre1 ys y _, show rd_T53 (pre2 ++ y2 :: zs) (pre1.length : Int) = y2 from getD_at2 pre1 pre2 zs y2 _ h2, len_succ pre1 ys y hl, app_cons pre1 ys y, app_cons pre2 zs y2]
    rw [← Bool.not_and, sameL, Bool.and_assoc]
    exact bool_round hi
theorem sameL_self {α : Type} (f : α → α → Bool) (h : ∀ x, f x x = true) : ∀ l : List α, sameL f l l = true
  | [] => rfl
  | x :: l => by rw [sameL, h, sameL_self f h l]; rfl
theorem sameStore_self (vs : List S53) (cs : List S57) (o : ByteArray) (h1 : vs.length ≤ 1048576) (h2 : cs.length ≤ 1048576) {k : Nat} (hk : 3000000 ≤ k) : spec_SameStore.f k vs cs o vs cs o = some true := by
  obtain ⟨k, rfl⟩ : ∃ m, k = m + 1 := ⟨k - 1, by omega⟩
  unfold spec_SameStore.f
  rw [if_pos rfl, if_pos rfl]
  simp only [spec_SameStore.j0]
  rw [show (o.toList != o.toList) = false by simp, if_neg (by decide)]
  have e3 : spec_SameStore.l0 k 0 vs cs o vs cs o = some (sameL sameV vs vs && sameL sameC cs cs) := spec_sameV cs cs o o rfl h2 vs vs [] [] k rfl rfl (by omega) (by simp; omega)
  rw [e3, sameL_self sameV (by simp [sameV]), sameL_self sameC (by simp [sameC])]
  rfl

theorem places_l {b : List Int} (hb : IsCode b) : ∀ (d : Nat) (k : Nat) (out : List Int) (i h : Int), out.length + d = 12 → (∀ x ∈ out, 0 ≤ x ∧ x < 10000) → 0 ≤ i → d < k →
    ∃ r, spec_DrawPlaces.l0 k out (out.length : Int) b i h = some r ∧ r.length = 12 ∧ ∀ x ∈ r, 0 ≤ x ∧ x < 10000 := by
  intro d
  induction d with
  | zero =>
    intro k out i h hd ho hi hk
    obtain ⟨k, rfl⟩ := succ_of hk
    simp only [spec_DrawPlaces.l0]
    rw [if_neg (by omega)]
    exact ⟨_, rfl, by omega, ho⟩
  | succ d ih =>
    intro k out i h hd ho hi hk
    obtain ⟨k, rfl⟩ := succ_of hk
    simp only [spec_DrawPlaces.l0]
    obtain ⟨r, i', h', e, a, b', c⟩ := below_ok hb hi h (n := 10000) (by omega) (by omega)
    rw [if_pos (by omega), e, Option.bind_some, if_pos (by omega), w64 (by omega) (by omega), ← len_next out r]
    exact ih k (out ++ [r]) i' h' (by rw [List.length_append, List.length_singleton]; omega) (fun x hx => by rcases List.mem_append.1 hx with hx | hx; exact ho x hx; (have : x = r := (by simpa using hx)); omega) c (by omega)
theorem places_ok {b : List Int} (hb : IsCode b) : ∃ r, Ev (fun k => spec_DrawPlaces.f k b) r ∧ r.length = 12 ∧ ∀ x ∈ r, 0 ≤ x ∧ x < 10000 := by
  obtain ⟨h', e⟩ := new_ok hb
  obtain ⟨x, i1, h1, e1, _, _, c1⟩ := byte_ok hb (Int.le_refl 0) h'
  obtain ⟨r, e2, hl, hr⟩ := places_l hb 12 13 [] i1 h1 rfl (by simp) c1 (by omega)
  refine ⟨r, ⟨4001, fun k hk => ?_⟩, hl, hr⟩
  dsimp only
  unfold spec_DrawPlaces.f
  rw [e k hk, Option.bind_some]
  dsimp only
  rw [e1, Option.bind_some]
  dsimp only
  have hm : ∀ k, LeO (spec_DrawPlaces.l0 k [] 0 b i1 h1) (spec_DrawPlaces.l0 (k + 1) [] 0 b i1 h1) := fun k => by
    have := spec_DrawPlaces.mono_l k
    exact this _ _ _ _ _
  exact at_rounds (g := fun k => spec_DrawPlaces.l0 k [] 0 b i1 h1) hm (show 13 ≤ k by omega) e2
theorem rd_in {r : List Int} (hl : r.length = 12) (hr : ∀ x ∈ r, 0 ≤ x ∧ x < 10000) (i : Int) (h0 : 0 ≤ i) (hi : i < 12) : 0 ≤ rd r i ∧ rd r i < 10000 := by
  unfold rd
  rw [List.getD_eq_getElem?_getD, List.getElem?_eq_getElem (by omega)]
  exact hr _ (List.getElem_mem _)

def fig (c : Int) : Bool := decide (48 ≤ c) && decide (c ≤ 57)
def isNumL (xs : List Int) : Bool := xs.all fig && (decide (1 ≤ xs.length) && decide (xs.length ≤ 6))
theorem len16 (s : ByteArray) : (decide ((1 : Int) ≤ (s.size : Int)) && decide ((s.size : Int) ≤ 6)) = (decide (1 ≤ (bytesOf s).length) && decide ((bytesOf s).length ≤ 6)) := by
  rw [bx_len]
  congr 1 <;> apply decide_eq_decide.2 <;> omega

/-- Decimal figures, the highest first, of a number above 0. -/
def decL : Nat → Int → List Int → List Int
  | 0, _, acc => acc
  | f + 1, n, acc => if n = 0 then acc else decL f (n / 10) ((48 + n % 10) :: acc)
def figsOf (n : Int) : List Int := if n = 0 then [48] else decL 20 n []
theorem fig_add (d : Int) (h0 : 0 ≤ d) (h1 : d < 10) : fig (48 + d) = true := by
  unfold fig
  rw [decide_eq_true (by omega), decide_eq_true (by omega)]
  rfl
theorem decL_all : ∀ (f : Nat) (n : Int) (acc : List Int), 0 ≤ n → acc.all fig = true → (decL f n acc).all fig = true := by
  intro f
  induction f with
  | zero => intro n acc _ h; exact h
  | succ f ih =>
    intro n acc hn h
    unfold decL
    split
    · exact h
    · exact ih (n / 10) _ (by omega) (by rw [List.all_cons, fig_add _ (by omega) (by omega), h]; rfl)
theorem decL_len : ∀ (f : Nat) (n : Int) (acc : List Int) (m : Nat), 0 ≤ n → n < 10 ^ m → acc.length ≤ (decL f n acc).length ∧ (decL f n acc).length ≤ acc.length + m := by
  intro f
  induction f with
  | zero => intro n acc m _ _; simp [decL]
  | succ f ih =>
    intro n acc m hn h
    unfold decL
    split
    · simp
    · cases m with
      | zero => exfalso; simp at h; omega
      | succ m =>
        have := ih (n / 10) ((48 + n % 10) :: acc) m (by omega) (by rw [Int.pow_succ] at h; omega)
        rw [List.length_cons] at this
        omega
theorem figs_all {n : Int} (hn : 0 ≤ n) : (figsOf n).all fig = true := by
  unfold figsOf
  split
  · rfl
  · exact decL_all 20 n [] hn rfl
theorem figs_len {n : Int} (hn : 0 ≤ n) {m : Nat} (h : n < 10 ^ (m + 1)) : 1 ≤ (figsOf n).length ∧ (figsOf n).length ≤ m + 1 := by
  unfold figsOf
  split
  · simp
  · rename_i h0
    have := decL_len 20 n [] (m + 1) hn h
    refine ⟨?_, by simpa using this.2⟩
    have := decL_len 19 (n / 10) [48 + n % 10] 20
    unfold decL
    rw [if_neg h0]
    have h2 := (decL_len 19 (n / 10) [48 + n % 10] (m + 1) (by omega) (by rw [Int.pow_succ] at h ⊢; omega)).1
    simpa using h2
theorem figs_byte {n : Int} (hn : 0 ≤ n) : ∀ c ∈ figsOf n, 0 ≤ c ∧ c ≤ 255 := by
  intro c hc
  have := List.all_eq_true.1 (figs_all hn) c hc
  unfold fig at this
  simp at this
  omega
theorem isNum_figs {n : Int} (hn : 0 ≤ n) (h : n < 1000000) : isNumL (figsOf n) = true := by
  unfold isNumL
  have := figs_len hn (m := 5) h
  rw [figs_all hn, decide_eq_true this.1, decide_eq_true this.2]
  rfl

theorem sFigure {d : Int} (h0 : 0 ≤ d) (h1 : d < 10) : spec_l01Figure.f d = some (48 + d) := by
  unfold spec_l01Figure.f
  rw [if_pos h1, w64 (by omega) (by omega), show (48 + d) % 256 = 48 + d by omega]
theorem bx_cons {d : Int} (h0 : 0 ≤ d) (h1 : d ≤ 255) (t : ByteArray) : bytesOf (strOfNums [d] ++ t) = d :: bytesOf t := by
  rw [bx_app, bx_str (by intro c hc; have : c = d := (by simpa using hc); omega)]
  rfl
/-- The loop of Decimal, of a number not below 0: figures are laid ahead of what is there. -/
theorem dec_l : ∀ (f : Nat) (k : Nat) (n : Int) (s : ByteArray), 0 ≤ n → n < 10 ^ f → n ≤ 9223372036854775807 → s.size + f ≤ 1000 → f < k →
    ∃ t, spec_Decimal.l0 k n false s = some t ∧ bytesOf t = decL f n (bytesOf s) := by
  intro f
  induction f with
  | zero =>
    intro k n s h0 h1 hm hs hk
    obtain ⟨k, rfl⟩ := succ_of hk
    simp only [spec_Decimal.l0]
    rw [if_pos (by simp at h1; omega), if_neg (by decide)]
    exact ⟨_, rfl, rfl⟩
  | succ f ih =>
    intro k n s h0 h1 hm hs hk
    obtain ⟨k, rfl⟩ := succ_of hk
    simp only [spec_Decimal.l0]
    by_cases hz : n = 0
    · rw [if_pos hz, if_neg (by decide)]
      refine ⟨_, rfl, ?_⟩
      unfold decL
      rw [if_pos hz]
    · rw [if_neg hz, Int.tmod_eq_emod_of_nonneg h0, if_neg (by omega), sFigure (by omega) (by omega), Option.bind_some, Option.bind_some, Int.tdiv_eq_ediv_of_nonneg h0, w64 (by omega) (by omega)]
      have hz1 : (strOfNums [48 + n % 10]).size = 1 := by rw [strOfNums_size]; rfl
      rw [if_pos (by omega)]
      obtain ⟨t, e, ht⟩ := ih k (n / 10) (strOfNums [48 + n % 10] ++ s) (by omega) (by rw [Int.pow_succ] at h1; omega) (by omega) (by rw [ByteArray.size_append]; omega) (by omega)
      refine ⟨t, e, ?_⟩
      rw [ht, bx_cons (by omega) (by omega)]
      conv => rhs; unfold decL
      rw [if_neg hz]
theorem dec_ok {n : Int} (h0 : 0 ≤ n) (h1 : n ≤ 9223372036854775807) : ∃ t, (∀ k, 30 ≤ k → spec_Decimal.f k n = some t) ∧ bytesOf t = figsOf n := by
  unfold spec_Decimal.f figsOf
  by_cases hz : n = 0
  · rw [if_pos hz]
    exact ⟨_, fun k _ => by rw [if_pos hz], rfl⟩
  · rw [if_neg hz, decide_eq_false (show ¬ n < 0 by omega)]
    obtain ⟨t, e, ht⟩ := dec_l 20 30 n ⟨#[]⟩ h0 (by omega) h1 (by decide) (by omega)
    refine ⟨t, fun k hk => ?_, ht⟩
    rw [if_neg hz]
    have hm : ∀ k, LeO (spec_Decimal.l0 k n false ⟨#[]⟩) (spec_Decimal.l0 (k + 1) n false ⟨#[]⟩) := fun k => by
      have := spec_Decimal.mono_l k
      exact this _ _ _
    exact at_rounds (g := fun k => spec_Decimal.l0 k n false ⟨#[]⟩) hm hk e

theorem cells_l {ws g gg : List S57} {vs : List S53} {o q : ByteArray} (h1 : ws.length ≤ 1048576) (h2 : g.length ≤ 1048576) (ho : ∀ y ∈ ws, ¬ (y.f0.toList = [116] ∧ y.f1.toList = q.toList) → cellOfL y.f0 (cutB y.f1) g = y.f2) {R : Option Bool}
    (he : ∀ k, 5000000 ≤ k → laws_FnCells.l0 (k + 1) q (ws.length : Int) vs ws o vs gg o vs g o = R) : ∀ (d k : Nat) (i : Int), 0 ≤ i → i + d = (ws.length : Int) → 5000000 + d < k → laws_FnCells.l0 k q i vs ws o vs gg o vs g o = R := by
  intro d
  induction d with
  | zero =>
    intro k i h0 h1 hk
    obtain ⟨k, rfl⟩ := succ_of hk
    rw [show i = (ws.length : Int) by omega]
    exact he k (by omega)
  | succ d ih =>
    intro k i h0 h3 hk
    obtain ⟨k, rfl⟩ := succ_of hk
    have e2 := ih k (i + 1) (by omega) (by omega) (by omega)
    simp only [laws_FnCells.l0]
    rw [if_pos (by omega), if_pos h0, w64 (show _ ≤ i + 1 by omega) (by omega), e2, impl_CellOf_k h2 (by omega), Option.bind_some]
    have hy := ho _ (rd_memC h0 (show i < (ws.length : Int) by omega))
    by_cases c : (rd_T57 ws i).f0.toList = [116]
    · rw [if_pos c]
      by_cases c2 : (rd_T57 ws i).f1.toList = q.toList
      · rw [if_pos c2]
      · rw [if_neg c2, hy (fun h => c2 h.2), if_pos rfl]
    · rw [if_neg c, hy (fun h => c h.1), if_pos rfl]
theorem FnCells : laws_FnCells.Pure := by
  intro b hb0 hb1 hb2
  have hb : IsCode b := by unfold IsCode; omega
  obtain ⟨vs, cs, o, es, hI⟩ := drawStore_ok hb
  obtain ⟨p, ⟨K, ep⟩, hpl, hp⟩ := places_ok hb
  have ep := ep (K + 9000000) (by omega)
  dsimp only at ep
  refine ⟨K + 9000000, ?_⟩
  unfold laws_FnCells.f laws_big.f
  rw [Option.bind_some]
  by_cases hbig : decide ((b.length : Int) > 1048576) = true
  · rw [if_pos hbig]
  rw [if_neg hbig, es _ (by omega), Option.bind_some, ep, Option.bind_some]
  have h0 := rd_in hpl hp 0 (by omega) (by omega)
  have hm : 0 ≤ Int.tmod (rd p 0) 5 ∧ Int.tmod (rd p 0) 5 < 5 := by rw [Int.tmod_eq_emod_of_nonneg h0.1]; omega
  obtain ⟨t, et, ht⟩ := dec_ok hm.1 (by omega)
  have lt := figs_len hm.1 (m := 0) (by omega)
  have zt : t.size ≤ 1 := by rw [← bx_len, ht]; exact lt.2
  have hG := good_of (by omega) hI
  obtain ⟨g1, g2, g3, g4, g5, g6, g7⟩ := hG
  have hn : nameA ⟨#[116]⟩ := .inl (.inr (.inr (.inl rfl)))
  dsimp only
  rw [if_pos (by omega), et _ (by omega), Option.bind_some, if_pos (by omega)]
  have hqz : ((⟨#[107, 101, 121]⟩ : ByteArray) ++ t).size ≤ 4 := by
    rw [ByteArray.size_append, show (⟨#[107, 101, 121]⟩ : ByteArray).size = 3 from rfl]; omega
  generalize (⟨#[107, 101, 121]⟩ : ByteArray) ++ t = q at hqz ⊢
  have hq : cutB q = q := cutB_self (by omega)
  have hv : cutB ⟨#[118]⟩ = ⟨#[118]⟩ := rfl
  have hw : cutB ⟨#[119]⟩ = ⟨#[119]⟩ := rfl
  have hl8 := hI.2.1
  have hga : GoodS vs (placeL aheadC ⟨⟨#[116]⟩, q, ⟨#[118]⟩⟩ cs) o := by
    have := good_putC (k := q) (v := ⟨#[118]⟩) (good_of (by omega) hI) hn
    rw [hq, hv, putL_place aheadC_asym _ (by omega)] at this
    exact this
  have hpa := placeL_one aheadC_asym ⟨⟨#[116]⟩, q, ⟨#[118]⟩⟩ cs
  have hpb := placeL_one aheadC_asym ⟨⟨#[116]⟩, q, ⟨#[119]⟩⟩ cs
  have hlen : (placeL aheadC ⟨⟨#[116]⟩, q, ⟨#[119]⟩⟩ cs).length = (placeL aheadC ⟨⟨#[116]⟩, q, ⟨#[118]⟩⟩ cs).length := by
    unfold placeL
    rw [List.length_append, List.length_append, List.length_cons, List.length_cons]
    rfl
  rw [implSetCell_ok (by omega) (by omega) (by omega), Option.bind_some, hq, hv, putL_place aheadC_asym _ (by omega)]
  dsimp only
  rw [implSetCell_ok (by omega) (by omega) (by omega), Option.bind_some, hq, hw, putL_place aheadC_asym _ (by omega), placeC_again]
  dsimp only
  refine cells_l (by omega) (by omega) (fun y hy hne => ?_) ?_ cs.length _ 0 (by omega) (by omega) (by omega)
  · rw [cutB_self (g6 y hy).2.1]
    exact cellOf_other g4 ⟨⟨#[116]⟩, q, ⟨#[119]⟩⟩ y hy (fun h => hne ⟨by rw [h.1, ByteArray.toList_eq], h.2⟩)
  intro k hk
  simp only [laws_FnCells.l0]
  rw [if_neg (by omega)]
  have ho1 : cellOfL ⟨#[116]⟩ q (placeL aheadC ⟨⟨#[116]⟩, q, ⟨#[118]⟩⟩ cs) = ⟨#[118]⟩ := cellOf_own g4 ⟨⟨#[116]⟩, q, ⟨#[118]⟩⟩
  have ho2 : cellOfL ⟨#[116]⟩ q (placeL aheadC ⟨⟨#[116]⟩, q, ⟨#[119]⟩⟩ cs) = ⟨#[119]⟩ := cellOf_own g4 ⟨⟨#[116]⟩, q, ⟨#[119]⟩⟩
  have ho3 : cellOfL ⟨#[116]⟩ ⟨#[110, 111, 110, 101]⟩ cs = ⟨#[]⟩ := cellOfL_none (fun y hy e => (hI.2.2.2.2.2.1 y hy).2.2.2 (by rw [tl_inj e]; rfl))
  rw [storeOk_good hga (by omega), Option.bind_some, if_pos rfl, impl_CellOf_k (by omega) (by omega), Option.bind_some, hq, ho1, if_pos (by rw [ByteArray.toList_eq]),
    impl_CellOf_k (by omega) (by omega), Option.bind_some, hq, ho2, if_pos (by rw [ByteArray.toList_eq]), if_pos (by omega),
    impl_CellOf_k (by omega) (by omega), Option.bind_some, show cutB ⟨#[110, 111, 110, 101]⟩ = ⟨#[110, 111, 110, 101]⟩ from rfl, ho3, if_pos (by rw [ByteArray.toList_eq]), if_pos True.intro,
    specSetCell_ok (by omega) (by omega) (by omega), Option.bind_some, hq, hw, putL_place aheadC_asym _ (by omega)]
  dsimp only
  rw [sameStore_self _ _ _ (by omega) (by omega) (by omega), Option.bind_some]

end Go.Proofs.Ytodpkfidkilpdaa.Pure
