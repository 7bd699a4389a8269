/- The pure statement of FnSays: over numbers and lists, what the printed functions come to is what the law wants, for every input. -/
import Derived.Test.YtekngkljphlliaaQFnSaysx13
set_option linter.unusedVariables false
set_option linter.unusedSimpArgs false
namespace Go.Proofs.Ytekngkljphlliaa.Pure
open Go.RowKit Go.Proofs.Ytekngkljphlliaa.QFnSays Go.Proofs.YtekngkljphlliaaW.PrintWords Go.Proofs.YtekngkljphlliaaW.PrintLast
/-! Words on strings as lists of numbers. -/
theorem w64 {x : Int} (h0 : -9223372036854775808 ≤ x) (h1 : x ≤ 9223372036854775807) : wrap64 x = x := by
  unfold wrap64
  omega
theorem bx_len (s : ByteArray) : (bytesOf s).length = s.size := bytesOf_length s
theorem bx_byte (s : ByteArray) : ∀ c ∈ bytesOf s, 0 ≤ c ∧ c ≤ 255 := by
  intro c hc
  unfold bytesOf at hc
  obtain ⟨b, _, rfl⟩ := List.mem_map.1 hc
  have := b.toNat_lt
  omega
theorem bx_at {s : ByteArray} {pre ys : List Int} {c : Int} (h : bytesOf s = pre ++ c :: ys) : bt s (pre.length : Int) = c := by
  rw [← rd_bytesOf, h, rd, Int.toNat_natCast, List.getD_eq_getElem?_getD, List.getElem?_append_right (Nat.le_refl _)]
  simp
theorem bx_lt {s : ByteArray} {pre ys : List Int} {c : Int} (h : bytesOf s = pre ++ c :: ys) : (pre.length : Int) < (s.size : Int) := by
  have := congrArg List.length h
  rw [bx_len, List.length_append, List.length_cons] at this
  omega
theorem bx_end {s : ByteArray} {pre : List Int} (h : bytesOf s = pre ++ []) : (s.size : Int) = (pre.length : Int) := by
  have := congrArg List.length h
  rw [bx_len, List.append_nil] at this
  omega
theorem bx_next {s : ByteArray} {pre ys : List Int} {c : Int} (h : bytesOf s = pre ++ c :: ys) : bytesOf s = (pre ++ [c]) ++ ys := by
  rw [h, List.append_assoc]; rfl
theorem len_next (pre : List Int) (c : Int) : ((pre ++ [c]).length : Int) = (pre.length : Int) + 1 := by
  rw [List.length_append, List.length_singleton]; omega
theorem bx_inj {s t : ByteArray} (h : bytesOf s = bytesOf t) : s = t := by
  unfold bytesOf at h
  have h2 : s.data.toList = t.data.toList := by
    refine (List.map_inj_right (f := fun b : UInt8 => (b.toNat : Int)) ?_).1 h
    intro x y hxy
    exact UInt8.toNat_inj.1 (Int.ofNat_inj.1 hxy)
  exact ByteArray.ext (Array.toList_inj.1 h2)
theorem tl_inj {s t : ByteArray} (h : s.toList = t.toList) : s = t := by
  rw [ByteArray.toList_eq, ByteArray.toList_eq] at h
  exact ByteArray.ext (Array.toList_inj.1 h)
theorem tl_iff {s t : ByteArray} : s.toList = t.toList ↔ bytesOf s = bytesOf t := ⟨fun h => by rw [tl_inj h], fun h => by rw [bx_inj h]⟩
theorem bx_app (s t : ByteArray) : bytesOf (s ++ t) = bytesOf s ++ bytesOf t := by
  simp [bytesOf]
theorem bx_cut (s : ByteArray) (a b : Nat) : bytesOf (s.extract a b) = ((bytesOf s).take b).drop a := by
  simp [bytesOf, ByteArray.data_extract, List.map_drop, List.map_take, List.take_drop]
  rw [List.drop_take, List.drop_take]
  congr 1
  omega
theorem bx_str {xs : List Int} (h : ∀ c ∈ xs, 0 ≤ c ∧ c ≤ 255) : bytesOf (strOfNums xs) = xs := by
  unfold bytesOf
  rw [strOfNums_data, List.map_map]
  induction xs with
  | nil => rfl
  | cons c xs ih =>
    rw [List.map_cons, ih (fun d hd => h d (List.mem_cons_of_mem _ hd))]
    have hc := h c (List.mem_cons_self ..)
    congr 1
    have e : (UInt8.ofNat c.toNat).toNat = c.toNat := by
      rw [UInt8.toNat_ofNat']
      omega
    show ((UInt8.ofNat c.toNat).toNat : Int) = c
    rw [e]
    omega
theorem bx_wrap {s : ByteArray} {pre ys : List Int} {c : Int} (h : bytesOf s = pre ++ c :: ys) (hs : s.size ≤ 140737488351232) : wrap64 ((pre.length : Int) + 1) = ((pre ++ [c]).length : Int) := by
  rw [len_next]
  have := bx_lt h
  exact w64 (by omega) (by omega)
theorem bx_in {s : ByteArray} {pre ys : List Int} {c : Int} (h : bytesOf s = pre ++ c :: ys) : 0 ≤ c ∧ c ≤ 255 :=
  bx_byte s c (by rw [h]; exact List.mem_append_right _ (List.mem_cons_self ..))
theorem succ_of {n k : Nat} (h : n < k) : ∃ m, k = m + 1 := ⟨k - 1, by omega⟩
theorem ev2 {α β : Type} {g : Nat → Option α} {f : Nat → Option β} {a : α} {b : β} (h : Ev g a) (h' : Ev f b) : ∃ k, g k = some a ∧ f k = some b := by
  obtain ⟨K, h⟩ := h
  obtain ⟨K', h'⟩ := h'
  exact ⟨K + K', h _ (by omega), h' _ (by omega)⟩

theorem getD_at {α : Type} (pre ys : List α) (y d : α) : (pre ++ y :: ys).getD (pre.length : Int).toNat d = y := by
  rw [Int.toNat_natCast, List.getD_eq_getElem?_getD, List.getElem?_append_right (Nat.le_refl _)]
  simp
theorem len_cons {α : Type} (pre ys : List α) (y : α) : (pre.length : Int) < ((pre ++ y :: ys).length : Int) := by
  rw [List.length_append, List.length_cons]; omega
theorem len_nil {α : Type} (pre : List α) : ¬ (pre.length : Int) < ((pre ++ []).length : Int) := by
  rw [List.append_nil]; omega
theorem len_succ {α : Type} (pre ys : List α) (y : α) (h : (pre ++ y :: ys).length ≤ 9223372036854775807) : wrap64 ((pre.length : Int) + 1) = ((pre ++ [y]).length : Int) := by
  rw [List.length_append, List.length_cons] at h
  rw [List.length_append, List.length_singleton, w64 (by omega) (by omega)]
  omega
theorem app_cons {α : Type} (pre ys : List α) (y : α) : pre ++ y :: ys = (pre ++ [y]) ++ ys := by rw [List.append_assoc]; rfl
theorem set_at {α : Type} (pre ys : List α) (y z : α) : (pre ++ y :: ys).set (pre.length : Int).toNat z = pre ++ z :: ys := by
  rw [Int.toNat_natCast, List.set_append_right _ _ (Nat.le_refl _), Nat.sub_self]
  rfl

def cutB (s : ByteArray) : ByteArray := if s.size ≤ 40 then s else s.extract 0 40
theorem extract_all (s : ByteArray) {n : Nat} (h : s.size ≤ n) : s.extract 0 n = s := by
  apply bx_inj
  rw [bx_cut, List.drop_zero, List.take_of_length_le (by rw [bx_len]; exact h)]

/-! One cell, or one var, put in its place. -/
def aheadV (x y : S59) : Bool := Op.bytesLess x.f0.toList y.f0.toList
def aheadC (x y : S39) : Bool := if Op.bytesLess x.f0.toList y.f0.toList = true then true else if x.f0.toList = y.f0.toList then Op.bytesLess x.f1.toList y.f1.toList else false
def placeL {α : Type} (ahead : α → α → Bool) (own : α) (l : List α) : List α := l.filter (fun x => ahead x own) ++ own :: l.filter (fun x => ahead own x)
def putL {α : Type} (ahead : α → α → Bool) (most : Nat) (own : α) (l : List α) : List α := if (placeL ahead own l).length ≤ most then placeL ahead own l else l
theorem placeL_len {α : Type} (ahead : α → α → Bool) (own : α) (l : List α) : (placeL ahead own l).length ≤ 2 * l.length + 1 := by
  unfold placeL
  rw [List.length_append, List.length_cons]
  have h1 := List.length_filter_le (fun x => ahead x own) l
  have h2 := List.length_filter_le (fun x => ahead own x) l
  omega
theorem putL_len {α : Type} (ahead : α → α → Bool) (most : Nat) (own : α) (l : List α) : (putL ahead most own l).length ≤ most ∨ (putL ahead most own l).length ≤ l.length := by
  unfold putL
  split
  · next h => exact .inl h
  · exact .inr (Nat.le_refl _)

/-! The order of names and keys, and what a put keeps of it. -/
theorem less_self : ∀ (a : List UInt8), Op.bytesLess a a = false
  | [] => rfl
  | a :: x => by simp [Op.bytesLess, less_self x]
theorem less_trans : ∀ (a b c : List UInt8), Op.bytesLess a b = true → Op.bytesLess b c = true → Op.bytesLess a c = true
  | _, [], c, h, _ => by cases ‹List UInt8› <;> simp [Op.bytesLess] at h
  | _, _ :: _, [], _, h => by simp [Op.bytesLess] at h
  | [], _ :: _, _ :: _, _, _ => rfl
  | a :: x, b :: y, c :: z, h1, h2 => by
    have ih := less_trans x y z
    simp only [Op.bytesLess, Bool.or_eq_true, decide_eq_true_eq, Bool.and_eq_true, beq_iff_eq] at h1 h2 ⊢
    rcases h1 with h1 | ⟨rfl, h1⟩
    · rcases h2 with h2 | ⟨rfl, h2⟩
      · exact .inl (UInt8.lt_trans h1 h2)
      · exact .inl h1
    · rcases h2 with h2 | ⟨rfl, h2⟩
      · exact .inl h2
      · exact .inr ⟨rfl, ih h1 h2⟩
theorem less_tri : ∀ (a b : List UInt8), a = b ∨ Op.bytesLess a b = true ∨ Op.bytesLess b a = true
  | [], [] => .inl rfl
  | [], _ :: _ => .inr (.inl rfl)
  | _ :: _, [] => .inr (.inr rfl)
  | a :: x, b :: y => by
    have ih := less_tri x y
    simp only [Op.bytesLess, Bool.or_eq_true, decide_eq_true_eq, Bool.and_eq_true, beq_iff_eq]
    by_cases h : a < b
    · exact .inr (.inl (.inl h))
    · by_cases h2 : b < a
      · exact .inr (.inr (.inl h2))
      · have e : a = b := UInt8.le_antisymm (UInt8.not_lt.1 h2) (UInt8.not_lt.1 h)
        subst e
        rcases ih with rfl | ih | ih
        · exact .inl rfl
        · exact .inr (.inl (.inr ⟨rfl, ih⟩))
        · exact .inr (.inr (.inr ⟨rfl, ih⟩))
theorem aheadV_trans (x y z : S59) (h1 : aheadV x y = true) (h2 : aheadV y z = true) : aheadV x z = true := less_trans _ _ _ h1 h2
theorem aheadV_self (x y : S59) (h : aheadV x y = true) : x.f0.toList ≠ y.f0.toList := by
  intro e
  unfold aheadV at h
  rw [e, less_self] at h
  cases h
theorem aheadC_trans (x y z : S39) (h1 : aheadC x y = true) (h2 : aheadC y z = true) : aheadC x z = true := by
  unfold aheadC at h1 h2 ⊢
  by_cases a : Op.bytesLess x.f0.toList y.f0.toList = true
  · by_cases b : Op.bytesLess y.f0.toList z.f0.toList = true
    · rw [if_pos (less_trans _ _ _ a b)]
    · rw [if_neg b] at h2
      by_cases c : y.f0.toList = z.f0.toList
      · rw [← c, if_pos a]
      · rw [if_neg c] at h2; cases h2
  · rw [if_neg a] at h1
    by_cases d : x.f0.toList = y.f0.toList
    · rw [if_pos d] at h1
      rw [d]
      by_cases b : Op.bytesLess y.f0.toList z.f0.toList = true
      · rw [if_pos b]
      · rw [if_neg b] at h2 ⊢
        by_cases c : y.f0.toList = z.f0.toList
        · rw [if_pos c] at h2 ⊢
          exact less_trans _ _ _ h1 h2
        · rw [if_neg c] at h2; cases h2
    · rw [if_neg d] at h1; cases h1
theorem aheadC_self (x y : S39) (h : aheadC x y = true) (e0 : x.f0.toList = y.f0.toList) : x.f1.toList ≠ y.f1.toList := by
  intro e
  unfold aheadC at h
  rw [e0, less_self, if_neg (by decide), if_pos rfl, e, less_self] at h
  cases h
theorem aheadC_tri (x y : S39) (h : ¬ (x.f0.toList = y.f0.toList ∧ x.f1.toList = y.f1.toList)) : aheadC x y = true ∨ aheadC y x = true := by
  unfold aheadC
  rcases less_tri x.f0.toList y.f0.toList with e | e | e
  · rw [e, less_self, if_neg (by decide), if_pos rfl, if_neg (by decide), if_pos rfl]
    rcases less_tri x.f1.toList y.f1.toList with e2 | e2 | e2
    · exact (h ⟨e, e2⟩).elim
    · exact .inl e2
    · exact .inr e2
  · rw [e]; exact .inl (if_pos rfl)
  · rw [e]; exact .inr (if_pos rfl)
theorem placeL_sorted {α : Type} {ahead : α → α → Bool} (ht : ∀ x y z, ahead x y = true → ahead y z = true → ahead x z = true) (own : α) {l : List α} (h : l.Pairwise (fun x y => ahead x y = true)) : (placeL ahead own l).Pairwise (fun x y => ahead x y = true) := by
  unfold placeL
  rw [List.pairwise_append]
  refine ⟨h.sublist List.filter_sublist, ?_, ?_⟩
  · rw [List.pairwise_cons]
    exact ⟨fun y hy => (List.mem_filter.1 hy).2, h.sublist List.filter_sublist⟩
  · intro x hx y hy
    have h1 := (List.mem_filter.1 hx).2
    rcases List.mem_cons.1 hy with rfl | hy
    · exact h1
    · exact ht _ _ _ h1 (List.mem_filter.1 hy).2
theorem putL_sorted {α : Type} {ahead : α → α → Bool} (ht : ∀ x y z, ahead x y = true → ahead y z = true → ahead x z = true) (most : Nat) (own : α) {l : List α} (h : l.Pairwise (fun x y => ahead x y = true)) : (putL ahead most own l).Pairwise (fun x y => ahead x y = true) := by
  unfold putL
  split
  · exact placeL_sorted ht own h
  · exact h
theorem putL_mem {α : Type} {ahead : α → α → Bool} {most : Nat} {own y : α} {l : List α} (h : y ∈ putL ahead most own l) : y = own ∨ y ∈ l := by
  unfold putL placeL at h
  split at h
  · rcases List.mem_append.1 h with h | h
    · exact .inr (List.mem_filter.1 h).1
    · rcases List.mem_cons.1 h with h | h
      · exact .inl h
      · exact .inr (List.mem_filter.1 h).1
  · exact .inr h
theorem filter_two {α : Type} (p q : α → Bool) (h : ∀ x, p x = true → q x = true → False) : ∀ l : List α, (l.filter p).length + (l.filter q).length ≤ l.length
  | [] => Nat.le_refl _
  | x :: l => by
    have ih := filter_two p q h l
    rw [List.filter_cons, List.filter_cons, List.length_cons]
    cases hp : p x with
    | true =>
      cases hq : q x with
      | true => exact (h x hp hq).elim
      | false => simp; omega
    | false => cases q x <;> simp <;> omega
theorem placeL_one {α : Type} {ahead : α → α → Bool} (h : ∀ x y, ahead x y = true → ahead y x = true → False) (own : α) (l : List α) : (placeL ahead own l).length ≤ l.length + 1 := by
  unfold placeL
  rw [List.length_append, List.length_cons]
  have := filter_two (fun x => ahead x own) (fun x => ahead own x) (fun x => h x own) l
  omega
theorem putL_one {α : Type} {ahead : α → α → Bool} (h : ∀ x y, ahead x y = true → ahead y x = true → False) (most : Nat) (own : α) (l : List α) : (putL ahead most own l).length ≤ l.length + 1 := by
  unfold putL
  split
  · exact placeL_one h own l
  · omega
theorem putL_place {α : Type} {ahead : α → α → Bool} (h : ∀ x y, ahead x y = true → ahead y x = true → False) {most : Nat} (own : α) {l : List α} (hl : l.length < most) : putL ahead most own l = placeL ahead own l := by
  unfold putL
  have := placeL_one h own l
  rw [if_pos (by omega)]
theorem aheadV_asym (x y : S59) (h1 : aheadV x y = true) (h2 : aheadV y x = true) : False := aheadV_self x x (aheadV_trans x y x h1 h2) rfl
theorem aheadC_asym (x y : S39) (h1 : aheadC x y = true) (h2 : aheadC y x = true) : False := aheadC_self x x (aheadC_trans x y x h1 h2) rfl rfl
theorem cutB_size (s : ByteArray) : (cutB s).size ≤ 40 := by
  unfold cutB
  split
  · next h => exact h
  · rw [ByteArray.size_extract]; omega
theorem cutB_self {s : ByteArray} (h : s.size ≤ 40) : cutB s = s := by
  unfold cutB; rw [if_pos h]

theorem sAheadC (x y : S39) : spec_l08Ahead.f x.f0 x.f1 x.f2 y.f0 y.f1 y.f2 = some (aheadC x y) := by
  unfold spec_l08Ahead.f aheadC
  split
  · rfl
  · split
    · rfl
    · rfl
theorem specC_l1 (vs cv : List S59) (o co : ByteArray) (cc : List S39) (own : S39) : ∀ (ys pre acc : List S39) (k : Nat), ys.length < k → (pre ++ ys).length ≤ 100000000 → acc.length + ys.length ≤ 100000000 →
    spec_SetCell.l1 k acc (pre.length : Int) vs (pre ++ ys) o cv cc co own.f0 own.f1 own.f2 = some (if (acc ++ ys.filter (fun x => aheadC own x)).length ≤ 2000 then (cv, acc ++ ys.filter (fun x => aheadC own x), co) else (cv, cc, co)) := by
  intro ys
  induction ys with
  | nil =>
    intro pre acc k hk hl ha
    obtain ⟨k, rfl⟩ := succ_of hk
    simp only [spec_SetCell.l1]
    rw [if_neg (len_nil pre), List.filter_nil, List.append_nil]
    by_cases c : acc.length ≤ 2000
    · rw [if_pos (by omega), if_pos c]
    · rw [if_neg (by omega), if_neg c]
  | cons y ys ih =>
    intro pre acc k hk hl ha
    obtain ⟨k, rfl⟩ := succ_of hk
    rw [List.length_cons] at hk ha
    simp only [spec_SetCell.l1]
    have hl' : (pre ++ [y] ++ ys).length ≤ 100000000 := by rw [← app_cons]; exact hl
    rw [if_pos (len_cons pre ys y), if_pos (by omega), show rd_T39 (pre ++ y :: ys) (pre.length : Int) = y from getD_at pre ys y _, sAheadC own y, Option.bind_some, len_succ pre ys y (by omega), app_cons pre ys y]
    cases h : aheadC own y with
    | true =>
      have := ih (pre ++ [y]) (acc ++ [y]) k (by omega) hl' (by rw [List.length_append, List.length_singleton]; omega)
      rw [if_pos rfl, if_pos (by omega), List.filter_cons_of_pos (by simpa using h)]
      simp only [List.append_assoc, List.singleton_append, List.cons_append, List.nil_append] at this ⊢
      exact this
    | false =>
      have := ih (pre ++ [y]) acc k (by omega) hl' (by omega)
      rw [if_neg (by decide), List.filter_cons_of_neg (by simp [h])]
      exact this
theorem specC_l0 (vs cv : List S59) (o co : ByteArray) (all cc : List S39) (hall : all.length ≤ 10000000) (own : S39) : ∀ (ys pre acc : List S39) (k : Nat), all = pre ++ ys → ys.length + all.length + 2 < k → acc.length + ys.length ≤ 50000000 →
    spec_SetCell.l0 k acc (pre.length : Int) vs all o cv cc co own.f0 own.f1 own.f2 = some (if (acc ++ ys.filter (fun x => aheadC x own) ++ own :: all.filter (fun x => aheadC own x)).length ≤ 2000 then (cv, acc ++ ys.filter (fun x => aheadC x own) ++ own :: all.filter (fun x => aheadC own x), co) else (cv, cc, co)) := by
  intro ys
  induction ys with
  | nil =>
    intro pre acc k he hk ha
    obtain ⟨k, rfl⟩ := succ_of (show all.length + 2 < k by omega)
    rw [List.append_nil] at he
    subst he
    simp only [spec_SetCell.l0]
    rw [if_neg (by omega), if_pos (by simp at ha; omega)]
    have := specC_l1 vs cv o co cc own all [] (acc ++ [own]) k (by omega) (by simpa using (by omega : all.length ≤ 100000000)) (by simp at ha ⊢; omega)
    simp only [List.nil_append, List.length_nil, List.append_assoc, List.singleton_append] at this
    rw [List.filter_nil, List.append_nil]
    exact this
  | cons y ys ih =>
    intro pre acc k he hk ha
    rw [List.length_cons] at hk ha
    obtain ⟨k, rfl⟩ := succ_of (show all.length + 2 < k by omega)
    simp only [spec_SetCell.l0]
    have hlt : (pre.length : Int) < (all.length : Int) := by rw [he]; exact len_cons pre ys y
    have hrd : rd_T39 all (pre.length : Int) = y := by rw [he]; exact getD_at pre ys y _
    have hw : wrap64 ((pre.length : Int) + 1) = ((pre ++ [y]).length : Int) := len_succ pre ys y (by rw [← he]; omega)
    rw [if_pos hlt, if_pos (by omega), hrd, sAheadC y own, Option.bind_some, hw]
    cases h : aheadC y own with
    | true =>
      have := ih (pre ++ [y]) (acc ++ [y]) k (by rw [← app_cons]; exact he) (by omega) (by rw [List.length_append, List.length_singleton]; omega)
      rw [if_pos rfl, if_pos (by omega), List.filter_cons_of_pos (by simpa using h)]
      simp only [List.append_assoc, List.singleton_append, List.cons_append, List.nil_append] at this ⊢
      exact this
    | false =>
      have := ih (pre ++ [y]) acc k (by rw [← app_cons]; exact he) (by omega) (by omega)
      rw [if_neg (by decide), List.filter_cons_of_neg (by simp [h])]
      exact this

theorem sCut (s : ByteArray) : spec_Cut.f s = some (cutB s) := by
  unfold spec_Cut.f cutB
  by_cases h : (s.size : Int) > 40
  · rw [if_pos h, if_pos (by omega), if_pos (by omega), if_neg (by omega)]
  · rw [if_neg h, if_pos (by omega)]

theorem specV_l1 (cs cc : List S39) (o co : ByteArray) (cv : List S59) (own : S59) : ∀ (ys pre acc : List S59) (k : Nat), ys.length < k → (pre ++ ys).length ≤ 100000000 → acc.length + ys.length ≤ 100000000 →
    spec_SetVar.l1 k own.f0 acc (pre.length : Int) (pre ++ ys) cs o cv cc co = some (if (acc ++ ys.filter (fun x => aheadV own x)).length ≤ 60 then (acc ++ ys.filter (fun x => aheadV own x), cc, co) else (cv, cc, co)) := by
  intro ys
  induction ys with
  | nil =>
    intro pre acc k hk hl ha
    obtain ⟨k, rfl⟩ := succ_of hk
    simp only [spec_SetVar.l1]
    rw [if_neg (len_nil pre), List.filter_nil, List.append_nil]
    by_cases c : acc.length ≤ 60
    · rw [if_pos (by omega), if_pos c]
    · rw [if_neg (by omega), if_neg c]
  | cons y ys ih =>
    intro pre acc k hk hl ha
    obtain ⟨k, rfl⟩ := succ_of hk
    rw [List.length_cons] at hk ha
    simp only [spec_SetVar.l1]
    have hl' : (pre ++ [y] ++ ys).length ≤ 100000000 := by rw [← app_cons]; exact hl
    rw [if_pos (len_cons pre ys y), if_pos (by omega), show rd_T59 (pre ++ y :: ys) (pre.length : Int) = y from getD_at pre ys y _, len_succ pre ys y (by omega), app_cons pre ys y, show Op.bytesLess own.f0.toList y.f0.toList = aheadV own y from rfl]
    cases h : aheadV own y with
    | true =>
      have := ih (pre ++ [y]) (acc ++ [y]) k (by omega) hl' (by rw [List.length_append, List.length_singleton]; omega)
      rw [if_pos rfl, if_pos (by omega), List.filter_cons_of_pos (by simpa using h)]
      simp only [List.append_assoc, List.singleton_append, List.cons_append, List.nil_append] at this ⊢
      exact this
    | false =>
      have := ih (pre ++ [y]) acc k (by omega) hl' (by omega)
      rw [if_neg (by decide), List.filter_cons_of_neg (by simp [h])]
      exact this
theorem specV_l0 (cs cc : List S39) (o co val : ByteArray) (all cv : List S59) (hall : all.length ≤ 10000000) (n : ByteArray) : ∀ (ys pre acc : List S59) (k : Nat), all = pre ++ ys → ys.length + all.length + 2 < k → acc.length + ys.length ≤ 50000000 →
    spec_SetVar.l0 k n val acc (pre.length : Int) all cs o cv cc co = some (if (acc ++ ys.filter (fun x => aheadV x ⟨n, cutB val⟩) ++ ⟨n, cutB val⟩ :: all.filter (fun x => aheadV ⟨n, cutB val⟩ x)).length ≤ 60 then (acc ++ ys.filter (fun x => aheadV x ⟨n, cutB val⟩) ++ ⟨n, cutB val⟩ :: all.filter (fun x => aheadV ⟨n, cutB val⟩ x), cc, co) else (cv, cc, co)) := by
  intro ys
  induction ys with
  | nil =>
    intro pre acc k he hk ha
    obtain ⟨k, rfl⟩ := succ_of (show all.length + 2 < k by omega)
    rw [List.append_nil] at he
    subst he
    simp only [spec_SetVar.l0]
    rw [if_neg (by omega), sCut, Option.bind_some, if_pos (by simp at ha; omega)]
    have := specV_l1 cs cc o co cv ⟨n, cutB val⟩ all [] (acc ++ [⟨n, cutB val⟩]) k (by omega) (by simpa using (by omega : all.length ≤ 100000000)) (by simp at ha ⊢; omega)
    simp only [List.nil_append, List.length_nil, List.append_assoc, List.singleton_append] at this
    rw [List.filter_nil, List.append_nil]
    exact this
  | cons y ys ih =>
    intro pre acc k he hk ha
    rw [List.length_cons] at hk ha
    obtain ⟨k, rfl⟩ := succ_of (show all.length + 2 < k by omega)
    simp only [spec_SetVar.l0]
    have hlt : (pre.length : Int) < (all.length : Int) := by rw [he]; exact len_cons pre ys y
    have hrd : rd_T59 all (pre.length : Int) = y := by rw [he]; exact getD_at pre ys y _
    have hw : wrap64 ((pre.length : Int) + 1) = ((pre ++ [y]).length : Int) := len_succ pre ys y (by rw [← he]; omega)
    rw [if_pos hlt, if_pos (by omega), hrd, hw, show Op.bytesLess y.f0.toList n.toList = aheadV y ⟨n, cutB val⟩ from rfl]
    cases h : aheadV y ⟨n, cutB val⟩ with
    | true =>
      have := ih (pre ++ [y]) (acc ++ [y]) k (by rw [← app_cons]; exact he) (by omega) (by rw [List.length_append, List.length_singleton]; omega)
      rw [if_pos rfl, if_pos (by omega), List.filter_cons_of_pos (by simpa using h)]
      simp only [List.append_assoc, List.singleton_append, List.cons_append, List.nil_append] at this ⊢
      exact this
    | false =>
      have := ih (pre ++ [y]) acc k (by rw [← app_cons]; exact he) (by omega) (by omega)
      rw [if_neg (by decide), List.filter_cons_of_neg (by simp [h])]
      exact this

theorem sCopy {vs : List S59} {cs : List S39} {o : ByteArray} (h1 : vs.length ≤ 1048576) (h2 : cs.length ≤ 1048576) : spec_l08Copy.f vs cs o = some (vs, cs, o) := by
  unfold spec_l08Copy.f
  rw [Option.bind_some, if_pos (by simp; omega), Option.bind_some, if_pos (by simp; omega)]
  rfl

theorem specSetVar_ok {vs : List S59} {cs : List S39} {o n val : ByteArray} (h1 : vs.length ≤ 1048576) (h2 : cs.length ≤ 1048576) {k : Nat} (hk : 4000000 ≤ k) : spec_SetVar.f k vs cs o n val = some (putL aheadV 60 ⟨n, cutB val⟩ vs, cs, o) := by
  unfold spec_SetVar.f
  rw [sCopy h1 h2, Option.bind_some]
  dsimp only
  rw [show spec_SetVar.l0 k n val [] 0 vs cs o vs cs o = _ from specV_l0 cs cs o o val vs vs (by omega) n vs [] [] k rfl (by omega) (by simp; omega)]
  unfold putL placeL
  rw [List.nil_append]
  split <;> rfl

theorem specSetCell_ok {vs : List S59} {cs : List S39} {o n key val : ByteArray} (h1 : vs.length ≤ 1048576) (h2 : cs.length ≤ 1048576) {k : Nat} (hk : 4000000 ≤ k) : spec_SetCell.f k vs cs o n key val = some (vs, putL aheadC 2000 ⟨n, cutB key, cutB val⟩ cs, o) := by
  unfold spec_SetCell.f
  rw [sCopy h1 h2, Option.bind_some, sCut, Option.bind_some, sCut, Option.bind_some]
  dsimp only
  rw [show spec_SetCell.l0 k [] 0 vs cs o vs cs o n (cutB key) (cutB val) = _ from specC_l0 vs vs o o cs cs (by omega) ⟨n, cutB key, cutB val⟩ cs [] [] k rfl (by omega) (by simp; omega)]
  unfold putL placeL
  rw [List.nil_append]
  split <;> rfl

def sayB (o line : ByteArray) : ByteArray := if (o ++ line ++ (⟨#[10]⟩ : ByteArray)).size ≤ 3000 then o ++ line ++ (⟨#[10]⟩ : ByteArray) else (o ++ line ++ (⟨#[10]⟩ : ByteArray)).extract 0 3000
theorem say_size (o line : ByteArray) : (o ++ line ++ (⟨#[10]⟩ : ByteArray)).size = o.size + line.size + 1 := by
  rw [ByteArray.size_append, ByteArray.size_append]; rfl
theorem sOut (s : ByteArray) : spec_l08Out.f s = some (if s.size ≤ 3000 then s else s.extract 0 3000) := by
  unfold spec_l08Out.f
  by_cases c : s.size ≤ 3000
  · rw [if_neg (by omega), if_pos c]
  · rw [if_pos (by omega), if_pos (by omega), if_pos (by omega), if_neg c]

theorem specSay_ok {vs : List S59} {cs : List S39} {o line : ByteArray} (h1 : vs.length ≤ 1048576) (h2 : cs.length ≤ 1048576) (h : o.size + line.size ≤ 9000000000000000000) : spec_Say.f vs cs o line = some (vs, cs, sayB o line) := by
  unfold spec_Say.f
  have hz := say_size o line
  rw [sCopy h1 h2, Option.bind_some, if_pos (by omega), if_pos (by rw [ByteArray.size_append]; omega), sOut, Option.bind_some]
  rfl

theorem and255_in (x : Int) : 0 ≤ Go.bits .and .i64 x 255 ∧ Go.bits .and .i64 x 255 ≤ 255 := by
  simp only [Go.bits]
  rw [IntKind.wrap_i64]
  have h : (BitVec.ofInt IntKind.i64.bits x &&& BitVec.ofInt IntKind.i64.bits 255).toNat ≤ 255 := by
    rw [BitVec.toNat_and]
    exact Nat.le_trans Nat.and_le_right (by decide)
  omega
/-- The drawn bytes are bytes, and no more than can be. -/
def IsCode (b : List Int) : Prop := b.length ≤ 9223372036854775807

theorem byte_ok {b : List Int} (hb : IsCode b) {i : Int} (hi : 0 ≤ i) (h : Int) : ∃ r i' h', spec_l01Byte.f b i h = some (r, i', h') ∧ 0 ≤ r ∧ r ≤ 255 ∧ 0 ≤ i' := by
  unfold IsCode at hb
  unfold spec_l01Byte.f
  by_cases h1 : i < (b.length : Int)
  · rw [if_pos h1, if_pos hi]
    refine ⟨_, _, _, rfl, (and255_in _).1, (and255_in _).2, ?_⟩
    rw [w64 (by omega) (by omega)]
    omega
  · rw [if_neg h1]
    exact ⟨_, _, _, rfl, (and255_in _).1, (and255_in _).2, hi⟩
theorem below_ok {b : List Int} (hb : IsCode b) {i : Int} (hi : 0 ≤ i) (h : Int) {n : Int} (h0 : 0 < n) (h1 : n ≤ 4294967296) :
    ∃ r i' h', spec_l01Below.f b i h n = some (r, i', h') ∧ 0 ≤ r ∧ r < n ∧ 0 ≤ i' := by
  unfold spec_l01Below.f
  rw [if_neg (by omega)]
  obtain ⟨r1, i1, h1', e1, a1, b1, c1⟩ := byte_ok hb hi h
  by_cases hn : n ≤ 256
  · rw [if_pos hn, e1, Option.bind_some, if_neg (by omega)]
    refine ⟨_, _, _, rfl, ?_, ?_, c1⟩
    · rw [Int.tmod_eq_emod_of_nonneg a1]; exact Int.emod_nonneg _ (by omega)
    · rw [Int.tmod_eq_emod_of_nonneg a1]; exact Int.emod_lt_of_pos _ h0
  · rw [if_neg hn, e1, Option.bind_some]
    obtain ⟨r2, i2, h2', e2, a2, b2, c2⟩ := byte_ok hb c1 h1'
    obtain ⟨r3, i3, h3', e3, a3, b3, c3⟩ := byte_ok hb c2 h2'
    obtain ⟨r4, i4, h4', e4, a4, b4, c4⟩ := byte_ok hb c3 h3'
    dsimp only
    rw [e2, Option.bind_some]
    dsimp only
    rw [e3, Option.bind_some]
    dsimp only
    rw [e4, Option.bind_some, if_neg (by omega)]
    dsimp only
    rw [w64 (show _ ≤ r1 * 16777216 by omega) (by omega), w64 (show _ ≤ r2 * 65536 by omega) (by omega), w64 (show _ ≤ r3 * 256 by omega) (by omega),
      w64 (show _ ≤ r1 * 16777216 + r2 * 65536 by omega) (by omega), w64 (show _ ≤ r1 * 16777216 + r2 * 65536 + r3 * 256 by omega) (by omega), w64 (show _ ≤ r1 * 16777216 + r2 * 65536 + r3 * 256 + r4 by omega) (by omega)]
    refine ⟨_, _, _, rfl, ?_, ?_, c4⟩
    · rw [Int.tmod_eq_emod_of_nonneg (by omega)]; exact Int.emod_nonneg _ (by omega)
    · rw [Int.tmod_eq_emod_of_nonneg (by omega)]; exact Int.emod_lt_of_pos _ h0
theorem new_l {b : List Int} (hb : IsCode b) : ∀ (d : Nat) (k : Nat) (h i : Int), 0 ≤ i → (4000 : Int) - i ≤ d → d < k → ∃ h', spec_l01New.l0 k b h i = some (b, 0, h') := by
  unfold IsCode at hb
  intro d
  induction d with
  | zero =>
    intro k h i hi hd hk
    obtain ⟨k, rfl⟩ := succ_of hk
    simp only [spec_l01New.l0]
    by_cases h1 : i < (b.length : Int)
    · rw [if_pos h1, if_neg (by omega)]; exact ⟨_, rfl⟩
    · rw [if_neg h1]; exact ⟨_, rfl⟩
  | succ d ih =>
    intro k h i hi hd hk
    obtain ⟨k, rfl⟩ := succ_of hk
    simp only [spec_l01New.l0]
    by_cases h1 : i < (b.length : Int)
    · rw [if_pos h1]
      by_cases h2 : i < 4000
      · rw [if_pos h2, if_pos hi, w64 (show _ ≤ i + 1 by omega) (by omega)]
        exact ih k _ (i + 1) (by omega) (by omega) (by omega)
      · rw [if_neg h2]; exact ⟨_, rfl⟩
    · rw [if_neg h1]; exact ⟨_, rfl⟩
theorem new_ok {b : List Int} (hb : IsCode b) : ∃ h', ∀ k, 4001 ≤ k → spec_l01New.f k b = some (b, 0, h') := by
  obtain ⟨h', e⟩ := new_l hb 4000 4001 (wrap64 (38001 + (b.length : Int))) 0 (by omega) (by omega) (by omega)
  refine ⟨h', fun k hk => ?_⟩
  have hm : ∀ k, LeO (spec_l01New.l0 k b (wrap64 (38001 + (b.length : Int))) 0) (spec_l01New.l0 (k + 1) b (wrap64 (38001 + (b.length : Int))) 0) := fun k => by
    have := spec_l01New.mono_l k
    exact this _ _ _
  exact at_rounds (g := fun k => spec_l01New.l0 k b (wrap64 (38001 + (b.length : Int))) 0) hm hk e

theorem pick_ok {b : List Int} (hb : IsCode b) {i : Int} (hi : 0 ≤ i) (h : Int) {l : List ByteArray} (h0 : 0 < l.length) (h1 : l.length ≤ 4294967296) :
    ∃ r i' h', spec_l01Pick.f b i h l = some (r, i', h') ∧ r ∈ l ∧ 0 ≤ i' := by
  unfold spec_l01Pick.f
  obtain ⟨r, i', h', e, a, b', c⟩ := below_ok hb hi h (n := (l.length : Int)) (by omega) (by omega)
  rw [e, Option.bind_some]
  dsimp only
  rw [if_pos a, if_pos b']
  refine ⟨_, _, _, rfl, ?_, c⟩
  unfold rdOf
  rw [List.getD_eq_getElem?_getD, List.getElem?_eq_getElem (by omega)]
  exact List.getElem_mem _

theorem val_ok {b : List Int} (hb : IsCode b) {i : Int} (hi : 0 ≤ i) (h : Int) : ∃ s i' h', spec_l03Val.f b i h = some (s, i', h') ∧ s.size ≤ 42 ∧ 0 ≤ i' := by
  unfold spec_l03Val.f
  generalize hl : ([_, _, _, _, _, _, _, _, _, _, _, _, _, _, _, _] : List ByteArray) = l
  have hlen : l.length = 16 := by rw [← hl]; rfl
  have hall : ∀ s ∈ l, s.size ≤ 42 := by
    rw [← hl]
    intro s hs
    simp only [List.mem_cons, List.mem_nil_iff, or_false] at hs
    rcases hs with rfl | rfl | rfl | rfl | rfl | rfl | rfl | rfl | rfl | rfl | rfl | rfl | rfl | rfl | rfl | rfl <;> decide
  obtain ⟨r, i', h', e, hr, c⟩ := pick_ok hb hi h (l := l) (by omega) (by omega)
  rw [e, Option.bind_some]
  exact ⟨_, _, _, rfl, hall r hr, c⟩

def nameS (s : ByteArray) : Prop := s = ⟨#[110]⟩ ∨ s = ⟨#[115]⟩ ∨ s = ⟨#[116]⟩ ∨ s = ⟨#[117]⟩ ∨ s = ⟨#[112, 114, 101]⟩
def nameC (s : ByteArray) : Prop := s = ⟨#[116]⟩ ∨ s = ⟨#[117]⟩
def InvS (n : Nat) (vs : List S59) (cs : List S39) (o : ByteArray) : Prop :=
  vs.length ≤ n ∧ cs.length ≤ n ∧ vs.Pairwise (fun x y => aheadV x y = true) ∧ cs.Pairwise (fun x y => aheadC x y = true) ∧
    (∀ y ∈ vs, nameS y.f0 ∧ y.f1.size ≤ 40) ∧ (∀ y ∈ cs, nameC y.f0 ∧ y.f1.size ≤ 40 ∧ y.f2.size ≤ 40 ∧ y.f1.size ≠ 4) ∧ o.size ≤ 3000
theorem sayB_3000 (o line : ByteArray) : (sayB o line).size ≤ 3000 := by
  unfold sayB
  split
  · next h => exact h
  · rw [ByteArray.size_extract]; omega
theorem name_ok {b : List Int} (hb : IsCode b) {i : Int} (hi : 0 ≤ i) (h : Int) : ∃ r i' h', spec_l08Name.f b i h = some (r, i', h') ∧ nameS r ∧ 0 ≤ i' := by
  unfold spec_l08Name.f
  obtain ⟨r, i', h', e, hm, c⟩ := pick_ok hb hi h (l := [(⟨#[110]⟩ : ByteArray), (⟨#[115]⟩ : ByteArray), (⟨#[116]⟩ : ByteArray), (⟨#[117]⟩ : ByteArray), (⟨#[112, 114, 101]⟩ : ByteArray)]) (by decide) (by decide)
  rw [e, Option.bind_some]
  exact ⟨_, _, _, rfl, by simpa [nameS] using hm, c⟩
theorem cutB_four {s : ByteArray} (h : s.size ≠ 4) : (cutB s).size ≠ 4 := by
  unfold cutB
  split
  · exact h
  · rw [ByteArray.size_extract]; omega
theorem val_ok4 {b : List Int} (hb : IsCode b) {i : Int} (hi : 0 ≤ i) (h : Int) : ∃ s i' h', spec_l03Val.f b i h = some (s, i', h') ∧ (s.size ≤ 42 ∧ s.size ≠ 4) ∧ 0 ≤ i' := by
  unfold spec_l03Val.f
  generalize hl : ([_, _, _, _, _, _, _, _, _, _, _, _, _, _, _, _] : List ByteArray) = l
  have hlen : l.length = 16 := by rw [← hl]; rfl
  have hall : ∀ s ∈ l, s.size ≤ 42 ∧ s.size ≠ 4 := by
    rw [← hl]
    intro s hs
    simp only [List.mem_cons, List.mem_nil_iff, or_false] at hs
    rcases hs with rfl | rfl | rfl | rfl | rfl | rfl | rfl | rfl | rfl | rfl | rfl | rfl | rfl | rfl | rfl | rfl <;> decide
  obtain ⟨r, i', h', e, hr, c⟩ := pick_ok hb hi h (l := l) (by omega) (by omega)
  rw [e, Option.bind_some]
  exact ⟨_, _, _, rfl, hall r hr, c⟩
theorem store_l {b : List Int} (hb : IsCode b) : ∀ (d k : Nat) (i p h : Int) (vs : List S59) (cs : List S39) (o : ByteArray), 0 ≤ i → i + d = 8 → 0 ≤ p → 4000000 + d < k → InvS (8 - d) vs cs o →
    ∃ vs' cs' o' p' h', spec_l08Store.l0 k i b p h vs cs o = some (vs', cs', o', p', h') ∧ InvS 8 vs' cs' o' ∧ 0 ≤ p' := by
  intro d
  induction d with
  | zero =>
    intro k i p h vs cs o h0 h1 hp hk hI
    obtain ⟨k, rfl⟩ := succ_of hk
    simp only [spec_l08Store.l0]
    obtain ⟨r, i', h', e, a, b', c⟩ := below_ok hb hp h (n := 8) (by omega) (by omega)
    rw [e, Option.bind_some]
    dsimp only
    rw [if_neg (by omega)]
    exact ⟨_, _, _, _, _, rfl, hI, c⟩
  | succ d ih =>
    intro k i p h vs cs o h0 h1 hp hk hI
    obtain ⟨k, rfl⟩ := succ_of hk
    obtain ⟨hv, hc, sv, sc, hx, hy, ho⟩ := hI
    simp only [spec_l08Store.l0]
    obtain ⟨r, i1, h1', e, a, b', c⟩ := below_ok hb hp h (n := 8) (by omega) (by omega)
    rw [e, Option.bind_some]
    dsimp only
    by_cases cc : i < r
    · rw [if_pos cc]
      obtain ⟨r2, i2, h2', e2, a2, b2', c2⟩ := below_ok hb c h1' (n := 3) (by omega) (by omega)
      rw [e2, Option.bind_some]
      dsimp only
      by_cases z0 : r2 = 0
      · rw [if_pos z0]
        obtain ⟨n, i3, h3, e3, hn, c3⟩ := name_ok hb c2 h2'
        obtain ⟨v, i4, h4, e4, hv4, c4⟩ := val_ok4 hb c3 h3
        rw [e3, Option.bind_some]
        dsimp only
        rw [e4, Option.bind_some]
        dsimp only
        rw [specSetVar_ok (by omega) (by omega) (by omega), Option.bind_some]
        dsimp only
        rw [w64 (by omega) (by omega)]
        have hl := putL_one aheadV_asym 60 ⟨n, cutB v⟩ vs
        refine ih k (i + 1) i4 h4 _ _ _ (by omega) (by omega) c4 (by omega) ⟨by omega, by omega, putL_sorted aheadV_trans _ _ sv, sc, fun y hm => ?_, hy, ho⟩
        rcases putL_mem hm with rfl | hm
        · exact ⟨hn, cutB_size _⟩
        · exact hx y hm
      · rw [if_neg z0]
        by_cases z1 : r2 = 1
        · rw [if_pos z1]
          obtain ⟨n, i3, h3, e3, hn, c3⟩ := pick_ok hb c2 h2' (l := [(⟨#[116]⟩ : ByteArray), (⟨#[117]⟩ : ByteArray)]) (by decide) (by decide)
          obtain ⟨v, i4, h4, e4, hv4, c4⟩ := val_ok4 hb c3 h3
          obtain ⟨v5, i5, h5, e5, hv5, c5⟩ := val_ok4 hb c4 h4
          rw [e3, Option.bind_some]
          dsimp only
          rw [e4, Option.bind_some]
          dsimp only
          rw [e5, Option.bind_some]
          dsimp only
          rw [specSetCell_ok (by omega) (by omega) (by omega), Option.bind_some]
          dsimp only
          rw [w64 (by omega) (by omega)]
          have hl := putL_one aheadC_asym 2000 ⟨n, cutB v, cutB v5⟩ cs
          refine ih k (i + 1) i5 h5 _ _ _ (by omega) (by omega) c5 (by omega) ⟨by omega, by omega, sv, putL_sorted aheadC_trans _ _ sc, hx, fun y hm => ?_, ho⟩
          rcases putL_mem hm with rfl | hm
          · exact ⟨by simpa [nameC] using hn, cutB_size _, cutB_size _, cutB_four hv4.2⟩
          · exact hy y hm
        · rw [if_neg z1]
          obtain ⟨v, i4, h4, e4, hv4, c4⟩ := val_ok4 hb c2 h2'
          rw [e4, Option.bind_some]
          dsimp only
          rw [specSay_ok (by omega) (by omega) (by omega), Option.bind_some]
          dsimp only
          rw [w64 (by omega) (by omega)]
          exact ih k (i + 1) i4 h4 _ _ _ (by omega) (by omega) c4 (by omega) ⟨by omega, by omega, sv, sc, hx, hy, sayB_3000 _ _⟩
    · rw [if_neg cc]
      exact ⟨_, _, _, _, _, rfl, ⟨by omega, by omega, sv, sc, hx, hy, ho⟩, c⟩

theorem long_l {x n : Int} (hn : n ≤ 100000) : ∀ (d : Nat) (k : Nat) (xs : List Int) (i : Int), 0 ≤ i → n - i ≤ d → (xs.length : Int) = n → d < k → ∃ ys : List Int, spec_l01Long.l0 k n x xs i = some (strOfNums ys) ∧ ys.length = xs.length := by
  intro d
  induction d with
  | zero =>
    intro k xs i hi hd hl hk
    obtain ⟨k, rfl⟩ := succ_of hk
    simp only [spec_l01Long.l0]
    rw [if_neg (by omega)]
    exact ⟨xs, rfl, rfl⟩
  | succ d ih =>
    intro k xs i hi hd hl hk
    obtain ⟨k, rfl⟩ := succ_of hk
    simp only [spec_l01Long.l0]
    by_cases h : i < n
    · rw [if_pos h, if_pos hi, if_pos (by omega), w64 (by omega) (by omega)]
      obtain ⟨ys, e, hy⟩ := ih k (xs.set i.toNat x) (i + 1) (by omega) (by omega) (by rw [List.length_set]; exact hl) (by omega)
      exact ⟨ys, e, by rw [hy, List.length_set]⟩
    · rw [if_neg h]
      exact ⟨xs, rfl, rfl⟩
theorem long_ok {n x : Int} (h0 : 0 ≤ n) (hn : n ≤ 100000) {k : Nat} (hk : 100001 ≤ k) : ∃ s, spec_l01Long.f k n x = some s ∧ (s.size : Int) = n := by
  unfold spec_l01Long.f
  rw [if_pos h0, if_pos (by omega)]
  obtain ⟨ys, e, hy⟩ := long_l hn n.toNat k (List.replicate n.toNat 0) 0 (x := x) (by omega) (by omega) (by rw [List.length_replicate]; omega) (by omega)
  rw [List.length_replicate] at hy
  exact ⟨_, e, by rw [strOfNums_size, hy]; omega⟩
theorem long_ev {n x : Int} (h0 : 0 ≤ n) (hn : n ≤ 100000) : ∃ s, (∀ k, 100001 ≤ k → spec_l01Long.f k n x = some s) ∧ (s.size : Int) = n := by
  obtain ⟨s, e, hs⟩ := long_ok (x := x) h0 hn (Nat.le_refl 100001)
  refine ⟨s, fun k hk => ?_, hs⟩
  have hm : ∀ k, LeO (spec_l01Long.f k n x) (spec_l01Long.f (k + 1) n x) := fun k => spec_l01Long.mono n x k
  exact at_rounds (g := fun k => spec_l01Long.f k n x) hm hk e

def AnyS (vs : List S59) (cs : List S39) (o : ByteArray) : Prop :=
  vs.length ≤ 61 ∧ cs.length ≤ 9 ∧ (∀ y ∈ cs, y.f1.size ≤ 40 ∧ y.f2.size ≤ 40) ∧ o.size ≤ 3001
theorem any_l {b : List Int} (hb : IsCode b) (cs : List S39) (o : ByteArray) : ∀ (d k : Nat) (p h : Int) (vs : List S59), vs.length + d = 61 → 0 ≤ p → d < k →
    ∃ vs' p' h', spec_l08Any.l0 k b p h vs cs o = some (vs', cs, o, p', h') ∧ vs'.length ≤ 61 := by
  intro d
  induction d with
  | zero =>
    intro k p h vs hl hp hk
    obtain ⟨k, rfl⟩ := succ_of hk
    simp only [spec_l08Any.l0]
    obtain ⟨r, i', h', e, a, b', c⟩ := below_ok hb hp h (n := 3) (by omega) (by omega)
    rw [e, Option.bind_some]
    dsimp only
    rw [w64 (by omega) (by omega), if_neg (by omega)]
    exact ⟨_, _, _, rfl, by omega⟩
  | succ d ih =>
    intro k p h vs hl hp hk
    obtain ⟨k, rfl⟩ := succ_of hk
    simp only [spec_l08Any.l0]
    obtain ⟨r, i', h', e, a, b', c⟩ := below_ok hb hp h (n := 3) (by omega) (by omega)
    rw [e, Option.bind_some]
    dsimp only
    rw [w64 (show _ ≤ 59 + r by omega) (by omega)]
    by_cases cc : (vs.length : Int) < 59 + r
    · rw [if_pos cc, Option.bind_some, strOfNums_size, if_pos (by simp), if_pos (by omega)]
      exact ih k i' h' _ (by rw [List.length_append, List.length_singleton]; omega) c (by omega)
    · rw [if_neg cc]
      exact ⟨_, _, _, rfl, by omega⟩
theorem any_ok {b : List Int} (hb : IsCode b) {p : Int} (hp : 0 ≤ p) (h : Int) : ∃ vs cs o p' h', (∀ k, 5000000 ≤ k → spec_l08Any.f k b p h = some (vs, cs, o, p', h')) ∧ AnyS vs cs o := by
  have main : ∃ vs cs o p' h', spec_l08Any.f 5000000 b p h = some (vs, cs, o, p', h') ∧ AnyS vs cs o := by
    obtain ⟨vs, cs, o, p', h2, e, hI, hp'⟩ := store_l hb 8 5000000 0 p h [] [] ⟨#[]⟩ (by omega) (by omega) hp (by omega) ⟨by decide, by decide, List.Pairwise.nil, List.Pairwise.nil, (fun y hy => by cases hy), (fun y hy => by cases hy), by decide⟩
    obtain ⟨hv, hc, _, _, _, hy, ho⟩ := hI
    have hy : ∀ y ∈ cs, y.f1.size ≤ 40 ∧ y.f2.size ≤ 40 := fun y hm => ⟨(hy y hm).2.1, (hy y hm).2.2.1⟩
    unfold spec_l08Any.f spec_l08Store.f
    rw [e, Option.bind_some]
    dsimp only
    rw [sCopy (by omega) (by omega), Option.bind_some]
    dsimp only
    obtain ⟨r, i1, h1, e1, a, b', c⟩ := below_ok hb hp' h2 (n := 12) (by omega) (by omega)
    rw [e1, Option.bind_some]
    dsimp only
    by_cases z0 : r = 0
    · rw [if_pos z0]
      obtain ⟨n, i3, h3, e3, hn, c3⟩ := pick_ok hb c h1 (l := [(⟨#[97]⟩ : ByteArray), (⟨#[122, 122]⟩ : ByteArray), (⟨#[49]⟩ : ByteArray)]) (by decide) (by decide)
      rw [e3, Option.bind_some]
      dsimp only
      rw [if_pos (by omega)]
      exact ⟨_, _, _, _, _, rfl, by rw [List.length_append, List.length_singleton]; omega, by omega, hy, by omega⟩
    rw [if_neg z0]
    by_cases z1 : r = 1
    · rw [if_pos z1]
      obtain ⟨n, i3, h3, e3, hn, c3⟩ := pick_ok hb c h1 (l := [(⟨#[97]⟩ : ByteArray), (⟨#[122, 122]⟩ : ByteArray), (⟨#[]⟩ : ByteArray)]) (by decide) (by decide)
      rw [e3, Option.bind_some]
      dsimp only
      rw [if_pos (by omega)]
      refine ⟨_, _, _, _, _, rfl, by omega, by rw [List.length_append, List.length_singleton]; omega, fun y hm => ?_, by omega⟩
      rcases List.mem_append.1 hm with hm | hm
      · exact hy y hm
      · rw [List.mem_singleton] at hm
        rw [hm]
        exact ⟨by show (0 : Nat) ≤ 40; omega, by show (0 : Nat) ≤ 40; omega⟩
    rw [if_neg z1]
    by_cases z2 : r = 2
    · rw [if_pos z2]
      obtain ⟨r2, i3, h3, e3, a3, b3, c3⟩ := below_ok hb c h1 (n := 2) (by omega) (by omega)
      rw [e3, Option.bind_some]
      dsimp only
      rw [w64 (by omega) (by omega)]
      obtain ⟨s, es, hs⟩ := long_ok (n := 3000 + r2) (x := 65) (by omega) (by omega) (show 100001 ≤ 5000000 by omega)
      rw [es, Option.bind_some]
      exact ⟨_, _, _, _, _, rfl, by omega, by omega, hy, by omega⟩
    rw [if_neg z2]
    by_cases z3 : r = 3
    · rw [if_pos z3]
      obtain ⟨vs', p2, h4, e4, hv4⟩ := any_l hb cs o (61 - vs.length) 5000000 i1 h1 vs (by omega) c (by omega)
      rw [e4]
      exact ⟨_, _, _, _, _, rfl, hv4, by omega, hy, by omega⟩
    · rw [if_neg z3]
      exact ⟨_, _, _, _, _, rfl, by omega, by omega, hy, by omega⟩
  obtain ⟨vs, cs, o, p', h', e, hA⟩ := main
  exact ⟨vs, cs, o, p', h', fun k hk => at_rounds (g := fun k => spec_l08Any.f k b p h) (fun k => spec_l08Any.mono _ _ _ k) hk e, hA⟩

theorem iCopy {vs : List S59} {cs : List S39} {o : ByteArray} (h1 : vs.length ≤ 1048576) (h2 : cs.length ≤ 1048576) : impl_copyStore.f vs cs o = some (vs, cs, o) := by
  unfold impl_copyStore.f
  rw [Option.bind_some, if_pos (by simp; omega), Option.bind_some, if_pos (by simp; omega)]
  rfl

theorem iSay {vs : List S59} {cs : List S39} {o line : ByteArray} (h : o.size + line.size ≤ 9000000000000000000) : impl_Store_say.f vs cs o line = some (sayB o line) := by
  unfold impl_Store_say.f sayB
  have hz := say_size o line
  rw [if_pos (by omega), if_pos (by rw [ByteArray.size_append]; omega)]
  generalize o ++ line ++ (⟨#[10]⟩ : ByteArray) = x at hz ⊢
  by_cases c : x.size ≤ 3000
  · have e : mn (x.size : Int) 3000 = (x.size : Int) := by unfold mn; split <;> omega
    rw [e, if_pos (by omega), if_pos (by omega), if_pos c, Int.toNat_natCast, extract_all x (Nat.le_refl _)]
  · have e : mn (x.size : Int) 3000 = 3000 := by unfold mn; split <;> omega
    rw [e, if_pos (by omega), if_pos (by omega), if_neg c]
    rfl

theorem implSay_ok {vs : List S59} {cs : List S39} {o line : ByteArray} (h1 : vs.length ≤ 1048576) (h2 : cs.length ≤ 1048576) (h : o.size + line.size ≤ 9000000000000000000) : impl_Say.f vs cs o line = some (vs, cs, sayB o line) := by
  unfold impl_Say.f
  rw [iCopy h1 h2, Option.bind_some]
  dsimp only
  rw [iSay h, Option.bind_some]

def dumpL (name : ByteArray) : ByteArray → List S39 → ByteArray
  | o, [] => o
  | o, y :: ys => if y.f0.toList = name.toList then dumpL name (sayB o (y.f1 ++ (⟨#[32]⟩ : ByteArray) ++ y.f2)) ys else dumpL name o ys
theorem sayB_size (o line : ByteArray) : (sayB o line).size ≤ 3000 := by
  unfold sayB
  split
  · next h => exact h
  · rw [ByteArray.size_extract]; omega
theorem line_size (a b : ByteArray) : (a ++ (⟨#[32]⟩ : ByteArray) ++ b).size = a.size + 1 + b.size := by
  rw [ByteArray.size_append, ByteArray.size_append]; rfl

theorem specDump_l (name o0 : ByteArray) (vs cv : List S59) (cc : List S39) : ∀ (ys pre : List S39) (k : Nat) (o : ByteArray), ys.length < k → (pre ++ ys).length ≤ 1048576 → o.size ≤ 1048576 → (∀ y ∈ ys, y.f1.size ≤ 1048576 ∧ y.f2.size ≤ 1048576) →
    spec_Dump.l0 k name (pre.length : Int) vs (pre ++ ys) o0 cv cc o = some (cv, cc, dumpL name o ys) := by
  intro ys
  induction ys with
  | nil =>
    intro pre k o hk hl ho hy
    obtain ⟨k, rfl⟩ := succ_of hk
    simp only [spec_Dump.l0]
    rw [if_neg (len_nil pre)]
    rfl
  | cons y ys ih =>
    intro pre k o hk hl ho hy
    obtain ⟨k, rfl⟩ := succ_of hk
    rw [List.length_cons] at hk
    simp only [spec_Dump.l0]
    have hy0 := hy y (List.mem_cons_self ..)
    have hi := fun o (ho : o.size ≤ 1048576) => ih (pre ++ [y]) k o (by omega) (by rw [← app_cons]; exact hl) ho (fun z hz => hy z (List.mem_cons_of_mem _ hz))
    rw [if_pos (len_cons pre ys y), if_pos (by omega), show rd_T39 (pre ++ y :: ys) (pre.length : Int) = y from getD_at pre ys y _, len_succ pre ys y (by omega), app_cons pre ys y, dumpL]
    by_cases c : y.f0.toList = name.toList
    · rw [if_pos c, if_pos c, if_pos (by omega), if_pos (by rw [ByteArray.size_append]; omega), if_pos (by rw [ByteArray.size_append, ByteArray.size_append]; show o.size + y.f1.size + 1 + y.f2.size ≤ _; omega), if_pos (by rw [ByteArray.size_append, ByteArray.size_append, ByteArray.size_append]; show o.size + y.f1.size + 1 + y.f2.size + 1 ≤ _; omega), sOut, Option.bind_some]
      have e : o ++ y.f1 ++ (⟨#[32]⟩ : ByteArray) ++ y.f2 ++ (⟨#[10]⟩ : ByteArray) = o ++ (y.f1 ++ (⟨#[32]⟩ : ByteArray) ++ y.f2) ++ (⟨#[10]⟩ : ByteArray) := by
        simp only [ByteArray.append_assoc]
      rw [e]
      exact hi (sayB o (y.f1 ++ (⟨#[32]⟩ : ByteArray) ++ y.f2)) (by have := sayB_size o (y.f1 ++ (⟨#[32]⟩ : ByteArray) ++ y.f2); omega)
    · rw [if_neg c, if_neg c]
      exact hi o ho
theorem specDump_ok {vs : List S59} {cs : List S39} {o name : ByteArray} (h1 : vs.length ≤ 1048576) (h2 : cs.length ≤ 1048576) (ho : o.size ≤ 1048576) (hy : ∀ y ∈ cs, y.f1.size ≤ 1048576 ∧ y.f2.size ≤ 1048576) {k : Nat} (hk : 1048577 ≤ k) : spec_Dump.f k vs cs o name = some (vs, cs, dumpL name o cs) := by
  unfold spec_Dump.f
  rw [sCopy h1 h2, Option.bind_some]
  exact specDump_l name o vs vs cs cs [] k o (by omega) (by simpa using h2) ho hy

theorem implDump_l (name : ByteArray) (vs : List S59) (cc : List S39) (hv : vs.length ≤ 1048576) : ∀ (ys pre : List S39) (k : Nat) (o : ByteArray), ys.length < k → (pre ++ ys).length ≤ 1048576 → o.size ≤ 1048576 → (∀ y ∈ ys, y.f1.size ≤ 1048576 ∧ y.f2.size ≤ 1048576) →
    impl_Store_dump.l0 k name (pre ++ ys) ((pre ++ ys).length : Int) (pre.length : Int) vs cc o = some (dumpL name o ys) := by
  intro ys
  induction ys with
  | nil =>
    intro pre k o hk hl ho hy
    obtain ⟨k, rfl⟩ := succ_of hk
    simp only [impl_Store_dump.l0]
    rw [if_neg (len_nil pre)]
    rfl
  | cons y ys ih =>
    intro pre k o hk hl ho hy
    obtain ⟨k, rfl⟩ := succ_of hk
    rw [List.length_cons] at hk
    simp only [impl_Store_dump.l0]
    have hy0 := hy y (List.mem_cons_self ..)
    have hi := fun o (ho : o.size ≤ 1048576) => ih (pre ++ [y]) k o (by omega) (by rw [← app_cons]; exact hl) ho (fun z hz => hy z (List.mem_cons_of_mem _ hz))
    rw [if_pos (len_cons pre ys y), if_pos (by omega), if_pos (len_cons pre ys y), show rd_T39 (pre ++ y :: ys) (pre.length : Int) = y from getD_at pre ys y _, len_succ pre ys y (by omega), app_cons pre ys y, dumpL]
    by_cases c : y.f0.toList = name.toList
    · rw [if_pos c, if_pos c, if_pos (by omega), if_pos (by rw [ByteArray.size_append]; show y.f1.size + 1 + y.f2.size ≤ _; omega), iSay (by rw [line_size]; omega), Option.bind_some]
      exact hi _ (by have := sayB_size o (y.f1 ++ (⟨#[32]⟩ : ByteArray) ++ y.f2); omega)
    · rw [if_neg c, if_neg c]
      exact hi o ho
theorem implDump_ok {vs : List S59} {cs : List S39} {o name : ByteArray} (h1 : vs.length ≤ 1048576) (h2 : cs.length ≤ 1048576) (ho : o.size ≤ 1048576) (hy : ∀ y ∈ cs, y.f1.size ≤ 1048576 ∧ y.f2.size ≤ 1048576) {k : Nat} (hk : 1048577 ≤ k) : impl_Dump.f k vs cs o name = some (vs, cs, dumpL name o cs) := by
  unfold impl_Dump.f impl_Store_dump.f
  rw [iCopy h1 h2, Option.bind_some]
  dsimp only
  rw [show impl_Store_dump.l0 k name cs (cs.length : Int) 0 vs cs o = some (dumpL name o cs) from implDump_l name vs cs h1 cs [] k o (by omega) (by simpa using h2) ho hy, Option.bind_some]

def sameL {α : Type} (f : α → α → Bool) : List α → List α → Bool
  | x :: xs, y :: ys => f x y && sameL f xs ys
  | _, _ => true
theorem getD_at2 {α : Type} (pre1 pre2 ys : List α) (y d : α) (h : pre1.length = pre2.length) : (pre2 ++ y :: ys).getD (pre1.length : Int).toNat d = y := by
  rw [h]; exact getD_at pre2 ys y d
theorem len_cons2 {α : Type} (pre1 pre2 ys : List α) (y : α) (h : pre1.length = pre2.length) : (pre1.length : Int) < ((pre2 ++ y :: ys).length : Int) := by
  rw [h]; exact len_cons pre2 ys y
theorem bool_round {b r : Bool} {R : Option Bool} (h : R = some r) : (if (!b) = true then some false else R) = some (b && r) := by
  cases b <;> simp [h]

/-! Two stores are the same: the rule, on lists. -/
def sameV (a b : S59) : Bool := (a.f0.toList == b.f0.toList) && (a.f1.toList == b.f1.toList)
def sameC (a b : S39) : Bool := (a.f0.toList == b.f0.toList) && ((a.f1.toList == b.f1.toList) && (a.f2.toList == b.f2.toList))
theorem spec_sameC (vs1 vs2 : List S59) (o1 o2 : ByteArray) : ∀ (ys1 ys2 pre1 pre2 : List S39) (k : Nat), ys1.length = ys2.length → pre1.length = pre2.length → ys1.length < k → (pre1 ++ ys1).length ≤ 9223372036854775807 →
    spec_SameStore.l1 k (pre1.length : Int) vs1 (pre1 ++ ys1) o1 vs2 (pre2 ++ ys2) o2 = some (sameL sameC ys1 ys2) := by
  intro ys1
  induction ys1 with
  | nil =>
    intro ys2 pre1 pre2 k h1 h2 hk hl
    obtain ⟨k, rfl⟩ := succ_of hk
    simp only [spec_SameStore.l1]
    rw [if_neg (len_nil pre1)]
    rfl
  | cons y ys ih =>
    intro ys2 pre1 pre2 k h1 h2 hk hl
    obtain ⟨k, rfl⟩ := succ_of hk
    obtain ⟨y2, zs, rfl⟩ : ∃ a b, ys2 = a :: b := by cases ys2 with
      | nil => simp at h1
      | cons a b => exact ⟨a, b, rfl⟩
    simp only [spec_SameStore.l1]
    have hi := ih zs (pre1 ++ [y]) (pre2 ++ [y2]) k (by simpa using h1) (by simp [h2]) (by simpa using hk) (by rw [← app_cons]; exact hl)
    rw [if_pos (len_cons pre1 ys y), if_pos (by omega), if_pos (len_cons2 pre1 pre2 zs y2 h2), show rd_T39 (pre1 ++ y :: ys) (pre1.length : Int) = y from getD_at pre1 ys y _, show rd_T39 (pre2 ++ y2 :: zs) (pre1.length : Int) = y2 from getD_at2 pre1 pre2 zs y2 _ h2, len_succ pre1 ys y hl, app_cons pre1 ys y, app_cons pre2 zs y2]
    rw [← Bool.not_and, ← Bool.not_and]
    exact bool_round hi
theorem spec_sameV (cs1 cs2 : List S39) (o1 o2 : ByteArray) (hc : cs1.length = cs2.length) (hcl : cs1.length ≤ 1048576) : ∀ (ys1 ys2 pre1 pre2 : List S59) (k : Nat), ys1.length = ys2.length → pre1.length = pre2.length → 1048577 + ys1.length < k → (pre1 ++ ys1).length ≤ 9223372036854775807 →
    spec_SameStore.l0 k (pre1.length : Int) (pre1 ++ ys1) cs1 o1 (pre2 ++ ys2) cs2 o2 = some (sameL sameV ys1 ys2 && sameL sameC cs1 cs2) := by
  intro ys1
  induction ys1 with
  | nil =>
    intro ys2 pre1 pre2 k h1 h2 hk hl
    obtain ⟨k, rfl⟩ := succ_of hk
    simp only [spec_SameStore.l0]
    rw [if_neg (len_nil pre1)]
    have := spec_sameC (pre1 ++ []) (pre2 ++ ys2) o1 o2 cs1 cs2 [] [] k hc rfl (by omega) (by simp; omega)
    simpa [sameL] using this
  | cons y ys ih =>
    intro ys2 pre1 pre2 k h1 h2 hk hl
    obtain ⟨k, rfl⟩ := succ_of hk
    rw [List.length_cons] at hk
    obtain ⟨y2, zs, rfl⟩ : ∃ a b, ys2 = a :: b := by cases ys2 with
      | nil => simp at h1
      | cons a b => exact ⟨a, b, rfl⟩
    simp only [spec_SameStore.l0]
    have hi := ih zs (pre1 ++ [y]) (pre2 ++ [y2]) k (by simpa using h1) (by simp [h2]) (by omega) (by rw [← app_cons]; exact hl)
    rw [if_pos (len_cons pre1 ys y), if_pos (by omega), if_pos (len_cons2 pre1 pre2 zs y2 h2), show rd_T59 (pre1 ++ y :: ys) (pre1.length : Int) = y from getD_at pre1 ys y _, show rd_T59 (pre2 ++ y2 :: zs) (pre1.length : Int) = y2 from getD_at2 pre1 pre2 zs y2 _ h2, len_succ pre1 ys y hl, app_cons pre1 ys y, app_cons pre2 zs y2]
    rw [← Bool.not_and, sameL, Bool.and_assoc]
    exact bool_round hi
theorem sameL_self {α : Type} (f : α → α → Bool) (h : ∀ x, f x x = true) : ∀ l : List α, sameL f l l = true
  | [] => rfl
  | x :: l => by rw [sameL, h, sameL_self f h l]; rfl
theorem sameStore_self (vs : List S59) (cs : List S39) (o : ByteArray) (h1 : vs.length ≤ 1048576) (h2 : cs.length ≤ 1048576) {k : Nat} (hk : 3000000 ≤ k) : spec_SameStore.f k vs cs o vs cs o = some true := by
  obtain ⟨k, rfl⟩ : ∃ m, k = m + 1 := ⟨k - 1, by omega⟩
  unfold spec_SameStore.f
  rw [if_pos rfl, if_pos rfl]
  simp only [spec_SameStore.j0]
  rw [show (o.toList != o.toList) = false by simp, if_neg (by decide)]
  have e3 : spec_SameStore.l0 k 0 vs cs o vs cs o = some (sameL sameV vs vs && sameL sameC cs cs) := spec_sameV cs cs o o rfl h2 vs vs [] [] k rfl rfl (by omega) (by simp; omega)
  rw [e3, sameL_self sameV (by simp [sameV]), sameL_self sameC (by simp [sameC])]
  rfl

theorem drawSay_ok {b : List Int} (hb : IsCode b) : ∃ vs cs o v, (∀ k, 5000000 ≤ k → spec_DrawSay.f k b = some (vs, cs, o, v)) ∧ AnyS vs cs o ∧ v.size ≤ 42 := by
  obtain ⟨h', en⟩ := new_ok hb
  obtain ⟨v, i1, h1, e1, hv, c1⟩ := val_ok hb (Int.le_refl 0) h'
  obtain ⟨vs, cs, o, p2, h2, e2, hA⟩ := any_ok hb c1 h1
  refine ⟨vs, cs, o, v, fun k hk => ?_, hA, hv⟩
  unfold spec_DrawSay.f
  rw [en k (by omega), Option.bind_some]
  dsimp only
  rw [e1, Option.bind_some]
  dsimp only
  rw [e2 k hk, Option.bind_some]
theorem drawDump_ok {b : List Int} (hb : IsCode b) : ∃ vs cs o n, (∀ k, 5000000 ≤ k → spec_DrawDump.f k b = some (vs, cs, o, n)) ∧ AnyS vs cs o := by
  obtain ⟨h', en⟩ := new_ok hb
  obtain ⟨v, i1, h1, e1, _, c1⟩ := pick_ok hb (Int.le_refl 0) h' (l := [(⟨#[116]⟩ : ByteArray),(⟨#[117]⟩ : ByteArray),(⟨#[116]⟩ : ByteArray),(⟨#[110,111,110,101]⟩ : ByteArray)]) (by decide) (by decide)
  obtain ⟨vs, cs, o, p2, h2, e2, hA⟩ := any_ok hb c1 h1
  refine ⟨vs, cs, o, v, fun k hk => ?_, hA⟩
  unfold spec_DrawDump.f
  rw [en k (by omega), Option.bind_some]
  dsimp only
  rw [e1, Option.bind_some]
  dsimp only
  rw [e2 k hk, Option.bind_some]
theorem sayB_pre {o line : ByteArray} (h : o.size ≤ 3000) : bytesOf o <+: bytesOf (sayB o line) := by
  have h0 : bytesOf o <+: bytesOf (o ++ line ++ (⟨#[10]⟩ : ByteArray)) := by
    rw [bx_app, bx_app, List.append_assoc]
    exact List.prefix_append _ _
  unfold sayB
  split
  · exact h0
  · rw [bx_cut, List.drop_zero, List.prefix_take_iff]
    exact ⟨h0, by rw [bx_len]; exact h⟩
theorem dumpL_pre {n : ByteArray} : ∀ (l : List S39) {o : ByteArray}, o.size ≤ 3000 → bytesOf o <+: bytesOf (dumpL n o l)
  | [], o, _ => List.prefix_refl _
  | y :: l, o, h => by
    rw [dumpL]
    split
    · exact (sayB_pre h).trans (dumpL_pre l (sayB_size _ _))
    · exact dumpL_pre l h
theorem begins_ok {s t : ByteArray} (h : bytesOf s <+: bytesOf t) : laws_begins.f s t = some true := by
  have hl := h.length_le
  rw [bx_len, bx_len] at hl
  unfold laws_begins.f
  rw [if_pos (by omega), if_pos (by omega), Int.toNat_natCast]
  have e : t.extract 0 s.size = s := by
    apply bx_inj
    rw [bx_cut, List.drop_zero, ← bx_len s]
    exact (List.prefix_iff_eq_take.1 h).symm
  rw [e, beq_self_eq_true]
theorem FnSays : laws_FnSays.Pure := by
  intro b hb0 hb1 hb2
  have hb : IsCode b := by unfold IsCode; omega
  obtain ⟨vs, cs, o, v, es, ⟨hv, hc, hy, ho⟩, hz⟩ := drawSay_ok hb
  obtain ⟨vs2, cs2, o2, n2, ed, ⟨hv2, hc2, hy2, ho2⟩⟩ := drawDump_ok hb
  refine ⟨9000001, ?_⟩
  have fin : laws_FnSays.j0 9000001 b (sayB o v) vs cs o vs cs (sayB o v) = some true := by
    simp only [laws_FnSays.j0]
    have hyb : ∀ y ∈ cs2, y.f1.size ≤ 1048576 ∧ y.f2.size ≤ 1048576 := fun y hm => by have := hy2 y hm; omega
    rw [ed _ (by omega), Option.bind_some]
    dsimp only
    rw [implDump_ok (by omega) (by omega) (by omega) hyb (by omega), Option.bind_some, if_pos True.intro, if_pos True.intro, if_pos True.intro, specDump_ok (by omega) (by omega) (by omega) hyb (by omega), Option.bind_some]
    dsimp only
    rw [sameStore_self _ _ _ (by omega) (by omega) (by omega), Option.bind_some, if_pos rfl]
    by_cases c : (o2.size : Int) > 3000
    · rw [if_pos c, beq_self_eq_true]
    · rw [if_neg c, begins_ok (dumpL_pre cs2 (by omega)), Option.bind_some, if_pos rfl, beq_self_eq_true]
  unfold laws_FnSays.f laws_big.f
  rw [Option.bind_some]
  by_cases hbig : decide ((b.length : Int) > 1048576) = true
  · rw [if_pos hbig]
  rw [if_neg hbig, es _ (by omega), Option.bind_some]
  dsimp only
  rw [implSay_ok (by omega) (by omega) (by omega), Option.bind_some]
  dsimp only
  have hsz := say_size o v
  rw [if_pos (by omega), if_pos (by rw [ByteArray.size_append]; omega)]
  by_cases c : ((o ++ v ++ (⟨#[10]⟩ : ByteArray)).size : Int) > 3000
  · rw [if_pos c, if_pos (by omega), if_pos (by omega)]
    have e : sayB o v = (o ++ v ++ (⟨#[10]⟩ : ByteArray)).extract 0 3000 := by unfold sayB; rw [if_neg (by omega)]
    rw [← e]
    exact fin
  · rw [if_neg c]
    have e : sayB o v = o ++ v ++ (⟨#[10]⟩ : ByteArray) := by unfold sayB; rw [if_pos (by omega)]
    rw [← e]
    exact fin

end Go.Proofs.Ytekngkljphlliaa.Pure
