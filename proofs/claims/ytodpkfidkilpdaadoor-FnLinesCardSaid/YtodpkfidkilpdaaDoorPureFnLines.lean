/- The pure statement of FnLines: over numbers and lists, what the printed functions come to is what the law wants, for every input. -/
import Derived.Test.YtodpkfidkilpdaaDoorQFnLinesx3
set_option linter.unusedVariables false
set_option linter.unusedSimpArgs false
namespace Go.Proofs.YtodpkfidkilpdaaDoor.Pure
open Go.RowKit Go.Proofs.YtodpkfidkilpdaaDoor.QFnLines Go.Proofs.YtodpkfidkilpdaaDoorW.PrintWords Go.Proofs.YtodpkfidkilpdaaDoorW.PrintLast
/-! Words on strings as lists of numbers. -/
theorem w64 {x : Int} (h0 : -9223372036854775808 ≤ x) (h1 : x ≤ 9223372036854775807) : wrap64 x = x := by
  unfold wrap64
  omega
theorem bx_len (s : ByteArray) : (bytesOf s).length = s.size := bytesOf_length s
theorem bx_byte (s : ByteArray) : ∀ c ∈ bytesOf s, 0 ≤ c ∧ c ≤ 255 := by
  intro c hc
  unfold bytesOf at hc
  obtain ⟨b, _, rfl⟩ := List.mem_map.1 hc
  have := b.toNat_lt
  omega
theorem bx_at {s : ByteArray} {pre ys : List Int} {c : Int} (h : bytesOf s = pre ++ c :: ys) : bt s (pre.length : Int) = c := by
  rw [← rd_bytesOf, h, rd, Int.toNat_natCast, List.getD_eq_getElem?_getD, List.getElem?_append_right (Nat.le_refl _)]
  simp
theorem bx_lt {s : ByteArray} {pre ys : List Int} {c : Int} (h : bytesOf s = pre ++ c :: ys) : (pre.length : Int) < (s.size : Int) := by
  have := congrArg List.length h
  rw [bx_len, List.length_append, List.length_cons] at this
  omega
theorem bx_end {s : ByteArray} {pre : List Int} (h : bytesOf s = pre ++ []) : (s.size : Int) = (pre.length : Int) := by
  have := congrArg List.length h
  rw [bx_len, List.append_nil] at this
  omega
theorem bx_next {s : ByteArray} {pre ys : List Int} {c : Int} (h : bytesOf s = pre ++ c :: ys) : bytesOf s = (pre ++ [c]) ++ ys := by
  rw [h, List.append_assoc]; rfl
theorem len_next (pre : List Int) (c : Int) : ((pre ++ [c]).length : Int) = (pre.length : Int) + 1 := by
  rw [List.length_append, List.length_singleton]; omega
theorem bx_inj {s t : ByteArray} (h : bytesOf s = bytesOf t) : s = t := by
  unfold bytesOf at h
  have h2 : s.data.toList = t.data.toList := by
    refine (List.map_inj_right (f := fun b : UInt8 => (b.toNat : Int)) ?_).1 h
    intro x y hxy
    exact UInt8.toNat_inj.1 (Int.ofNat_inj.1 hxy)
  exact ByteArray.ext (Array.toList_inj.1 h2)
theorem tl_inj {s t : ByteArray} (h : s.toList = t.toList) : s = t := by
  rw [ByteArray.toList_eq, ByteArray.toList_eq] at h
  exact ByteArray.ext (Array.toList_inj.1 h)
theorem tl_iff {s t : ByteArray} : s.toList = t.toList ↔ bytesOf s = bytesOf t := ⟨fun h => by rw [tl_inj h], fun h => by rw [bx_inj h]⟩
theorem bx_app (s t : ByteArray) : bytesOf (s ++ t) = bytesOf s ++ bytesOf t := by
  simp [bytesOf]
theorem bx_cut (s : ByteArray) (a b : Nat) : bytesOf (s.extract a b) = ((bytesOf s).take b).drop a := by
  simp [bytesOf, ByteArray.data_extract, List.map_drop, List.map_take, List.take_drop]
  rw [List.drop_take, List.drop_take]
  congr 1
  omega
theorem bx_str {xs : List Int} (h : ∀ c ∈ xs, 0 ≤ c ∧ c ≤ 255) : bytesOf (strOfNums xs) = xs := by
  unfold bytesOf
  rw [strOfNums_data, List.map_map]
  induction xs with
  | nil => rfl
  | cons c xs ih =>
    rw [List.map_cons, ih (fun d hd => h d (List.mem_cons_of_mem _ hd))]
    have hc := h c (List.mem_cons_self ..)
    congr 1
    have e : (UInt8.ofNat c.toNat).toNat = c.toNat := by
      rw [UInt8.toNat_ofNat']
      omega
    show ((UInt8.ofNat c.toNat).toNat : Int) = c
    rw [e]
    omega
theorem bx_wrap {s : ByteArray} {pre ys : List Int} {c : Int} (h : bytesOf s = pre ++ c :: ys) (hs : s.size ≤ 140737488351232) : wrap64 ((pre.length : Int) + 1) = ((pre ++ [c]).length : Int) := by
  rw [len_next]
  have := bx_lt h
  exact w64 (by omega) (by omega)
theorem bx_in {s : ByteArray} {pre ys : List Int} {c : Int} (h : bytesOf s = pre ++ c :: ys) : 0 ≤ c ∧ c ≤ 255 :=
  bx_byte s c (by rw [h]; exact List.mem_append_right _ (List.mem_cons_self ..))
theorem succ_of {n k : Nat} (h : n < k) : ∃ m, k = m + 1 := ⟨k - 1, by omega⟩
theorem ev2 {α β : Type} {g : Nat → Option α} {f : Nat → Option β} {a : α} {b : β} (h : Ev g a) (h' : Ev f b) : ∃ k, g k = some a ∧ f k = some b := by
  obtain ⟨K, h⟩ := h
  obtain ⟨K', h'⟩ := h'
  exact ⟨K + K', h _ (by omega), h' _ (by omega)⟩

theorem u32_in {x : Int} (h : (Lit.int .u32 x).wf = true) : 0 ≤ x ∧ x < 4294967296 := by
  simp only [Lit.wf, IntKind.min, IntKind.max, IntKind.signed, IntKind.bits, Bool.and_eq_true, decide_eq_true_eq] at h
  simp at h
  omega
theorem i64_in {x : Int} (h : (Lit.int .i64 x).wf = true) : -9223372036854775808 ≤ x ∧ x ≤ 9223372036854775807 := by
  simp only [Lit.wf, IntKind.min, IntKind.max, IntKind.signed, IntKind.bits, Bool.and_eq_true, decide_eq_true_eq] at h
  simp at h
  omega

theorem getD_at {α : Type} (pre ys : List α) (y d : α) : (pre ++ y :: ys).getD (pre.length : Int).toNat d = y := by
  rw [Int.toNat_natCast, List.getD_eq_getElem?_getD, List.getElem?_append_right (Nat.le_refl _)]
  simp
theorem len_cons {α : Type} (pre ys : List α) (y : α) : (pre.length : Int) < ((pre ++ y :: ys).length : Int) := by
  rw [List.length_append, List.length_cons]; omega
theorem len_nil {α : Type} (pre : List α) : ¬ (pre.length : Int) < ((pre ++ []).length : Int) := by
  rw [List.append_nil]; omega
theorem len_succ {α : Type} (pre ys : List α) (y : α) (h : (pre ++ y :: ys).length ≤ 9223372036854775807) : wrap64 ((pre.length : Int) + 1) = ((pre ++ [y]).length : Int) := by
  rw [List.length_append, List.length_cons] at h
  rw [List.length_append, List.length_singleton, w64 (by omega) (by omega)]
  omega
theorem app_cons {α : Type} (pre ys : List α) (y : α) : pre ++ y :: ys = (pre ++ [y]) ++ ys := by rw [List.append_assoc]; rfl
theorem set_at {α : Type} (pre ys : List α) (y z : α) : (pre ++ y :: ys).set (pre.length : Int).toNat z = pre ++ z :: ys := by
  rw [Int.toNat_natCast, List.set_append_right _ _ (Nat.le_refl _), Nat.sub_self]
  rfl

/-! A text cut at each byte of one kind. -/
def splitI (c : Int) : List Int → List Int → List (List Int)
  | cur, [] => [cur]
  | cur, x :: ys => if x = c then cur :: splitI c [] ys else splitI c (cur ++ [x]) ys
theorem splitI_no {c : Int} : ∀ (ys cur : List Int), (∀ x ∈ ys, x ≠ c) → splitI c cur ys = [cur ++ ys] := by
  intro ys
  induction ys with
  | nil => intro cur _; rw [splitI, List.append_nil]
  | cons y ys ih =>
    intro cur h
    rw [splitI, if_neg (h y (List.mem_cons_self ..)), ih _ (fun x hx => h x (List.mem_cons_of_mem _ hx)), List.append_assoc]
    rfl
theorem splitI_hit {c : Int} (ys : List Int) : ∀ (p cur : List Int), (∀ x ∈ p, x ≠ c) → splitI c cur (p ++ c :: ys) = (cur ++ p) :: splitI c [] ys := by
  intro p
  induction p with
  | nil => intro cur _; rw [List.nil_append, splitI, if_pos rfl, List.append_nil]
  | cons y p ih =>
    intro cur h
    rw [List.cons_append, splitI, if_neg (h y (List.mem_cons_self ..)), ih _ (fun x hx => h x (List.mem_cons_of_mem _ hx)), List.append_assoc]
    rfl
theorem split_one (c : UInt8) : ∀ (n : Nat) (s : ByteArray), s.size ≤ n → (Go.Lib.splitB ⟨#[c]⟩ 0 (Go.Lib.countB s ⟨#[c]⟩) s).map bytesOf = splitI (c.toNat : Int) [] (bytesOf s) := by
  intro n
  induction n with
  | zero =>
    intro s hs
    have hz : bytesOf s = [] := List.length_eq_zero_iff.1 (by rw [bx_len]; omega)
    rcases Go.Lib.indexB_cases s ⟨#[c]⟩ with h | ⟨i, h, hi⟩
    · rw [Go.Lib.countB_miss _ _ h, Go.Lib.splitB_zero, List.map_cons, List.map_nil, hz]
      rfl
    · have : (⟨#[c]⟩ : ByteArray).size = 1 := rfl
      omega
  | succ n ih =>
    intro s hs
    have hsz : (⟨#[c]⟩ : ByteArray).size = 1 := rfl
    have hone : Go.Lib.indexB s ⟨#[c]⟩ = Go.Lib.indexByte s.data.toList c := Go.Lib.index_one s.data.toList c
    rcases Go.Lib.indexB_cases s ⟨#[c]⟩ with h | ⟨i, h, hi⟩
    · rw [Go.Lib.countB_miss _ _ h, Go.Lib.splitB_zero, List.map_cons, List.map_nil, splitI_no]
      · rfl
      · intro x hx e
        rw [hone] at h
        unfold bytesOf at hx
        obtain ⟨b, hb, rfl⟩ := List.mem_map.1 hx
        obtain ⟨k, hk, e2⟩ := List.getElem_of_mem hb
        refine Go.Lib.indexByte_none h k ?_
        rw [List.getElem?_eq_getElem hk, e2]
        congr 1
        exact UInt8.toNat_inj.1 (by omega)
    · rw [Go.Lib.countB_hit s ⟨#[c]⟩ i (by omega) h, Nat.add_comm 1, Go.Lib.splitB_hit _ _ _ _ i h, List.map_cons, hsz]
      have hr : (s.extract (i + 1) s.size).size ≤ n := by rw [ByteArray.size_extract]; omega
      rw [ih _ hr, bx_cut, bx_cut]
      rw [hone] at h
      obtain ⟨h1, h2⟩ := Go.Lib.indexByte_some h
      have hb : bytesOf s = (bytesOf s).take i ++ (c.toNat : Int) :: (bytesOf s).drop (i + 1) := by
        have hl : i < (bytesOf s).length := by rw [bx_len]; omega
        have e : (bytesOf s)[i] = (c.toNat : Int) := by
          have : (bytesOf s)[i]? = some (c.toNat : Int) := by
            unfold bytesOf
            rw [List.getElem?_map, h1]
            rfl
          rw [List.getElem?_eq_getElem hl] at this
          exact Option.some.inj this
        rw [← e, ← List.drop_eq_getElem_cons hl, List.take_append_drop]
      have hno : ∀ x ∈ (bytesOf s).take i, x ≠ (c.toNat : Int) := by
        intro x hx e
        obtain ⟨k, hk, e2⟩ := List.getElem_of_mem hx
        have hk2 : k < i := by rw [List.length_take] at hk; omega
        have hk3 : k < s.data.toList.length := by
          rw [List.length_take, bx_len] at hk
          have : s.data.toList.length = s.size := Array.length_toList
          omega
        refine h2 k hk2 ?_
        rw [List.getElem?_eq_getElem hk3]
        congr 1
        apply UInt8.toNat_inj.1
        rw [List.getElem_take] at e2
        have e3 : (bytesOf s)[k]'(by rw [bx_len]; have : s.data.toList.length = s.size := Array.length_toList; omega) = ((s.data.toList[k]).toNat : Int) := by
          unfold bytesOf
          rw [List.getElem_map]
        rw [e3] at e2
        omega
      conv => rhs; rw [hb]
      rw [splitI_hit _ _ _ hno, List.nil_append, List.drop_zero, Nat.add_zero, List.take_of_length_le (show (bytesOf s).length ≤ s.size by rw [bx_len]; omega)]

/-! The lines of a text. -/
def linesI : List Int → List Int → List (List Int)
  | cur, [] => if cur = [] then [] else [cur]
  | cur, x :: ys => if x = 10 then cur :: linesI [] ys else linesI (cur ++ [x]) ys
def dropE (l : List (List Int)) : List (List Int) := if l.getLast? = some [] then l.dropLast else l
theorem splitI_ne (c : Int) : ∀ (ys cur : List Int), splitI c cur ys ≠ [] := by
  intro ys
  induction ys with
  | nil => intro cur; simp [splitI]
  | cons y ys ih =>
    intro cur
    rw [splitI]
    split
    · simp
    · exact ih _
theorem linesI_eq : ∀ (ys cur : List Int), linesI cur ys = dropE (splitI 10 cur ys) := by
  intro ys
  induction ys with
  | nil =>
    intro cur
    unfold linesI dropE splitI
    by_cases h : cur = []
    · subst h; rfl
    · rw [if_neg h, if_neg]
      simpa using h
  | cons y ys ih =>
    intro cur
    rw [linesI, splitI]
    by_cases h : y = 10
    · rw [if_pos h, if_pos h, ih]
      have hn := splitI_ne 10 ys []
      unfold dropE
      cases hs : splitI 10 [] ys with
      | nil => exact absurd hs hn
      | cons a l =>
        rw [List.getLast?_cons_cons, List.dropLast_cons_cons]
        split <;> rfl
    · rw [if_neg h, if_neg h, ih]
theorem map_take_ {α β : Type} (f : α → β) (l : List α) (n : Nat) : (l.take n).map f = (l.map f).take n := List.map_take
theorem impl_lines {s : ByteArray} (hs : s.size ≤ 4000000000) : ∃ R : List ByteArray, impl_LinesOf.f s = some R ∧ R.map bytesOf = (linesI [] (bytesOf s)).take 20 := by
  obtain ⟨t, ht⟩ : ∃ t, Go.Lib.splitB ⟨#[10]⟩ 0 (Go.Lib.countB s ⟨#[10]⟩) s = t := ⟨_, rfl⟩
  have hm : t.map bytesOf = splitI 10 [] (bytesOf s) := by rw [← ht]; exact split_one 10 s.size s (Nat.le_refl _)
  have hl := Go.Lib.splitB_all ⟨#[10]⟩ (by decide) 0 _ s rfl
  have hc := Go.Lib.countB_le ⟨#[10]⟩ (by decide) _ s (Nat.le_refl _)
  rw [ht] at hl
  unfold impl_LinesOf.f strings_Split.f
  rw [if_pos ⟨hs, by decide⟩, Option.bind_some, ht, w64 (show _ ≤ (t.length : Int) - 1 by omega) (by omega), if_pos (by omega), if_pos (by omega), linesI_eq, ← hm]
  have hlast : (t.map bytesOf).getLast? = some (bytesOf (rdOf ByteArray.empty t ((t.length : Int) - 1))) := by
    rw [List.getLast?_map, List.getLast?_eq_getElem?]
    unfold rdOf
    rw [show ((t.length : Int) - 1).toNat = t.length - 1 by omega, List.getD_eq_getElem?_getD, List.getElem?_eq_getElem (by omega)]
    rfl
  have hmn : ∀ n : Nat, ∀ l : List ByteArray, l.length = n → 0 ≤ mn (n : Int) 20 ∧ mn (n : Int) 20 ≤ (n : Int) ∧ l.take (mn (n : Int) 20).toNat = l.take 20 := by
    intro n l hn
    unfold mn
    by_cases h : (20 : Int) < (n : Int)
    · rw [if_pos h]
      exact ⟨by omega, by omega, rfl⟩
    · rw [if_neg h]
      exact ⟨by omega, by omega, by rw [Int.toNat_natCast, List.take_of_length_le (by omega), List.take_of_length_le (by omega)]⟩
  unfold dropE
  rw [hlast]
  by_cases he : (rdOf ByteArray.empty t ((t.length : Int) - 1)).toList = []
  · have e : bytesOf (rdOf ByteArray.empty t ((t.length : Int) - 1)) = [] := by rw [ByteArray.toList_eq] at he; unfold bytesOf; rw [he]; rfl
    have hd : t.take ((t.length : Int) - 1).toNat = t.dropLast := by rw [List.dropLast_eq_take]; congr 1; omega
    have hk := hmn _ t.dropLast rfl
    rw [if_pos he, if_pos (by omega), Option.bind_some, hd, if_pos hk.1, if_pos hk.2.1, hk.2.2, e, if_pos rfl]
    exact ⟨_, rfl, by rw [map_take_, List.map_dropLast]⟩
  · have e : ¬ some (bytesOf (rdOf ByteArray.empty t ((t.length : Int) - 1))) = some [] := by
      intro h
      apply he
      rw [ByteArray.toList_eq]
      have h := Option.some.inj h
      unfold bytesOf at h
      exact List.map_eq_nil_iff.1 h
    have hk := hmn _ t rfl
    rw [if_neg he, if_pos hk.1, if_pos hk.2.1, hk.2.2, if_neg e]
    exact ⟨_, rfl, by rw [map_take_]⟩
theorem ldrop_snoc {pre : List Int} {b : Nat} (h : b ≤ pre.length) (c : Int) : (pre ++ [c]).drop b = pre.drop b ++ [c] := by
  rw [List.drop_append, show b - pre.length = 0 by omega, List.drop_zero]
theorem spec_lines_l {s : ByteArray} (hs : s.size ≤ 4000000000) : ∀ (ys pre : List Int) (out : List ByteArray) (b k : Nat), bytesOf s = pre ++ ys → b ≤ pre.length → out.length ≤ 20 → 2 * ys.length + 2 < k →
    ∃ R : List ByteArray, spec_LinesOf.l0 k s out (b : Int) (pre.length : Int) = some (out ++ R) ∧ R.map bytesOf = (linesI (pre.drop b) ys).take (20 - out.length) := by
  have stop : ∀ (pre : List Int) (out : List ByteArray) (b k : Nat), out.length = 20 → (b : Int) ≤ (pre.length : Int) → spec_LinesOf.j1 (k + 1) s out (b : Int) (pre.length : Int) false = some out := by
    intro pre out b k ho hb
    simp only [spec_LinesOf.j1]
    rw [if_neg (by decide)]
    split
    · rw [if_neg (by omega)]
    · rfl
  intro ys
  induction ys with
  | nil =>
    intro pre out b k h hb ho hk
    have he := bx_end h
    have hz : bytesOf s = pre := by rw [h, List.append_nil]
    obtain ⟨k, rfl⟩ : ∃ m, k = m + 2 := ⟨k - 2, by omega⟩
    simp only [spec_LinesOf.l0]
    rw [if_neg (by omega)]
    by_cases h20 : out.length = 20
    · rw [stop pre out b k h20 (by omega)]
      exact ⟨[], by rw [List.append_nil], by rw [h20]; rfl⟩
    · simp only [spec_LinesOf.j1]
      rw [if_neg (by decide)]
      by_cases hlt : (b : Int) < (s.size : Int)
      · rw [if_pos hlt, if_pos (by omega), if_pos (by omega), if_pos (by omega), if_pos (by omega), Int.toNat_natCast]
        refine ⟨[s.extract b s.size], rfl, ?_⟩
        have hne : ¬ pre.drop b = [] := by
          intro h2
          have := congrArg List.length h2
          rw [List.length_drop, List.length_nil] at this
          omega
        rw [linesI, if_neg hne, List.take_of_length_le (by rw [List.length_singleton]; omega), List.map_cons, List.map_nil, bx_cut, hz, List.take_of_length_le (by omega)]
      · rw [if_neg hlt]
        refine ⟨[], by rw [List.append_nil], ?_⟩
        rw [linesI, if_pos (by rw [List.drop_of_length_le]; omega), List.take_nil]
        rfl
  | cons c ys ih =>
    intro pre out b k h hb ho hk
    have hlt := bx_lt h
    rw [List.length_cons] at hk
    obtain ⟨k, rfl⟩ : ∃ m, k = m + 2 := ⟨k - 2, by omega⟩
    simp only [spec_LinesOf.l0]
    rw [if_pos hlt]
    by_cases h20 : out.length = 20
    · rw [decide_eq_false (by omega), stop pre out b k h20 (by omega)]
      exact ⟨[], by rw [List.append_nil], by rw [h20]; rfl⟩
    · rw [decide_eq_true (by omega)]
      simp only [spec_LinesOf.j1]
      rw [if_pos trivial, if_pos (by omega), if_pos hlt, bx_at h, w64 (show _ ≤ (pre.length : Int) + 1 by omega) (by omega)]
      have hl1 : (pre.length : Int) + 1 = ((pre ++ [c]).length : Int) := by rw [List.length_append, List.length_singleton]; omega
      by_cases h10 : c = 10
      · rw [if_pos h10, if_pos (by omega), if_pos (by omega), if_pos (by omega), if_pos (by omega), Int.toNat_natCast, Int.toNat_natCast, hl1]
        obtain ⟨R, e, hR⟩ := ih (pre ++ [c]) (out ++ [s.extract b pre.length]) (pre ++ [c]).length k (bx_next h) (Nat.le_refl _) (by rw [List.length_append, List.length_singleton]; omega) (by omega)
        refine ⟨s.extract b pre.length :: R, by rw [e, List.append_assoc]; rfl, ?_⟩
        rw [List.drop_of_length_le (Nat.le_refl _), List.length_append, List.length_singleton] at hR
        rw [linesI, if_pos h10, show 20 - out.length = (20 - (out.length + 1)) + 1 by omega, List.take_succ_cons, List.map_cons, hR, bx_cut, h, List.take_left]
      · rw [if_neg h10, hl1]
        obtain ⟨R, e, hR⟩ := ih (pre ++ [c]) out b k (bx_next h) (by rw [List.length_append]; omega) ho (by omega)
        refine ⟨R, e, ?_⟩
        rw [linesI, if_neg h10, hR, ldrop_snoc hb]
theorem lbytes_inj {a b : List ByteArray} (h : a.map bytesOf = b.map bytesOf) : a = b := (List.map_inj_right (f := bytesOf) (fun _ _ e => bx_inj e)).1 h
theorem lines_ok {s : ByteArray} (hs : s.size ≤ 4000000000) : ∃ R : List ByteArray, R.length ≤ 20 ∧ R.map bytesOf = (linesI [] (bytesOf s)).take 20 ∧ impl_LinesOf.f s = some R ∧ ∀ k, 2 * s.size + 3 ≤ k → spec_LinesOf.f k s = some R := by
  obtain ⟨R, e, hR⟩ := impl_lines hs
  have hl : R.length ≤ 20 := by
    have := congrArg List.length hR
    rw [List.length_map, List.length_take] at this
    omega
  refine ⟨R, hl, hR, e, fun k hk => ?_⟩
  obtain ⟨R2, e2, hR2⟩ := spec_lines_l hs (bytesOf s) [] [] 0 k rfl (by omega) (by rw [List.length_nil]; omega) (by rw [bx_len]; omega)
  have : R2 = R := lbytes_inj (by rw [hR2, hR]; rfl)
  unfold spec_LinesOf.f
  rw [this] at e2
  exact e2

theorem sameTexts_l : ∀ (ys pre : List ByteArray) (k : Nat), (pre ++ ys).length ≤ 100000000 → ys.length < k → laws_sameTexts.l0 k (pre ++ ys) (pre ++ ys) (pre.length : Int) = some true := by
  intro ys
  induction ys with
  | nil =>
    intro pre k hl hk
    obtain ⟨k, rfl⟩ := succ_of hk
    simp only [laws_sameTexts.l0]
    rw [if_neg (len_nil pre)]
  | cons y ys ih =>
    intro pre k hl hk
    obtain ⟨k, rfl⟩ := succ_of hk
    rw [List.length_cons] at hk
    simp only [laws_sameTexts.l0]
    rw [if_pos (len_cons pre ys y), if_pos (by omega), if_pos (len_cons pre ys y), if_pos trivial, len_succ pre ys y (by omega), app_cons]
    exact ih (pre ++ [y]) k (by rw [← app_cons]; exact hl) (by omega)
theorem sameTexts_k {l : List ByteArray} (hl : l.length ≤ 100000000) {k : Nat} (hk : l.length < k) : laws_sameTexts.f k l l = some true := by
  unfold laws_sameTexts.f
  rw [if_pos rfl]
  exact sameTexts_l l [] k hl hk

theorem and255_in (x : Int) : 0 ≤ Go.bits .and .i64 x 255 ∧ Go.bits .and .i64 x 255 ≤ 255 := by
  simp only [Go.bits]
  rw [IntKind.wrap_i64]
  have h : (BitVec.ofInt IntKind.i64.bits x &&& BitVec.ofInt IntKind.i64.bits 255).toNat ≤ 255 := by
    rw [BitVec.toNat_and]
    exact Nat.le_trans Nat.and_le_right (by decide)
  omega
/-- The drawn bytes are bytes, and no more than can be. -/
def IsCode (b : List Int) : Prop := b.length ≤ 9223372036854775807

theorem byte_ok {b : List Int} (hb : IsCode b) {i : Int} (hi : 0 ≤ i) (h : Int) : ∃ r i' h', spec_l01Byte.f b i h = some (r, i', h') ∧ 0 ≤ r ∧ r ≤ 255 ∧ 0 ≤ i' := by
  unfold IsCode at hb
  unfold spec_l01Byte.f
  by_cases h1 : i < (b.length : Int)
  · rw [if_pos h1, if_pos hi]
    refine ⟨_, _, _, rfl, (and255_in _).1, (and255_in _).2, ?_⟩
    rw [w64 (by omega) (by omega)]
    omega
  · rw [if_neg h1]
    exact ⟨_, _, _, rfl, (and255_in _).1, (and255_in _).2, hi⟩
theorem below_ok {b : List Int} (hb : IsCode b) {i : Int} (hi : 0 ≤ i) (h : Int) {n : Int} (h0 : 0 < n) (h1 : n ≤ 4294967296) :
    ∃ r i' h', spec_l01Below.f b i h n = some (r, i', h') ∧ 0 ≤ r ∧ r < n ∧ 0 ≤ i' := by
  unfold spec_l01Below.f
  rw [if_neg (by omega)]
  obtain ⟨r1, i1, h1', e1, a1, b1, c1⟩ := byte_ok hb hi h
  by_cases hn : n ≤ 256
  · rw [if_pos hn, e1, Option.bind_some, if_neg (by omega)]
    refine ⟨_, _, _, rfl, ?_, ?_, c1⟩
    · rw [Int.tmod_eq_emod_of_nonneg a1]; exact Int.emod_nonneg _ (by omega)
    · rw [Int.tmod_eq_emod_of_nonneg a1]; exact Int.emod_lt_of_pos _ h0
  · rw [if_neg hn, e1, Option.bind_some]
    obtain ⟨r2, i2, h2', e2, a2, b2, c2⟩ := byte_ok hb c1 h1'
    obtain ⟨r3, i3, h3', e3, a3, b3, c3⟩ := byte_ok hb c2 h2'
    obtain ⟨r4, i4, h4', e4, a4, b4, c4⟩ := byte_ok hb c3 h3'
    dsimp only
    rw [e2, Option.bind_some]
    dsimp only
    rw [e3, Option.bind_some]
    dsimp only
    rw [e4, Option.bind_some, if_neg (by omega)]
    dsimp only
    rw [w64 (show _ ≤ r1 * 16777216 by omega) (by omega), w64 (show _ ≤ r2 * 65536 by omega) (by omega), w64 (show _ ≤ r3 * 256 by omega) (by omega),
      w64 (show _ ≤ r1 * 16777216 + r2 * 65536 by omega) (by omega), w64 (show _ ≤ r1 * 16777216 + r2 * 65536 + r3 * 256 by omega) (by omega), w64 (show _ ≤ r1 * 16777216 + r2 * 65536 + r3 * 256 + r4 by omega) (by omega)]
    refine ⟨_, _, _, rfl, ?_, ?_, c4⟩
    · rw [Int.tmod_eq_emod_of_nonneg (by omega)]; exact Int.emod_nonneg _ (by omega)
    · rw [Int.tmod_eq_emod_of_nonneg (by omega)]; exact Int.emod_lt_of_pos _ h0
theorem new_l {b : List Int} (hb : IsCode b) : ∀ (d : Nat) (k : Nat) (h i : Int), 0 ≤ i → (4000 : Int) - i ≤ d → d < k → ∃ h', spec_l01New.l0 k b h i = some (b, 0, h') := by
  unfold IsCode at hb
  intro d
  induction d with
  | zero =>
    intro k h i hi hd hk
    obtain ⟨k, rfl⟩ := succ_of hk
    simp only [spec_l01New.l0]
    by_cases h1 : i < (b.length : Int)
    · rw [if_pos h1, if_neg (by omega)]; exact ⟨_, rfl⟩
    · rw [if_neg h1]; exact ⟨_, rfl⟩
  | succ d ih =>
    intro k h i hi hd hk
    obtain ⟨k, rfl⟩ := succ_of hk
    simp only [spec_l01New.l0]
    by_cases h1 : i < (b.length : Int)
    · rw [if_pos h1]
      by_cases h2 : i < 4000
      · rw [if_pos h2, if_pos hi, w64 (show _ ≤ i + 1 by omega) (by omega)]
        exact ih k _ (i + 1) (by omega) (by omega) (by omega)
      · rw [if_neg h2]; exact ⟨_, rfl⟩
    · rw [if_neg h1]; exact ⟨_, rfl⟩
theorem new_ok {b : List Int} (hb : IsCode b) : ∃ h', ∀ k, 4001 ≤ k → spec_l01New.f k b = some (b, 0, h') := by
  obtain ⟨h', e⟩ := new_l hb 4000 4001 (wrap64 (38001 + (b.length : Int))) 0 (by omega) (by omega) (by omega)
  refine ⟨h', fun k hk => ?_⟩
  have hm : ∀ k, LeO (spec_l01New.l0 k b (wrap64 (38001 + (b.length : Int))) 0) (spec_l01New.l0 (k + 1) b (wrap64 (38001 + (b.length : Int))) 0) := fun k => by
    have := spec_l01New.mono_l k
    exact this _ _ _
  exact at_rounds (g := fun k => spec_l01New.l0 k b (wrap64 (38001 + (b.length : Int))) 0) hm hk e

theorem pick_ok {b : List Int} (hb : IsCode b) {i : Int} (hi : 0 ≤ i) (h : Int) {l : List ByteArray} (h0 : 0 < l.length) (h1 : l.length ≤ 4294967296) :
    ∃ r i' h', spec_l01Pick.f b i h l = some (r, i', h') ∧ r ∈ l ∧ 0 ≤ i' := by
  unfold spec_l01Pick.f
  obtain ⟨r, i', h', e, a, b', c⟩ := below_ok hb hi h (n := (l.length : Int)) (by omega) (by omega)
  rw [e, Option.bind_some]
  dsimp only
  rw [if_pos a, if_pos b']
  refine ⟨_, _, _, rfl, ?_, c⟩
  unfold rdOf
  rw [List.getD_eq_getElem?_getD, List.getElem?_eq_getElem (by omega)]
  exact List.getElem_mem _

theorem pickInt_ok {b : List Int} (hb : IsCode b) {i : Int} (hi : 0 ≤ i) (h : Int) {l : List Int} (h0 : 0 < l.length) (h1 : l.length ≤ 4294967296) :
    ∃ r i' h', spec_l01PickInt.f b i h l = some (r, i', h') ∧ r ∈ l ∧ 0 ≤ i' := by
  unfold spec_l01PickInt.f
  obtain ⟨r, i', h', e, a, b', c⟩ := below_ok hb hi h (n := (l.length : Int)) (by omega) (by omega)
  rw [e, Option.bind_some]
  dsimp only
  rw [if_pos a, if_pos b']
  refine ⟨_, _, _, rfl, ?_, c⟩
  unfold rd
  rw [List.getD_eq_getElem?_getD, List.getElem?_eq_getElem (by omega)]
  exact List.getElem_mem _

theorem long_l {x n : Int} (hn : n ≤ 100000) : ∀ (d : Nat) (k : Nat) (xs : List Int) (i : Int), 0 ≤ i → n - i ≤ d → (xs.length : Int) = n → d < k → ∃ ys : List Int, spec_l01Long.l0 k n x xs i = some (strOfNums ys) ∧ ys.length = xs.length := by
  intro d
  induction d with
  | zero =>
    intro k xs i hi hd hl hk
    obtain ⟨k, rfl⟩ := succ_of hk
    simp only [spec_l01Long.l0]
    rw [if_neg (by omega)]
    exact ⟨xs, rfl, rfl⟩
  | succ d ih =>
    intro k xs i hi hd hl hk
    obtain ⟨k, rfl⟩ := succ_of hk
    simp only [spec_l01Long.l0]
    by_cases h : i < n
    · rw [if_pos h, if_pos hi, if_pos (by omega), w64 (by omega) (by omega)]
      obtain ⟨ys, e, hy⟩ := ih k (xs.set i.toNat x) (i + 1) (by omega) (by omega) (by rw [List.length_set]; exact hl) (by omega)
      exact ⟨ys, e, by rw [hy, List.length_set]⟩
    · rw [if_neg h]
      exact ⟨xs, rfl, rfl⟩
theorem long_ok {n x : Int} (h0 : 0 ≤ n) (hn : n ≤ 100000) {k : Nat} (hk : 100001 ≤ k) : ∃ s, spec_l01Long.f k n x = some s ∧ (s.size : Int) = n := by
  unfold spec_l01Long.f
  rw [if_pos h0, if_pos (by omega)]
  obtain ⟨ys, e, hy⟩ := long_l hn n.toNat k (List.replicate n.toNat 0) 0 (x := x) (by omega) (by omega) (by rw [List.length_replicate]; omega) (by omega)
  rw [List.length_replicate] at hy
  exact ⟨_, e, by rw [strOfNums_size, hy]; omega⟩
theorem long_ev {n x : Int} (h0 : 0 ≤ n) (hn : n ≤ 100000) : ∃ s, (∀ k, 100001 ≤ k → spec_l01Long.f k n x = some s) ∧ (s.size : Int) = n := by
  obtain ⟨s, e, hs⟩ := long_ok (x := x) h0 hn (Nat.le_refl 100001)
  refine ⟨s, fun k hk => ?_, hs⟩
  have hm : ∀ k, LeO (spec_l01Long.f k n x) (spec_l01Long.f (k + 1) n x) := fun k => spec_l01Long.mono n x k
  exact at_rounds (g := fun k => spec_l01Long.f k n x) hm hk e

theorem once_ok {b : List Int} (hb : IsCode b) {i : Int} (hi : 0 ≤ i) (h : Int) {n : Int} (h0 : 0 < n) (h1 : n ≤ 4294967296) : ∃ r i' h', spec_l01Once.f b i h n = some (r, i', h') ∧ 0 ≤ i' := by
  unfold spec_l01Once.f
  obtain ⟨r, i1, h1, e1, _, _, c1⟩ := below_ok hb hi h h0 h1
  rw [e1, Option.bind_some]
  exact ⟨_, _, _, rfl, c1⟩
theorem pick_sz {b : List Int} (hb : IsCode b) {i : Int} (hi : 0 ≤ i) (h : Int) {l : List ByteArray} (h0 : 0 < l.length) (h1 : l.length ≤ 4294967296) {m : Nat} (hm : ∀ x ∈ l, x.size ≤ m) :
    ∃ r i' h', spec_l01Pick.f b i h l = some (r, i', h') ∧ r.size ≤ m ∧ 0 ≤ i' := by
  obtain ⟨r, i', h', e, hr, c⟩ := pick_ok hb hi h h0 h1
  exact ⟨r, i', h', e, hm r hr, c⟩
theorem line_l {b : List Int} (hb : IsCode b) : ∀ (d : Nat) (k : Nat) (s : ByteArray) (j i h : Int), 0 ≤ j → 5 - j ≤ d → s.size + 7 * d ≤ 100000 → 0 ≤ i → d < k →
    ∃ t i' h', spec_l03Line.l0 k s j b i h = some (t, i', h') ∧ t.size ≤ s.size + 7 * d ∧ 0 ≤ i' := by
  intro d
  induction d with
  | zero =>
    intro k s j i h hj hd hs hi hk
    obtain ⟨k, rfl⟩ := succ_of hk
    simp only [spec_l03Line.l0]
    obtain ⟨r, i1, h1, e1, a1, b1, c1⟩ := below_ok hb hi h (n := 5) (by omega) (by omega)
    rw [e1, Option.bind_some]
    dsimp only
    rw [if_neg (by omega)]
    exact ⟨s, i1, h1, rfl, by omega, c1⟩
  | succ d ih =>
    intro k s j i h hj hd hs hi hk
    obtain ⟨k, rfl⟩ := succ_of hk
    simp only [spec_l03Line.l0]
    obtain ⟨r, i1, h1, e1, a1, b1, c1⟩ := below_ok hb hi h (n := 5) (by omega) (by omega)
    rw [e1, Option.bind_some]
    dsimp only
    by_cases hc : j < r
    · rw [if_pos hc]
      obtain ⟨u, i2, h2, e2, hu, c2⟩ := pick_sz hb c1 h1 (l := [(⟨#[]⟩ : ByteArray), (⟨#[32]⟩ : ByteArray), (⟨#[32, 32]⟩ : ByteArray), (⟨#[9]⟩ : ByteArray)]) (m := 2) (by decide) (by decide)
        (by intro x hx; simp only [List.mem_cons, List.mem_nil_iff, or_false] at hx; rcases hx with rfl | rfl | rfl | rfl <;> decide)
      rw [e2, Option.bind_some]
      dsimp only
      rw [if_pos (by omega)]
      obtain ⟨v, i3, h3, e3, hv, c3⟩ := pick_sz hb c2 h2 (l := [(⟨#[97]⟩ : ByteArray), (⟨#[98]⟩ : ByteArray), (⟨#[97, 98]⟩ : ByteArray), (⟨#[49]⟩ : ByteArray), (⟨#[50]⟩ : ByteArray), (⟨#[51, 48]⟩ : ByteArray), (⟨#[120, 55]⟩ : ByteArray), (⟨#[97, 98, 98, 97]⟩ : ByteArray)]) (m := 4) (by decide) (by decide)
        (by intro x hx; simp only [List.mem_cons, List.mem_nil_iff, or_false] at hx; rcases hx with rfl | rfl | rfl | rfl | rfl | rfl | rfl | rfl <;> decide)
      rw [e3, Option.bind_some]
      dsimp only
      have z1 : (s ++ u).size = s.size + u.size := ByteArray.size_append
      have z2 : (s ++ u ++ v).size = s.size + u.size + v.size := by rw [ByteArray.size_append, z1]
      have z3 : (s ++ u ++ v ++ (⟨#[32]⟩ : ByteArray)).size = s.size + u.size + v.size + 1 := by rw [ByteArray.size_append, z2]; rfl
      rw [if_pos (by omega), if_pos (by omega), w64 (by omega) (by omega)]
      obtain ⟨t, i4, h4, e4, ht, c4⟩ := ih k (s ++ u ++ v ++ (⟨#[32]⟩ : ByteArray)) (j + 1) i3 h3 (by omega) (by omega) (by omega) c3 (by omega)
      exact ⟨t, i4, h4, e4, by omega, c4⟩
    · rw [if_neg hc]
      exact ⟨s, i1, h1, rfl, by omega, c1⟩
theorem line_ok {b : List Int} (hb : IsCode b) {i : Int} (hi : 0 ≤ i) (h : Int) : ∃ t i' h', (∀ k, 6 ≤ k → spec_l03Line.f k b i h = some (t, i', h')) ∧ t.size ≤ 35 ∧ 0 ≤ i' := by
  obtain ⟨t, i', h', e, ht, hi'⟩ := line_l hb 5 6 ⟨#[]⟩ 0 i h (by omega) (by omega) (by decide) hi (by omega)
  refine ⟨t, i', h', fun k hk => ?_, by have : (⟨#[]⟩ : ByteArray).size = 0 := rfl; omega, hi'⟩
  have hm : ∀ k, LeO (spec_l03Line.f k b i h) (spec_l03Line.f (k + 1) b i h) := fun k => spec_l03Line.mono b i h k
  exact at_rounds (g := fun k => spec_l03Line.f k b i h) hm hk e

theorem ltext_l {b : List Int} (hb : IsCode b) : ∀ (d : Nat) (k : Nat) (s : ByteArray) (j i h : Int), 0 ≤ j → 9 - j ≤ d → s.size + 40 * d ≤ 100000 → 0 ≤ i → d + 6 < k →
    ∃ t i' h', spec_l09Text.l0 k s j b i h = some (t, i', h') ∧ t.size ≤ s.size + 40 * d + 4 ∧ 0 ≤ i' := by
  have last : ∀ (s : ByteArray) (i h : Int), s.size ≤ 100000 → 0 ≤ i → ∃ t i' h', ((spec_l01Once.f b i h 6).bind fun bt178 => (if bt178.1 = true then (if s.size + 4 ≤ 9223372036854775807 then (some (s ++ (⟨#[108, 97, 115, 116]⟩ : ByteArray), bt178.2.1, bt178.2.2)) else (none)) else (some (s, bt178.2.1, bt178.2.2)))) = some (t, i', h') ∧ t.size ≤ s.size + 4 ∧ 0 ≤ i' := by
    intro s i h hs hi
    obtain ⟨o, i1, h1, e1, c1⟩ := once_ok hb hi h (n := 6) (by omega) (by omega)
    rw [e1, Option.bind_some]
    dsimp only
    cases o with
    | true => rw [if_pos rfl, if_pos (by omega)]; exact ⟨_, _, _, rfl, by rw [ByteArray.size_append]; exact Nat.le_refl _, c1⟩
    | false => rw [if_neg (by decide)]; exact ⟨_, _, _, rfl, by omega, c1⟩
  intro d
  induction d with
  | zero =>
    intro k s j i h hj hd hs hi hk
    obtain ⟨k, rfl⟩ := succ_of hk
    simp only [spec_l09Text.l0]
    obtain ⟨r, i1, h1, e1, a1, b1, c1⟩ := below_ok hb hi h (n := 9) (by omega) (by omega)
    rw [e1, Option.bind_some]
    dsimp only
    rw [if_neg (by omega)]
    obtain ⟨t, i2, h2, e2, ht, c2⟩ := last s i1 h1 (by omega) c1
    exact ⟨t, i2, h2, e2, by omega, c2⟩
  | succ d ih =>
    intro k s j i h hj hd hs hi hk
    obtain ⟨k, rfl⟩ := succ_of hk
    simp only [spec_l09Text.l0]
    obtain ⟨r, i1, h1, e1, a1, b1, c1⟩ := below_ok hb hi h (n := 9) (by omega) (by omega)
    rw [e1, Option.bind_some]
    dsimp only
    by_cases hc : j < r
    · rw [if_pos hc]
      obtain ⟨u, i2, h2, e2, hu, c2⟩ := line_ok hb c1 h1
      rw [e2 k (by omega), Option.bind_some]
      dsimp only
      have z1 : (s ++ u).size = s.size + u.size := ByteArray.size_append
      have z2 : (s ++ u ++ (⟨#[10]⟩ : ByteArray)).size = s.size + u.size + 1 := by rw [ByteArray.size_append, z1]; rfl
      rw [if_pos (by omega), if_pos (by omega), w64 (by omega) (by omega)]
      obtain ⟨t, i4, h4, e4, ht, c4⟩ := ih k (s ++ u ++ (⟨#[10]⟩ : ByteArray)) (j + 1) i2 h2 (by omega) (by omega) (by omega) c2 (by omega)
      exact ⟨t, i4, h4, e4, by omega, c4⟩
    · rw [if_neg hc]
      obtain ⟨t, i2, h2, e2, ht, c2⟩ := last s i1 h1 (by omega) c1
      exact ⟨t, i2, h2, e2, by omega, c2⟩
theorem ltext_ok {b : List Int} (hb : IsCode b) {i : Int} (hi : 0 ≤ i) (h : Int) : ∃ t i' h', (∀ k, 20 ≤ k → spec_l09Text.f k b i h = some (t, i', h')) ∧ t.size ≤ 400 ∧ 0 ≤ i' := by
  obtain ⟨t, i', h', e, ht, hi'⟩ := ltext_l hb 9 20 ⟨#[]⟩ 0 i h (by omega) (by omega) (by decide) hi (by omega)
  refine ⟨t, i', h', fun k hk => ?_, by have : (⟨#[]⟩ : ByteArray).size = 0 := rfl; omega, hi'⟩
  have hm : ∀ k, LeO (spec_l09Text.f k b i h) (spec_l09Text.f (k + 1) b i h) := fun k => spec_l09Text.mono b i h k
  exact at_rounds (g := fun k => spec_l09Text.f k b i h) hm hk e
theorem drawLines_ok {b : List Int} (hb : IsCode b) : ∃ s, (∀ k, 104001 ≤ k → spec_DrawLinesOf.f k b = some s) ∧ s.size ≤ 1000 := by
  obtain ⟨h', e⟩ := new_ok hb
  obtain ⟨o, i1, h1, e1, c1⟩ := once_ok hb (Int.le_refl 0) h' (n := 8) (by omega) (by omega)
  cases o with
  | true =>
    obtain ⟨n, i2, h2, e2, hn, _⟩ := pickInt_ok hb c1 h1 (l := [0, 19, 20, 21, 25]) (by decide) (by decide)
    have hn2 : 0 ≤ n ∧ n ≤ 25 := by
      simp only [List.mem_cons, List.mem_nil_iff, or_false] at hn
      omega
    obtain ⟨s, es, hs⟩ := long_ev (x := 10) hn2.1 (by omega)
    refine ⟨s ++ (⟨#[120]⟩ : ByteArray), fun k hk => ?_, by rw [ByteArray.size_append]; show s.size + 1 ≤ _; omega⟩
    unfold spec_DrawLinesOf.f
    rw [e k (by omega), Option.bind_some]
    dsimp only
    rw [e1, Option.bind_some]
    dsimp only
    rw [if_pos rfl, e2, Option.bind_some]
    dsimp only
    rw [es k (by omega), Option.bind_some, if_pos (by omega)]
  | false =>
    obtain ⟨t, i2, h2, e2, ht, _⟩ := ltext_ok hb c1 h1
    refine ⟨t, fun k hk => ?_, by omega⟩
    unfold spec_DrawLinesOf.f
    rw [e k (by omega), Option.bind_some]
    dsimp only
    rw [e1, Option.bind_some]
    dsimp only
    rw [if_neg (by decide), e2 k (by omega), Option.bind_some]

def joinI : List (List Int) → List Int
  | [] => []
  | l :: ls => l ++ 10 :: joinI ls
theorem join_or : ∀ (ys cur : List Int) (n : Nat), (∃ r, joinI ((linesI cur ys).take n) ++ r = cur ++ ys) ∨ joinI ((linesI cur ys).take n) = cur ++ ys ++ [10] := by
  intro ys
  induction ys with
  | nil =>
    intro cur n
    rw [linesI]
    by_cases h : cur = []
    · rw [if_pos h, List.take_nil]
      exact .inl ⟨[], by rw [h]; rfl⟩
    · rw [if_neg h]
      cases n with
      | zero => exact .inl ⟨cur, by rw [List.append_nil]; rfl⟩
      | succ n =>
        right
        rw [List.take_succ_cons, List.take_nil, List.append_nil]
        rfl
  | cons y ys ih =>
    intro cur n
    rw [linesI]
    by_cases h : y = 10
    · rw [if_pos h]
      cases n with
      | zero => exact .inl ⟨cur ++ y :: ys, rfl⟩
      | succ n =>
        rw [List.take_succ_cons, joinI]
        rcases ih [] n with ⟨r, hr⟩ | hr
        · exact .inl ⟨r, by rw [List.append_assoc, List.cons_append, hr, h]; rfl⟩
        · right
          rw [hr, h]
          simp
    · rw [if_neg h]
      have := ih (cur ++ [y]) n
      rw [List.append_assoc] at this
      exact this
def joinT : List ByteArray → ByteArray → ByteArray
  | [], t => t
  | l :: ls, t => joinT ls (t ++ l ++ (⟨#[10]⟩ : ByteArray))
theorem joinT_bytes : ∀ (ls : List ByteArray) (t : ByteArray), bytesOf (joinT ls t) = bytesOf t ++ joinI (ls.map bytesOf) := by
  intro ls
  induction ls with
  | nil => intro t; rw [joinT, List.map_nil, joinI, List.append_nil]
  | cons l ls ih =>
    intro t
    rw [joinT, ih, bx_app, bx_app, List.map_cons, joinI, List.append_assoc, List.append_assoc]
    rfl
theorem lines_size : ∀ (ys cur : List Int) (l : List Int), l ∈ linesI cur ys → l.length ≤ cur.length + ys.length := by
  intro ys
  induction ys with
  | nil =>
    intro cur l h
    rw [linesI] at h
    split at h
    · cases h
    · have : l = cur := by simpa using h
      rw [this, List.length_nil]
      omega
  | cons y ys ih =>
    intro cur l h
    rw [linesI] at h
    split at h
    · rcases List.mem_cons.1 h with rfl | h
      · omega
      · have := ih [] l h
        rw [List.length_nil] at this
        rw [List.length_cons]
        omega
    · have := ih (cur ++ [y]) l h
      rw [List.length_append, List.length_singleton] at this
      rw [List.length_cons]
      omega
theorem bytes_len_eq {l : List ByteArray} {L : List (List Int)} (h : l.map bytesOf = L) : l.length = L.length := by rw [← h, List.length_map]
theorem lines_ab : ∃ R : List ByteArray, impl_LinesOf.f (⟨#[97, 10, 98]⟩ : ByteArray) = some R ∧ R.length = 2 := by
  obtain ⟨R, e, h⟩ := impl_lines (s := ⟨#[97, 10, 98]⟩) (by decide)
  exact ⟨R, e, (bytes_len_eq h).trans rfl⟩
theorem lines_empty : ∃ R : List ByteArray, impl_LinesOf.f (⟨#[]⟩ : ByteArray) = some R ∧ R.length = 0 := by
  obtain ⟨R, e, h⟩ := impl_lines (s := ⟨#[]⟩) (by decide)
  exact ⟨R, e, (bytes_len_eq h).trans rfl⟩
theorem lines_l0 {s : ByteArray} (hs : s.size ≤ 1000) {l : List ByteArray} (hl : l.length ≤ 20) (eS : ∀ k, 2 * s.size + 3 ≤ k → spec_LinesOf.f k s = some l) (hsz : ∀ x ∈ l, x.size ≤ 1000)
    (hj : (∃ r, bytesOf (joinT l ⟨#[]⟩) ++ r = bytesOf s) ∨ bytesOf (joinT l ⟨#[]⟩) = bytesOf s ++ [10]) : ∀ (ys pre : List ByteArray) (t : ByteArray) (k : Nat), l = pre ++ ys → joinT ys t = joinT l ⟨#[]⟩ → t.size + 1001 * ys.length ≤ 100000 → ys.length + 3000 < k →
    laws_FnLines.l0 k s l t (pre.length : Int) = some true := by
  intro ys
  induction ys with
  | nil =>
    intro pre t k h ht hz hk
    obtain ⟨k, rfl⟩ := succ_of hk
    rw [List.length_nil] at hk
    rw [joinT] at ht
    obtain ⟨R1, e1, h1⟩ := lines_ab
    obtain ⟨R0, e0, h0⟩ := lines_empty
    simp only [laws_FnLines.l0]
    have hn : ¬ (pre.length : Int) < (l.length : Int) := by rw [h]; exact len_nil pre
    rw [if_neg hn, eS k (by omega), Option.bind_some, sameTexts_k (by omega) (by omega), Option.bind_some, if_pos rfl, if_pos (by omega), e1, e0]
    rw [← ht] at hj
    rcases hj with ⟨r, hr⟩ | hr
    · have hle : t.size ≤ s.size := by
        have := congrArg List.length hr
        rw [List.length_append, bx_len, bx_len] at this
        omega
      have hex : s.extract 0 t.size = t := by
        apply bx_inj
        rw [bx_cut, List.drop_zero, ← hr, ← bx_len t, List.take_left]
      unfold laws_begins.f
      rw [if_pos (by omega), if_pos (by omega), Option.bind_some, Int.toNat_natCast, hex, beq_self_eq_true, if_pos rfl, Option.bind_some, h1, if_pos (by omega), Option.bind_some, h0]
      rfl
    · have hlen : t.size = s.size + 1 := by
        have := congrArg List.length hr
        rw [List.length_append, bx_len, bx_len] at this
        exact this
      have he : t = s ++ (⟨#[10]⟩ : ByteArray) := by
        apply bx_inj
        rw [hr, bx_app]
        rfl
      unfold laws_begins.f
      rw [if_neg (by omega), Option.bind_some, if_neg (by decide), if_pos (by omega), if_pos (by rw [he]), Option.bind_some, h1, if_pos (by omega), Option.bind_some, h0]
      rfl
  | cons y ys ih =>
    intro pre t k h ht hz hk
    obtain ⟨k, rfl⟩ := succ_of hk
    rw [List.length_cons] at hk hz
    have hy : y.size ≤ 1000 := hsz y (by rw [h]; exact List.mem_append_right _ (List.mem_cons_self ..))
    have z1 : (t ++ y).size = t.size + y.size := ByteArray.size_append
    have z2 : (t ++ y ++ (⟨#[10]⟩ : ByteArray)).size = t.size + y.size + 1 := by rw [ByteArray.size_append, z1]; rfl
    have hr : rdOf ByteArray.empty l (pre.length : Int) = y := by rw [h]; exact getD_at pre ys y _
    have hlt : (pre.length : Int) < (l.length : Int) := by rw [h]; exact len_cons pre ys y
    have hsucc : wrap64 ((pre.length : Int) + 1) = ((pre ++ [y]).length : Int) := len_succ pre ys y (by rw [← h]; omega)
    simp only [laws_FnLines.l0]
    rw [if_pos hlt, if_pos (by omega), hr, if_pos (by omega), if_pos (by omega), hsucc]
    exact ih (pre ++ [y]) _ k (by rw [h, app_cons]) (by rw [← ht]; rfl) (by omega) (by omega)
theorem FnLines : laws_FnLines.Pure := by
  intro b hb0 hb1 hb2
  have hb : IsCode b := by unfold IsCode; omega
  obtain ⟨s, es, hs⟩ := drawLines_ok hb
  obtain ⟨l, hl, hR, eI, eS⟩ := lines_ok (s := s) (by omega)
  refine ⟨200000, ?_⟩
  unfold laws_FnLines.f laws_big.f
  rw [Option.bind_some]
  by_cases hbig : decide ((b.length : Int) > 1048576) = true
  · rw [if_pos hbig]
  · rw [if_neg hbig, es _ (by omega), Option.bind_some, eI, Option.bind_some]
    have hsz : ∀ x ∈ l, x.size ≤ 1000 := by
      intro x hx
      have h1 : bytesOf x ∈ l.map bytesOf := List.mem_map.2 ⟨x, hx, rfl⟩
      rw [hR] at h1
      have h2 := lines_size (bytesOf s) [] _ (List.mem_of_mem_take h1)
      rw [bx_len, bx_len, List.length_nil] at h2
      omega
    refine lines_l0 hs hl eS hsz ?_ l [] ⟨#[]⟩ 200000 rfl rfl (by show 0 + 1001 * l.length ≤ _; omega) (by omega)
    have h1 := join_or (bytesOf s) [] 20
    rw [← hR, List.nil_append] at h1
    rw [joinT_bytes]
    exact h1

end Go.Proofs.YtodpkfidkilpdaaDoor.Pure
