/- The pure statement of FnExactShortText: over numbers and lists, what the printed functions come to is what the law wants, for every input. -/
import Derived.Test.YtipegeaimloobaaPFnExactShortTextx1
set_option linter.unusedVariables false
set_option linter.unusedSimpArgs false
namespace Go.Proofs.Ytipegeaimloobaa.Pure
open Go.RowKit Go.Proofs.Ytipegeaimloobaa.PFnExactShortText Go.Proofs.YtipegeaimloobaaW.PrintWords Go.Proofs.YtipegeaimloobaaW.PrintLast
/-! Words on strings as lists of numbers. -/
theorem w64 {x : Int} (h0 : -9223372036854775808 ≤ x) (h1 : x ≤ 9223372036854775807) : wrap64 x = x := by
  unfold wrap64
  omega
theorem bx_len (s : ByteArray) : (bytesOf s).length = s.size := bytesOf_length s
theorem bx_byte (s : ByteArray) : ∀ c ∈ bytesOf s, 0 ≤ c ∧ c ≤ 255 := by
  intro c hc
  unfold bytesOf at hc
  obtain ⟨b, _, rfl⟩ := List.mem_map.1 hc
  have := b.toNat_lt
  omega
theorem bx_at {s : ByteArray} {pre ys : List Int} {c : Int} (h : bytesOf s = pre ++ c :: ys) : bt s (pre.length : Int) = c := by
  rw [← rd_bytesOf, h, rd, Int.toNat_natCast, List.getD_eq_getElem?_getD, List.getElem?_append_right (Nat.le_refl _)]
  simp
theorem bx_lt {s : ByteArray} {pre ys : List Int} {c : Int} (h : bytesOf s = pre ++ c :: ys) : (pre.length : Int) < (s.size : Int) := by
  have := congrArg List.length h
  rw [bx_len, List.length_append, List.length_cons] at this
  omega
theorem bx_end {s : ByteArray} {pre : List Int} (h : bytesOf s = pre ++ []) : (s.size : Int) = (pre.length : Int) := by
  have := congrArg List.length h
  rw [bx_len, List.append_nil] at this
  omega
theorem bx_next {s : ByteArray} {pre ys : List Int} {c : Int} (h : bytesOf s = pre ++ c :: ys) : bytesOf s = (pre ++ [c]) ++ ys := by
  rw [h, List.append_assoc]; rfl
theorem len_next (pre : List Int) (c : Int) : ((pre ++ [c]).length : Int) = (pre.length : Int) + 1 := by
  rw [List.length_append, List.length_singleton]; omega
theorem bx_inj {s t : ByteArray} (h : bytesOf s = bytesOf t) : s = t := by
  unfold bytesOf at h
  have h2 : s.data.toList = t.data.toList := by
    refine (List.map_inj_right (f := fun b : UInt8 => (b.toNat : Int)) ?_).1 h
    intro x y hxy
    exact UInt8.toNat_inj.1 (Int.ofNat_inj.1 hxy)
  exact ByteArray.ext (Array.toList_inj.1 h2)
theorem tl_inj {s t : ByteArray} (h : s.toList = t.toList) : s = t := by
  rw [ByteArray.toList_eq, ByteArray.toList_eq] at h
  exact ByteArray.ext (Array.toList_inj.1 h)
theorem tl_iff {s t : ByteArray} : s.toList = t.toList ↔ bytesOf s = bytesOf t := ⟨fun h => by rw [tl_inj h], fun h => by rw [bx_inj h]⟩
theorem bx_app (s t : ByteArray) : bytesOf (s ++ t) = bytesOf s ++ bytesOf t := by
  simp [bytesOf]
theorem bx_cut (s : ByteArray) (a b : Nat) : bytesOf (s.extract a b) = ((bytesOf s).take b).drop a := by
  simp [bytesOf, ByteArray.data_extract, List.map_drop, List.map_take, List.take_drop]
  rw [List.drop_take, List.drop_take]
  congr 1
  omega
theorem bx_str {xs : List Int} (h : ∀ c ∈ xs, 0 ≤ c ∧ c ≤ 255) : bytesOf (strOfNums xs) = xs := by
  unfold bytesOf
  rw [strOfNums_data, List.map_map]
  induction xs with
  | nil => rfl
  | cons c xs ih =>
    rw [List.map_cons, ih (fun d hd => h d (List.mem_cons_of_mem _ hd))]
    have hc := h c (List.mem_cons_self ..)
    congr 1
    have e : (UInt8.ofNat c.toNat).toNat = c.toNat := by
      rw [UInt8.toNat_ofNat']
      omega
    show ((UInt8.ofNat c.toNat).toNat : Int) = c
    rw [e]
    omega
theorem bx_wrap {s : ByteArray} {pre ys : List Int} {c : Int} (h : bytesOf s = pre ++ c :: ys) (hs : s.size ≤ 140737488351232) : wrap64 ((pre.length : Int) + 1) = ((pre ++ [c]).length : Int) := by
  rw [len_next]
  have := bx_lt h
  exact w64 (by omega) (by omega)
theorem bx_in {s : ByteArray} {pre ys : List Int} {c : Int} (h : bytesOf s = pre ++ c :: ys) : 0 ≤ c ∧ c ≤ 255 :=
  bx_byte s c (by rw [h]; exact List.mem_append_right _ (List.mem_cons_self ..))
theorem succ_of {n k : Nat} (h : n < k) : ∃ m, k = m + 1 := ⟨k - 1, by omega⟩
theorem ev2 {α β : Type} {g : Nat → Option α} {f : Nat → Option β} {a : α} {b : β} (h : Ev g a) (h' : Ev f b) : ∃ k, g k = some a ∧ f k = some b := by
  obtain ⟨K, h⟩ := h
  obtain ⟨K', h'⟩ := h'
  exact ⟨K + K', h _ (by omega), h' _ (by omega)⟩

theorem u32_in {x : Int} (h : (Lit.int .u32 x).wf = true) : 0 ≤ x ∧ x < 4294967296 := by
  simp only [Lit.wf, IntKind.min, IntKind.max, IntKind.signed, IntKind.bits, Bool.and_eq_true, decide_eq_true_eq] at h
  simp at h
  omega
theorem i64_in {x : Int} (h : (Lit.int .i64 x).wf = true) : -9223372036854775808 ≤ x ∧ x ≤ 9223372036854775807 := by
  simp only [Lit.wf, IntKind.min, IntKind.max, IntKind.signed, IntKind.bits, Bool.and_eq_true, decide_eq_true_eq] at h
  simp at h
  omega

theorem iIn (a b c : Int) : impl_within.f a b c = some (decide (b ≤ a) && decide (a ≤ c)) := by
  unfold impl_within.f
  by_cases h : a ≥ b
  · rw [if_pos h]; simp [show b ≤ a from h]
  · rw [if_neg h]; simp [show ¬ b ≤ a from h]

/-- The bytes of a number, seven bits in each, the lowest first. -/
def varL : Nat → Int → List Int
  | 0, n => [n]
  | f + 1, n => if n > 127 then (n % 128 + 128) :: varL f (n / 128) else [n]
theorem varL_in (f : Nat) : ∀ n : Int, 0 ≤ n → n < 128 ^ (f + 1) → ∀ c ∈ varL f n, 0 ≤ c ∧ c ≤ 255 := by
  induction f with
  | zero =>
    intro n h0 h1 c hc
    have : c = n := by simpa [varL] using hc
    omega
  | succ f ih =>
    intro n h0 h1 c hc
    unfold varL at hc
    split at hc
    · rcases List.mem_cons.1 hc with rfl | hc
      · omega
      · have h3 : n < 128 ^ (f + 1) * 128 := by rw [← Int.pow_succ]; exact h1
        exact ih (n / 128) (by omega) (by omega) c hc
    · have : c = n := by simpa using hc
      omega
theorem varL_len (f : Nat) : ∀ n : Int, (varL f n).length ≤ f + 1 := by
  induction f with
  | zero => intro n; simp [varL]
  | succ f ih =>
    intro n
    unfold varL
    split
    · have := ih (n / 128)
      simp
      omega
    · simp

theorem spec_l01Var_l (f : Nat) : ∀ (k : Nat) (n : Int) (acc : List Int), 0 ≤ n → n < 128 ^ (f + 1) → n ≤ 9223372036854775807 → acc.length + f < 1000 → f < k →
    spec_l01Var.l0 k n acc = some (strOfNums (acc ++ varL f n)) := by
  induction f with
  | zero =>
    intro k n acc h0 h1 hm ha hk
    obtain ⟨k, rfl⟩ := succ_of hk
    simp only [spec_l01Var.l0]
    rw [if_neg (by omega), if_pos (by omega), show n % 256 = n by omega]
    rfl
  | succ f ih =>
    intro k n acc h0 h1 hm ha hk
    obtain ⟨k, rfl⟩ := succ_of hk
    simp only [spec_l01Var.l0]
    by_cases h : n > 127
    · have e : varL (f + 1) n = (n % 128 + 128) :: varL f (n / 128) := by rw [varL, if_pos h]
      have h3 : n < 128 ^ (f + 1) * 128 := by rw [← Int.pow_succ]; exact h1
      rw [if_pos h, if_pos (by omega), Int.tdiv_eq_ediv_of_nonneg h0, Int.tmod_eq_emod_of_nonneg h0, w64 (by omega) (by omega), w64 (by omega) (by omega),
        show (n % 128 + 128) % 256 = n % 128 + 128 by omega, ih k (n / 128) _ (by omega) (by omega) (by omega) (by rw [List.length_append, List.length_singleton]; omega) (by omega), e, List.append_assoc]
      rfl
    · have e : varL (f + 1) n = [n] := by rw [varL, if_neg h]
      rw [if_neg h, if_pos (by omega), show n % 256 = n by omega, e]
theorem spec_l01Var_k {n : Int} (h0 : 0 ≤ n) (h1 : n ≤ 1000000000) {k : Nat} (hk : 4 < k) : spec_l01Var.f k n = some (strOfNums (varL 4 n)) := by
  have := spec_l01Var_l 4 k n [] h0 (by omega) (by omega) (by simp) hk
  exact this

theorem impl_VarText_l (f : Nat) : ∀ (k : Nat) (n : Int) (acc : List Int), 0 ≤ n → n < 128 ^ (f + 1) → n ≤ 9223372036854775807 → acc.length + f < 1000 → f < k →
    impl_VarText.l0 k n acc = some (strOfNums (acc ++ varL f n), true) := by
  induction f with
  | zero =>
    intro k n acc h0 h1 hm ha hk
    obtain ⟨k, rfl⟩ := succ_of hk
    simp only [impl_VarText.l0]
    rw [if_neg (by omega), if_pos (by omega), show n % 256 = n by omega]
    rfl
  | succ f ih =>
    intro k n acc h0 h1 hm ha hk
    obtain ⟨k, rfl⟩ := succ_of hk
    simp only [impl_VarText.l0]
    by_cases h : n > 127
    · have e : varL (f + 1) n = (n % 128 + 128) :: varL f (n / 128) := by rw [varL, if_pos h]
      have h3 : n < 128 ^ (f + 1) * 128 := by rw [← Int.pow_succ]; exact h1
      rw [if_pos h, if_pos (by omega), Int.tdiv_eq_ediv_of_nonneg h0, Int.tmod_eq_emod_of_nonneg h0, w64 (by omega) (by omega), w64 (by omega) (by omega),
        show (n % 128 + 128) % 256 = n % 128 + 128 by omega, ih k (n / 128) _ (by omega) (by omega) (by omega) (by rw [List.length_append, List.length_singleton]; omega) (by omega), e, List.append_assoc]
      rfl
    · have e : varL (f + 1) n = [n] := by rw [varL, if_neg h]
      rw [if_neg h, if_pos (by omega), show n % 256 = n by omega, e]
theorem impl_VarText_k {n : Int} (h0 : 0 ≤ n) (h1 : n ≤ 1000000000) {k : Nat} (hk : 4 < k) : impl_VarText.f k n = some (strOfNums (varL 4 n), true) := by
  have := impl_VarText_l 4 k n [] h0 (by omega) (by omega) (by simp) hk
  unfold impl_VarText.f
  rw [iIn, Option.bind_some, show decide ((0 : Int) ≤ n) = true from decide_eq_true h0, show decide (n ≤ (1000000000 : Int)) = true from decide_eq_true h1]
  exact this
theorem impl_VarText_no {n : Int} (h : n < 0 ∨ 1000000000 < n) (k : Nat) : impl_VarText.f k n = some (⟨#[]⟩, false) := by
  unfold impl_VarText.f
  rw [iIn, Option.bind_some]
  have e : (decide ((0 : Int) ≤ n) && decide (n ≤ (1000000000 : Int))) = false := by
    rcases h with h | h
    · rw [decide_eq_false (show ¬ (0 : Int) ≤ n by omega)]; rfl
    · rw [decide_eq_false (show ¬ n ≤ (1000000000 : Int) by omega), Bool.and_false]
  rw [e, if_neg (by decide)]

theorem FnExactShortText : laws_FnExactShortText.Pure := by
  intro s hs
  refine ⟨5, ?_⟩
  unfold laws_FnExactShortText.f spec_ShortText.f impl_ShortText.f
  split
  · rfl
  · by_cases h : (s.size : Int) > 20000
    · rw [if_pos h, if_pos h]
      simp
    · have hl : (strOfNums (varL 4 (s.size : Int))).size ≤ 5 := by rw [strOfNums_size]; exact varL_len 4 _
      rw [if_neg h, if_neg h, impl_VarText_k (by omega) (by omega) (by omega), spec_l01Var_k (by omega) (by omega) (by omega), Option.bind_some, Option.bind_some,
        if_pos (by omega)]
      simp

end Go.Proofs.Ytipegeaimloobaa.Pure
