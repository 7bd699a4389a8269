/- The pure statement of FnExactUnsealed: over numbers and lists, what the printed functions come to is what the law wants, for every input. -/
import Derived.Test.YtjbfppakafkkoaaPFnExactUnsealedx2
set_option linter.unusedVariables false
set_option linter.unusedSimpArgs false
namespace Go.Proofs.Ytjbfppakafkkoaa.Pure
open Go.RowKit Go.Proofs.Ytjbfppakafkkoaa.PFnExactUnsealed Go.Proofs.YtjbfppakafkkoaaW.PrintWords Go.Proofs.YtjbfppakafkkoaaW.PrintLast
/-! Words on strings as lists of numbers. -/
theorem w64 {x : Int} (h0 : -9223372036854775808 ≤ x) (h1 : x ≤ 9223372036854775807) : wrap64 x = x := by
  unfold wrap64
  omega
theorem bx_len (s : ByteArray) : (bytesOf s).length = s.size := bytesOf_length s
theorem bx_byte (s : ByteArray) : ∀ c ∈ bytesOf s, 0 ≤ c ∧ c ≤ 255 := by
  intro c hc
  unfold bytesOf at hc
  obtain ⟨b, _, rfl⟩ := List.mem_map.1 hc
  have := b.toNat_lt
  omega
theorem bx_at {s : ByteArray} {pre ys : List Int} {c : Int} (h : bytesOf s = pre ++ c :: ys) : bt s (pre.length : Int) = c := by
  rw [← rd_bytesOf, h, rd, Int.toNat_natCast, List.getD_eq_getElem?_getD, List.getElem?_append_right (Nat.le_refl _)]
  simp
theorem bx_lt {s : ByteArray} {pre ys : List Int} {c : Int} (h : bytesOf s = pre ++ c :: ys) : (pre.length : Int) < (s.size : Int) := by
  have := congrArg List.length h
  rw [bx_len, List.length_append, List.length_cons] at this
  omega
theorem bx_end {s : ByteArray} {pre : List Int} (h : bytesOf s = pre ++ []) : (s.size : Int) = (pre.length : Int) := by
  have := congrArg List.length h
  rw [bx_len, List.append_nil] at this
  omega
theorem bx_next {s : ByteArray} {pre ys : List Int} {c : Int} (h : bytesOf s = pre ++ c :: ys) : bytesOf s = (pre ++ [c]) ++ ys := by
  rw [h, List.append_assoc]; rfl
theorem len_next (pre : List Int) (c : Int) : ((pre ++ [c]).length : Int) = (pre.length : Int) + 1 := by
  rw [List.length_append, List.length_singleton]; omega
theorem bx_inj {s t : ByteArray} (h : bytesOf s = bytesOf t) : s = t := by
  unfold bytesOf at h
  have h2 : s.data.toList = t.data.toList := by
    refine (List.map_inj_right (f := fun b : UInt8 => (b.toNat : Int)) ?_).1 h
    intro x y hxy
    exact UInt8.toNat_inj.1 (Int.ofNat_inj.1 hxy)
  exact ByteArray.ext (Array.toList_inj.1 h2)
theorem tl_inj {s t : ByteArray} (h : s.toList = t.toList) : s = t := by
  rw [ByteArray.toList_eq, ByteArray.toList_eq] at h
  exact ByteArray.ext (Array.toList_inj.1 h)
theorem tl_iff {s t : ByteArray} : s.toList = t.toList ↔ bytesOf s = bytesOf t := ⟨fun h => by rw [tl_inj h], fun h => by rw [bx_inj h]⟩
theorem bx_app (s t : ByteArray) : bytesOf (s ++ t) = bytesOf s ++ bytesOf t := by
  simp [bytesOf]
theorem bx_cut (s : ByteArray) (a b : Nat) : bytesOf (s.extract a b) = ((bytesOf s).take b).drop a := by
  simp [bytesOf, ByteArray.data_extract, List.map_drop, List.map_take, List.take_drop]
  rw [List.drop_take, List.drop_take]
  congr 1
  omega
theorem bx_str {xs : List Int} (h : ∀ c ∈ xs, 0 ≤ c ∧ c ≤ 255) : bytesOf (strOfNums xs) = xs := by
  unfold bytesOf
  rw [strOfNums_data, List.map_map]
  induction xs with
  | nil => rfl
  | cons c xs ih =>
    rw [List.map_cons, ih (fun d hd => h d (List.mem_cons_of_mem _ hd))]
    have hc := h c (List.mem_cons_self ..)
    congr 1
    have e : (UInt8.ofNat c.toNat).toNat = c.toNat := by
      rw [UInt8.toNat_ofNat']
      omega
    show ((UInt8.ofNat c.toNat).toNat : Int) = c
    rw [e]
    omega
theorem bx_wrap {s : ByteArray} {pre ys : List Int} {c : Int} (h : bytesOf s = pre ++ c :: ys) (hs : s.size ≤ 140737488351232) : wrap64 ((pre.length : Int) + 1) = ((pre ++ [c]).length : Int) := by
  rw [len_next]
  have := bx_lt h
  exact w64 (by omega) (by omega)
theorem bx_in {s : ByteArray} {pre ys : List Int} {c : Int} (h : bytesOf s = pre ++ c :: ys) : 0 ≤ c ∧ c ≤ 255 :=
  bx_byte s c (by rw [h]; exact List.mem_append_right _ (List.mem_cons_self ..))
theorem succ_of {n k : Nat} (h : n < k) : ∃ m, k = m + 1 := ⟨k - 1, by omega⟩
theorem ev2 {α β : Type} {g : Nat → Option α} {f : Nat → Option β} {a : α} {b : β} (h : Ev g a) (h' : Ev f b) : ∃ k, g k = some a ∧ f k = some b := by
  obtain ⟨K, h⟩ := h
  obtain ⟨K', h'⟩ := h'
  exact ⟨K + K', h _ (by omega), h' _ (by omega)⟩

theorem u32_in {x : Int} (h : (Lit.int .u32 x).wf = true) : 0 ≤ x ∧ x < 4294967296 := by
  simp only [Lit.wf, IntKind.min, IntKind.max, IntKind.signed, IntKind.bits, Bool.and_eq_true, decide_eq_true_eq] at h
  simp at h
  omega
theorem i64_in {x : Int} (h : (Lit.int .i64 x).wf = true) : -9223372036854775808 ≤ x ∧ x ≤ 9223372036854775807 := by
  simp only [Lit.wf, IntKind.min, IntKind.max, IntKind.signed, IntKind.bits, Bool.and_eq_true, decide_eq_true_eq] at h
  simp at h
  omega

/-! The sum, of bytes and of bits. -/
def bit1 (x : Int) : Int := if x % 2 = 1 then Go.bits .xor .u32 (x / 2) 3558460437 else x / 2
def bits8 : Nat → Int → Int
  | 0, x => x
  | n + 1, x => bits8 n (bit1 x)
def sumL (x : Int) (xs : List Int) : Int := xs.foldl (fun x c => bits8 8 (Go.bits .xor .u32 x c)) x
theorem wrap_u32_in (e : Int) : 0 ≤ IntKind.wrap .u32 e ∧ IntKind.wrap .u32 e < 4294967296 := by
  simp only [IntKind.wrap, IntKind.signed, IntKind.bits]
  simp
  omega
theorem xor_in (x y : Int) : 0 ≤ Go.bits .xor .u32 x y ∧ Go.bits .xor .u32 x y < 4294967296 := by
  unfold Go.bits
  split <;> exact wrap_u32_in _
theorem bit1_in {x : Int} (h0 : 0 ≤ x) (h1 : x < 4294967296) : 0 ≤ bit1 x ∧ bit1 x < 4294967296 := by
  unfold bit1
  split
  · exact xor_in _ _
  · omega

theorem spec_SumMore_bits (s : ByteArray) : ∀ (n : Nat) (k : Nat) (x i : Int), 0 ≤ x → x < 4294967296 → 0 ≤ i → n ≤ 8 → n < k →
    ∃ k', k = k' + n + 1 ∧ spec_SumMore.l1 k x s i (8 - (n : Int)) = spec_SumMore.l0 k' (bits8 n x) s (wrap64 (i + 1)) := by
  intro n
  induction n with
  | zero =>
    intro k x i h0 h1 hi hn hk
    obtain ⟨k, rfl⟩ := succ_of hk
    refine ⟨k, rfl, ?_⟩
    simp only [spec_SumMore.l1]
    rw [if_neg (by omega)]
    rfl
  | succ n ih =>
    intro k x i h0 h1 hi hn hk
    obtain ⟨k, rfl⟩ := succ_of hk
    have hb := bit1_in h0 h1
    obtain ⟨k', rfl, hk'⟩ := ih k (bit1 x) i hb.1 hb.2 hi (by omega) (by omega)
    refine ⟨k', by omega, ?_⟩
    simp only [spec_SumMore.l1]
    rw [if_pos (by omega), w64 (by omega) (by omega), show (8 : Int) - ((n + 1 : Nat) : Int) + 1 = 8 - (n : Int) by omega]
    rw [show Int.tmod x 2 = x % 2 from Int.tmod_eq_emod_of_nonneg h0, show Int.tdiv x 2 = x / 2 from Int.tdiv_eq_ediv_of_nonneg h0, show x / 2 % 4294967296 = x / 2 by omega]
    show (if _ then _ else _) = spec_SumMore.l0 k' (bits8 n (bit1 x)) s _
    rw [← hk']
    unfold bit1
    split <;> rfl
theorem spec_SumMore_l {s : ByteArray} (hs : s.size ≤ 140737488351232) : ∀ (ys pre : List Int) (k : Nat) (x : Int), bytesOf s = pre ++ ys → 0 ≤ x → x < 4294967296 → 10 * ys.length < k →
    spec_SumMore.l0 k x s (pre.length : Int) = some (sumL x ys) := by
  intro ys
  induction ys with
  | nil =>
    intro pre k x h h0 h1 hk
    obtain ⟨k, rfl⟩ := succ_of hk
    have he := bx_end h
    simp only [spec_SumMore.l0]
    rw [if_neg (by omega)]
    rfl
  | cons c ys ih =>
    intro pre k x h h0 h1 hk
    obtain ⟨k, rfl⟩ := succ_of hk
    have hlt := bx_lt h
    have hc := bx_in h
    simp only [spec_SumMore.l0]
    rw [if_pos hlt, if_pos (by omega), bx_at h, show c % 4294967296 = c by omega]
    have hx := xor_in x c
    rw [List.length_cons] at hk
    obtain ⟨k', rfl, hk'⟩ := spec_SumMore_bits s 8 k (Go.bits .xor .u32 x c) (pre.length : Int) hx.1 hx.2 (by omega) (by omega) (by omega)
    rw [show (8 : Int) - ((8 : Nat) : Int) = 0 by omega] at hk'
    have hb : ∀ (n : Nat) (y : Int), 0 ≤ y → y < 4294967296 → 0 ≤ bits8 n y ∧ bits8 n y < 4294967296 := by
      intro n
      induction n with
      | zero => intro y a b; exact ⟨a, b⟩
      | succ n ihn => intro y a b; exact ihn _ (bit1_in a b).1 (bit1_in a b).2
    have hb8 := hb 8 _ hx.1 hx.2
    rw [hk', bx_wrap h hs, ih (pre ++ [c]) k' _ (bx_next h) hb8.1 hb8.2 (by omega)]
    rfl
theorem spec_SumMore_ev {s : ByteArray} (hs : s.size ≤ 140737488351232) {x : Int} (h0 : 0 ≤ x) (h1 : x < 4294967296) : Ev (fun k => spec_SumMore.f k x s) (sumL x (bytesOf s)) := by
  refine ⟨10 * s.size + 1, fun k hk => ?_⟩
  exact spec_SumMore_l hs (bytesOf s) [] k x rfl h0 h1 (by rw [bx_len]; omega)

theorem impl_SumMore_bits (s : ByteArray) : ∀ (n : Nat) (k : Nat) (x i : Int), 0 ≤ x → x < 4294967296 → 0 ≤ i → n ≤ 8 → n < k →
    ∃ k', k = k' + n + 1 ∧ impl_SumMore.l1 k x s i (8 - (n : Int)) = impl_SumMore.l0 k' (bits8 n x) s (wrap64 (i + 1)) := by
  intro n
  induction n with
  | zero =>
    intro k x i h0 h1 hi hn hk
    obtain ⟨k, rfl⟩ := succ_of hk
    refine ⟨k, rfl, ?_⟩
    simp only [impl_SumMore.l1]
    rw [if_neg (by omega)]
    rfl
  | succ n ih =>
    intro k x i h0 h1 hi hn hk
    obtain ⟨k, rfl⟩ := succ_of hk
    have hb := bit1_in h0 h1
    obtain ⟨k', rfl, hk'⟩ := ih k (bit1 x) i hb.1 hb.2 hi (by omega) (by omega)
    refine ⟨k', by omega, ?_⟩
    simp only [impl_SumMore.l1]
    rw [if_pos (by omega), w64 (by omega) (by omega), show (8 : Int) - ((n + 1 : Nat) : Int) + 1 = 8 - (n : Int) by omega]
    rw [show Int.tmod x 2 = x % 2 from Int.tmod_eq_emod_of_nonneg h0, show Int.tdiv x 2 = x / 2 from Int.tdiv_eq_ediv_of_nonneg h0, show x / 2 % 4294967296 = x / 2 by omega]
    show (if _ then _ else _) = impl_SumMore.l0 k' (bits8 n (bit1 x)) s _
    rw [← hk']
    unfold bit1
    split <;> rfl
theorem impl_SumMore_l {s : ByteArray} (hs : s.size ≤ 140737488351232) : ∀ (ys pre : List Int) (k : Nat) (x : Int), bytesOf s = pre ++ ys → 0 ≤ x → x < 4294967296 → 10 * ys.length < k →
    impl_SumMore.l0 k x s (pre.length : Int) = some (sumL x ys) := by
  intro ys
  induction ys with
  | nil =>
    intro pre k x h h0 h1 hk
    obtain ⟨k, rfl⟩ := succ_of hk
    have he := bx_end h
    simp only [impl_SumMore.l0]
    rw [if_neg (by omega)]
    rfl
  | cons c ys ih =>
    intro pre k x h h0 h1 hk
    obtain ⟨k, rfl⟩ := succ_of hk
    have hlt := bx_lt h
    have hc := bx_in h
    simp only [impl_SumMore.l0]
    rw [if_pos hlt, if_pos (by omega), bx_at h, show c % 4294967296 = c by omega]
    have hx := xor_in x c
    rw [List.length_cons] at hk
    obtain ⟨k', rfl, hk'⟩ := impl_SumMore_bits s 8 k (Go.bits .xor .u32 x c) (pre.length : Int) hx.1 hx.2 (by omega) (by omega) (by omega)
    rw [show (8 : Int) - ((8 : Nat) : Int) = 0 by omega] at hk'
    have hb : ∀ (n : Nat) (y : Int), 0 ≤ y → y < 4294967296 → 0 ≤ bits8 n y ∧ bits8 n y < 4294967296 := by
      intro n
      induction n with
      | zero => intro y a b; exact ⟨a, b⟩
      | succ n ihn => intro y a b; exact ihn _ (bit1_in a b).1 (bit1_in a b).2
    have hb8 := hb 8 _ hx.1 hx.2
    rw [hk', bx_wrap h hs, ih (pre ++ [c]) k' _ (bx_next h) hb8.1 hb8.2 (by omega)]
    rfl
theorem impl_SumMore_ev {s : ByteArray} (hs : s.size ≤ 140737488351232) {x : Int} (h0 : 0 ≤ x) (h1 : x < 4294967296) : Ev (fun k => impl_SumMore.f k x s) (sumL x (bytesOf s)) := by
  refine ⟨10 * s.size + 1, fun k hk => ?_⟩
  exact impl_SumMore_l hs (bytesOf s) [] k x rfl h0 h1 (by rw [bx_len]; omega)

theorem sumL_in (xs : List Int) : ∀ x : Int, 0 ≤ x → x < 4294967296 → 0 ≤ sumL x xs ∧ sumL x xs < 4294967296 := by
  have hb : ∀ (n : Nat) (y : Int), 0 ≤ y → y < 4294967296 → 0 ≤ bits8 n y ∧ bits8 n y < 4294967296 := by
    intro n
    induction n with
    | zero => intro y a b; exact ⟨a, b⟩
    | succ n ihn => intro y a b; exact ihn _ (bit1_in a b).1 (bit1_in a b).2
  induction xs with
  | nil => intro x a b; exact ⟨a, b⟩
  | cons c xs ih =>
    intro x a b
    have h := hb 8 (Go.bits .xor .u32 x c) (xor_in x c).1 (xor_in x c).2
    exact ih _ h.1 h.2
theorem spec_SumOf_ev {s : ByteArray} (hs : s.size ≤ 140737488351232) : Ev (fun k => spec_SumOf.f k s) (sumL 4294967295 (bytesOf s)) := by
  obtain ⟨K, h⟩ := spec_SumMore_ev hs (x := 4294967295) (by omega) (by omega)
  refine ⟨K, fun k hk => ?_⟩
  have := h k hk
  dsimp only at this ⊢
  unfold spec_SumOf.f
  rw [this, Option.bind_some]

theorem impl_SumOf_ev {s : ByteArray} (hs : s.size ≤ 140737488351232) : Ev (fun k => impl_SumOf.f k s) (sumL 4294967295 (bytesOf s)) := by
  obtain ⟨K, h⟩ := impl_SumMore_ev hs (x := 4294967295) (by omega) (by omega)
  refine ⟨K, fun k hk => ?_⟩
  have := h k hk
  dsimp only at this ⊢
  unfold impl_SumOf.f
  rw [this, Option.bind_some]

def four (x : Int) : List Int := [(x / 16777216) % 256, (x / 65536) % 256, (x / 256) % 256, x % 256]
theorem four_in (x : Int) : ∀ c ∈ four x, 0 ≤ c ∧ c ≤ 255 := by
  intro c hc
  simp only [four, List.mem_cons, List.mem_nil_iff, or_false] at hc
  omega

theorem and255 {x : Int} (h0 : 0 ≤ x) (h1 : x < 4294967296) : Go.bits .and .i64 x 255 = x % 256 :=
  bits_mask .i64 63 (by decide) (fun n a b => by rw [IntKind.wrap_i64]; omega) 8 (by decide) x h0 (by omega)
theorem impl_highFirst_step {x : Int} (h0 : 0 ≤ x) (h1 : x < 4294967296) (k : Nat) (xs : List Int) (i : Int) (hi : 0 ≤ i) (hl : i < (xs.length : Int)) (hm : i ≤ 100) :
    impl_highFirst.l0 (k + 1) x xs i = impl_highFirst.l0 k (x / 256) (xs.set i.toNat (x % 256)) (i - 1) := by
  simp only [impl_highFirst.l0]
  rw [if_pos hi, if_pos hi, if_pos hl, and255 h0 h1, show x % 256 % 256 = x % 256 by omega, w64 (by omega) (by omega)]
theorem impl_highFirst_k {x : Int} (h0 : 0 ≤ x) (h1 : x < 4294967296) {k : Nat} (hk : 5 ≤ k) : impl_highFirst.f k x 4 = some (strOfNums (four x)) := by
  obtain ⟨k, rfl⟩ : ∃ m, k = m + 5 := ⟨k - 5, by omega⟩
  unfold impl_highFirst.f
  rw [if_pos (by omega), if_pos (by decide), w64 (by omega) (by omega)]
  rw [show List.replicate (Int.toNat 4) (0 : Int) = [0, 0, 0, 0] from rfl, show (4 : Int) - 1 = 3 by omega]
  rw [impl_highFirst_step h0 h1 (k + 4) _ 3 (by omega) (by simp) (by omega), show (3 : Int) - 1 = 2 by omega]
  rw [impl_highFirst_step (by omega) (by omega) (k + 3) _ 2 (by omega) (by simp) (by omega), show (2 : Int) - 1 = 1 by omega]
  rw [impl_highFirst_step (by omega) (by omega) (k + 2) _ 1 (by omega) (by simp) (by omega), show (1 : Int) - 1 = 0 by omega]
  rw [impl_highFirst_step (by omega) (by omega) (k + 1) _ 0 (by omega) (by simp) (by omega), show (0 : Int) - 1 = -1 by omega]
  simp only [impl_highFirst.l0]
  rw [if_neg (by omega), show x / 256 / 256 % 256 = x / 65536 % 256 by omega, show x / 256 / 256 / 256 % 256 = x / 16777216 % 256 by omega]
  rfl
theorem impl_Sealed_ev {s : ByteArray} (hs : s.size ≤ 140737488351232) : Ev (fun k => impl_Sealed.f k s) (if s.size ≤ 20000 then (s ++ strOfNums (four (sumL 4294967295 (bytesOf s))), true) else (⟨#[]⟩, false)) := by
  obtain ⟨K, h⟩ := impl_SumOf_ev hs
  refine ⟨K + 5, fun k hk => ?_⟩
  have := h k (by omega)
  have hx := sumL_in (bytesOf s) 4294967295 (by omega) (by omega)
  dsimp only at this ⊢
  unfold impl_Sealed.f
  by_cases hl : s.size ≤ 20000
  · rw [if_neg (by omega), this, Option.bind_some, w64 (by omega) (by omega), impl_highFirst_k hx.1 hx.2 (by omega), Option.bind_some, if_pos hl]
    rw [if_pos (by rw [strOfNums_size]; show s.size + 4 ≤ _; omega)]
  · rw [if_pos (by omega), if_neg hl]

theorem ext_size {s : ByteArray} {a b : Nat} (h : a ≤ b) (hb : b ≤ s.size) : (s.extract a b).size = b - a := by
  rw [← bx_len, bx_cut, List.length_drop, List.length_take, bx_len]
  omega
def unsealM (s : ByteArray) : ByteArray × Bool :=
  if s.size < 4 then (⟨#[]⟩, false) else (if s.size > 20004 then (⟨#[]⟩, false) else
    (if (bytesOf s).drop (s.size - 4) = four (sumL 4294967295 ((bytesOf s).take (s.size - 4))) then (s.extract 0 (s.size - 4), true) else (⟨#[]⟩, false)))
theorem bx_pre (s : ByteArray) (n : Nat) : bytesOf (s.extract 0 n) = (bytesOf s).take n := by rw [bx_cut, List.drop_zero]
theorem bx_suf (s : ByteArray) (n : Nat) : bytesOf (s.extract n s.size) = (bytesOf s).drop n := by rw [bx_cut, List.take_of_length_le (by rw [bx_len]; omega)]

theorem spec_Unsealed_ev {s : ByteArray} (hs : s.size ≤ 140737488351232) : Ev (fun k => spec_Unsealed.f k s) (unsealM s) := by
  by_cases hl : 4 ≤ s.size
  · have hz : (s.extract 0 (s.size - 4)).size = s.size - 4 := ext_size (by omega) (by omega)
    obtain ⟨K, h⟩ := spec_SumOf_ev (s := s.extract 0 (s.size - 4)) (by omega)
    refine ⟨K, fun k hk => ?_⟩
    have h := h k hk
    dsimp only at h ⊢
    unfold spec_Unsealed.f unsealM spec_l02Four.f
    rw [w64 (show _ ≤ (s.size : Int) - 4 by omega) (by omega), if_neg (show ¬ (s.size : Int) - 4 < 0 by omega), if_neg (show ¬ s.size < 4 by omega), show ((s.size : Int) - 4).toNat = s.size - 4 by omega]
    by_cases h2 : s.size > 20004
    · rw [if_pos (by omega), if_pos h2]
    · rw [if_neg (by omega), if_neg h2, if_pos (by omega), if_pos (by omega), h, Option.bind_some, Option.bind_some, bx_pre]
      have e := four_in (sumL 4294967295 ((bytesOf s).take (s.size - 4)))
      have hiff : (s.extract (s.size - 4) s.size).toList = (strOfNums ([sumL 4294967295 ((bytesOf s).take (s.size - 4)) / 16777216 % 256, sumL 4294967295 ((bytesOf s).take (s.size - 4)) / 65536 % 256, sumL 4294967295 ((bytesOf s).take (s.size - 4)) / 256 % 256, sumL 4294967295 ((bytesOf s).take (s.size - 4)) % 256])).toList ↔ (bytesOf s).drop (s.size - 4) = four (sumL 4294967295 ((bytesOf s).take (s.size - 4))) := by
        have e2 := bx_str e
        unfold four at e2 ⊢
        rw [tl_iff, bx_suf, e2]
      by_cases h3 : (bytesOf s).drop (s.size - 4) = four (sumL 4294967295 ((bytesOf s).take (s.size - 4)))
      · rw [if_pos (hiff.2 h3), if_pos h3]
      · rw [if_neg (fun h4 => h3 (hiff.1 h4)), if_neg h3]
  · refine ⟨0, fun k hk => ?_⟩
    dsimp only
    unfold spec_Unsealed.f unsealM
    rw [w64 (show _ ≤ (s.size : Int) - 4 by omega) (by omega), if_pos (by omega), if_pos (by omega)]

theorem app_iff {s t : ByteArray} {n : Nat} (hn : n ≤ s.size) : s.extract 0 n ++ t = s ↔ bytesOf t = (bytesOf s).drop n := by
  constructor
  · intro h
    have h2 := congrArg bytesOf h
    rw [bx_app, bx_pre] at h2
    have h3 := h2.trans (List.take_append_drop n (bytesOf s)).symm
    exact List.append_cancel_left h3
  · intro h
    apply bx_inj
    rw [bx_app, bx_pre, h, List.take_append_drop]
theorem impl_Unsealed_ev {s : ByteArray} (hs : s.size ≤ 140737488351232) : Ev (fun k => impl_Unsealed.f k s) (unsealM s) := by
  by_cases hl : 4 ≤ s.size
  · have hz : (s.extract 0 (s.size - 4)).size = s.size - 4 := ext_size (by omega) (by omega)
    obtain ⟨K, h⟩ := impl_Sealed_ev (s := s.extract 0 (s.size - 4)) (by omega)
    refine ⟨K, fun k hk => ?_⟩
    have h := h k hk
    dsimp only at h ⊢
    unfold impl_Unsealed.f unsealM
    rw [w64 (show _ ≤ (s.size : Int) - 4 by omega) (by omega), if_neg (show ¬ (s.size : Int) - 4 < 0 by omega), if_neg (show ¬ s.size < 4 by omega), show ((s.size : Int) - 4).toNat = s.size - 4 by omega, if_pos (by omega), if_pos (by omega), h, Option.bind_some, hz, bx_pre]
    by_cases h2 : s.size > 20004
    · rw [if_neg (show ¬ s.size - 4 ≤ 20000 by omega), if_pos h2]
      rfl
    · rw [if_pos (show s.size - 4 ≤ 20000 by omega), if_neg h2]
      have e := four_in (sumL 4294967295 ((bytesOf s).take (s.size - 4)))
      have hiff : (s.extract 0 (s.size - 4) ++ strOfNums (four (sumL 4294967295 ((bytesOf s).take (s.size - 4))))).toList = s.toList ↔ (bytesOf s).drop (s.size - 4) = four (sumL 4294967295 ((bytesOf s).take (s.size - 4))) := by
        constructor
        · intro h3
          have := (app_iff (by omega)).1 (tl_inj h3)
          rw [bx_str e] at this
          exact this.symm
        · intro h3
          rw [(app_iff (t := strOfNums (four (sumL 4294967295 ((bytesOf s).take (s.size - 4))))) (by omega)).2 (by rw [bx_str e, h3])]
      by_cases h3 : (bytesOf s).drop (s.size - 4) = four (sumL 4294967295 ((bytesOf s).take (s.size - 4)))
      · rw [if_pos h3]
        simp only [if_true]
        rw [if_pos (hiff.2 h3)]
      · rw [if_neg h3]
        simp only [if_true]
        rw [if_neg (fun h4 => h3 (hiff.1 h4))]
  · refine ⟨0, fun k hk => ?_⟩
    dsimp only
    unfold impl_Unsealed.f unsealM
    rw [w64 (show _ ≤ (s.size : Int) - 4 by omega) (by omega), if_pos (by omega), if_pos (by omega)]

theorem FnExactUnsealed : laws_FnExactUnsealed.Pure := by
  intro s hs
  obtain ⟨k, h, h'⟩ := ev2 (spec_Unsealed_ev hs) (impl_Unsealed_ev hs)
  refine ⟨k, ?_⟩
  unfold laws_FnExactUnsealed.f
  rw [h, h']
  simp

end Go.Proofs.Ytjbfppakafkkoaa.Pure
