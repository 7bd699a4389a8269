/- The pure statement of FnTurned: over numbers and lists, what the printed functions come to is what the law wants, for every input. -/
import Derived.Test.YtekngkljphlliaaQFnTurnedx2
set_option linter.unusedVariables false
set_option linter.unusedSimpArgs false
namespace Go.Proofs.Ytekngkljphlliaa.Pure
open Go.RowKit Go.Proofs.Ytekngkljphlliaa.QFnTurned Go.Proofs.YtekngkljphlliaaW.PrintWords Go.Proofs.YtekngkljphlliaaW.PrintLast
/-! Words on strings as lists of numbers. -/
theorem w64 {x : Int} (h0 : -9223372036854775808 ≤ x) (h1 : x ≤ 9223372036854775807) : wrap64 x = x := by
  unfold wrap64
  omega
theorem bx_len (s : ByteArray) : (bytesOf s).length = s.size := bytesOf_length s
theorem bx_byte (s : ByteArray) : ∀ c ∈ bytesOf s, 0 ≤ c ∧ c ≤ 255 := by
  intro c hc
  unfold bytesOf at hc
  obtain ⟨b, _, rfl⟩ := List.mem_map.1 hc
  have := b.toNat_lt
  omega
theorem bx_at {s : ByteArray} {pre ys : List Int} {c : Int} (h : bytesOf s = pre ++ c :: ys) : bt s (pre.length : Int) = c := by
  rw [← rd_bytesOf, h, rd, Int.toNat_natCast, List.getD_eq_getElem?_getD, List.getElem?_append_right (Nat.le_refl _)]
  simp
theorem bx_lt {s : ByteArray} {pre ys : List Int} {c : Int} (h : bytesOf s = pre ++ c :: ys) : (pre.length : Int) < (s.size : Int) := by
  have := congrArg List.length h
  rw [bx_len, List.length_append, List.length_cons] at this
  omega
theorem bx_end {s : ByteArray} {pre : List Int} (h : bytesOf s = pre ++ []) : (s.size : Int) = (pre.length : Int) := by
  have := congrArg List.length h
  rw [bx_len, List.append_nil] at this
  omega
theorem bx_next {s : ByteArray} {pre ys : List Int} {c : Int} (h : bytesOf s = pre ++ c :: ys) : bytesOf s = (pre ++ [c]) ++ ys := by
  rw [h, List.append_assoc]; rfl
theorem len_next (pre : List Int) (c : Int) : ((pre ++ [c]).length : Int) = (pre.length : Int) + 1 := by
  rw [List.length_append, List.length_singleton]; omega
theorem bx_inj {s t : ByteArray} (h : bytesOf s = bytesOf t) : s = t := by
  unfold bytesOf at h
  have h2 : s.data.toList = t.data.toList := by
    refine (List.map_inj_right (f := fun b : UInt8 => (b.toNat : Int)) ?_).1 h
    intro x y hxy
    exact UInt8.toNat_inj.1 (Int.ofNat_inj.1 hxy)
  exact ByteArray.ext (Array.toList_inj.1 h2)
theorem tl_inj {s t : ByteArray} (h : s.toList = t.toList) : s = t := by
  rw [ByteArray.toList_eq, ByteArray.toList_eq] at h
  exact ByteArray.ext (Array.toList_inj.1 h)
theorem tl_iff {s t : ByteArray} : s.toList = t.toList ↔ bytesOf s = bytesOf t := ⟨fun h => by rw [tl_inj h], fun h => by rw [bx_inj h]⟩
theorem bx_app (s t : ByteArray) : bytesOf (s ++ t) = bytesOf s ++ bytesOf t := by
  simp [bytesOf]
theorem bx_cut (s : ByteArray) (a b : Nat) : bytesOf (s.extract a b) = ((bytesOf s).take b).drop a := by
  simp [bytesOf, ByteArray.data_extract, List.map_drop, List.map_take, List.take_drop]
  rw [List.drop_take, List.drop_take]
  congr 1
  omega
theorem bx_str {xs : List Int} (h : ∀ c ∈ xs, 0 ≤ c ∧ c ≤ 255) : bytesOf (strOfNums xs) = xs := by
  unfold bytesOf
  rw [strOfNums_data, List.map_map]
  induction xs with
  | nil => rfl
  | cons c xs ih =>
    rw [List.map_cons, ih (fun d hd => h d (List.mem_cons_of_mem _ hd))]
    have hc := h c (List.mem_cons_self ..)
    congr 1
    have e : (UInt8.ofNat c.toNat).toNat = c.toNat := by
      rw [UInt8.toNat_ofNat']
      omega
    show ((UInt8.ofNat c.toNat).toNat : Int) = c
    rw [e]
    omega
theorem bx_wrap {s : ByteArray} {pre ys : List Int} {c : Int} (h : bytesOf s = pre ++ c :: ys) (hs : s.size ≤ 140737488351232) : wrap64 ((pre.length : Int) + 1) = ((pre ++ [c]).length : Int) := by
  rw [len_next]
  have := bx_lt h
  exact w64 (by omega) (by omega)
theorem bx_in {s : ByteArray} {pre ys : List Int} {c : Int} (h : bytesOf s = pre ++ c :: ys) : 0 ≤ c ∧ c ≤ 255 :=
  bx_byte s c (by rw [h]; exact List.mem_append_right _ (List.mem_cons_self ..))
theorem succ_of {n k : Nat} (h : n < k) : ∃ m, k = m + 1 := ⟨k - 1, by omega⟩
theorem ev2 {α β : Type} {g : Nat → Option α} {f : Nat → Option β} {a : α} {b : β} (h : Ev g a) (h' : Ev f b) : ∃ k, g k = some a ∧ f k = some b := by
  obtain ⟨K, h⟩ := h
  obtain ⟨K', h'⟩ := h'
  exact ⟨K + K', h _ (by omega), h' _ (by omega)⟩

theorem u32_in {x : Int} (h : (Lit.int .u32 x).wf = true) : 0 ≤ x ∧ x < 4294967296 := by
  simp only [Lit.wf, IntKind.min, IntKind.max, IntKind.signed, IntKind.bits, Bool.and_eq_true, decide_eq_true_eq] at h
  simp at h
  omega
theorem i64_in {x : Int} (h : (Lit.int .i64 x).wf = true) : -9223372036854775808 ≤ x ∧ x ≤ 9223372036854775807 := by
  simp only [Lit.wf, IntKind.min, IntKind.max, IntKind.signed, IntKind.bits, Bool.and_eq_true, decide_eq_true_eq] at h
  simp at h
  omega

/-! The sum, of bytes and of bits. -/
def bit1 (x : Int) : Int := if x % 2 = 1 then Go.bits .xor .u32 (x / 2) 3558460437 else x / 2
def bits8 : Nat → Int → Int
  | 0, x => x
  | n + 1, x => bits8 n (bit1 x)
def sumL (x : Int) (xs : List Int) : Int := xs.foldl (fun x c => bits8 8 (Go.bits .xor .u32 x c)) x
theorem wrap_u32_in (e : Int) : 0 ≤ IntKind.wrap .u32 e ∧ IntKind.wrap .u32 e < 4294967296 := by
  simp only [IntKind.wrap, IntKind.signed, IntKind.bits]
  simp
  omega
theorem xor_in (x y : Int) : 0 ≤ Go.bits .xor .u32 x y ∧ Go.bits .xor .u32 x y < 4294967296 := by
  unfold Go.bits
  split <;> exact wrap_u32_in _
theorem bit1_in {x : Int} (h0 : 0 ≤ x) (h1 : x < 4294967296) : 0 ≤ bit1 x ∧ bit1 x < 4294967296 := by
  unfold bit1
  split
  · exact xor_in _ _
  · omega

/-! One byte of a sealed text turned: its sum is another. -/
theorem xor32 {x y : Int} (hx : 0 ≤ x ∧ x < 4294967296) (hy : 0 ≤ y ∧ y < 4294967296) : Go.bits .xor .u32 x y = ((x.toNat ^^^ y.toNat : Nat) : Int) := by
  simp only [Go.bits]
  rw [IntKind.wrap_u32]
  have e : ∀ z : Int, 0 ≤ z ∧ z < 4294967296 → (BitVec.ofInt IntKind.u32.bits z).toNat = z.toNat := fun z hz => by
    rw [BitVec.toNat_ofInt]
    show (z % (2 ^ 32 : Nat)).toNat = z.toNat
    rw [Int.emod_eq_of_lt hz.1 (by omega)]
  rw [BitVec.toNat_xor, e x hx, e y hy]
  have : x.toNat ^^^ y.toNat < 2 ^ 32 := Nat.xor_lt_two_pow (by omega) (by omega)
  omega
theorem xor8 {x y : Int} (hx : 0 ≤ x ∧ x ≤ 255) (hy : 0 ≤ y ∧ y ≤ 255) : Go.bits .xor .u8 x y = ((x.toNat ^^^ y.toNat : Nat) : Int) := by
  simp only [Go.bits]
  rw [IntKind.wrap_u8]
  have e : ∀ z : Int, 0 ≤ z ∧ z ≤ 255 → (BitVec.ofInt IntKind.u8.bits z).toNat = z.toNat := fun z hz => by
    rw [BitVec.toNat_ofInt]
    show (z % (2 ^ 8 : Nat)).toNat = z.toNat
    rw [Int.emod_eq_of_lt hz.1 (by omega)]
  rw [BitVec.toNat_xor, e x hx, e y hy]
  have : x.toNat ^^^ y.toNat < 2 ^ 8 := Nat.xor_lt_two_pow (by omega) (by omega)
  omega
theorem nxor_left {a b c : Nat} (h : a ^^^ c = b ^^^ c) : a = b := by
  have := congrArg (· ^^^ c) h
  simpa [Nat.xor_assoc] using this
theorem nxor_right {a b c : Nat} (h : c ^^^ a = c ^^^ b) : a = b := by
  rw [Nat.xor_comm c a, Nat.xor_comm c b] at h
  exact nxor_left h
theorem xor8_ne {c z : Int} (hc : 0 ≤ c ∧ c ≤ 255) (hz : 1 ≤ z ∧ z ≤ 255) : Go.bits .xor .u8 c z ≠ c := by
  rw [xor8 hc (by omega)]
  intro h
  have h2 : c.toNat ^^^ z.toNat = c.toNat ^^^ 0 := by rw [Nat.xor_zero]; omega
  have := nxor_right h2
  omega
theorem xor8_in {c z : Int} (hc : 0 ≤ c ∧ c ≤ 255) (hz : 0 ≤ z ∧ z ≤ 255) : 0 ≤ Go.bits .xor .u8 c z ∧ Go.bits .xor .u8 c z ≤ 255 := by
  rw [xor8 hc hz]
  have : c.toNat ^^^ z.toNat < 2 ^ 8 := Nat.xor_lt_two_pow (by omega) (by omega)
  omega
theorem xor_top {a : Nat} (h : a < 2 ^ 31) : 2 ^ 31 ≤ a ^^^ 3558460437 := by
  have : (a ^^^ 3558460437).testBit 31 = true := by
    rw [Nat.testBit_xor, Nat.testBit_lt_two_pow h]
    decide
  exact Nat.ge_two_pow_of_testBit this
theorem bit1_inj {x y : Int} (hx : 0 ≤ x ∧ x < 4294967296) (hy : 0 ≤ y ∧ y < 4294967296) (h : bit1 x = bit1 y) : x = y := by
  unfold bit1 at h
  have tx := xor_top (a := (x / 2).toNat) (by omega)
  have ty := xor_top (a := (y / 2).toNat) (by omega)
  have ex := xor32 (x := x / 2) (y := 3558460437) (by omega) (by omega)
  have ey := xor32 (x := y / 2) (y := 3558460437) (by omega) (by omega)
  rw [show (3558460437 : Int).toNat = 3558460437 from rfl] at ex ey
  by_cases cx : x % 2 = 1
  · by_cases cy : y % 2 = 1
    · rw [if_pos cx, if_pos cy, ex, ey] at h
      have := nxor_left (Int.ofNat_inj.1 h)
      omega
    · rw [if_pos cx, if_neg cy, ex] at h
      omega
  · by_cases cy : y % 2 = 1
    · rw [if_neg cx, if_pos cy, ey] at h
      omega
    · rw [if_neg cx, if_neg cy] at h
      omega
theorem bits8_in : ∀ (n : Nat) (y : Int), 0 ≤ y ∧ y < 4294967296 → 0 ≤ bits8 n y ∧ bits8 n y < 4294967296
  | 0, _, h => h
  | n + 1, y, h => bits8_in n _ (bit1_in h.1 h.2)
theorem bits8_inj : ∀ (n : Nat) {x y : Int}, (0 ≤ x ∧ x < 4294967296) → (0 ≤ y ∧ y < 4294967296) → bits8 n x = bits8 n y → x = y
  | 0, _, _, _, _, h => h
  | n + 1, x, y, hx, hy, h => bit1_inj hx hy (bits8_inj n (bit1_in hx.1 hx.2) (bit1_in hy.1 hy.2) h)
theorem step_in (x c : Int) : 0 ≤ bits8 8 (Go.bits .xor .u32 x c) ∧ bits8 8 (Go.bits .xor .u32 x c) < 4294967296 := bits8_in 8 _ (xor_in x c)
theorem step_inj {x y c : Int} (hx : 0 ≤ x ∧ x < 4294967296) (hy : 0 ≤ y ∧ y < 4294967296) (hc : 0 ≤ c ∧ c ≤ 255) (h : bits8 8 (Go.bits .xor .u32 x c) = bits8 8 (Go.bits .xor .u32 y c)) : x = y := by
  have := bits8_inj 8 (xor_in x c) (xor_in y c) h
  rw [xor32 hx (by omega), xor32 hy (by omega)] at this
  have := nxor_left (Int.ofNat_inj.1 this)
  omega
theorem step_byte {x c d : Int} (hx : 0 ≤ x ∧ x < 4294967296) (hc : 0 ≤ c ∧ c ≤ 255) (hd : 0 ≤ d ∧ d ≤ 255) (h : bits8 8 (Go.bits .xor .u32 x c) = bits8 8 (Go.bits .xor .u32 x d)) : c = d := by
  have := bits8_inj 8 (xor_in x c) (xor_in x d) h
  rw [xor32 hx (by omega), xor32 hx (by omega)] at this
  have := nxor_right (Int.ofNat_inj.1 this)
  omega
theorem sumL_app (x : Int) (xs ys : List Int) : sumL x (xs ++ ys) = sumL (sumL x xs) ys := by
  unfold sumL; rw [List.foldl_append]
theorem sumL_in2 : ∀ (xs : List Int) (x : Int), 0 ≤ x ∧ x < 4294967296 → 0 ≤ sumL x xs ∧ sumL x xs < 4294967296
  | [], _, h => h
  | c :: xs, x, _ => sumL_in2 xs _ (step_in x c)
theorem sumL_inj : ∀ (xs : List Int), (∀ c ∈ xs, 0 ≤ c ∧ c ≤ 255) → ∀ {x y : Int}, (0 ≤ x ∧ x < 4294967296) → (0 ≤ y ∧ y < 4294967296) → sumL x xs = sumL y xs → x = y
  | [], _, _, _, _, _, h => h
  | c :: xs, hb, x, y, hx, hy, h =>
    step_inj hx hy (hb c (List.mem_cons_self ..)) (sumL_inj xs (fun d hd => hb d (List.mem_cons_of_mem _ hd)) (step_in x c) (step_in y c) h)
theorem sumL_turned {x c d : Int} {xs ys : List Int} (hx : 0 ≤ x ∧ x < 4294967296) (hb : ∀ e ∈ ys, 0 ≤ e ∧ e ≤ 255) (hc : 0 ≤ c ∧ c ≤ 255) (hd : 0 ≤ d ∧ d ≤ 255) (h : sumL x (xs ++ c :: ys) = sumL x (xs ++ d :: ys)) : c = d := by
  rw [sumL_app, sumL_app] at h
  have hi := sumL_in2 xs x hx
  exact step_byte hi hc hd (sumL_inj ys hb (step_in _ c) (step_in _ d) h)

def four (x : Int) : List Int := [(x / 16777216) % 256, (x / 65536) % 256, (x / 256) % 256, x % 256]
theorem four_in (x : Int) : ∀ c ∈ four x, 0 ≤ c ∧ c ≤ 255 := by
  intro c hc
  simp only [four, List.mem_cons, List.mem_nil_iff, or_false] at hc
  omega

theorem ext_size {s : ByteArray} {a b : Nat} (h : a ≤ b) (hb : b ≤ s.size) : (s.extract a b).size = b - a := by
  rw [← bx_len, bx_cut, List.length_drop, List.length_take, bx_len]
  omega
def unsealM (s : ByteArray) : ByteArray × Bool :=
  if s.size < 4 then (⟨#[]⟩, false) else (if s.size > 20004 then (⟨#[]⟩, false) else
    (if (bytesOf s).drop (s.size - 4) = four (sumL 4294967295 ((bytesOf s).take (s.size - 4))) then (s.extract 0 (s.size - 4), true) else (⟨#[]⟩, false)))
theorem bx_pre (s : ByteArray) (n : Nat) : bytesOf (s.extract 0 n) = (bytesOf s).take n := by rw [bx_cut, List.drop_zero]
theorem bx_suf (s : ByteArray) (n : Nat) : bytesOf (s.extract n s.size) = (bytesOf s).drop n := by rw [bx_cut, List.take_of_length_le (by rw [bx_len]; omega)]

theorem four_inj {x y : Int} (hx : 0 ≤ x ∧ x < 4294967296) (hy : 0 ≤ y ∧ y < 4294967296) (h : four x = four y) : x = y := by
  simp only [four, List.cons.injEq, and_true] at h
  omega
/-- A sealed text, one of whose bytes is another: it unseals to nothing. -/
theorem unseal_turned {t T : ByteArray} {S A B : List Int} {c d : Int} (hS : ∀ e ∈ S, 0 ≤ e ∧ e ≤ 255) (ht : bytesOf t = S ++ four (sumL 4294967295 S)) (hl : S.length ≤ 20000) (hA : bytesOf t = A ++ c :: B) (hT : bytesOf T = A ++ d :: B) (hc : 0 ≤ c ∧ c ≤ 255) (hd : 0 ≤ d ∧ d ≤ 255) (hne : c ≠ d) : (unsealM T).2 = false := by
  have zt : t.size = S.length + 4 := by rw [← bx_len, ht, List.length_append]; rfl
  have zT : T.size = t.size := by rw [← bx_len, ← bx_len, hA, hT, List.length_append, List.length_append, List.length_cons, List.length_cons]
  unfold unsealM
  rw [if_neg (by omega), if_neg (by omega), show T.size - 4 = S.length by omega]
  by_cases hq : (bytesOf T).drop S.length = four (sumL 4294967295 ((bytesOf T).take S.length))
  · exfalso
    have hr : (0 : Int) ≤ 4294967295 ∧ (4294967295 : Int) < 4294967296 := by omega
    have e1 : (bytesOf t).take S.length = S := by rw [ht, List.take_left']; rfl
    have e2 : (bytesOf t).drop S.length = four (sumL 4294967295 S) := by rw [ht, List.drop_left']; rfl
    by_cases hi : A.length < S.length
    · have f1 : S = A ++ c :: B.take (S.length - A.length - 1) := by
        conv => lhs; rw [← e1, hA]
        rw [List.take_append, List.take_of_length_le (by omega)]
        congr 1
        obtain ⟨m, hm⟩ : ∃ m, S.length - A.length = m + 1 := ⟨S.length - A.length - 1, by omega⟩
        rw [hm, List.take_succ_cons]
        rfl
      have f2 : (bytesOf T).take S.length = A ++ d :: B.take (S.length - A.length - 1) := by
        rw [hT, List.take_append, List.take_of_length_le (by omega)]
        congr 1
        obtain ⟨m, hm⟩ : ∃ m, S.length - A.length = m + 1 := ⟨S.length - A.length - 1, by omega⟩
        rw [hm, List.take_succ_cons]
        rfl
      have f3 : (bytesOf T).drop S.length = (bytesOf t).drop S.length := by
        obtain ⟨m, hm⟩ : ∃ m, S.length - A.length = m + 1 := ⟨S.length - A.length - 1, by omega⟩
        rw [hT, hA, List.drop_append, List.drop_append, hm, List.drop_succ_cons, List.drop_succ_cons]
      rw [f3, e2, f2] at hq
      have hq := four_inj (sumL_in2 _ _ hr) (sumL_in2 _ _ hr) hq
      have hq : sumL 4294967295 (A ++ c :: B.take (S.length - A.length - 1)) = sumL 4294967295 (A ++ d :: B.take (S.length - A.length - 1)) := by rw [← f1]; exact hq
      exact hne (sumL_turned hr (fun e he => hS e (by rw [f1]; exact List.mem_append_right _ (List.mem_cons_of_mem _ he))) hc hd hq)
    · have f2 : (bytesOf T).take S.length = S := by
        conv => rhs; rw [← e1]
        rw [hT, hA, List.take_append_of_le_length (by omega), List.take_append_of_le_length (by omega)]
      rw [f2, ← e2, hT, hA, List.drop_append_of_le_length (by omega), List.drop_append_of_le_length (by omega)] at hq
      have := List.append_cancel_left hq
      injection this with h1 _
      exact hne h1.symm
  · rw [if_neg hq]

theorem impl_SumMore_bits (s : ByteArray) : ∀ (n : Nat) (k : Nat) (x i : Int), 0 ≤ x → x < 4294967296 → 0 ≤ i → n ≤ 8 → n < k →
    ∃ k', k = k' + n + 1 ∧ impl_SumMore.l1 k x s i (8 - (n : Int)) = impl_SumMore.l0 k' (bits8 n x) s (wrap64 (i + 1)) := by
  intro n
  induction n with
  | zero =>
    intro k x i h0 h1 hi hn hk
    obtain ⟨k, rfl⟩ := succ_of hk
    refine ⟨k, rfl, ?_⟩
    simp only [impl_SumMore.l1]
    rw [if_neg (by omega)]
    rfl
  | succ n ih =>
    intro k x i h0 h1 hi hn hk
    obtain ⟨k, rfl⟩ := succ_of hk
    have hb := bit1_in h0 h1
    obtain ⟨k', rfl, hk'⟩ := ih k (bit1 x) i hb.1 hb.2 hi (by omega) (by omega)
    refine ⟨k', by omega, ?_⟩
    simp only [impl_SumMore.l1]
    rw [if_pos (by omega), w64 (by omega) (by omega), show (8 : Int) - ((n + 1 : Nat) : Int) + 1 = 8 - (n : Int) by omega]
    rw [show Int.tmod x 2 = x % 2 from Int.tmod_eq_emod_of_nonneg h0, show Int.tdiv x 2 = x / 2 from Int.tdiv_eq_ediv_of_nonneg h0, show x / 2 % 4294967296 = x / 2 by omega]
    show (if _ then _ else _) = impl_SumMore.l0 k' (bits8 n (bit1 x)) s _
    rw [← hk']
    unfold bit1
    split <;> rfl
theorem impl_SumMore_l {s : ByteArray} (hs : s.size ≤ 140737488351232) : ∀ (ys pre : List Int) (k : Nat) (x : Int), bytesOf s = pre ++ ys → 0 ≤ x → x < 4294967296 → 10 * ys.length < k →
    impl_SumMore.l0 k x s (pre.length : Int) = some (sumL x ys) := by
  intro ys
  induction ys with
  | nil =>
    intro pre k x h h0 h1 hk
    obtain ⟨k, rfl⟩ := succ_of hk
    have he := bx_end h
    simp only [impl_SumMore.l0]
    rw [if_neg (by omega)]
    rfl
  | cons c ys ih =>
    intro pre k x h h0 h1 hk
    obtain ⟨k, rfl⟩ := succ_of hk
    have hlt := bx_lt h
    have hc := bx_in h
    simp only [impl_SumMore.l0]
    rw [if_pos hlt, if_pos (by omega), bx_at h, show c % 4294967296 = c by omega]
    have hx := xor_in x c
    rw [List.length_cons] at hk
    obtain ⟨k', rfl, hk'⟩ := impl_SumMore_bits s 8 k (Go.bits .xor .u32 x c) (pre.length : Int) hx.1 hx.2 (by omega) (by omega) (by omega)
    rw [show (8 : Int) - ((8 : Nat) : Int) = 0 by omega] at hk'
    have hb : ∀ (n : Nat) (y : Int), 0 ≤ y → y < 4294967296 → 0 ≤ bits8 n y ∧ bits8 n y < 4294967296 := by
      intro n
      induction n with
      | zero => intro y a b; exact ⟨a, b⟩
      | succ n ihn => intro y a b; exact ihn _ (bit1_in a b).1 (bit1_in a b).2
    have hb8 := hb 8 _ hx.1 hx.2
    rw [hk', bx_wrap h hs, ih (pre ++ [c]) k' _ (bx_next h) hb8.1 hb8.2 (by omega)]
    rfl
theorem impl_SumMore_ev {s : ByteArray} (hs : s.size ≤ 140737488351232) {x : Int} (h0 : 0 ≤ x) (h1 : x < 4294967296) : Ev (fun k => impl_SumMore.f k x s) (sumL x (bytesOf s)) := by
  refine ⟨10 * s.size + 1, fun k hk => ?_⟩
  exact impl_SumMore_l hs (bytesOf s) [] k x rfl h0 h1 (by rw [bx_len]; omega)

theorem sumL_in (xs : List Int) : ∀ x : Int, 0 ≤ x → x < 4294967296 → 0 ≤ sumL x xs ∧ sumL x xs < 4294967296 := by
  have hb : ∀ (n : Nat) (y : Int), 0 ≤ y → y < 4294967296 → 0 ≤ bits8 n y ∧ bits8 n y < 4294967296 := by
    intro n
    induction n with
    | zero => intro y a b; exact ⟨a, b⟩
    | succ n ihn => intro y a b; exact ihn _ (bit1_in a b).1 (bit1_in a b).2
  induction xs with
  | nil => intro x a b; exact ⟨a, b⟩
  | cons c xs ih =>
    intro x a b
    have h := hb 8 (Go.bits .xor .u32 x c) (xor_in x c).1 (xor_in x c).2
    exact ih _ h.1 h.2

theorem impl_SumOf_ev {s : ByteArray} (hs : s.size ≤ 140737488351232) : Ev (fun k => impl_SumOf.f k s) (sumL 4294967295 (bytesOf s)) := by
  obtain ⟨K, h⟩ := impl_SumMore_ev hs (x := 4294967295) (by omega) (by omega)
  refine ⟨K, fun k hk => ?_⟩
  have := h k hk
  dsimp only at this ⊢
  unfold impl_SumOf.f
  rw [this, Option.bind_some]

theorem and255 {x : Int} (h0 : 0 ≤ x) (h1 : x < 4294967296) : Go.bits .and .i64 x 255 = x % 256 :=
  bits_mask .i64 63 (by decide) (fun n a b => by rw [IntKind.wrap_i64]; omega) 8 (by decide) x h0 (by omega)
theorem impl_highFirst_step {x : Int} (h0 : 0 ≤ x) (h1 : x < 4294967296) (k : Nat) (xs : List Int) (i : Int) (hi : 0 ≤ i) (hl : i < (xs.length : Int)) (hm : i ≤ 100) :
    impl_highFirst.l0 (k + 1) x xs i = impl_highFirst.l0 k (x / 256) (xs.set i.toNat (x % 256)) (i - 1) := by
  simp only [impl_highFirst.l0]
  rw [if_pos hi, if_pos hi, if_pos hl, and255 h0 h1, show x % 256 % 256 = x % 256 by omega, w64 (by omega) (by omega)]
theorem impl_highFirst_k {x : Int} (h0 : 0 ≤ x) (h1 : x < 4294967296) {k : Nat} (hk : 5 ≤ k) : impl_highFirst.f k x 4 = some (strOfNums (four x)) := by
  obtain ⟨k, rfl⟩ : ∃ m, k = m + 5 := ⟨k - 5, by omega⟩
  unfold impl_highFirst.f
  rw [if_pos (by omega), if_pos (by decide), w64 (by omega) (by omega)]
  rw [show List.replicate (Int.toNat 4) (0 : Int) = [0, 0, 0, 0] from rfl, show (4 : Int) - 1 = 3 by omega]
  rw [impl_highFirst_step h0 h1 (k + 4) _ 3 (by omega) (by simp) (by omega), show (3 : Int) - 1 = 2 by omega]
  rw [impl_highFirst_step (by omega) (by omega) (k + 3) _ 2 (by omega) (by simp) (by omega), show (2 : Int) - 1 = 1 by omega]
  rw [impl_highFirst_step (by omega) (by omega) (k + 2) _ 1 (by omega) (by simp) (by omega), show (1 : Int) - 1 = 0 by omega]
  rw [impl_highFirst_step (by omega) (by omega) (k + 1) _ 0 (by omega) (by simp) (by omega), show (0 : Int) - 1 = -1 by omega]
  simp only [impl_highFirst.l0]
  rw [if_neg (by omega), show x / 256 / 256 % 256 = x / 65536 % 256 by omega, show x / 256 / 256 / 256 % 256 = x / 16777216 % 256 by omega]
  rfl
theorem impl_Sealed_ev {s : ByteArray} (hs : s.size ≤ 140737488351232) : Ev (fun k => impl_Sealed.f k s) (if s.size ≤ 20000 then (s ++ strOfNums (four (sumL 4294967295 (bytesOf s))), true) else (⟨#[]⟩, false)) := by
  obtain ⟨K, h⟩ := impl_SumOf_ev hs
  refine ⟨K + 5, fun k hk => ?_⟩
  have := h k (by omega)
  have hx := sumL_in (bytesOf s) 4294967295 (by omega) (by omega)
  dsimp only at this ⊢
  unfold impl_Sealed.f
  by_cases hl : s.size ≤ 20000
  · rw [if_neg (by omega), this, Option.bind_some, w64 (by omega) (by omega), impl_highFirst_k hx.1 hx.2 (by omega), Option.bind_some, if_pos hl]
    rw [if_pos (by rw [strOfNums_size]; show s.size + 4 ≤ _; omega)]
  · rw [if_pos (by omega), if_neg hl]

theorem app_iff {s t : ByteArray} {n : Nat} (hn : n ≤ s.size) : s.extract 0 n ++ t = s ↔ bytesOf t = (bytesOf s).drop n := by
  constructor
  · intro h
    have h2 := congrArg bytesOf h
    rw [bx_app, bx_pre] at h2
    have h3 := h2.trans (List.take_append_drop n (bytesOf s)).symm
    exact List.append_cancel_left h3
  · intro h
    apply bx_inj
    rw [bx_app, bx_pre, h, List.take_append_drop]
theorem impl_Unsealed_ev {s : ByteArray} (hs : s.size ≤ 140737488351232) : Ev (fun k => impl_Unsealed.f k s) (unsealM s) := by
  by_cases hl : 4 ≤ s.size
  · have hz : (s.extract 0 (s.size - 4)).size = s.size - 4 := ext_size (by omega) (by omega)
    obtain ⟨K, h⟩ := impl_Sealed_ev (s := s.extract 0 (s.size - 4)) (by omega)
    refine ⟨K, fun k hk => ?_⟩
    have h := h k hk
    dsimp only at h ⊢
    unfold impl_Unsealed.f unsealM
    rw [w64 (show _ ≤ (s.size : Int) - 4 by omega) (by omega), if_neg (show ¬ (s.size : Int) - 4 < 0 by omega), if_neg (show ¬ s.size < 4 by omega), show ((s.size : Int) - 4).toNat = s.size - 4 by omega, if_pos (by omega), if_pos (by omega), h, Option.bind_some, hz, bx_pre]
    by_cases h2 : s.size > 20004
    · rw [if_neg (show ¬ s.size - 4 ≤ 20000 by omega), if_pos h2]
      rfl
    · rw [if_pos (show s.size - 4 ≤ 20000 by omega), if_neg h2]
      have e := four_in (sumL 4294967295 ((bytesOf s).take (s.size - 4)))
      have hiff : (s.extract 0 (s.size - 4) ++ strOfNums (four (sumL 4294967295 ((bytesOf s).take (s.size - 4))))).toList = s.toList ↔ (bytesOf s).drop (s.size - 4) = four (sumL 4294967295 ((bytesOf s).take (s.size - 4))) := by
        constructor
        · intro h3
          have := (app_iff (by omega)).1 (tl_inj h3)
          rw [bx_str e] at this
          exact this.symm
        · intro h3
          rw [(app_iff (t := strOfNums (four (sumL 4294967295 ((bytesOf s).take (s.size - 4))))) (by omega)).2 (by rw [bx_str e, h3])]
      by_cases h3 : (bytesOf s).drop (s.size - 4) = four (sumL 4294967295 ((bytesOf s).take (s.size - 4)))
      · rw [if_pos h3]
        simp only [if_true]
        rw [if_pos (hiff.2 h3)]
      · rw [if_neg h3]
        simp only [if_true]
        rw [if_neg (fun h4 => h3 (hiff.1 h4))]
  · refine ⟨0, fun k hk => ?_⟩
    dsimp only
    unfold impl_Unsealed.f unsealM
    rw [w64 (show _ ≤ (s.size : Int) - 4 by omega) (by omega), if_pos (by omega), if_pos (by omega)]

theorem and255_in (x : Int) : 0 ≤ Go.bits .and .i64 x 255 ∧ Go.bits .and .i64 x 255 ≤ 255 := by
  simp only [Go.bits]
  rw [IntKind.wrap_i64]
  have h : (BitVec.ofInt IntKind.i64.bits x &&& BitVec.ofInt IntKind.i64.bits 255).toNat ≤ 255 := by
    rw [BitVec.toNat_and]
    exact Nat.le_trans Nat.and_le_right (by decide)
  omega
/-- The drawn bytes are bytes, and no more than can be. -/
def IsCode (b : List Int) : Prop := b.length ≤ 9223372036854775807

theorem byte_ok {b : List Int} (hb : IsCode b) {i : Int} (hi : 0 ≤ i) (h : Int) : ∃ r i' h', spec_l01Byte.f b i h = some (r, i', h') ∧ 0 ≤ r ∧ r ≤ 255 ∧ 0 ≤ i' := by
  unfold IsCode at hb
  unfold spec_l01Byte.f
  by_cases h1 : i < (b.length : Int)
  · rw [if_pos h1, if_pos hi]
    refine ⟨_, _, _, rfl, (and255_in _).1, (and255_in _).2, ?_⟩
    rw [w64 (by omega) (by omega)]
    omega
  · rw [if_neg h1]
    exact ⟨_, _, _, rfl, (and255_in _).1, (and255_in _).2, hi⟩
theorem below_ok {b : List Int} (hb : IsCode b) {i : Int} (hi : 0 ≤ i) (h : Int) {n : Int} (h0 : 0 < n) (h1 : n ≤ 4294967296) :
    ∃ r i' h', spec_l01Below.f b i h n = some (r, i', h') ∧ 0 ≤ r ∧ r < n ∧ 0 ≤ i' := by
  unfold spec_l01Below.f
  rw [if_neg (by omega)]
  obtain ⟨r1, i1, h1', e1, a1, b1, c1⟩ := byte_ok hb hi h
  by_cases hn : n ≤ 256
  · rw [if_pos hn, e1, Option.bind_some, if_neg (by omega)]
    refine ⟨_, _, _, rfl, ?_, ?_, c1⟩
    · rw [Int.tmod_eq_emod_of_nonneg a1]; exact Int.emod_nonneg _ (by omega)
    · rw [Int.tmod_eq_emod_of_nonneg a1]; exact Int.emod_lt_of_pos _ h0
  · rw [if_neg hn, e1, Option.bind_some]
    obtain ⟨r2, i2, h2', e2, a2, b2, c2⟩ := byte_ok hb c1 h1'
    obtain ⟨r3, i3, h3', e3, a3, b3, c3⟩ := byte_ok hb c2 h2'
    obtain ⟨r4, i4, h4', e4, a4, b4, c4⟩ := byte_ok hb c3 h3'
    dsimp only
    rw [e2, Option.bind_some]
    dsimp only
    rw [e3, Option.bind_some]
    dsimp only
    rw [e4, Option.bind_some, if_neg (by omega)]
    dsimp only
    rw [w64 (show _ ≤ r1 * 16777216 by omega) (by omega), w64 (show _ ≤ r2 * 65536 by omega) (by omega), w64 (show _ ≤ r3 * 256 by omega) (by omega),
      w64 (show _ ≤ r1 * 16777216 + r2 * 65536 by omega) (by omega), w64 (show _ ≤ r1 * 16777216 + r2 * 65536 + r3 * 256 by omega) (by omega), w64 (show _ ≤ r1 * 16777216 + r2 * 65536 + r3 * 256 + r4 by omega) (by omega)]
    refine ⟨_, _, _, rfl, ?_, ?_, c4⟩
    · rw [Int.tmod_eq_emod_of_nonneg (by omega)]; exact Int.emod_nonneg _ (by omega)
    · rw [Int.tmod_eq_emod_of_nonneg (by omega)]; exact Int.emod_lt_of_pos _ h0
theorem new_l {b : List Int} (hb : IsCode b) : ∀ (d : Nat) (k : Nat) (h i : Int), 0 ≤ i → (4000 : Int) - i ≤ d → d < k → ∃ h', spec_l01New.l0 k b h i = some (b, 0, h') := by
  unfold IsCode at hb
  intro d
  induction d with
  | zero =>
    intro k h i hi hd hk
    obtain ⟨k, rfl⟩ := succ_of hk
    simp only [spec_l01New.l0]
    by_cases h1 : i < (b.length : Int)
    · rw [if_pos h1, if_neg (by omega)]; exact ⟨_, rfl⟩
    · rw [if_neg h1]; exact ⟨_, rfl⟩
  | succ d ih =>
    intro k h i hi hd hk
    obtain ⟨k, rfl⟩ := succ_of hk
    simp only [spec_l01New.l0]
    by_cases h1 : i < (b.length : Int)
    · rw [if_pos h1]
      by_cases h2 : i < 4000
      · rw [if_pos h2, if_pos hi, w64 (show _ ≤ i + 1 by omega) (by omega)]
        exact ih k _ (i + 1) (by omega) (by omega) (by omega)
      · rw [if_neg h2]; exact ⟨_, rfl⟩
    · rw [if_neg h1]; exact ⟨_, rfl⟩
theorem new_ok {b : List Int} (hb : IsCode b) : ∃ h', ∀ k, 4001 ≤ k → spec_l01New.f k b = some (b, 0, h') := by
  obtain ⟨h', e⟩ := new_l hb 4000 4001 (wrap64 (38001 + (b.length : Int))) 0 (by omega) (by omega) (by omega)
  refine ⟨h', fun k hk => ?_⟩
  have hm : ∀ k, LeO (spec_l01New.l0 k b (wrap64 (38001 + (b.length : Int))) 0) (spec_l01New.l0 (k + 1) b (wrap64 (38001 + (b.length : Int))) 0) := fun k => by
    have := spec_l01New.mono_l k
    exact this _ _ _
  exact at_rounds (g := fun k => spec_l01New.l0 k b (wrap64 (38001 + (b.length : Int))) 0) hm hk e

theorem text_l {b : List Int} (hb : IsCode b) {n : Int} (hn : n ≤ 5000) : ∀ (d : Nat) (k : Nat) (xs : List Int) (j i h : Int), 0 ≤ j → n - j ≤ d → (xs.length : Int) = j → j ≤ n → 0 ≤ i → d < k →
    ∃ ys i' h', spec_l01Text.l0 k n xs j b i h = some (strOfNums ys, i', h') ∧ (ys.length : Int) = n ∧ 0 ≤ i' := by
  intro d
  induction d with
  | zero =>
    intro k xs j i h hj hd hl hjn hi hk
    obtain ⟨k, rfl⟩ := succ_of hk
    simp only [spec_l01Text.l0]
    rw [if_neg (by omega)]
    exact ⟨xs, i, h, rfl, by omega, hi⟩
  | succ d ih =>
    intro k xs j i h hj hd hl hjn hi hk
    obtain ⟨k, rfl⟩ := succ_of hk
    simp only [spec_l01Text.l0]
    by_cases hc : j < n
    · obtain ⟨r, i1, h1, e1, _, _, c1⟩ := byte_ok hb hi h
      rw [if_pos hc, e1, Option.bind_some]
      dsimp only
      rw [if_pos (by omega), w64 (by omega) (by omega)]
      exact ih k (xs ++ [r % 256]) (j + 1) i1 h1 (by omega) (by omega) (by rw [List.length_append, List.length_singleton]; omega) (by omega) c1 (by omega)
    · rw [if_neg hc]
      exact ⟨xs, i, h, rfl, by omega, hi⟩
theorem text_ok {b : List Int} (hb : IsCode b) {i : Int} (hi : 0 ≤ i) (h : Int) {n : Int} (h0 : 0 ≤ n) (hn : n ≤ 5000) :
    ∃ s i' h', (∀ k, 5003 ≤ k → spec_l01Text.f k b i h n = some (s, i', h')) ∧ (s.size : Int) = n ∧ 0 ≤ i' := by
  obtain ⟨ys, i', h', e, hy, hi'⟩ := text_l hb hn 5000 5001 [] 0 i h (by omega) (by omega) rfl h0 hi (by omega)
  refine ⟨strOfNums ys, i', h', fun k hk => ?_, by rw [strOfNums_size]; exact hy, hi'⟩
  obtain ⟨k, rfl⟩ : ∃ m, k = m + 1 := ⟨k - 1, by omega⟩
  unfold spec_l01Text.f
  rw [if_neg (by omega)]
  simp only [spec_l01Text.j0]
  have hm : ∀ k, LeO (spec_l01Text.l0 k n [] 0 b i h) (spec_l01Text.l0 (k + 1) n [] 0 b i h) := fun k => by
    have := (spec_l01Text.mono_l k).2
    exact this _ _ _ _ _ _
  exact at_rounds (g := fun k => spec_l01Text.l0 k n [] 0 b i h) hm (show 5001 ≤ k by omega) e

theorem places_l {b : List Int} (hb : IsCode b) : ∀ (d : Nat) (k : Nat) (out : List Int) (i h : Int), out.length + d = 12 → (∀ x ∈ out, 0 ≤ x ∧ x < 10000) → 0 ≤ i → d < k →
    ∃ r, spec_DrawPlaces.l0 k out (out.length : Int) b i h = some r ∧ r.length = 12 ∧ ∀ x ∈ r, 0 ≤ x ∧ x < 10000 := by
  intro d
  induction d with
  | zero =>
    intro k out i h hd ho hi hk
    obtain ⟨k, rfl⟩ := succ_of hk
    simp only [spec_DrawPlaces.l0]
    rw [if_neg (by omega)]
    exact ⟨_, rfl, by omega, ho⟩
  | succ d ih =>
    intro k out i h hd ho hi hk
    obtain ⟨k, rfl⟩ := succ_of hk
    simp only [spec_DrawPlaces.l0]
    obtain ⟨r, i', h', e, a, b', c⟩ := below_ok hb hi h (n := 10000) (by omega) (by omega)
    rw [if_pos (by omega), e, Option.bind_some, if_pos (by omega), w64 (by omega) (by omega), ← len_next out r]
    exact ih k (out ++ [r]) i' h' (by rw [List.length_append, List.length_singleton]; omega) (fun x hx => by rcases List.mem_append.1 hx with hx | hx; exact ho x hx; (have : x = r := (by simpa using hx)); omega) c (by omega)
theorem places_ok {b : List Int} (hb : IsCode b) : ∃ r, Ev (fun k => spec_DrawPlaces.f k b) r ∧ r.length = 12 ∧ ∀ x ∈ r, 0 ≤ x ∧ x < 10000 := by
  obtain ⟨h', e⟩ := new_ok hb
  obtain ⟨x, i1, h1, e1, _, _, c1⟩ := byte_ok hb (Int.le_refl 0) h'
  obtain ⟨r, e2, hl, hr⟩ := places_l hb 12 13 [] i1 h1 rfl (by simp) c1 (by omega)
  refine ⟨r, ⟨4001, fun k hk => ?_⟩, hl, hr⟩
  dsimp only
  unfold spec_DrawPlaces.f
  rw [e k hk, Option.bind_some]
  dsimp only
  rw [e1, Option.bind_some]
  dsimp only
  have hm : ∀ k, LeO (spec_DrawPlaces.l0 k [] 0 b i1 h1) (spec_DrawPlaces.l0 (k + 1) [] 0 b i1 h1) := fun k => by
    have := spec_DrawPlaces.mono_l k
    exact this _ _ _ _ _
  exact at_rounds (g := fun k => spec_DrawPlaces.l0 k [] 0 b i1 h1) hm (show 13 ≤ k by omega) e2
theorem rd_in {r : List Int} (hl : r.length = 12) (hr : ∀ x ∈ r, 0 ≤ x ∧ x < 10000) (i : Int) (h0 : 0 ≤ i) (hi : i < 12) : 0 ≤ rd r i ∧ rd r i < 10000 := by
  unfold rd
  rw [List.getD_eq_getElem?_getD, List.getElem?_eq_getElem (by omega)]
  exact hr _ (List.getElem_mem _)

theorem drawSumOf_ok {b : List Int} (hb : IsCode b) : ∃ s, (∀ k, 5003 ≤ k → spec_DrawSumOf.f k b = some s) ∧ s.size ≤ 40 := by
  obtain ⟨h', e⟩ := new_ok hb
  obtain ⟨r, i1, h1, e1, a1, b1, c1⟩ := below_ok hb (Int.le_refl 0) h' (n := 40) (by omega) (by omega)
  obtain ⟨s, i2, h2, e2, hs, c2⟩ := text_ok hb c1 h1 a1 (by omega)
  refine ⟨s, fun k hk => ?_, by omega⟩
  unfold spec_DrawSumOf.f
  rw [e k (by omega), Option.bind_some]
  dsimp only
  rw [e1, Option.bind_some]
  dsimp only
  rw [e2 k hk, Option.bind_some]
theorem FnTurned : laws_FnTurned.Pure := by
  intro b hb0 hb1 hb2
  have hb : IsCode b := by unfold IsCode; omega
  obtain ⟨s, es, hs⟩ := drawSumOf_ok hb
  obtain ⟨p, ⟨K1, ep⟩, hpl, hp⟩ := places_ok hb
  have h0 := rd_in hpl hp 0 (by omega) (by omega)
  have h1 := rd_in hpl hp 1 (by omega) (by omega)
  obtain ⟨K2, e2⟩ := impl_Sealed_ev (s := s) (by omega)
  obtain ⟨t, ht⟩ : ∃ t, t = s ++ strOfNums (four (sumL 4294967295 (bytesOf s))) := ⟨_, rfl⟩
  have hf := four_in (sumL 4294967295 (bytesOf s))
  have hbt : bytesOf t = bytesOf s ++ four (sumL 4294967295 (bytesOf s)) := by rw [ht, bx_app, bx_str hf]
  have zt : t.size = s.size + 4 := by rw [← bx_len, hbt, List.length_append, bx_len]; rfl
  obtain ⟨K3, e3⟩ := impl_Unsealed_ev (s := t) (by omega)
  have hu : unsealM t = (s, true) := by
    unfold unsealM
    rw [if_neg (by omega), if_neg (by omega), show t.size - 4 = s.size by omega, hbt, ← bx_len s, List.drop_left, List.take_left, if_pos rfl, bx_len]
    have : t.extract 0 s.size = s := by
      apply bx_inj
      rw [bx_cut, hbt, List.drop_zero, ← bx_len s, List.take_left]
    rw [this]
  obtain ⟨T, hT⟩ : ∃ T, T = turnedB t (rd p 0) (rd p 1) := ⟨_, rfl⟩
  have hm0 := Int.emod_nonneg (rd p 0) (show (t.size : Int) ≠ 0 by omega)
  have hm1 := Int.emod_lt_of_pos (rd p 0) (show (0 : Int) < (t.size : Int) by omega)
  have hlt : (rd p 0 % (t.size : Int)).toNat < (bytesOf t).length := by rw [bx_len]; omega
  have hun : ∃ x, (unsealM T).2 = false ∧ unsealM T = (x, false) := by
    have hc := bx_byte t ((bytesOf t).getD (rd p 0 % (t.size : Int)).toNat 0) (by
      rw [List.getD_eq_getElem?_getD, List.getElem?_eq_getElem hlt]
      exact List.getElem_mem _)
    have hd := xor8_in (z := 1 + rd p 1 % 255) hc (by omega)
    have hne := xor8_ne (z := 1 + rd p 1 % 255) hc (by omega)
    have hA : bytesOf t = (bytesOf t).take (rd p 0 % (t.size : Int)).toNat ++ (bytesOf t).getD (rd p 0 % (t.size : Int)).toNat 0 :: (bytesOf t).drop ((rd p 0 % (t.size : Int)).toNat + 1) := by
      conv => lhs; rw [← List.take_append_drop (rd p 0 % (t.size : Int)).toNat (bytesOf t)]
      rw [List.drop_eq_getElem_cons hlt, List.getD_eq_getElem?_getD, List.getElem?_eq_getElem hlt]
      rfl
    have hTb : bytesOf T = (bytesOf t).take (rd p 0 % (t.size : Int)).toNat ++ Go.bits .xor .u8 ((bytesOf t).getD (rd p 0 % (t.size : Int)).toNat 0) (1 + rd p 1 % 255) :: (bytesOf t).drop ((rd p 0 % (t.size : Int)).toNat + 1) := by
      rw [hT]
      unfold turnedB
      rw [bx_str, List.set_eq_take_append_cons_drop, if_pos hlt]
      intro c hcm
      rcases List.mem_or_eq_of_mem_set hcm with h | h
      · exact bx_byte t c h
      · rw [h]; exact hd
    have := unseal_turned (bx_byte s) hbt (by rw [bx_len]; omega) hA hTb hc hd (fun h => hne h.symm)
    exact ⟨(unsealM T).1, this, by rw [← this]⟩
  obtain ⟨x, _, hx⟩ := hun
  have zT : T.size = t.size := by rw [hT]; unfold turnedB; rw [strOfNums_size, List.length_set, bx_len]
  obtain ⟨K4, e4⟩ := impl_Unsealed_ev (s := T) (by omega)
  obtain ⟨K5, e5⟩ := impl_SumOf_ev (s := s) (by omega)
  have hin := sumL_in2 (bytesOf s) 4294967295 (by omega)
  obtain ⟨K6, e6⟩ := impl_SumMore_ev (s := ⟨#[120]⟩) (by decide) hin.1 hin.2
  have zx : (s ++ (⟨#[120]⟩ : ByteArray)).size = s.size + 1 := by rw [ByteArray.size_append]; rfl
  obtain ⟨K7, e7⟩ := impl_SumOf_ev (s := s ++ ⟨#[120]⟩) (by omega)
  rw [bx_app, show bytesOf ⟨#[120]⟩ = [120] from rfl, sumL_app] at e7
  rw [show bytesOf ⟨#[120]⟩ = [120] from rfl] at e6
  obtain ⟨k, hk⟩ : ∃ k, k = K1 + K2 + K3 + K4 + K5 + K6 + K7 + 9000 := ⟨_, rfl⟩
  have ep := ep k (by omega)
  have e2 := e2 k (by omega)
  have e3 := e3 k (by omega)
  have e4 := e4 k (by omega)
  have e5 := e5 k (by omega)
  have e6 := e6 k (by omega)
  have e7 := e7 k (by omega)
  dsimp only at ep e2 e3 e4 e5 e6 e7
  rw [if_pos (by omega), ← ht] at e2
  rw [hu] at e3
  rw [hx, hT] at e4
  refine ⟨k, ?_⟩
  unfold laws_FnTurned.f laws_big.f
  rw [Option.bind_some]
  by_cases hbig : decide ((b.length : Int) > 1048576) = true
  · rw [if_pos hbig]
  rw [if_neg hbig, es k (by omega), Option.bind_some, ep, Option.bind_some, e2, Option.bind_some]
  dsimp only
  rw [e3, Option.bind_some, e4, Option.bind_some, e5, Option.bind_some, e6, Option.bind_some, e7, Option.bind_some]
  dsimp only
  rw [if_pos ⟨rfl, rfl, rfl, zt, by omega, hpl, h0, h1, rfl, rfl⟩]

end Go.Proofs.Ytekngkljphlliaa.Pure
