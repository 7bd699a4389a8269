/- The pure statement of FnExactReadDecimal: over numbers and lists, what the printed functions come to is what the law wants, for every input. -/
import Derived.Test.YtkgpokiglanjfaaDoorQFnExactReadDecimalx1
set_option linter.unusedVariables false
set_option linter.unusedSimpArgs false
namespace Go.Proofs.YtkgpokiglanjfaaDoor.Pure
open Go.RowKit Go.Proofs.YtkgpokiglanjfaaDoor.QFnExactReadDecimal Go.Proofs.YtkgpokiglanjfaaDoorW.PrintWords Go.Proofs.YtkgpokiglanjfaaDoorW.PrintLast
/-! Words on strings as lists of numbers. -/
theorem w64 {x : Int} (h0 : -9223372036854775808 ≤ x) (h1 : x ≤ 9223372036854775807) : wrap64 x = x := by
  unfold wrap64
  omega
theorem bx_len (s : ByteArray) : (bytesOf s).length = s.size := bytesOf_length s
theorem bx_byte (s : ByteArray) : ∀ c ∈ bytesOf s, 0 ≤ c ∧ c ≤ 255 := by
  intro c hc
  unfold bytesOf at hc
  obtain ⟨b, _, rfl⟩ := List.mem_map.1 hc
  have := b.toNat_lt
  omega
theorem bx_at {s : ByteArray} {pre ys : List Int} {c : Int} (h : bytesOf s = pre ++ c :: ys) : bt s (pre.length : Int) = c := by
  rw [← rd_bytesOf, h, rd, Int.toNat_natCast, List.getD_eq_getElem?_getD, List.getElem?_append_right (Nat.le_refl _)]
  simp
theorem bx_lt {s : ByteArray} {pre ys : List Int} {c : Int} (h : bytesOf s = pre ++ c :: ys) : (pre.length : Int) < (s.size : Int) := by
  have := congrArg List.length h
  rw [bx_len, List.length_append, List.length_cons] at this
  omega
theorem bx_end {s : ByteArray} {pre : List Int} (h : bytesOf s = pre ++ []) : (s.size : Int) = (pre.length : Int) := by
  have := congrArg List.length h
  rw [bx_len, List.append_nil] at this
  omega
theorem bx_next {s : ByteArray} {pre ys : List Int} {c : Int} (h : bytesOf s = pre ++ c :: ys) : bytesOf s = (pre ++ [c]) ++ ys := by
  rw [h, List.append_assoc]; rfl
theorem len_next (pre : List Int) (c : Int) : ((pre ++ [c]).length : Int) = (pre.length : Int) + 1 := by
  rw [List.length_append, List.length_singleton]; omega
theorem bx_inj {s t : ByteArray} (h : bytesOf s = bytesOf t) : s = t := by
  unfold bytesOf at h
  have h2 : s.data.toList = t.data.toList := by
    refine (List.map_inj_right (f := fun b : UInt8 => (b.toNat : Int)) ?_).1 h
    intro x y hxy
    exact UInt8.toNat_inj.1 (Int.ofNat_inj.1 hxy)
  exact ByteArray.ext (Array.toList_inj.1 h2)
theorem tl_inj {s t : ByteArray} (h : s.toList = t.toList) : s = t := by
  rw [ByteArray.toList_eq, ByteArray.toList_eq] at h
  exact ByteArray.ext (Array.toList_inj.1 h)
theorem tl_iff {s t : ByteArray} : s.toList = t.toList ↔ bytesOf s = bytesOf t := ⟨fun h => by rw [tl_inj h], fun h => by rw [bx_inj h]⟩
theorem bx_app (s t : ByteArray) : bytesOf (s ++ t) = bytesOf s ++ bytesOf t := by
  simp [bytesOf]
theorem bx_cut (s : ByteArray) (a b : Nat) : bytesOf (s.extract a b) = ((bytesOf s).take b).drop a := by
  simp [bytesOf, ByteArray.data_extract, List.map_drop, List.map_take, List.take_drop]
  rw [List.drop_take, List.drop_take]
  congr 1
  omega
theorem bx_str {xs : List Int} (h : ∀ c ∈ xs, 0 ≤ c ∧ c ≤ 255) : bytesOf (strOfNums xs) = xs := by
  unfold bytesOf
  rw [strOfNums_data, List.map_map]
  induction xs with
  | nil => rfl
  | cons c xs ih =>
    rw [List.map_cons, ih (fun d hd => h d (List.mem_cons_of_mem _ hd))]
    have hc := h c (List.mem_cons_self ..)
    congr 1
    have e : (UInt8.ofNat c.toNat).toNat = c.toNat := by
      rw [UInt8.toNat_ofNat']
      omega
    show ((UInt8.ofNat c.toNat).toNat : Int) = c
    rw [e]
    omega
theorem bx_wrap {s : ByteArray} {pre ys : List Int} {c : Int} (h : bytesOf s = pre ++ c :: ys) (hs : s.size ≤ 140737488351232) : wrap64 ((pre.length : Int) + 1) = ((pre ++ [c]).length : Int) := by
  rw [len_next]
  have := bx_lt h
  exact w64 (by omega) (by omega)
theorem bx_in {s : ByteArray} {pre ys : List Int} {c : Int} (h : bytesOf s = pre ++ c :: ys) : 0 ≤ c ∧ c ≤ 255 :=
  bx_byte s c (by rw [h]; exact List.mem_append_right _ (List.mem_cons_self ..))
theorem succ_of {n k : Nat} (h : n < k) : ∃ m, k = m + 1 := ⟨k - 1, by omega⟩
theorem ev2 {α β : Type} {g : Nat → Option α} {f : Nat → Option β} {a : α} {b : β} (h : Ev g a) (h' : Ev f b) : ∃ k, g k = some a ∧ f k = some b := by
  obtain ⟨K, h⟩ := h
  obtain ⟨K', h'⟩ := h'
  exact ⟨K + K', h _ (by omega), h' _ (by omega)⟩

theorem u32_in {x : Int} (h : (Lit.int .u32 x).wf = true) : 0 ≤ x ∧ x < 4294967296 := by
  simp only [Lit.wf, IntKind.min, IntKind.max, IntKind.signed, IntKind.bits, Bool.and_eq_true, decide_eq_true_eq] at h
  simp at h
  omega
theorem i64_in {x : Int} (h : (Lit.int .i64 x).wf = true) : -9223372036854775808 ≤ x ∧ x ≤ 9223372036854775807 := by
  simp only [Lit.wf, IntKind.min, IntKind.max, IntKind.signed, IntKind.bits, Bool.and_eq_true, decide_eq_true_eq] at h
  simp at h
  omega

def fig (c : Int) : Bool := decide (48 ≤ c) && decide (c ≤ 57)
def isNumL (xs : List Int) : Bool := xs.all fig && (decide (1 ≤ xs.length) && decide (xs.length ≤ 6))
theorem len16 (s : ByteArray) : (decide ((1 : Int) ≤ (s.size : Int)) && decide ((s.size : Int) ≤ 6)) = (decide (1 ≤ (bytesOf s).length) && decide ((bytesOf s).length ≤ 6)) := by
  rw [bx_len]
  congr 1 <;> apply decide_eq_decide.2 <;> omega

/-- Decimal figures, the highest first, of a number above 0. -/
def decL : Nat → Int → List Int → List Int
  | 0, _, acc => acc
  | f + 1, n, acc => if n = 0 then acc else decL f (n / 10) ((48 + n % 10) :: acc)
def figsOf (n : Int) : List Int := if n = 0 then [48] else decL 20 n []
theorem fig_add (d : Int) (h0 : 0 ≤ d) (h1 : d < 10) : fig (48 + d) = true := by
  unfold fig
  rw [decide_eq_true (by omega), decide_eq_true (by omega)]
  rfl
theorem decL_all : ∀ (f : Nat) (n : Int) (acc : List Int), 0 ≤ n → acc.all fig = true → (decL f n acc).all fig = true := by
  intro f
  induction f with
  | zero => intro n acc _ h; exact h
  | succ f ih =>
    intro n acc hn h
    unfold decL
    split
    · exact h
    · exact ih (n / 10) _ (by omega) (by rw [List.all_cons, fig_add _ (by omega) (by omega), h]; rfl)
theorem decL_len : ∀ (f : Nat) (n : Int) (acc : List Int) (m : Nat), 0 ≤ n → n < 10 ^ m → acc.length ≤ (decL f n acc).length ∧ (decL f n acc).length ≤ acc.length + m := by
  intro f
  induction f with
  | zero => intro n acc m _ _; simp [decL]
  | succ f ih =>
    intro n acc m hn h
    unfold decL
    split
    · simp
    · cases m with
      | zero => exfalso; simp at h; omega
      | succ m =>
        have := ih (n / 10) ((48 + n % 10) :: acc) m (by omega) (by rw [Int.pow_succ] at h; omega)
        rw [List.length_cons] at this
        omega
theorem figs_all {n : Int} (hn : 0 ≤ n) : (figsOf n).all fig = true := by
  unfold figsOf
  split
  · rfl
  · exact decL_all 20 n [] hn rfl
theorem figs_len {n : Int} (hn : 0 ≤ n) {m : Nat} (h : n < 10 ^ (m + 1)) : 1 ≤ (figsOf n).length ∧ (figsOf n).length ≤ m + 1 := by
  unfold figsOf
  split
  · simp
  · rename_i h0
    have := decL_len 20 n [] (m + 1) hn h
    refine ⟨?_, by simpa using this.2⟩
    have := decL_len 19 (n / 10) [48 + n % 10] 20
    unfold decL
    rw [if_neg h0]
    have h2 := (decL_len 19 (n / 10) [48 + n % 10] (m + 1) (by omega) (by rw [Int.pow_succ] at h ⊢; omega)).1
    simpa using h2
theorem figs_byte {n : Int} (hn : 0 ≤ n) : ∀ c ∈ figsOf n, 0 ≤ c ∧ c ≤ 255 := by
  intro c hc
  have := List.all_eq_true.1 (figs_all hn) c hc
  unfold fig at this
  simp at this
  omega
theorem isNum_figs {n : Int} (hn : 0 ≤ n) (h : n < 1000000) : isNumL (figsOf n) = true := by
  unfold isNumL
  have := figs_len hn (m := 5) h
  rw [figs_all hn, decide_eq_true this.1, decide_eq_true this.2]
  rfl

theorem sFigure {d : Int} (h0 : 0 ≤ d) (h1 : d < 10) : spec_l01Figure.f d = some (48 + d) := by
  unfold spec_l01Figure.f
  rw [if_pos h1, w64 (by omega) (by omega), show (48 + d) % 256 = 48 + d by omega]
theorem bx_cons {d : Int} (h0 : 0 ≤ d) (h1 : d ≤ 255) (t : ByteArray) : bytesOf (strOfNums [d] ++ t) = d :: bytesOf t := by
  rw [bx_app, bx_str (by intro c hc; have : c = d := (by simpa using hc); omega)]
  rfl
/-- The loop of Decimal, of a number not below 0: figures are laid ahead of what is there. -/
theorem dec_l : ∀ (f : Nat) (k : Nat) (n : Int) (s : ByteArray), 0 ≤ n → n < 10 ^ f → n ≤ 9223372036854775807 → s.size + f ≤ 1000 → f < k →
    ∃ t, spec_Decimal.l0 k n false s = some t ∧ bytesOf t = decL f n (bytesOf s) := by
  intro f
  induction f with
  | zero =>
    intro k n s h0 h1 hm hs hk
    obtain ⟨k, rfl⟩ := succ_of hk
    simp only [spec_Decimal.l0]
    rw [if_pos (by simp at h1; omega), if_neg (by decide)]
    exact ⟨_, rfl, rfl⟩
  | succ f ih =>
    intro k n s h0 h1 hm hs hk
    obtain ⟨k, rfl⟩ := succ_of hk
    simp only [spec_Decimal.l0]
    by_cases hz : n = 0
    · rw [if_pos hz, if_neg (by decide)]
      refine ⟨_, rfl, ?_⟩
      unfold decL
      rw [if_pos hz]
    · rw [if_neg hz, Int.tmod_eq_emod_of_nonneg h0, if_neg (by omega), sFigure (by omega) (by omega), Option.bind_some, Option.bind_some, Int.tdiv_eq_ediv_of_nonneg h0, w64 (by omega) (by omega)]
      have hz1 : (strOfNums [48 + n % 10]).size = 1 := by rw [strOfNums_size]; rfl
      rw [if_pos (by omega)]
      obtain ⟨t, e, ht⟩ := ih k (n / 10) (strOfNums [48 + n % 10] ++ s) (by omega) (by rw [Int.pow_succ] at h1; omega) (by omega) (by rw [ByteArray.size_append]; omega) (by omega)
      refine ⟨t, e, ?_⟩
      rw [ht, bx_cons (by omega) (by omega)]
      conv => rhs; unfold decL
      rw [if_neg hz]
theorem dec_ok {n : Int} (h0 : 0 ≤ n) (h1 : n ≤ 9223372036854775807) : ∃ t, (∀ k, 30 ≤ k → spec_Decimal.f k n = some t) ∧ bytesOf t = figsOf n := by
  unfold spec_Decimal.f figsOf
  by_cases hz : n = 0
  · rw [if_pos hz]
    exact ⟨_, fun k _ => by rw [if_pos hz], rfl⟩
  · rw [if_neg hz, decide_eq_false (show ¬ n < 0 by omega)]
    obtain ⟨t, e, ht⟩ := dec_l 20 30 n ⟨#[]⟩ h0 (by omega) h1 (by decide) (by omega)
    refine ⟨t, fun k hk => ?_, ht⟩
    rw [if_neg hz]
    have hm : ∀ k, LeO (spec_Decimal.l0 k n false ⟨#[]⟩) (spec_Decimal.l0 (k + 1) n false ⟨#[]⟩) := fun k => by
      have := spec_Decimal.mono_l k
      exact this _ _ _
    exact at_rounds (g := fun k => spec_Decimal.l0 k n false ⟨#[]⟩) hm hk e

/-! The library's decimal numeral, as a list of numbers. -/
theorem decL_zero (f : Nat) (acc : List Int) : decL f 0 acc = acc := by
  cases f with
  | zero => rfl
  | succ f => unfold decL; rw [if_pos rfl]
theorem u8n {u : Nat} (h : u < 256) : ((UInt8.ofNat u).toNat : Int) = (u : Int) := by
  rw [UInt8.toNat_ofNat']
  omega
theorem decL_dig : ∀ (f u : Nat) (acc : List Int), 0 < u → u < 10 ^ f → decL f (u : Int) acc = (Go.Lib.decDigits u).map (fun b => (b.toNat : Int)) ++ acc := by
  intro f
  induction f with
  | zero => intro u acc h0 h1; simp at h1; omega
  | succ f ih =>
    intro u acc h0 h1
    have e1 : ((u : Int) / 10) = ((u / 10 : Nat) : Int) := by omega
    have e2 : ((u : Int) % 10) = ((u % 10 : Nat) : Int) := by omega
    unfold decL
    rw [if_neg (by omega), e1, e2, Go.Lib.decDigits]
    by_cases h : u < 10
    · rw [dif_pos h, show u / 10 = 0 by omega, show u % 10 = u by omega]
      show decL f 0 _ = _
      rw [decL_zero, List.map_cons, u8n (by omega), Int.natCast_add]
      rfl
    · rw [dif_neg h, ih (u / 10) _ (by omega) (by rw [Nat.pow_succ] at h1; omega), List.map_append, List.map_cons, List.map_nil, u8n (by omega), List.append_assoc, Int.natCast_add]
      rfl
theorem bx_mk (l : List UInt8) : bytesOf ⟨l.toArray⟩ = l.map (fun b => (b.toNat : Int)) := rfl
theorem dig_figs (u : Nat) (h : u < 100000000000000000000) : (Go.Lib.decDigits u).map (fun b => (b.toNat : Int)) = figsOf (u : Int) := by
  unfold figsOf
  by_cases h0 : u = 0
  · subst h0
    rw [if_pos (by omega), Go.Lib.decDigits, dif_pos (by omega)]
    rfl
  · rw [if_neg (by omega), decL_dig 20 u [] (by omega) (by omega), List.append_nil]
theorem itoa_figs {n : Int} (h0 : 0 ≤ n) (h1 : n ≤ 9223372036854775808) : bytesOf ⟨(Go.Lib.itoa n).toArray⟩ = figsOf n := by
  obtain ⟨u, rfl⟩ : ∃ u : Nat, n = u := ⟨n.toNat, by omega⟩
  rw [bx_mk, Go.Lib.itoa_nonneg, dig_figs u (by omega)]
theorem itoa_negs {n : Int} (h0 : 0 < n) (h1 : n ≤ 9223372036854775808) : bytesOf ⟨(Go.Lib.itoa (-n)).toArray⟩ = 45 :: figsOf n := by
  obtain ⟨u, rfl⟩ : ∃ u : Nat, n = u := ⟨n.toNat, by omega⟩
  rw [bx_mk, Go.Lib.itoa_neg u (by omega), List.map_cons, dig_figs u (by omega)]
  rfl

theorem impl_Decimal_k {n : Int} (h0 : -9223372036854775808 ≤ n) (h1 : n ≤ 9223372036854775807) : impl_Decimal.f n = some ⟨(Go.Lib.itoa n).toArray⟩ := by
  unfold impl_Decimal.f strconv_Itoa.f
  rw [if_pos ⟨h0, h1⟩]
  rfl

theorem tmod_neg {n : Int} (h : 0 ≤ n) : Int.tmod (-n) 10 = -(n % 10) := by rw [Int.neg_tmod, Int.tmod_eq_emod_of_nonneg h]
theorem tdiv_neg {n : Int} (h : 0 ≤ n) : Int.tdiv (-n) 10 = -(n / 10) := by rw [Int.neg_tdiv, Int.tdiv_eq_ediv_of_nonneg h]
/-- The loop of Decimal, of a number not above 0. -/
theorem dec_ln : ∀ (f : Nat) (k : Nat) (n : Int) (s : ByteArray), 0 ≤ n → n < 10 ^ f → n ≤ 9223372036854775808 → s.size + f ≤ 1000 → f < k →
    ∃ t, spec_Decimal.l0 k (-n) true s = some t ∧ bytesOf t = 45 :: decL f n (bytesOf s) := by
  intro f
  induction f with
  | zero =>
    intro k n s h0 h1 hm hs hk
    obtain ⟨k, rfl⟩ := succ_of hk
    simp only [spec_Decimal.l0]
    rw [if_pos (by simp at h1; omega), if_pos True.intro, if_pos (by omega)]
    exact ⟨_, rfl, by rw [bx_app]; rfl⟩
  | succ f ih =>
    intro k n s h0 h1 hm hs hk
    obtain ⟨k, rfl⟩ := succ_of hk
    simp only [spec_Decimal.l0]
    by_cases hz : n = 0
    · rw [if_pos (by omega), if_pos True.intro, if_pos (by omega)]
      refine ⟨_, rfl, ?_⟩
      rw [bx_app]
      unfold decL
      rw [if_pos hz]
      rfl
    · have hz1 : ∀ d : Int, (strOfNums [d]).size = 1 := fun d => by rw [strOfNums_size]; rfl
      obtain ⟨t, e, ht⟩ := ih k (n / 10) (strOfNums [48 + n % 10] ++ s) (by omega) (by rw [Int.pow_succ] at h1; omega) (by omega) (by rw [ByteArray.size_append, hz1]; omega) (by omega)
      refine ⟨t, ?_, ?_⟩
      · rw [if_neg (by omega), tmod_neg h0, tdiv_neg h0]
        by_cases hd : n % 10 = 0
        · rw [if_neg (by omega), hd, show (-(0 : Int)) = 0 from rfl, sFigure (by omega) (by omega), Option.bind_some, Option.bind_some, w64 (by omega) (by omega), hz1, if_pos (by omega)]
          rw [hd] at e
          exact e
        · rw [if_pos (by omega), w64 (by omega) (by omega), show - -(n % 10) = n % 10 by omega, sFigure (by omega) (by omega), Option.bind_some, Option.bind_some, w64 (by omega) (by omega), hz1, if_pos (by omega)]
          exact e
      · rw [ht, bx_cons (by omega) (by omega)]
        conv => rhs; unfold decL
        rw [if_neg hz]
theorem dec_neg {n : Int} (h0 : 0 < n) (h1 : n ≤ 9223372036854775808) : ∃ t, (∀ k, 30 ≤ k → spec_Decimal.f k (-n) = some t) ∧ bytesOf t = 45 :: figsOf n := by
  unfold spec_Decimal.f figsOf
  rw [if_neg (show ¬ n = 0 by omega), decide_eq_true (show -n < 0 by omega)]
  obtain ⟨t, e, ht⟩ := dec_ln 20 30 n ⟨#[]⟩ (by omega) (by omega) h1 (by decide) (by omega)
  refine ⟨t, fun k hk => ?_, ht⟩
  rw [if_neg (by omega)]
  have hm : ∀ k, LeO (spec_Decimal.l0 k (-n) true ⟨#[]⟩) (spec_Decimal.l0 (k + 1) (-n) true ⟨#[]⟩) := fun k => by
    have := spec_Decimal.mono_l k
    exact this _ _ _
  exact at_rounds (g := fun k => spec_Decimal.l0 k (-n) true ⟨#[]⟩) hm hk e
theorem dec_all {n : Int} (h0 : -9223372036854775808 ≤ n) (h1 : n ≤ 9223372036854775807) : ∀ k, 30 ≤ k → spec_Decimal.f k n = some ⟨(Go.Lib.itoa n).toArray⟩ := by
  by_cases h : 0 ≤ n
  · obtain ⟨t, e, ht⟩ := dec_ok h h1
    rw [← itoa_figs h (by omega)] at ht
    obtain rfl := bx_inj ht
    exact e
  · obtain ⟨m, rfl⟩ : ∃ m : Int, n = -m := ⟨-n, by omega⟩
    obtain ⟨t, e, ht⟩ := dec_neg (n := m) (by omega) (by omega)
    rw [← itoa_negs (by omega) (by omega)] at ht
    obtain rfl := bx_inj ht
    exact e

/-! A told number, read back by the library. -/
theorem dfc (acc : Nat) (b : UInt8) (r : List UInt8) : Go.Lib.decFrom acc (b :: r) = match Go.Lib.digitVal b with | some d => Go.Lib.decFrom (acc * 10 + d) r | none => none := rfl
theorem decFrom_app : ∀ (l r : List UInt8) (acc : Nat), Go.Lib.decFrom acc (l ++ r) = (Go.Lib.decFrom acc l).bind fun m => Go.Lib.decFrom m r := by
  intro l
  induction l with
  | nil => intro r acc; rfl
  | cons b l ih =>
    intro r acc
    rw [List.cons_append, dfc, dfc]
    cases Go.Lib.digitVal b with
    | none => rfl
    | some d => exact ih r _
theorem digit_of {d : Nat} (h : d < 10) : Go.Lib.digitVal (UInt8.ofNat (48 + d)) = some d := by
  unfold Go.Lib.digitVal
  rw [UInt8.toNat_ofNat', if_pos (by omega)]
  congr 1
  omega
theorem decFrom_digits (u : Nat) : Go.Lib.decFrom 0 (Go.Lib.decDigits u) = some u := by
  induction u using Nat.strongRecOn with
  | _ u ih =>
    rw [Go.Lib.decDigits]
    by_cases h : u < 10
    · rw [dif_pos h]
      rw [dfc, digit_of h]
      show Go.Lib.decFrom (0 * 10 + u) [] = some u
      unfold Go.Lib.decFrom
      congr 1
      omega
    · rw [dif_neg h, decFrom_app, ih (u / 10) (by omega), Option.bind_some]
      rw [dfc, digit_of (by omega)]
      show Go.Lib.decFrom (u / 10 * 10 + u % 10) [] = some u
      unfold Go.Lib.decFrom
      congr 1
      omega
theorem digits_head (u : Nat) : ∃ c r, Go.Lib.decDigits u = c :: r ∧ 48 ≤ c.toNat := by
  induction u using Nat.strongRecOn with
  | _ u ih =>
    rw [Go.Lib.decDigits]
    by_cases h : u < 10
    · rw [dif_pos h]
      exact ⟨_, _, rfl, by rw [UInt8.toNat_ofNat']; omega⟩
    · rw [dif_neg h]
      obtain ⟨c, r, e, hc⟩ := ih (u / 10) (by omega)
      exact ⟨c, _, by rw [e]; rfl, hc⟩
theorem atoi_itoa {n : Int} (h0 : 0 ≤ n) (h1 : n ≤ 1000000000) : Go.Lib.atoiAll (Go.Lib.itoa n) = .ok n := by
  obtain ⟨u, rfl⟩ : ∃ u : Nat, n = u := ⟨n.toNat, by omega⟩
  have hf := dig_figs u (by omega)
  have hl := (figs_len (n := (u : Int)) (by omega) (m := 9) (by omega)).2
  have hl2 : (Go.Lib.decDigits u).length ≤ 10 := by
    have := congrArg List.length hf
    rw [List.length_map] at this
    omega
  rw [Go.Lib.itoa_nonneg, Go.Lib.atoiAll_short _ (by omega)]
  obtain ⟨c, r, e, hc⟩ := digits_head u
  have hd := decFrom_digits u
  rw [e] at hd ⊢
  have h45 : (c == 45) = false := beq_eq_false_iff_ne.2 fun k => by subst k; exact absurd hc (by decide)
  have h43 : (c == 43) = false := beq_eq_false_iff_ne.2 fun k => by subst k; exact absurd hc (by decide)
  show Go.Lib.NumEnd.ofOption (if (c == 45) = true then (Go.Lib.decNat r).map fun (m : Nat) => -(m : Int) else if (c == 43) = true then (Go.Lib.decNat r).map fun (m : Nat) => (m : Int) else (Go.Lib.decNat (c :: r)).map fun (m : Nat) => (m : Int)) = _
  rw [h45, h43, if_neg (by decide), if_neg (by decide)]
  unfold Go.Lib.decNat
  rw [if_neg (by simp), hd]
  rfl

def valL : Int → List Int → Int
  | n, [] => n
  | n, c :: cs => valL (10 * n + c - 48) cs
theorem valL_dec : ∀ (f : Nat) (n : Int) (acc : List Int), 0 ≤ n → n < 10 ^ f → valL 0 (decL f n acc) = valL n acc := by
  intro f
  induction f with
  | zero =>
    intro n acc h0 h1
    have : n = 0 := by simp at h1; omega
    subst this
    rfl
  | succ f ih =>
    intro n acc h0 h1
    unfold decL
    by_cases hz : n = 0
    · rw [if_pos hz, hz]
    · rw [if_neg hz, ih (n / 10) _ (by omega) (by rw [Int.pow_succ] at h1; omega)]
      show valL (10 * (n / 10) + (48 + n % 10) - 48) acc = _
      congr 1
      omega
theorem valL_figs {n : Int} (h0 : 0 ≤ n) (h1 : n ≤ 9223372036854775807) : valL 0 (figsOf n) = n := by
  unfold figsOf
  by_cases hz : n = 0
  · rw [if_pos hz, hz]
    rfl
  · rw [if_neg hz, valL_dec 20 n [] h0 (by omega)]
    rfl
theorem valL_nonneg : ∀ (ys : List Int) (x : Int), 0 ≤ x → ys.all fig = true → 0 ≤ valL x ys := by
  intro ys
  induction ys with
  | nil => intro x h _; exact h
  | cons c ys ih =>
    intro x h ha
    rw [List.all_cons, Bool.and_eq_true] at ha
    have hc := ha.1
    unfold fig at hc
    simp only [Bool.and_eq_true, decide_eq_true_eq] at hc
    exact ih _ (by omega) ha.2
def finD (s : ByteArray) (v : Int) : Int × Bool := if v > 1000000000 then (0, false) else if (⟨(Go.Lib.itoa v).toArray⟩ : ByteArray).toList = s.toList then (v, true) else (0, false)
def readD (s : ByteArray) : Int × Bool := if s.size > 10 then (0, false) else if (bytesOf s).all fig = true then finD s (valL 0 (bytesOf s)) else (0, false)

theorem spec_ReadDecimal_l {s : ByteArray} (hs : s.size ≤ 10) : ∀ (ys pre : List Int) (k : Nat) (x : Int), bytesOf s = pre ++ ys → 0 ≤ x → x < ((10 ^ pre.length : Nat) : Int) → ys.length + 31 < k →
    spec_ReadDecimal.l0 k s x (pre.length : Int) = some (if ys.all fig = true then finD s (valL x ys) else (0, false)) := by
  intro ys
  induction ys with
  | nil =>
    intro pre k x h h0 h1 hk
    obtain ⟨k, rfl⟩ := succ_of hk
    have he := bx_end h
    have hx : 10 ^ pre.length ≤ 10 ^ 10 := Nat.pow_le_pow_right (by omega) (by omega)
    rw [List.length_nil] at hk
    simp only [spec_ReadDecimal.l0]
    rw [if_neg (by omega), if_pos (show ([] : List Int).all fig = true from rfl)]
    unfold finD
    show _ = some (if x > 1000000000 then (0, false) else if (⟨(Go.Lib.itoa x).toArray⟩ : ByteArray).toList = s.toList then (x, true) else (0, false))
    by_cases hb : x > 1000000000
    · rw [if_pos hb, if_pos hb]
    · rw [if_neg hb, if_neg hb, dec_all (by omega) (by omega) k (by omega), Option.bind_some]
      split <;> rfl
  | cons c ys ih =>
    intro pre k x h h0 h1 hk
    obtain ⟨k, rfl⟩ := succ_of hk
    have hlt := bx_lt h
    have hc := bx_in h
    have hp : pre.length ≤ 9 := by omega
    have hx : 10 ^ pre.length ≤ 10 ^ 9 := Nat.pow_le_pow_right (by omega) hp
    rw [List.length_cons] at hk
    simp only [spec_ReadDecimal.l0]
    rw [if_pos hlt, if_pos (by omega), bx_at h]
    by_cases h48 : c < 48
    · rw [if_pos h48, if_neg]
      rw [List.all_cons]
      unfold fig
      rw [decide_eq_false (show ¬ 48 ≤ c by omega), Bool.false_and, Bool.false_and]
      decide
    · rw [if_neg h48]
      by_cases h57 : c > 57
      · rw [if_pos h57, if_neg]
        rw [List.all_cons]
        unfold fig
        rw [decide_eq_false (show ¬ c ≤ 57 by omega), Bool.and_false, Bool.false_and]
        decide
      · rw [if_neg h57, w64 (x := 10 * x) (by omega) (by omega), w64 (x := c) (by omega) (by omega), w64 (x := 10 * x + c) (by omega) (by omega), w64 (x := 10 * x + c - 48) (by omega) (by omega), bx_wrap h (by omega)]
        rw [ih (pre ++ [c]) k _ (bx_next h) (by omega) (by rw [List.length_append, List.length_singleton, Nat.pow_succ]; omega) (by omega)]
        have e : (c :: ys).all fig = ys.all fig := by
          rw [List.all_cons]
          unfold fig
          rw [decide_eq_true (show 48 ≤ c by omega), decide_eq_true (show c ≤ 57 by omega)]
          rfl
        rw [e]
        rfl
theorem spec_ReadDecimal_k (s : ByteArray) {k : Nat} (hk : 50 ≤ k) : spec_ReadDecimal.f k s = some (readD s) := by
  unfold spec_ReadDecimal.f readD
  by_cases h : s.size > 10
  · rw [if_pos (by omega), if_pos h]
  · rw [if_neg (by omega), if_neg h]
    exact spec_ReadDecimal_l (by omega) (bytesOf s) [] k 0 rfl (by omega) (by decide) (by rw [bx_len]; omega)

theorem readD_itoa {s : ByteArray} {n : Int} (h0 : 0 ≤ n) (h1 : n ≤ 1000000000) (he : s = ⟨(Go.Lib.itoa n).toArray⟩) : readD s = (n, true) := by
  have hf : bytesOf s = figsOf n := by rw [he]; exact itoa_figs h0 (by omega)
  have hl := (figs_len h0 (m := 9) (by omega)).2
  have hz : s.size ≤ 10 := by rw [← bx_len, hf]; exact hl
  unfold readD finD
  rw [if_neg (by omega), hf, if_pos (figs_all h0), valL_figs h0 (by omega), if_neg (by omega), ← he, if_pos rfl]
theorem readD_true {s : ByteArray} {n : Int} (h : readD s = (n, true)) : 0 ≤ n ∧ n ≤ 1000000000 ∧ (⟨(Go.Lib.itoa n).toArray⟩ : ByteArray).toList = s.toList := by
  unfold readD finD at h
  split at h
  · cases h
  · split at h
    · rename_i ha
      have hv := valL_nonneg (bytesOf s) 0 (by omega) ha
      split at h
      · cases h
      · split at h
        · rename_i hb he
          cases h
          exact ⟨hv, by omega, he⟩
        · cases h
    · cases h
theorem readD_or (s : ByteArray) : readD s = (0, false) ∨ ∃ n, readD s = (n, true) := by
  unfold readD finD
  split
  · exact .inl rfl
  · split
    · split
      · exact .inl rfl
      · split
        · exact .inr ⟨_, rfl⟩
        · exact .inl rfl
    · exact .inl rfl
theorem readD_q (s : ByteArray) : qrdS s = readD s := by
  unfold qrdS
  cases hA : Go.Lib.atoiAll s.data.toList with
  | ok v =>
    dsimp only
    by_cases hv : 0 ≤ v ∧ v ≤ 1000000000 ∧ (⟨(Go.Lib.itoa v).toArray⟩ : ByteArray).toList = s.toList
    · rw [if_pos hv, readD_itoa hv.1 hv.2.1 (tl_inj hv.2.2).symm]
    · rw [if_neg hv]
      rcases readD_or s with h | ⟨n, h⟩
      · exact h.symm
      · exfalso
        have hn := readD_true h
        have e := tl_inj hn.2.2
        rw [← e] at hA
        have := (atoi_itoa hn.1 hn.2.1).symm.trans hA
        cases this
        exact hv hn
  | «syntax» =>
    rcases readD_or s with h | ⟨n, h⟩
    · exact h.symm
    · exfalso
      have hn := readD_true h
      have e := tl_inj hn.2.2
      rw [← e] at hA
      have := (atoi_itoa hn.1 hn.2.1).symm.trans hA
      cases this
  | range =>
    rcases readD_or s with h | ⟨n, h⟩
    · exact h.symm
    · exfalso
      have hn := readD_true h
      have e := tl_inj hn.2.2
      rw [← e] at hA
      have := (atoi_itoa hn.1 hn.2.1).symm.trans hA
      cases this
theorem impl_ReadDecimal_k {s : ByteArray} (hs : s.size ≤ 140737488351232) : impl_ReadDecimal.f s = some (readD s) := by
  unfold impl_ReadDecimal.f
  rw [if_pos (by omega), readD_q]

theorem FnExactReadDecimal : laws_FnExactReadDecimal.Pure := by
  intro s hs
  refine ⟨50, ?_⟩
  unfold laws_FnExactReadDecimal.f
  split
  · rfl
  · rw [spec_ReadDecimal_k s (Nat.le_refl _), impl_ReadDecimal_k hs, Option.bind_some, Option.bind_some, if_pos rfl, if_neg (by simp)]

end Go.Proofs.YtkgpokiglanjfaaDoor.Pure
