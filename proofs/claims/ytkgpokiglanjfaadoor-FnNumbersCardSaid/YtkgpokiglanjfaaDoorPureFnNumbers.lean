/- The pure statement of FnNumbers: over numbers and lists, what the printed functions come to is what the law wants, for every input. -/
import Derived.Test.YtkgpokiglanjfaaDoorQFnNumbersx4
set_option linter.unusedVariables false
set_option linter.unusedSimpArgs false
namespace Go.Proofs.YtkgpokiglanjfaaDoor.Pure
open Go.RowKit Go.Proofs.YtkgpokiglanjfaaDoor.QFnNumbers Go.Proofs.YtkgpokiglanjfaaDoorW.PrintWords Go.Proofs.YtkgpokiglanjfaaDoorW.PrintLast
/-! Words on strings as lists of numbers. -/
theorem w64 {x : Int} (h0 : -9223372036854775808 ≤ x) (h1 : x ≤ 9223372036854775807) : wrap64 x = x := by
  unfold wrap64
  omega
theorem bx_len (s : ByteArray) : (bytesOf s).length = s.size := bytesOf_length s
theorem bx_byte (s : ByteArray) : ∀ c ∈ bytesOf s, 0 ≤ c ∧ c ≤ 255 := by
  intro c hc
  unfold bytesOf at hc
  obtain ⟨b, _, rfl⟩ := List.mem_map.1 hc
  have := b.toNat_lt
  omega
theorem bx_at {s : ByteArray} {pre ys : List Int} {c : Int} (h : bytesOf s = pre ++ c :: ys) : bt s (pre.length : Int) = c := by
  rw [← rd_bytesOf, h, rd, Int.toNat_natCast, List.getD_eq_getElem?_getD, List.getElem?_append_right (Nat.le_refl _)]
  simp
theorem bx_lt {s : ByteArray} {pre ys : List Int} {c : Int} (h : bytesOf s = pre ++ c :: ys) : (pre.length : Int) < (s.size : Int) := by
  have := congrArg List.length h
  rw [bx_len, List.length_append, List.length_cons] at this
  omega
theorem bx_end {s : ByteArray} {pre : List Int} (h : bytesOf s = pre ++ []) : (s.size : Int) = (pre.length : Int) := by
  have := congrArg List.length h
  rw [bx_len, List.append_nil] at this
  omega
theorem bx_next {s : ByteArray} {pre ys : List Int} {c : Int} (h : bytesOf s = pre ++ c :: ys) : bytesOf s = (pre ++ [c]) ++ ys := by
  rw [h, List.append_assoc]; rfl
theorem len_next (pre : List Int) (c : Int) : ((pre ++ [c]).length : Int) = (pre.length : Int) + 1 := by
  rw [List.length_append, List.length_singleton]; omega
theorem bx_inj {s t : ByteArray} (h : bytesOf s = bytesOf t) : s = t := by
  unfold bytesOf at h
  have h2 : s.data.toList = t.data.toList := by
    refine (List.map_inj_right (f := fun b : UInt8 => (b.toNat : Int)) ?_).1 h
    intro x y hxy
    exact UInt8.toNat_inj.1 (Int.ofNat_inj.1 hxy)
  exact ByteArray.ext (Array.toList_inj.1 h2)
theorem tl_inj {s t : ByteArray} (h : s.toList = t.toList) : s = t := by
  rw [ByteArray.toList_eq, ByteArray.toList_eq] at h
  exact ByteArray.ext (Array.toList_inj.1 h)
theorem tl_iff {s t : ByteArray} : s.toList = t.toList ↔ bytesOf s = bytesOf t := ⟨fun h => by rw [tl_inj h], fun h => by rw [bx_inj h]⟩
theorem bx_app (s t : ByteArray) : bytesOf (s ++ t) = bytesOf s ++ bytesOf t := by
  simp [bytesOf]
theorem bx_cut (s : ByteArray) (a b : Nat) : bytesOf (s.extract a b) = ((bytesOf s).take b).drop a := by
  simp [bytesOf, ByteArray.data_extract, List.map_drop, List.map_take, List.take_drop]
  rw [List.drop_take, List.drop_take]
  congr 1
  omega
theorem bx_str {xs : List Int} (h : ∀ c ∈ xs, 0 ≤ c ∧ c ≤ 255) : bytesOf (strOfNums xs) = xs := by
  unfold bytesOf
  rw [strOfNums_data, List.map_map]
  induction xs with
  | nil => rfl
  | cons c xs ih =>
    rw [List.map_cons, ih (fun d hd => h d (List.mem_cons_of_mem _ hd))]
    have hc := h c (List.mem_cons_self ..)
    congr 1
    have e : (UInt8.ofNat c.toNat).toNat = c.toNat := by
      rw [UInt8.toNat_ofNat']
      omega
    show ((UInt8.ofNat c.toNat).toNat : Int) = c
    rw [e]
    omega
theorem bx_wrap {s : ByteArray} {pre ys : List Int} {c : Int} (h : bytesOf s = pre ++ c :: ys) (hs : s.size ≤ 140737488351232) : wrap64 ((pre.length : Int) + 1) = ((pre ++ [c]).length : Int) := by
  rw [len_next]
  have := bx_lt h
  exact w64 (by omega) (by omega)
theorem bx_in {s : ByteArray} {pre ys : List Int} {c : Int} (h : bytesOf s = pre ++ c :: ys) : 0 ≤ c ∧ c ≤ 255 :=
  bx_byte s c (by rw [h]; exact List.mem_append_right _ (List.mem_cons_self ..))
theorem succ_of {n k : Nat} (h : n < k) : ∃ m, k = m + 1 := ⟨k - 1, by omega⟩
theorem ev2 {α β : Type} {g : Nat → Option α} {f : Nat → Option β} {a : α} {b : β} (h : Ev g a) (h' : Ev f b) : ∃ k, g k = some a ∧ f k = some b := by
  obtain ⟨K, h⟩ := h
  obtain ⟨K', h'⟩ := h'
  exact ⟨K + K', h _ (by omega), h' _ (by omega)⟩

theorem u32_in {x : Int} (h : (Lit.int .u32 x).wf = true) : 0 ≤ x ∧ x < 4294967296 := by
  simp only [Lit.wf, IntKind.min, IntKind.max, IntKind.signed, IntKind.bits, Bool.and_eq_true, decide_eq_true_eq] at h
  simp at h
  omega
theorem i64_in {x : Int} (h : (Lit.int .i64 x).wf = true) : -9223372036854775808 ≤ x ∧ x ≤ 9223372036854775807 := by
  simp only [Lit.wf, IntKind.min, IntKind.max, IntKind.signed, IntKind.bits, Bool.and_eq_true, decide_eq_true_eq] at h
  simp at h
  omega

def fig (c : Int) : Bool := decide (48 ≤ c) && decide (c ≤ 57)
def isNumL (xs : List Int) : Bool := xs.all fig && (decide (1 ≤ xs.length) && decide (xs.length ≤ 6))
theorem len16 (s : ByteArray) : (decide ((1 : Int) ≤ (s.size : Int)) && decide ((s.size : Int) ≤ 6)) = (decide (1 ≤ (bytesOf s).length) && decide ((bytesOf s).length ≤ 6)) := by
  rw [bx_len]
  congr 1 <;> apply decide_eq_decide.2 <;> omega

theorem iIn (a b c : Int) : impl_within.f a b c = some (decide (b ≤ a) && decide (a ≤ c)) := by
  unfold impl_within.f
  by_cases h : a ≥ b
  · rw [if_pos h]; simp [show b ≤ a from h]
  · rw [if_neg h]; simp [show ¬ b ≤ a from h]

theorem and255_in (x : Int) : 0 ≤ Go.bits .and .i64 x 255 ∧ Go.bits .and .i64 x 255 ≤ 255 := by
  simp only [Go.bits]
  rw [IntKind.wrap_i64]
  have h : (BitVec.ofInt IntKind.i64.bits x &&& BitVec.ofInt IntKind.i64.bits 255).toNat ≤ 255 := by
    rw [BitVec.toNat_and]
    exact Nat.le_trans Nat.and_le_right (by decide)
  omega
/-- The drawn bytes are bytes, and no more than can be. -/
def IsCode (b : List Int) : Prop := b.length ≤ 9223372036854775807

theorem byte_ok {b : List Int} (hb : IsCode b) {i : Int} (hi : 0 ≤ i) (h : Int) : ∃ r i' h', spec_l01Byte.f b i h = some (r, i', h') ∧ 0 ≤ r ∧ r ≤ 255 ∧ 0 ≤ i' := by
  unfold IsCode at hb
  unfold spec_l01Byte.f
  by_cases h1 : i < (b.length : Int)
  · rw [if_pos h1, if_pos hi]
    refine ⟨_, _, _, rfl, (and255_in _).1, (and255_in _).2, ?_⟩
    rw [w64 (by omega) (by omega)]
    omega
  · rw [if_neg h1]
    exact ⟨_, _, _, rfl, (and255_in _).1, (and255_in _).2, hi⟩
theorem below_ok {b : List Int} (hb : IsCode b) {i : Int} (hi : 0 ≤ i) (h : Int) {n : Int} (h0 : 0 < n) (h1 : n ≤ 4294967296) :
    ∃ r i' h', spec_l01Below.f b i h n = some (r, i', h') ∧ 0 ≤ r ∧ r < n ∧ 0 ≤ i' := by
  unfold spec_l01Below.f
  rw [if_neg (by omega)]
  obtain ⟨r1, i1, h1', e1, a1, b1, c1⟩ := byte_ok hb hi h
  by_cases hn : n ≤ 256
  · rw [if_pos hn, e1, Option.bind_some, if_neg (by omega)]
    refine ⟨_, _, _, rfl, ?_, ?_, c1⟩
    · rw [Int.tmod_eq_emod_of_nonneg a1]; exact Int.emod_nonneg _ (by omega)
    · rw [Int.tmod_eq_emod_of_nonneg a1]; exact Int.emod_lt_of_pos _ h0
  · rw [if_neg hn, e1, Option.bind_some]
    obtain ⟨r2, i2, h2', e2, a2, b2, c2⟩ := byte_ok hb c1 h1'
    obtain ⟨r3, i3, h3', e3, a3, b3, c3⟩ := byte_ok hb c2 h2'
    obtain ⟨r4, i4, h4', e4, a4, b4, c4⟩ := byte_ok hb c3 h3'
    dsimp only
    rw [e2, Option.bind_some]
    dsimp only
    rw [e3, Option.bind_some]
    dsimp only
    rw [e4, Option.bind_some, if_neg (by omega)]
    dsimp only
    rw [w64 (show _ ≤ r1 * 16777216 by omega) (by omega), w64 (show _ ≤ r2 * 65536 by omega) (by omega), w64 (show _ ≤ r3 * 256 by omega) (by omega),
      w64 (show _ ≤ r1 * 16777216 + r2 * 65536 by omega) (by omega), w64 (show _ ≤ r1 * 16777216 + r2 * 65536 + r3 * 256 by omega) (by omega), w64 (show _ ≤ r1 * 16777216 + r2 * 65536 + r3 * 256 + r4 by omega) (by omega)]
    refine ⟨_, _, _, rfl, ?_, ?_, c4⟩
    · rw [Int.tmod_eq_emod_of_nonneg (by omega)]; exact Int.emod_nonneg _ (by omega)
    · rw [Int.tmod_eq_emod_of_nonneg (by omega)]; exact Int.emod_lt_of_pos _ h0
theorem new_l {b : List Int} (hb : IsCode b) : ∀ (d : Nat) (k : Nat) (h i : Int), 0 ≤ i → (4000 : Int) - i ≤ d → d < k → ∃ h', spec_l01New.l0 k b h i = some (b, 0, h') := by
  unfold IsCode at hb
  intro d
  induction d with
  | zero =>
    intro k h i hi hd hk
    obtain ⟨k, rfl⟩ := succ_of hk
    simp only [spec_l01New.l0]
    by_cases h1 : i < (b.length : Int)
    · rw [if_pos h1, if_neg (by omega)]; exact ⟨_, rfl⟩
    · rw [if_neg h1]; exact ⟨_, rfl⟩
  | succ d ih =>
    intro k h i hi hd hk
    obtain ⟨k, rfl⟩ := succ_of hk
    simp only [spec_l01New.l0]
    by_cases h1 : i < (b.length : Int)
    · rw [if_pos h1]
      by_cases h2 : i < 4000
      · rw [if_pos h2, if_pos hi, w64 (show _ ≤ i + 1 by omega) (by omega)]
        exact ih k _ (i + 1) (by omega) (by omega) (by omega)
      · rw [if_neg h2]; exact ⟨_, rfl⟩
    · rw [if_neg h1]; exact ⟨_, rfl⟩
theorem new_ok {b : List Int} (hb : IsCode b) : ∃ h', ∀ k, 4001 ≤ k → spec_l01New.f k b = some (b, 0, h') := by
  obtain ⟨h', e⟩ := new_l hb 4000 4001 (wrap64 (38001 + (b.length : Int))) 0 (by omega) (by omega) (by omega)
  refine ⟨h', fun k hk => ?_⟩
  have hm : ∀ k, LeO (spec_l01New.l0 k b (wrap64 (38001 + (b.length : Int))) 0) (spec_l01New.l0 (k + 1) b (wrap64 (38001 + (b.length : Int))) 0) := fun k => by
    have := spec_l01New.mono_l k
    exact this _ _ _
  exact at_rounds (g := fun k => spec_l01New.l0 k b (wrap64 (38001 + (b.length : Int))) 0) hm hk e

theorem pickInt_ok {b : List Int} (hb : IsCode b) {i : Int} (hi : 0 ≤ i) (h : Int) {l : List Int} (h0 : 0 < l.length) (h1 : l.length ≤ 4294967296) :
    ∃ r i' h', spec_l01PickInt.f b i h l = some (r, i', h') ∧ r ∈ l ∧ 0 ≤ i' := by
  unfold spec_l01PickInt.f
  obtain ⟨r, i', h', e, a, b', c⟩ := below_ok hb hi h (n := (l.length : Int)) (by omega) (by omega)
  rw [e, Option.bind_some]
  dsimp only
  rw [if_pos a, if_pos b']
  refine ⟨_, _, _, rfl, ?_, c⟩
  unfold rd
  rw [List.getD_eq_getElem?_getD, List.getElem?_eq_getElem (by omega)]
  exact List.getElem_mem _

theorem long_l {x n : Int} (hn : n ≤ 100000) : ∀ (d : Nat) (k : Nat) (xs : List Int) (i : Int), 0 ≤ i → n - i ≤ d → (xs.length : Int) = n → d < k → ∃ ys : List Int, spec_l01Long.l0 k n x xs i = some (strOfNums ys) ∧ ys.length = xs.length := by
  intro d
  induction d with
  | zero =>
    intro k xs i hi hd hl hk
    obtain ⟨k, rfl⟩ := succ_of hk
    simp only [spec_l01Long.l0]
    rw [if_neg (by omega)]
    exact ⟨xs, rfl, rfl⟩
  | succ d ih =>
    intro k xs i hi hd hl hk
    obtain ⟨k, rfl⟩ := succ_of hk
    simp only [spec_l01Long.l0]
    by_cases h : i < n
    · rw [if_pos h, if_pos hi, if_pos (by omega), w64 (by omega) (by omega)]
      obtain ⟨ys, e, hy⟩ := ih k (xs.set i.toNat x) (i + 1) (by omega) (by omega) (by rw [List.length_set]; exact hl) (by omega)
      exact ⟨ys, e, by rw [hy, List.length_set]⟩
    · rw [if_neg h]
      exact ⟨xs, rfl, rfl⟩
theorem long_ok {n x : Int} (h0 : 0 ≤ n) (hn : n ≤ 100000) {k : Nat} (hk : 100001 ≤ k) : ∃ s, spec_l01Long.f k n x = some s ∧ (s.size : Int) = n := by
  unfold spec_l01Long.f
  rw [if_pos h0, if_pos (by omega)]
  obtain ⟨ys, e, hy⟩ := long_l hn n.toNat k (List.replicate n.toNat 0) 0 (x := x) (by omega) (by omega) (by rw [List.length_replicate]; omega) (by omega)
  rw [List.length_replicate] at hy
  exact ⟨_, e, by rw [strOfNums_size, hy]; omega⟩
theorem long_ev {n x : Int} (h0 : 0 ≤ n) (hn : n ≤ 100000) : ∃ s, (∀ k, 100001 ≤ k → spec_l01Long.f k n x = some s) ∧ (s.size : Int) = n := by
  obtain ⟨s, e, hs⟩ := long_ok (x := x) h0 hn (Nat.le_refl 100001)
  refine ⟨s, fun k hk => ?_, hs⟩
  have hm : ∀ k, LeO (spec_l01Long.f k n x) (spec_l01Long.f (k + 1) n x) := fun k => spec_l01Long.mono n x k
  exact at_rounds (g := fun k => spec_l01Long.f k n x) hm hk e

theorem text_l {b : List Int} (hb : IsCode b) {n : Int} (hn : n ≤ 5000) : ∀ (d : Nat) (k : Nat) (xs : List Int) (j i h : Int), 0 ≤ j → n - j ≤ d → (xs.length : Int) = j → j ≤ n → 0 ≤ i → d < k →
    ∃ ys i' h', spec_l01Text.l0 k n xs j b i h = some (strOfNums ys, i', h') ∧ (ys.length : Int) = n ∧ 0 ≤ i' := by
  intro d
  induction d with
  | zero =>
    intro k xs j i h hj hd hl hjn hi hk
    obtain ⟨k, rfl⟩ := succ_of hk
    simp only [spec_l01Text.l0]
    rw [if_neg (by omega)]
    exact ⟨xs, i, h, rfl, by omega, hi⟩
  | succ d ih =>
    intro k xs j i h hj hd hl hjn hi hk
    obtain ⟨k, rfl⟩ := succ_of hk
    simp only [spec_l01Text.l0]
    by_cases hc : j < n
    · obtain ⟨r, i1, h1, e1, _, _, c1⟩ := byte_ok hb hi h
      rw [if_pos hc, e1, Option.bind_some]
      dsimp only
      rw [if_pos (by omega), w64 (by omega) (by omega)]
      exact ih k (xs ++ [r % 256]) (j + 1) i1 h1 (by omega) (by omega) (by rw [List.length_append, List.length_singleton]; omega) (by omega) c1 (by omega)
    · rw [if_neg hc]
      exact ⟨xs, i, h, rfl, by omega, hi⟩
theorem text_ok {b : List Int} (hb : IsCode b) {i : Int} (hi : 0 ≤ i) (h : Int) {n : Int} (h0 : 0 ≤ n) (hn : n ≤ 5000) :
    ∃ s i' h', (∀ k, 5003 ≤ k → spec_l01Text.f k b i h n = some (s, i', h')) ∧ (s.size : Int) = n ∧ 0 ≤ i' := by
  obtain ⟨ys, i', h', e, hy, hi'⟩ := text_l hb hn 5000 5001 [] 0 i h (by omega) (by omega) rfl h0 hi (by omega)
  refine ⟨strOfNums ys, i', h', fun k hk => ?_, by rw [strOfNums_size]; exact hy, hi'⟩
  obtain ⟨k, rfl⟩ : ∃ m, k = m + 1 := ⟨k - 1, by omega⟩
  unfold spec_l01Text.f
  rw [if_neg (by omega)]
  simp only [spec_l01Text.j0]
  have hm : ∀ k, LeO (spec_l01Text.l0 k n [] 0 b i h) (spec_l01Text.l0 (k + 1) n [] 0 b i h) := fun k => by
    have := (spec_l01Text.mono_l k).2
    exact this _ _ _ _ _ _
  exact at_rounds (g := fun k => spec_l01Text.l0 k n [] 0 b i h) hm (show 5001 ≤ k by omega) e

/-- Decimal figures, the highest first, of a number above 0. -/
def decL : Nat → Int → List Int → List Int
  | 0, _, acc => acc
  | f + 1, n, acc => if n = 0 then acc else decL f (n / 10) ((48 + n % 10) :: acc)
def figsOf (n : Int) : List Int := if n = 0 then [48] else decL 20 n []
theorem fig_add (d : Int) (h0 : 0 ≤ d) (h1 : d < 10) : fig (48 + d) = true := by
  unfold fig
  rw [decide_eq_true (by omega), decide_eq_true (by omega)]
  rfl
theorem decL_all : ∀ (f : Nat) (n : Int) (acc : List Int), 0 ≤ n → acc.all fig = true → (decL f n acc).all fig = true := by
  intro f
  induction f with
  | zero => intro n acc _ h; exact h
  | succ f ih =>
    intro n acc hn h
    unfold decL
    split
    · exact h
    · exact ih (n / 10) _ (by omega) (by rw [List.all_cons, fig_add _ (by omega) (by omega), h]; rfl)
theorem decL_len : ∀ (f : Nat) (n : Int) (acc : List Int) (m : Nat), 0 ≤ n → n < 10 ^ m → acc.length ≤ (decL f n acc).length ∧ (decL f n acc).length ≤ acc.length + m := by
  intro f
  induction f with
  | zero => intro n acc m _ _; simp [decL]
  | succ f ih =>
    intro n acc m hn h
    unfold decL
    split
    · simp
    · cases m with
      | zero => exfalso; simp at h; omega
      | succ m =>
        have := ih (n / 10) ((48 + n % 10) :: acc) m (by omega) (by rw [Int.pow_succ] at h; omega)
        rw [List.length_cons] at this
        omega
theorem figs_all {n : Int} (hn : 0 ≤ n) : (figsOf n).all fig = true := by
  unfold figsOf
  split
  · rfl
  · exact decL_all 20 n [] hn rfl
theorem figs_len {n : Int} (hn : 0 ≤ n) {m : Nat} (h : n < 10 ^ (m + 1)) : 1 ≤ (figsOf n).length ∧ (figsOf n).length ≤ m + 1 := by
  unfold figsOf
  split
  · simp
  · rename_i h0
    have := decL_len 20 n [] (m + 1) hn h
    refine ⟨?_, by simpa using this.2⟩
    have := decL_len 19 (n / 10) [48 + n % 10] 20
    unfold decL
    rw [if_neg h0]
    have h2 := (decL_len 19 (n / 10) [48 + n % 10] (m + 1) (by omega) (by rw [Int.pow_succ] at h ⊢; omega)).1
    simpa using h2
theorem figs_byte {n : Int} (hn : 0 ≤ n) : ∀ c ∈ figsOf n, 0 ≤ c ∧ c ≤ 255 := by
  intro c hc
  have := List.all_eq_true.1 (figs_all hn) c hc
  unfold fig at this
  simp at this
  omega
theorem isNum_figs {n : Int} (hn : 0 ≤ n) (h : n < 1000000) : isNumL (figsOf n) = true := by
  unfold isNumL
  have := figs_len hn (m := 5) h
  rw [figs_all hn, decide_eq_true this.1, decide_eq_true this.2]
  rfl

/-! The library's decimal numeral, as a list of numbers. -/
theorem decL_zero (f : Nat) (acc : List Int) : decL f 0 acc = acc := by
  cases f with
  | zero => rfl
  | succ f => unfold decL; rw [if_pos rfl]
theorem u8n {u : Nat} (h : u < 256) : ((UInt8.ofNat u).toNat : Int) = (u : Int) := by
  rw [UInt8.toNat_ofNat']
  omega
theorem decL_dig : ∀ (f u : Nat) (acc : List Int), 0 < u → u < 10 ^ f → decL f (u : Int) acc = (Go.Lib.decDigits u).map (fun b => (b.toNat : Int)) ++ acc := by
  intro f
  induction f with
  | zero => intro u acc h0 h1; simp at h1; omega
  | succ f ih =>
    intro u acc h0 h1
    have e1 : ((u : Int) / 10) = ((u / 10 : Nat) : Int) := by omega
    have e2 : ((u : Int) % 10) = ((u % 10 : Nat) : Int) := by omega
    unfold decL
    rw [if_neg (by omega), e1, e2, Go.Lib.decDigits]
    by_cases h : u < 10
    · rw [dif_pos h, show u / 10 = 0 by omega, show u % 10 = u by omega]
      show decL f 0 _ = _
      rw [decL_zero, List.map_cons, u8n (by omega), Int.natCast_add]
      rfl
    · rw [dif_neg h, ih (u / 10) _ (by omega) (by rw [Nat.pow_succ] at h1; omega), List.map_append, List.map_cons, List.map_nil, u8n (by omega), List.append_assoc, Int.natCast_add]
      rfl
theorem bx_mk (l : List UInt8) : bytesOf ⟨l.toArray⟩ = l.map (fun b => (b.toNat : Int)) := rfl
theorem dig_figs (u : Nat) (h : u < 100000000000000000000) : (Go.Lib.decDigits u).map (fun b => (b.toNat : Int)) = figsOf (u : Int) := by
  unfold figsOf
  by_cases h0 : u = 0
  · subst h0
    rw [if_pos (by omega), Go.Lib.decDigits, dif_pos (by omega)]
    rfl
  · rw [if_neg (by omega), decL_dig 20 u [] (by omega) (by omega), List.append_nil]
theorem itoa_figs {n : Int} (h0 : 0 ≤ n) (h1 : n ≤ 9223372036854775808) : bytesOf ⟨(Go.Lib.itoa n).toArray⟩ = figsOf n := by
  obtain ⟨u, rfl⟩ : ∃ u : Nat, n = u := ⟨n.toNat, by omega⟩
  rw [bx_mk, Go.Lib.itoa_nonneg, dig_figs u (by omega)]
theorem itoa_negs {n : Int} (h0 : 0 < n) (h1 : n ≤ 9223372036854775808) : bytesOf ⟨(Go.Lib.itoa (-n)).toArray⟩ = 45 :: figsOf n := by
  obtain ⟨u, rfl⟩ : ∃ u : Nat, n = u := ⟨n.toNat, by omega⟩
  rw [bx_mk, Go.Lib.itoa_neg u (by omega), List.map_cons, dig_figs u (by omega)]
  rfl

theorem impl_Decimal_k {n : Int} (h0 : -9223372036854775808 ≤ n) (h1 : n ≤ 9223372036854775807) : impl_Decimal.f n = some ⟨(Go.Lib.itoa n).toArray⟩ := by
  unfold impl_Decimal.f strconv_Itoa.f
  rw [if_pos ⟨h0, h1⟩]
  rfl

/-! A told number, read back by the library. -/
theorem dfc (acc : Nat) (b : UInt8) (r : List UInt8) : Go.Lib.decFrom acc (b :: r) = match Go.Lib.digitVal b with | some d => Go.Lib.decFrom (acc * 10 + d) r | none => none := rfl
theorem decFrom_app : ∀ (l r : List UInt8) (acc : Nat), Go.Lib.decFrom acc (l ++ r) = (Go.Lib.decFrom acc l).bind fun m => Go.Lib.decFrom m r := by
  intro l
  induction l with
  | nil => intro r acc; rfl
  | cons b l ih =>
    intro r acc
    rw [List.cons_append, dfc, dfc]
    cases Go.Lib.digitVal b with
    | none => rfl
    | some d => exact ih r _
theorem digit_of {d : Nat} (h : d < 10) : Go.Lib.digitVal (UInt8.ofNat (48 + d)) = some d := by
  unfold Go.Lib.digitVal
  rw [UInt8.toNat_ofNat', if_pos (by omega)]
  congr 1
  omega
theorem decFrom_digits (u : Nat) : Go.Lib.decFrom 0 (Go.Lib.decDigits u) = some u := by
  induction u using Nat.strongRecOn with
  | _ u ih =>
    rw [Go.Lib.decDigits]
    by_cases h : u < 10
    · rw [dif_pos h]
      rw [dfc, digit_of h]
      show Go.Lib.decFrom (0 * 10 + u) [] = some u
      unfold Go.Lib.decFrom
      congr 1
      omega
    · rw [dif_neg h, decFrom_app, ih (u / 10) (by omega), Option.bind_some]
      rw [dfc, digit_of (by omega)]
      show Go.Lib.decFrom (u / 10 * 10 + u % 10) [] = some u
      unfold Go.Lib.decFrom
      congr 1
      omega
theorem digits_head (u : Nat) : ∃ c r, Go.Lib.decDigits u = c :: r ∧ 48 ≤ c.toNat := by
  induction u using Nat.strongRecOn with
  | _ u ih =>
    rw [Go.Lib.decDigits]
    by_cases h : u < 10
    · rw [dif_pos h]
      exact ⟨_, _, rfl, by rw [UInt8.toNat_ofNat']; omega⟩
    · rw [dif_neg h]
      obtain ⟨c, r, e, hc⟩ := ih (u / 10) (by omega)
      exact ⟨c, _, by rw [e]; rfl, hc⟩
theorem atoi_itoa {n : Int} (h0 : 0 ≤ n) (h1 : n ≤ 1000000000) : Go.Lib.atoiAll (Go.Lib.itoa n) = .ok n := by
  obtain ⟨u, rfl⟩ : ∃ u : Nat, n = u := ⟨n.toNat, by omega⟩
  have hf := dig_figs u (by omega)
  have hl := (figs_len (n := (u : Int)) (by omega) (m := 9) (by omega)).2
  have hl2 : (Go.Lib.decDigits u).length ≤ 10 := by
    have := congrArg List.length hf
    rw [List.length_map] at this
    omega
  rw [Go.Lib.itoa_nonneg, Go.Lib.atoiAll_short _ (by omega)]
  obtain ⟨c, r, e, hc⟩ := digits_head u
  have hd := decFrom_digits u
  rw [e] at hd ⊢
  have h45 : (c == 45) = false := beq_eq_false_iff_ne.2 fun k => by subst k; exact absurd hc (by decide)
  have h43 : (c == 43) = false := beq_eq_false_iff_ne.2 fun k => by subst k; exact absurd hc (by decide)
  show Go.Lib.NumEnd.ofOption (if (c == 45) = true then (Go.Lib.decNat r).map fun (m : Nat) => -(m : Int) else if (c == 43) = true then (Go.Lib.decNat r).map fun (m : Nat) => (m : Int) else (Go.Lib.decNat (c :: r)).map fun (m : Nat) => (m : Int)) = _
  rw [h45, h43, if_neg (by decide), if_neg (by decide)]
  unfold Go.Lib.decNat
  rw [if_neg (by simp), hd]
  rfl

def valL : Int → List Int → Int
  | n, [] => n
  | n, c :: cs => valL (10 * n + c - 48) cs
theorem valL_dec : ∀ (f : Nat) (n : Int) (acc : List Int), 0 ≤ n → n < 10 ^ f → valL 0 (decL f n acc) = valL n acc := by
  intro f
  induction f with
  | zero =>
    intro n acc h0 h1
    have : n = 0 := by simp at h1; omega
    subst this
    rfl
  | succ f ih =>
    intro n acc h0 h1
    unfold decL
    by_cases hz : n = 0
    · rw [if_pos hz, hz]
    · rw [if_neg hz, ih (n / 10) _ (by omega) (by rw [Int.pow_succ] at h1; omega)]
      show valL (10 * (n / 10) + (48 + n % 10) - 48) acc = _
      congr 1
      omega
theorem valL_figs {n : Int} (h0 : 0 ≤ n) (h1 : n ≤ 9223372036854775807) : valL 0 (figsOf n) = n := by
  unfold figsOf
  by_cases hz : n = 0
  · rw [if_pos hz, hz]
    rfl
  · rw [if_neg hz, valL_dec 20 n [] h0 (by omega)]
    rfl
theorem valL_nonneg : ∀ (ys : List Int) (x : Int), 0 ≤ x → ys.all fig = true → 0 ≤ valL x ys := by
  intro ys
  induction ys with
  | nil => intro x h _; exact h
  | cons c ys ih =>
    intro x h ha
    rw [List.all_cons, Bool.and_eq_true] at ha
    have hc := ha.1
    unfold fig at hc
    simp only [Bool.and_eq_true, decide_eq_true_eq] at hc
    exact ih _ (by omega) ha.2
def finD (s : ByteArray) (v : Int) : Int × Bool := if v > 1000000000 then (0, false) else if (⟨(Go.Lib.itoa v).toArray⟩ : ByteArray).toList = s.toList then (v, true) else (0, false)
def readD (s : ByteArray) : Int × Bool := if s.size > 10 then (0, false) else if (bytesOf s).all fig = true then finD s (valL 0 (bytesOf s)) else (0, false)

theorem readD_itoa {s : ByteArray} {n : Int} (h0 : 0 ≤ n) (h1 : n ≤ 1000000000) (he : s = ⟨(Go.Lib.itoa n).toArray⟩) : readD s = (n, true) := by
  have hf : bytesOf s = figsOf n := by rw [he]; exact itoa_figs h0 (by omega)
  have hl := (figs_len h0 (m := 9) (by omega)).2
  have hz : s.size ≤ 10 := by rw [← bx_len, hf]; exact hl
  unfold readD finD
  rw [if_neg (by omega), hf, if_pos (figs_all h0), valL_figs h0 (by omega), if_neg (by omega), ← he, if_pos rfl]
theorem readD_true {s : ByteArray} {n : Int} (h : readD s = (n, true)) : 0 ≤ n ∧ n ≤ 1000000000 ∧ (⟨(Go.Lib.itoa n).toArray⟩ : ByteArray).toList = s.toList := by
  unfold readD finD at h
  split at h
  · cases h
  · split at h
    · rename_i ha
      have hv := valL_nonneg (bytesOf s) 0 (by omega) ha
      split at h
      · cases h
      · split at h
        · rename_i hb he
          cases h
          exact ⟨hv, by omega, he⟩
        · cases h
    · cases h
theorem readD_or (s : ByteArray) : readD s = (0, false) ∨ ∃ n, readD s = (n, true) := by
  unfold readD finD
  split
  · exact .inl rfl
  · split
    · split
      · exact .inl rfl
      · split
        · exact .inr ⟨_, rfl⟩
        · exact .inl rfl
    · exact .inl rfl
theorem readD_q (s : ByteArray) : qrdS s = readD s := by
  unfold qrdS
  cases hA : Go.Lib.atoiAll s.data.toList with
  | ok v =>
    dsimp only
    by_cases hv : 0 ≤ v ∧ v ≤ 1000000000 ∧ (⟨(Go.Lib.itoa v).toArray⟩ : ByteArray).toList = s.toList
    · rw [if_pos hv, readD_itoa hv.1 hv.2.1 (tl_inj hv.2.2).symm]
    · rw [if_neg hv]
      rcases readD_or s with h | ⟨n, h⟩
      · exact h.symm
      · exfalso
        have hn := readD_true h
        have e := tl_inj hn.2.2
        rw [← e] at hA
        have := (atoi_itoa hn.1 hn.2.1).symm.trans hA
        cases this
        exact hv hn
  | «syntax» =>
    rcases readD_or s with h | ⟨n, h⟩
    · exact h.symm
    · exfalso
      have hn := readD_true h
      have e := tl_inj hn.2.2
      rw [← e] at hA
      have := (atoi_itoa hn.1 hn.2.1).symm.trans hA
      cases this
  | range =>
    rcases readD_or s with h | ⟨n, h⟩
    · exact h.symm
    · exfalso
      have hn := readD_true h
      have e := tl_inj hn.2.2
      rw [← e] at hA
      have := (atoi_itoa hn.1 hn.2.1).symm.trans hA
      cases this
theorem impl_ReadDecimal_k {s : ByteArray} (hs : s.size ≤ 140737488351232) : impl_ReadDecimal.f s = some (readD s) := by
  unfold impl_ReadDecimal.f
  rw [if_pos (by omega), readD_q]

/-- The bytes of a number, seven bits in each, the lowest first. -/
def varL : Nat → Int → List Int
  | 0, n => [n]
  | f + 1, n => if n > 127 then (n % 128 + 128) :: varL f (n / 128) else [n]
theorem varL_in (f : Nat) : ∀ n : Int, 0 ≤ n → n < 128 ^ (f + 1) → ∀ c ∈ varL f n, 0 ≤ c ∧ c ≤ 255 := by
  induction f with
  | zero =>
    intro n h0 h1 c hc
    have : c = n := by simpa [varL] using hc
    omega
  | succ f ih =>
    intro n h0 h1 c hc
    unfold varL at hc
    split at hc
    · rcases List.mem_cons.1 hc with rfl | hc
      · omega
      · have h3 : n < 128 ^ (f + 1) * 128 := by rw [← Int.pow_succ]; exact h1
        exact ih (n / 128) (by omega) (by omega) c hc
    · have : c = n := by simpa using hc
      omega
theorem varL_len (f : Nat) : ∀ n : Int, (varL f n).length ≤ f + 1 := by
  induction f with
  | zero => intro n; simp [varL]
  | succ f ih =>
    intro n
    unfold varL
    split
    · have := ih (n / 128)
      simp
      omega
    · simp

theorem impl_VarText_l (f : Nat) : ∀ (k : Nat) (n : Int) (acc : List Int), 0 ≤ n → n < 128 ^ (f + 1) → n ≤ 9223372036854775807 → acc.length + f < 1000 → f < k →
    impl_VarText.l0 k n acc = some (strOfNums (acc ++ varL f n), true) := by
  induction f with
  | zero =>
    intro k n acc h0 h1 hm ha hk
    obtain ⟨k, rfl⟩ := succ_of hk
    simp only [impl_VarText.l0]
    rw [if_neg (by omega), if_pos (by omega), show n % 256 = n by omega]
    rfl
  | succ f ih =>
    intro k n acc h0 h1 hm ha hk
    obtain ⟨k, rfl⟩ := succ_of hk
    simp only [impl_VarText.l0]
    by_cases h : n > 127
    · have e : varL (f + 1) n = (n % 128 + 128) :: varL f (n / 128) := by rw [varL, if_pos h]
      have h3 : n < 128 ^ (f + 1) * 128 := by rw [← Int.pow_succ]; exact h1
      rw [if_pos h, if_pos (by omega), Int.tdiv_eq_ediv_of_nonneg h0, Int.tmod_eq_emod_of_nonneg h0, w64 (by omega) (by omega), w64 (by omega) (by omega),
        show (n % 128 + 128) % 256 = n % 128 + 128 by omega, ih k (n / 128) _ (by omega) (by omega) (by omega) (by rw [List.length_append, List.length_singleton]; omega) (by omega), e, List.append_assoc]
      rfl
    · have e : varL (f + 1) n = [n] := by rw [varL, if_neg h]
      rw [if_neg h, if_pos (by omega), show n % 256 = n by omega, e]
theorem impl_VarText_k {n : Int} (h0 : 0 ≤ n) (h1 : n ≤ 1000000000) {k : Nat} (hk : 4 < k) : impl_VarText.f k n = some (strOfNums (varL 4 n), true) := by
  have := impl_VarText_l 4 k n [] h0 (by omega) (by omega) (by simp) hk
  unfold impl_VarText.f
  rw [iIn, Option.bind_some, show decide ((0 : Int) ≤ n) = true from decide_eq_true h0, show decide (n ≤ (1000000000 : Int)) = true from decide_eq_true h1]
  exact this
theorem impl_VarText_no {n : Int} (h : n < 0 ∨ 1000000000 < n) (k : Nat) : impl_VarText.f k n = some (⟨#[]⟩, false) := by
  unfold impl_VarText.f
  rw [iIn, Option.bind_some]
  have e : (decide ((0 : Int) ≤ n) && decide (n ≤ (1000000000 : Int))) = false := by
    rcases h with h | h
    · rw [decide_eq_false (show ¬ (0 : Int) ≤ n by omega)]; rfl
    · rw [decide_eq_false (show ¬ n ≤ (1000000000 : Int) by omega), Bool.and_false]
  rw [e, if_neg (by decide)]

/-! Reading a number back. -/
def val : List Int → Int → Int
  | [], c => c
  | x :: cs, c => (x - 128) + 128 * val cs c
theorem val_eq (cs : List Int) (c : Int) : val cs c = val cs 0 + 128 ^ cs.length * c := by
  induction cs with
  | nil => simp [val]
  | cons x cs ih =>
    rw [val, ih, val, List.length_cons, Int.pow_succ, Int.mul_assoc, Int.mul_left_comm]
    omega
theorem val_snoc (cs : List Int) (x c : Int) : val (cs ++ [x]) c = val cs (x - 128 + 128 * c) := by
  induction cs with
  | nil => rfl
  | cons y cs ih => rw [List.cons_append, val, ih, val]
theorem val_in {cs : List Int} (h : ∀ x ∈ cs, 128 ≤ x ∧ x ≤ 255) {c : Int} (h0 : 0 ≤ c) : 0 ≤ val cs c ∧ (c ≤ 127 → val cs c < 128 ^ (cs.length + 1)) := by
  induction cs with
  | nil => simp [val]; omega
  | cons x cs ih =>
    have := h x (List.mem_cons_self ..)
    have ih := ih (fun y hy => h y (List.mem_cons_of_mem _ hy))
    rw [val, List.length_cons, Int.pow_succ _ (cs.length + 1)]
    refine ⟨by omega, fun hc => ?_⟩
    have := ih.2 hc
    omega
theorem varL_val {cs : List Int} (h : ∀ x ∈ cs, 128 ≤ x ∧ x ≤ 255) {c : Int} (h0 : 0 ≤ c) (h1 : c ≤ 127) : ∀ f, cs.length ≤ f → (varL f (val cs c) = cs ++ [c] ↔ (cs.length = 0 ∨ c ≠ 0)) := by
  induction cs with
  | nil =>
    intro f _
    have : varL f c = [c] := by cases f <;> simp [varL]; omega
    simp [val, this]
  | cons x cs ih =>
    intro f hf
    have hx := h x (List.mem_cons_self ..)
    have hr : ∀ y ∈ cs, 128 ≤ y ∧ y ≤ 255 := fun y hy => h y (List.mem_cons_of_mem _ hy)
    have hv := (val_in hr h0).1
    cases f with
    | zero => simp at hf
    | succ f =>
      have ih := ih hr f (by simpa using hf)
      rw [val, varL]
      by_cases hz : val cs c = 0
      · have hc : c = 0 := by
          have e := val_eq cs c
          have hv0 := (val_in hr (Int.le_refl 0)).1
          have hp : (0 : Int) < 128 ^ cs.length := Int.pow_pos (by omega)
          by_cases hcz : c = 0
          · exact hcz
          · have : 0 < 128 ^ cs.length * c := Int.mul_pos hp (by omega)
            omega
        rw [hz, if_neg (by omega)]
        simp [hc]
      · rw [if_pos (by omega), show (x - 128 + 128 * val cs c) % 128 + 128 = x by omega, show (x - 128 + 128 * val cs c) / 128 = val cs c by omega, List.cons_append]
        simp only [List.cons.injEq, true_and]
        rw [ih]
        constructor
        · rintro (h2 | h2)
          · have : cs = [] := List.length_eq_zero_iff.1 h2
            subst this
            exact .inr hz
          · exact .inr h2
        · rintro (h2 | h2)
          · simp at h2
          · exact .inr h2
def readGo : Nat → List Int → List Int → Option (Int × Nat)
  | 0, _, _ => none
  | _ + 1, _, [] => none
  | f + 1, cs, c :: ys =>
    if c < 128 then (if (0 < cs.length ∧ c = 0) ∨ val cs c > 1000000000 then none else some (val cs c, cs.length + 1)) else readGo f (cs ++ [c]) ys
def readR (a : Int) : Option (Int × Nat) → Int × Int × Bool
  | none => (0, 0, false)
  | some (n, l) => (n, a + (l : Int), true)
def readM (s : ByteArray) (a : Int) : Int × Int × Bool :=
  if 0 ≤ a ∧ a ≤ (s.size : Int) then readR a (readGo 5 [] ((bytesOf s).drop a.toNat)) else (0, 0, false)
theorem bx_split {s : ByteArray} {a : Int} (h0 : 0 ≤ a) (h1 : a ≤ (s.size : Int)) : bytesOf s = (bytesOf s).take a.toNat ++ (bytesOf s).drop a.toNat ∧ (((bytesOf s).take a.toNat).length : Int) = a := by
  refine ⟨(List.take_append_drop _ _).symm, ?_⟩
  rw [List.length_take, bx_len]
  omega
theorem p5 {n : Nat} (h : n < 5) : (128 : Int) ^ n ≤ 268435456 ∧ (1 : Int) ≤ 128 ^ n := by
  have : n = 0 ∨ n = 1 ∨ n = 2 ∨ n = 3 ∨ n = 4 := by omega
  rcases this with rfl | rfl | rfl | rfl | rfl <;> decide
theorem val5 {cs : List Int} (hb : ∀ x ∈ cs, 128 ≤ x ∧ x ≤ 255) (hl : cs.length < 5) {c : Int} (h0 : 0 ≤ c) (h1 : c ≤ 127) : 0 ≤ val cs c ∧ val cs c < 34359738368 := by
  have := val_in hb h0
  have h2 := this.2 h1
  have := p5 hl
  rw [Int.pow_succ] at h2
  omega

theorem shl7 {c : Int} (h0 : 0 ≤ c) (h1 : c ≤ 127) {n : Nat} (hn : n < 5) : shl .i64 c (wrap64 (7 * (n : Int))) = 128 ^ n * c := by
  rw [w64 (by omega) (by omega)]
  have : n = 0 ∨ n = 1 ∨ n = 2 ∨ n = 3 ∨ n = 4 := by omega
  rcases this with rfl | rfl | rfl | rfl | rfl
  all_goals
    unfold shl
    rw [IntKind.wrap_i64]
    simp [IntKind.bits]
    omega
theorem impl_ReadVar_l {s : ByteArray} (hs : s.size ≤ 140737488351232) (pre : List Int) : ∀ (f : Nat) (cs ys : List Int) (k : Nat), cs.length + f = 5 → bytesOf s = (pre ++ cs) ++ ys →
    (∀ x ∈ cs, 128 ≤ x ∧ x ≤ 255) → 2 * f + 1 < k → impl_ReadVar.l0 k s (pre.length : Int) (val cs 0) (cs.length : Int) = some (readR (pre.length : Int) (readGo f cs ys)) := by
  intro f
  induction f with
  | zero =>
    intro cs ys k hf h hb hk
    obtain ⟨k, rfl⟩ : ∃ m, k = m + 2 := ⟨k - 2, by omega⟩
    simp only [impl_ReadVar.l0, impl_ReadVar.j1]
    rw [if_neg (by omega), if_neg (by decide)]
    rfl
  | succ f ih =>
    intro cs ys k hf h hb hk
    obtain ⟨k, rfl⟩ : ∃ m, k = m + 2 := ⟨k - 2, by omega⟩
    have hl := congrArg List.length h
    rw [bx_len, List.length_append, List.length_append] at hl
    have hw : wrap64 ((pre.length : Int) + (cs.length : Int)) = ((pre ++ cs).length : Int) := by rw [w64 (by omega) (by omega), List.length_append]; omega
    simp only [impl_ReadVar.l0, impl_ReadVar.j1]
    rw [if_pos (by omega), hw]
    cases ys with
    | nil =>
      rw [decide_eq_false (by rw [bx_end h]; omega), if_neg (by decide)]
      rfl
    | cons c ys =>
      have hc := bx_in h
      have hlt := bx_lt h
      rw [decide_eq_true hlt, if_pos rfl, if_pos (by omega), if_pos hlt, if_pos (by rw [w64 (by omega) (by omega)]; omega), bx_at h, w64 (show _ ≤ c by omega) (by omega), Int.tmod_eq_emod_of_nonneg hc.1]
      have hs7 := shl7 (c := c % 128) (by omega) (by omega) (n := cs.length) (by omega)
      have hv := val5 hb (by omega) (c := c % 128) (by omega) (by omega)
      have e : val cs 0 + 128 ^ cs.length * (c % 128) = val cs (c % 128) := (val_eq cs _).symm
      rw [hs7, e, w64 (show _ ≤ val cs (c % 128) by omega) (by omega), readGo]
      by_cases h1 : c < 128
      · rw [if_neg (by omega), if_pos h1, show c % 128 = c by omega, bx_wrap h hs, len_next, List.length_append]
        rw [show c % 128 = c by omega] at hv
        by_cases h2 : (cs.length : Int) > 0
        · rw [if_pos h2]
          by_cases h3 : c = 0
          · rw [if_pos h3, if_pos (.inl ⟨by omega, h3⟩)]
            rfl
          · rw [if_neg h3]
            by_cases h4 : val cs c > 1000000000
            · rw [if_pos h4, if_pos (.inr h4)]
              rfl
            · rw [if_neg h4, if_neg (by rintro (⟨_, h5⟩ | h5); exact h3 h5; exact h4 h5)]
              simp [readR]
              omega
        · rw [if_neg h2]
          by_cases h4 : val cs c > 1000000000
          · rw [if_pos h4, if_pos (.inr h4)]
            rfl
          · rw [if_neg h4, if_neg (by rintro (⟨h5, _⟩ | h5); omega; exact h4 h5)]
            simp [readR]
            omega
      · rw [if_pos (by omega), if_neg h1, w64 (by omega) (by omega)]
        have e2 : val cs (c % 128) = val (cs ++ [c]) 0 := by rw [val_snoc]; congr 1; omega
        have hi := ih (cs ++ [c]) ys k (by rw [List.length_append, List.length_singleton]; omega) (by rw [h, List.append_assoc, List.append_assoc, List.append_assoc]; rfl)
          (fun x hx => by rcases List.mem_append.1 hx with hx | hx; exact hb x hx; (have : x = c := (by simpa using hx)); omega) (by omega)
        rw [e2, ← hi, len_next]
theorem impl_ReadVar_ev {s : ByteArray} (hs : s.size ≤ 140737488351232) (a : Int) : Ev (fun k => impl_ReadVar.f k s a) (readM s a) := by
  refine ⟨20, fun k hk => ?_⟩
  dsimp only
  unfold impl_ReadVar.f readM
  rw [iIn, Option.bind_some]
  by_cases h : 0 ≤ a ∧ a ≤ (s.size : Int)
  · obtain ⟨h1, h2⟩ := bx_split h.1 h.2
    have := impl_ReadVar_l hs ((bytesOf s).take a.toNat) 5 [] ((bytesOf s).drop a.toNat) k rfl (by rw [List.append_nil]; exact h1) (by simp) (by omega)
    rw [decide_eq_true h.1, decide_eq_true h.2, Bool.and_self, if_pos rfl, if_pos h, ← h2]
    rw [h2] at this
    rw [h2]
    exact this
  · rw [if_neg h, if_neg]
    simp
    omega

/-- A number that is told is read back. -/
theorem readGo_var (r : List Int) : ∀ (f : Nat) (cs : List Int) (n : Int), 0 ≤ n → n < 128 ^ (f + 1) → (∀ x ∈ cs, 128 ≤ x ∧ x ≤ 255) → val cs n ≤ 1000000000 → (cs.length = 0 ∨ n ≠ 0) →
    readGo (f + 1) cs (varL f n ++ r) = some (val cs n, cs.length + (varL f n).length) := by
  intro f
  induction f with
  | zero =>
    intro cs n h0 h1 hb hv hz
    show readGo 1 cs (n :: r) = some (val cs n, cs.length + 1)
    rw [readGo, if_pos (by omega), if_neg]
    rintro (⟨h2, h3⟩ | h2)
    · rcases hz with hz | hz
      · omega
      · exact hz h3
    · omega
  | succ f ih =>
    intro cs n h0 h1 hb hv hz
    by_cases h : n > 127
    · have e : varL (f + 1) n = (n % 128 + 128) :: varL f (n / 128) := by rw [varL, if_pos h]
      have h3 : n < 128 ^ (f + 1) * 128 := by rw [← Int.pow_succ]; exact h1
      have ev : val (cs ++ [n % 128 + 128]) (n / 128) = val cs n := by
        rw [val_snoc]
        congr 1
        omega
      rw [e, List.cons_append, readGo, if_neg (by omega), ih (cs ++ [n % 128 + 128]) (n / 128) (by omega) (by omega) (fun x hx => by rcases List.mem_append.1 hx with hx | hx; exact hb x hx; (have : x = n % 128 + 128 := (by simpa using hx)); omega) (by rw [ev]; exact hv) (.inr (by omega)), ev]
      rw [List.length_append, List.length_singleton, List.length_cons]
      congr 2
      omega
    · have e : varL (f + 1) n = [n] := by rw [varL, if_neg h]
      rw [e]
      show readGo (f + 2) cs (n :: r) = some (val cs n, cs.length + 1)
      rw [readGo, if_pos (by omega), if_neg]
      rintro (⟨h2, h3⟩ | h2)
      · rcases hz with hz | hz
        · omega
        · exact hz h3
      · omega
theorem readM_var {s : ByteArray} {pre r : List Int} {n : Int} (h0 : 0 ≤ n) (h1 : n ≤ 1000000000) (h : bytesOf s = pre ++ (varL 4 n ++ r)) : readM s (pre.length : Int) = (n, (pre.length : Int) + ((varL 4 n).length : Int), true) := by
  have hl := congrArg List.length h
  rw [bx_len, List.length_append] at hl
  unfold readM
  rw [if_pos (by omega), Int.toNat_natCast, h, List.drop_left, readGo_var r 4 [] n h0 (by omega) (by simp) (by show n ≤ _; exact h1) (.inl rfl)]
  show (n, (pre.length : Int) + ((([] : List Int).length + (varL 4 n).length : Nat) : Int), true) = _
  rw [List.length_nil, Nat.zero_add]

theorem readGo_in : ∀ (f : Nat) (cs ys : List Int), (∀ x ∈ cs, 128 ≤ x ∧ x ≤ 255) → (∀ x ∈ ys, 0 ≤ x ∧ x ≤ 255) → ∀ n l, readGo f cs ys = some (n, l) → 0 ≤ n ∧ n ≤ 1000000000 ∧ cs.length < l ∧ l ≤ cs.length + ys.length := by
  intro f
  induction f with
  | zero => intro cs ys _ _ n l h; cases h
  | succ f ih =>
    intro cs ys hb hy n l h
    cases ys with
    | nil => cases h
    | cons c ys =>
      have hc := hy c (List.mem_cons_self ..)
      rw [readGo] at h
      split at h
      · split at h
        · cases h
        · rename_i h1 h2
          simp only [Option.some.injEq, Prod.mk.injEq] at h
          obtain ⟨rfl, rfl⟩ := h
          refine ⟨(val_in hb hc.1).1, by omega, by omega, by rw [List.length_cons]; omega⟩
      · have := ih (cs ++ [c]) ys (fun x hx => by rcases List.mem_append.1 hx with hx | hx; exact hb x hx; (have : x = c := (by simpa using hx)); omega) (fun x hx => hy x (List.mem_cons_of_mem _ hx)) n l h
        rw [List.length_append, List.length_singleton] at this
        rw [List.length_cons]
        omega
theorem readM_in (s : ByteArray) (a : Int) : 0 ≤ (readM s a).1 ∧ (readM s a).1 ≤ 1000000000 ∧ ((readM s a).2.2 = true → 0 ≤ (readM s a).2.1 ∧ (readM s a).2.1 ≤ (s.size : Int)) := by
  unfold readM
  split
  · rename_i h
    generalize hr : readGo 5 [] ((bytesOf s).drop a.toNat) = r
    cases r with
    | none => simp [readR]
    | some p =>
      obtain ⟨n, l⟩ := p
      have := readGo_in 5 [] _ (by simp) (fun x hx => bx_byte s x (List.mem_of_mem_drop hx)) n l hr
      rw [List.length_drop, bx_len] at this
      simp only [readR, List.length_nil] at this ⊢
      refine ⟨this.1, this.2.1, fun _ => ?_⟩
      omega
  · simp
def readSM (s : ByteArray) (p : Int × Int × Bool) : ByteArray × Int × Bool :=
  if p.2.2 = true then (if p.1 > 20000 then (⟨#[]⟩, 0, false) else (if p.1 > (s.size : Int) - p.2.1 then (⟨#[]⟩, 0, false) else (s.extract p.2.1.toNat (p.2.1 + p.1).toNat, p.2.1 + p.1, true))) else (⟨#[]⟩, 0, false)

theorem impl_ReadShort_ev {s : ByteArray} (hs : s.size ≤ 140737488351232) (a : Int) : Ev (fun k => impl_ReadShort.f k s a) (readSM s (readM s a)) := by
  obtain ⟨K, h⟩ := impl_ReadVar_ev hs a
  refine ⟨K, fun k hk => ?_⟩
  have h := h k hk
  have hin := readM_in s a
  dsimp only at h ⊢
  unfold impl_ReadShort.f readSM
  rw [h, Option.bind_some]
  generalize readM s a = r at hin
  obtain ⟨n, b, ok⟩ := r
  dsimp only at hin ⊢
  cases ok with
  | false => rfl
  | true =>
    have h3 := hin.2.2 rfl
    rw [if_pos rfl, if_pos rfl]
    by_cases h1 : n > 20000
    · rw [if_pos h1, if_pos h1]
    · rw [if_neg h1, if_neg h1, w64 (show _ ≤ (s.size : Int) - b by omega) (by omega), w64 (show _ ≤ b + n by omega) (by omega)]
      by_cases h2 : n > (s.size : Int) - b
      · rw [if_pos h2, if_pos h2]
      · rw [if_neg h2, if_neg h2, if_pos h3.1, if_pos (by omega), if_pos (by omega)]

/-! Figures of sixteen, read back. -/
def hv (c : Int) : Int := if 48 ≤ c ∧ c ≤ 57 then c - 48 else if 97 ≤ c ∧ c ≤ 102 then c - 87 else -1
theorem hv_in (c : Int) : -1 ≤ hv c ∧ hv c ≤ 15 := by
  unfold hv
  split
  · omega
  · split <;> omega
def unhexL : Nat → List Int → Option (List Int)
  | 0, _ => some []
  | n + 1, a :: b :: ys => if hv a < 0 ∨ hv b < 0 then none else (unhexL n ys).map fun out => (16 * hv a + hv b) :: out
  | _ + 1, _ => none
def unhexR (acc : List Int) : Option (List Int) → ByteArray × Bool
  | none => (⟨#[]⟩, false)
  | some out => (strOfNums (acc ++ out), true)
theorem unhexR_cons (acc : List Int) (x : Int) (o : Option (List Int)) : unhexR acc (o.map fun out => x :: out) = unhexR (acc ++ [x]) o := by
  cases o with
  | none => rfl
  | some out =>
    show (strOfNums (acc ++ x :: out), true) = (strOfNums (acc ++ [x] ++ out), true)
    rw [List.append_assoc]
    rfl
def unhexM (s : ByteArray) : ByteArray × Bool := if s.size ≤ 40000 ∧ s.size % 2 = 0 then unhexR [] (unhexL (s.size / 2) (bytesOf s)) else (⟨#[]⟩, false)

def hexF (d : Int) : Int := if d < 10 then 48 + d else 87 + d
def hexL : List Int → List Int
  | [] => []
  | c :: cs => hexF (c / 16) :: hexF (c % 16) :: hexL cs
def hexM (s : ByteArray) : ByteArray × Bool := if s.size ≤ 20000 then (strOfNums (hexL (bytesOf s)), true) else (⟨#[]⟩, false)

theorem hexT : ∀ d : Fin 16, bt (⟨#[48, 49, 50, 51, 52, 53, 54, 55, 56, 57, 97, 98, 99, 100, 101, 102]⟩ : ByteArray) (d.val : Int) = hexF (d.val : Int) := by
  decide +kernel
theorem iFig16 {d : Int} (h0 : 0 ≤ d) (h1 : d < 16) : bt (⟨#[48, 49, 50, 51, 52, 53, 54, 55, 56, 57, 97, 98, 99, 100, 101, 102]⟩ : ByteArray) d = hexF d := by
  have := hexT ⟨d.toNat, by omega⟩
  dsimp only at this
  rw [show ((d.toNat : Nat) : Int) = d by omega] at this
  exact this
theorem impl_Hex_l {s : ByteArray} (hs : s.size ≤ 20000) : ∀ (ys pre acc : List Int) (k : Nat), bytesOf s = pre ++ ys → acc.length + 2 * ys.length ≤ 1048576 → ys.length < k →
    impl_Hex.l0 k s acc (pre.length : Int) = some (strOfNums (acc ++ hexL ys), true) := by
  intro ys
  induction ys with
  | nil =>
    intro pre acc k h ha hk
    obtain ⟨k, rfl⟩ := succ_of hk
    have he := bx_end h
    simp only [impl_Hex.l0]
    rw [if_neg (by omega), hexL, List.append_nil]
  | cons c ys ih =>
    intro pre acc k h ha hk
    obtain ⟨k, rfl⟩ := succ_of hk
    have hlt := bx_lt h
    have hc := bx_in h
    rw [List.length_cons] at ha
    have hi := ih (pre ++ [c]) (acc ++ [hexF (c / 16), hexF (c % 16)]) k (bx_next h) (by rw [List.length_append]; show acc.length + 2 + _ ≤ _; omega) (by simpa using hk)
    simp only [impl_Hex.l0]
    rw [if_pos hlt, if_pos (by omega), bx_at h, Int.tdiv_eq_ediv_of_nonneg hc.1, Int.tmod_eq_emod_of_nonneg hc.1, show c / 16 % 256 = c / 16 by omega, if_pos (by omega), if_pos (by omega), if_pos (by omega), if_pos (by omega),
      iFig16 (by omega) (by omega), iFig16 (by omega) (by omega), Option.bind_some, if_pos (by show acc.length + 2 < _; omega), bx_wrap h (by omega), hi, List.append_assoc]
    rfl
theorem impl_Hex_ev {s : ByteArray} : Ev (fun k => impl_Hex.f k s) (hexM s) := by
  refine ⟨20001, fun k hk => ?_⟩
  dsimp only
  unfold impl_Hex.f hexM
  by_cases c : s.size ≤ 20000
  · rw [if_neg (by omega), if_pos c]
    exact impl_Hex_l c (bytesOf s) [] [] k rfl (by rw [bx_len]; simp; omega) (by rw [bx_len]; omega)
  · rw [if_pos (by omega), if_neg c]

theorem ix_all : ∀ c : Fin 256, Go.Lib.indexByte (⟨#[48, 49, 50, 51, 52, 53, 54, 55, 56, 57, 97, 98, 99, 100, 101, 102]⟩ : ByteArray).data.toList c.val.toUInt8 = hv (c.val : Int) := by
  decide +kernel
theorem ixHex {c : Int} (h0 : 0 ≤ c) (h1 : c ≤ 255) : strings_IndexByte.f (⟨#[48, 49, 50, 51, 52, 53, 54, 55, 56, 57, 97, 98, 99, 100, 101, 102]⟩ : ByteArray) c = some (hv c) := by
  have := ix_all ⟨c.toNat, by omega⟩
  dsimp only at this
  rw [show ((c.toNat : Nat) : Int) = c by omega] at this
  unfold strings_IndexByte.f
  rw [this]
theorem impl_Unhex_l {s : ByteArray} (hs : s.size ≤ 1048576) : ∀ (n : Nat) (ys pre acc : List Int) (k : Nat), bytesOf s = pre ++ ys → ys.length = 2 * n → acc.length + n ≤ 1048576 → n + 2 < k →
    impl_Unhex.l0 k s acc (pre.length : Int) = some (unhexR acc (unhexL n ys)) := by
  intro n
  induction n with
  | zero =>
    intro ys pre acc k h hy ha hk
    obtain ⟨k, rfl⟩ := succ_of hk
    have : ys = [] := List.length_eq_zero_iff.1 (by omega)
    subst this
    have he := bx_end h
    simp only [impl_Unhex.l0]
    rw [if_neg (by omega)]
    show some (strOfNums acc, true) = some (strOfNums (acc ++ []), true)
    rw [List.append_nil]
  | succ n ih =>
    intro ys pre acc k h hy ha hk
    obtain ⟨k, rfl⟩ := succ_of hk
    match ys, hy with
    | a :: b :: ys, hy =>
      have hlt := bx_lt h
      have h2 : bytesOf s = (pre ++ [a]) ++ b :: ys := bx_next h
      have hlt2 := bx_lt h2
      have hw := bx_wrap h (by omega)
      have hab := bx_in h
      have hbb := bx_in h2
      have hva := hv_in a
      have hvb := hv_in b
      simp only [impl_Unhex.l0]
      rw [if_pos hlt, if_pos (by omega), bx_at h, ixHex hab.1 hab.2, Option.bind_some, hw, if_pos (by omega), if_pos hlt2, bx_at h2, ixHex hbb.1 hbb.2, Option.bind_some, unhexL]
      by_cases c1 : hv a < 0
      · rw [if_pos c1, if_pos (.inl c1)]
        rfl
      · rw [if_neg c1]
        by_cases c2 : hv b < 0
        · rw [if_pos c2, if_pos (.inr c2)]
          rfl
        · rw [if_neg c2, if_pos (show acc.length < 140737488355328 by omega), if_neg (show ¬ (hv a < 0 ∨ hv b < 0) by omega), w64 (show _ ≤ 16 * hv a by omega) (by omega), w64 (show _ ≤ 16 * hv a + hv b by omega) (by omega), show (16 * hv a + hv b) % 256 = 16 * hv a + hv b by omega, unhexR_cons]
          have hi := ih ys (pre ++ [a] ++ [b]) (acc ++ [16 * hv a + hv b]) k (bx_next h2) (by simp at hy; omega) (by rw [List.length_append, List.length_singleton]; omega) (by omega)
          rw [w64 (show _ ≤ (pre.length : Int) + 2 by omega) (by omega)]
          rw [len_next, len_next] at hi
          rw [show (pre.length : Int) + 2 = (pre.length : Int) + 1 + 1 by omega]
          exact hi
theorem impl_Unhex_ev {s : ByteArray} (hs : s.size ≤ 1048576) : Ev (fun k => impl_Unhex.f k s) (unhexM s) := by
  refine ⟨1048600, fun k hk => ?_⟩
  obtain ⟨k, rfl⟩ : ∃ m, k = m + 1 := ⟨k - 1, by omega⟩
  dsimp only
  unfold impl_Unhex.f unhexM
  simp only [impl_Unhex.j0]
  by_cases c2 : (s.size : Int) % 2 = 0
  · rw [if_pos c2]
    by_cases c1 : (s.size : Int) > 40000
    · rw [if_pos (decide_eq_true c1), if_neg (by omega)]
    · rw [if_neg (by simp; omega), if_pos (by omega)]
      exact impl_Unhex_l hs (s.size / 2) (bytesOf s) [] [] k rfl (by rw [bx_len]; omega) (by simp; omega) (by omega)
  · rw [if_neg c2, if_pos trivial, if_neg (by omega)]

theorem hv_hexF {d : Int} (h0 : 0 ≤ d) (h1 : d < 16) : hv (hexF d) = d := by
  unfold hv hexF
  split
  · rw [if_pos (by omega)]; omega
  · rw [if_neg (by omega), if_pos (by omega)]; omega
theorem hexL_len : ∀ ys : List Int, (hexL ys).length = 2 * ys.length := by
  intro ys
  induction ys with
  | nil => rfl
  | cons c ys ih => rw [hexL, List.length_cons, List.length_cons, List.length_cons, ih]; omega
theorem hexL_in : ∀ ys : List Int, (∀ c ∈ ys, 0 ≤ c ∧ c ≤ 255) → ∀ c ∈ hexL ys, 0 ≤ c ∧ c ≤ 255 := by
  intro ys
  induction ys with
  | nil => intro _ c hc; cases hc
  | cons x ys ih =>
    intro h c hc
    have hx := h x (List.mem_cons_self ..)
    rw [hexL] at hc
    have hF : ∀ d : Int, 0 ≤ d → d < 16 → 0 ≤ hexF d ∧ hexF d ≤ 255 := by
      intro d h0 h1
      unfold hexF
      split <;> omega
    rcases List.mem_cons.1 hc with rfl | hc
    · exact hF _ (by omega) (by omega)
    · rcases List.mem_cons.1 hc with rfl | hc
      · exact hF _ (by omega) (by omega)
      · exact ih (fun y hy => h y (List.mem_cons_of_mem _ hy)) c hc
theorem unhex_hex : ∀ ys : List Int, (∀ c ∈ ys, 0 ≤ c ∧ c ≤ 255) → unhexL ys.length (hexL ys) = some ys := by
  intro ys
  induction ys with
  | nil => intro _; rfl
  | cons x ys ih =>
    intro h
    have hx := h x (List.mem_cons_self ..)
    rw [List.length_cons, hexL, unhexL, hv_hexF (by omega) (by omega), hv_hexF (by omega) (by omega), if_neg (by omega), ih (fun y hy => h y (List.mem_cons_of_mem _ hy))]
    show some ((16 * (x / 16) + x % 16) :: ys) = _
    congr 2
    omega
theorem unhexM_hex {s : ByteArray} (hs : s.size ≤ 20000) : unhexM (strOfNums (hexL (bytesOf s))) = (s, true) := by
  have hz : (strOfNums (hexL (bytesOf s))).size = 2 * s.size := by rw [strOfNums_size, hexL_len, bx_len]
  unfold unhexM
  rw [if_pos (by omega), hz, show 2 * s.size / 2 = s.size by omega, bx_str (hexL_in _ (bx_byte s)), ← bx_len s, unhex_hex _ (bx_byte s)]
  show (strOfNums ([] ++ bytesOf s), true) = _
  rw [List.nil_append]
  congr 1
  apply bx_inj
  rw [bx_str (bx_byte s)]

theorem number_ok {b : List Int} (hb : IsCode b) {i : Int} (hi : 0 ≤ i) (h : Int) : ∃ r i' h', spec_l01Number.f b i h = some (r, i', h') ∧ 0 ≤ i' := by
  unfold spec_l01Number.f
  obtain ⟨r, i1, h1, e1, _, _, c1⟩ := below_ok hb hi h (n := 4) (by omega) (by omega)
  rw [e1, Option.bind_some]
  dsimp only
  by_cases h0 : r = 0
  · rw [if_pos h0]
    obtain ⟨m, i2, h2, e2, _, c2⟩ := pickInt_ok hb c1 h1 (l := [(-1), 0, 127, 128, 16383, 16384, 1000000000, 1000000001, 9223372036854775807, (-9223372036854775808)]) (by decide) (by decide)
    rw [e2, Option.bind_some]
    exact ⟨_, _, _, rfl, c2⟩
  · rw [if_neg h0]
    by_cases h3 : r = 1
    · rw [if_pos h3]
      obtain ⟨m, i2, h2, e2, _, _, c2⟩ := below_ok hb c1 h1 (n := 1000000000) (by omega) (by omega)
      rw [e2, Option.bind_some]
      exact ⟨_, _, _, rfl, c2⟩
    · rw [if_neg h3]
      obtain ⟨m, i2, h2, e2, _, _, c2⟩ := below_ok hb c1 h1 (n := 400) (by omega) (by omega)
      rw [e2, Option.bind_some]
      exact ⟨_, _, _, rfl, c2⟩
theorem drawVar_ok {b : List Int} (hb : IsCode b) : ∃ n, ∀ k, 4001 ≤ k → spec_DrawVarText.f k b = some n := by
  obtain ⟨h', e⟩ := new_ok hb
  obtain ⟨n, i1, h1, e1, _⟩ := number_ok hb (Int.le_refl 0) h'
  refine ⟨n, fun k hk => ?_⟩
  unfold spec_DrawVarText.f
  rw [e k hk, Option.bind_some]
  dsimp only
  rw [e1, Option.bind_some]
theorem once_ok {b : List Int} (hb : IsCode b) {i : Int} (hi : 0 ≤ i) (h : Int) {n : Int} (h0 : 0 < n) (h1 : n ≤ 4294967296) : ∃ r i' h', spec_l01Once.f b i h n = some (r, i', h') ∧ 0 ≤ i' := by
  unfold spec_l01Once.f
  obtain ⟨r, i1, h1, e1, _, _, c1⟩ := below_ok hb hi h h0 h1
  rw [e1, Option.bind_some]
  exact ⟨_, _, _, rfl, c1⟩
theorem drawHex_ok {b : List Int} (hb : IsCode b) : ∃ s, ∀ k, 104001 ≤ k → spec_DrawHex.f k b = some s := by
  obtain ⟨h', e⟩ := new_ok hb
  obtain ⟨o, i1, h1, e1, c1⟩ := once_ok hb (Int.le_refl 0) h' (n := 60) (by omega) (by omega)
  cases o with
  | true =>
    obtain ⟨r, i2, h2, e2, a2, b2, _⟩ := below_ok hb c1 h1 (n := 2) (by omega) (by omega)
    obtain ⟨s, es, _⟩ := long_ev (n := 20000 + r) (x := 200) (by omega) (by omega)
    refine ⟨s, fun k hk => ?_⟩
    unfold spec_DrawHex.f
    rw [e k (by omega), Option.bind_some]
    dsimp only
    rw [e1, Option.bind_some]
    dsimp only
    rw [if_pos rfl, e2, Option.bind_some]
    dsimp only
    rw [w64 (by omega) (by omega), es k (by omega), Option.bind_some]
  | false =>
    obtain ⟨r, i2, h2, e2, a2, b2, c2⟩ := below_ok hb c1 h1 (n := 30) (by omega) (by omega)
    obtain ⟨s, i3, h3, es, _, _⟩ := text_ok hb c2 h2 (n := r) a2 (by omega)
    refine ⟨s, fun k hk => ?_⟩
    unfold spec_DrawHex.f
    rw [e k (by omega), Option.bind_some]
    dsimp only
    rw [e1, Option.bind_some]
    dsimp only
    rw [if_neg (by decide), e2, Option.bind_some]
    dsimp only
    rw [es k (by omega), Option.bind_some]
theorem numbers_j2 {n : Int} {s t : ByteArray} (hz : s.size ≤ 1000) (ht : t.size ≤ 300) : ∃ K, ∀ k, K ≤ k → laws_FnNumbers.j2 k n s true n ((s.size : Int) + 1) true n true t = some true := by
  have hs : 0 ≤ (t.size : Int) ∧ (t.size : Int) ≤ 1000000000 := by omega
  obtain ⟨a, ha⟩ : ∃ a : ByteArray, a = strOfNums (varL 4 (t.size : Int)) ++ t := ⟨_, rfl⟩
  have hv := varL_len 4 (t.size : Int)
  have hb : bytesOf a = [] ++ (varL 4 (t.size : Int) ++ bytesOf t) := by rw [ha, bx_app, bx_str (varL_in 4 _ hs.1 (by omega))]; rfl
  have haz : a.size = (varL 4 (t.size : Int)).length + t.size := by rw [ha, ByteArray.size_append, strOfNums_size]
  have hr := readM_var hs.1 hs.2 hb
  obtain ⟨K1, e1⟩ := impl_ReadShort_ev (s := a) (by omega) 0
  obtain ⟨K2, e2⟩ := impl_Hex_ev (s := t)
  obtain ⟨K3, e3⟩ := impl_Unhex_ev (s := strOfNums (hexL (bytesOf t))) (by rw [strOfNums_size, hexL_len, bx_len]; omega)
  refine ⟨K1 + K2 + K3 + 100, fun k hk => ?_⟩
  obtain ⟨k, rfl⟩ : ∃ m, k = m + 1 := ⟨k - 1, by omega⟩
  have e1 := e1 k (by omega)
  have e2 := e2 k (by omega)
  have e3 := e3 k (by omega)
  dsimp only at e1 e2 e3
  rw [show (0 : Int) = (([] : List Int).length : Int) from rfl, hr] at e1
  have hst : impl_ShortText.f k t = some (a, true) := by
    unfold impl_ShortText.f
    rw [if_neg (by omega), impl_VarText_k hs.1 hs.2 (by omega), Option.bind_some]
    dsimp only
    rw [if_pos (by rw [strOfNums_size]; omega), ha]
  have hsm : readSM a ((t.size : Int), (([] : List Int).length : Int) + ((varL 4 (t.size : Int)).length : Int), true) = (t, (a.size : Int), true) := by
    unfold readSM
    dsimp only
    rw [if_pos rfl, if_neg (by omega), if_neg (by rw [List.length_nil]; omega)]
    have ex : a.extract ((([] : List Int).length : Int) + ((varL 4 (t.size : Int)).length : Int)).toNat ((([] : List Int).length : Int) + ((varL 4 (t.size : Int)).length : Int) + (t.size : Int)).toNat = t := by
      apply bx_inj
      rw [bx_cut, hb, List.nil_append, List.length_nil, show (((0 : Nat) : Int) + ((varL 4 (t.size : Int)).length : Int)).toNat = (varL 4 (t.size : Int)).length by omega, show (((0 : Nat) : Int) + ((varL 4 (t.size : Int)).length : Int) + (t.size : Int)).toNat = (varL 4 (t.size : Int)).length + (bytesOf t).length by rw [bx_len]; omega]
      rw [List.take_of_length_le (by rw [List.length_append]; omega), List.drop_left]
    rw [ex]
    congr 2
    rw [List.length_nil]
    omega
  rw [hsm] at e1
  have hh : hexM t = (strOfNums (hexL (bytesOf t)), true) := by unfold hexM; rw [if_pos (by omega)]
  rw [hh] at e2
  rw [unhexM_hex (by omega)] at e3
  simp only [laws_FnNumbers.j2]
  rw [hst, Option.bind_some]
  dsimp only
  rw [show impl_ReadShort.f k a 0 = _ from e1, Option.bind_some]
  dsimp only
  rw [e2, Option.bind_some]
  dsimp only
  rw [e3, Option.bind_some]
  dsimp only
  rw [w64 (x := (s.size : Int) + 1) (by omega) (by omega)]
  simp
theorem numbers_j1 {b : List Int} (hb : IsCode b) {n : Int} (h0 : 0 ≤ n) (h1 : n ≤ 1000000000) : ∃ K, ∀ k, K ≤ k → laws_FnNumbers.j1 k b n = some true := by
  obtain ⟨u, eu⟩ := drawHex_ok hb
  obtain ⟨s, hs⟩ : ∃ s, s = strOfNums (varL 4 n) := ⟨_, rfl⟩
  have hv := varL_len 4 n
  have hz : s.size ≤ 5 := by rw [hs, strOfNums_size]; exact hv
  have hzz : s.size = (varL 4 n).length := by rw [hs, strOfNums_size]
  obtain ⟨a, ha⟩ : ∃ a : ByteArray, a = ((⟨#[120]⟩ : ByteArray) ++ s) ++ (⟨#[121]⟩ : ByteArray) := ⟨_, rfl⟩
  have hb2 : bytesOf a = [120] ++ (varL 4 n ++ [121]) := by
    rw [ha, bx_app, bx_app, hs, bx_str (varL_in 4 _ h0 (by omega)), List.append_assoc]
    rfl
  have z1 : ((⟨#[120]⟩ : ByteArray) ++ s).size = 1 + s.size := by rw [ByteArray.size_append]; rfl
  have z2 : a.size = 1 + s.size + 1 := by rw [ha, ByteArray.size_append, z1]; rfl
  have hr := readM_var h0 h1 hb2
  obtain ⟨K1, e1⟩ := impl_ReadVar_ev (s := a) (by omega) 1
  have hin := itoa_figs h0 (by omega)
  have hl := (figs_len h0 (m := 9) (by omega)).2
  have hiz : (⟨(Go.Lib.itoa n).toArray⟩ : ByteArray).size ≤ 10 := by rw [← bx_len, hin]; exact hl
  obtain ⟨K2, e2⟩ := numbers_j2 (n := n) (s := s) (t := ⟨#[97, 98, 99]⟩) (by omega) (by decide)
  by_cases hu : (u.size : Int) > 300
  · refine ⟨K1 + K2 + 110000, fun k hk => ?_⟩
    obtain ⟨k, rfl⟩ : ∃ m, k = m + 1 := ⟨k - 1, by omega⟩
    have e1 := e1 k (by omega)
    dsimp only at e1
    rw [show (1 : Int) = (([120] : List Int).length : Int) from rfl, hr] at e1
    simp only [laws_FnNumbers.j1]
    rw [impl_VarText_k h0 h1 (by omega), Option.bind_some]
    dsimp only
    rw [← hs, if_pos (by omega), if_pos (by omega), ← ha, show impl_ReadVar.f k a 1 = _ from e1, Option.bind_some, impl_Decimal_k (by omega) (by omega), Option.bind_some, impl_ReadDecimal_k (by omega), readD_itoa h0 h1 rfl, Option.bind_some, eu k (by omega), Option.bind_some, if_pos hu]
    rw [← e2 k (by omega)]
    congr 1
    rw [hzz]
    show (1 : Int) + _ = _
    omega
  · obtain ⟨K3, e3⟩ := numbers_j2 (n := n) (s := s) (t := u) (by omega) (by omega)
    refine ⟨K1 + K3 + 110000, fun k hk => ?_⟩
    obtain ⟨k, rfl⟩ : ∃ m, k = m + 1 := ⟨k - 1, by omega⟩
    have e1 := e1 k (by omega)
    dsimp only at e1
    rw [show (1 : Int) = (([120] : List Int).length : Int) from rfl, hr] at e1
    simp only [laws_FnNumbers.j1]
    rw [impl_VarText_k h0 h1 (by omega), Option.bind_some]
    dsimp only
    rw [← hs, if_pos (by omega), if_pos (by omega), ← ha, show impl_ReadVar.f k a 1 = _ from e1, Option.bind_some, impl_Decimal_k (by omega) (by omega), Option.bind_some, impl_ReadDecimal_k (by omega), readD_itoa h0 h1 rfl, Option.bind_some, eu k (by omega), Option.bind_some, if_neg hu]
    rw [← e3 k (by omega)]
    congr 1
    rw [hzz]
    show (1 : Int) + _ = _
    omega
theorem FnNumbers : laws_FnNumbers.Pure := by
  intro b hb0 hb1 hb2
  have hb : IsCode b := by unfold IsCode; omega
  obtain ⟨n, en⟩ := drawVar_ok hb
  obtain ⟨K1, e1⟩ := numbers_j1 hb (n := 12345) (by omega) (by omega)
  by_cases hn : 0 ≤ n ∧ n ≤ 1000000000
  · obtain ⟨K2, e2⟩ := numbers_j1 hb hn.1 hn.2
    refine ⟨K2 + 5000, ?_⟩
    unfold laws_FnNumbers.f laws_big.f
    rw [Option.bind_some]
    by_cases hbig : decide ((b.length : Int) > 1048576) = true
    · rw [if_pos hbig]
    · rw [if_neg hbig, en _ (by omega), Option.bind_some, if_neg (by omega), decide_eq_false (show ¬ n > 1000000000 by omega)]
      obtain ⟨k, hk⟩ : ∃ k, K2 + 5000 = k + 1 := ⟨K2 + 4999, rfl⟩
      rw [hk]
      simp only [laws_FnNumbers.j0]
      rw [if_neg (by decide)]
      exact e2 k (by omega)
  · refine ⟨K1 + 5000, ?_⟩
    unfold laws_FnNumbers.f laws_big.f
    rw [Option.bind_some]
    by_cases hbig : decide ((b.length : Int) > 1048576) = true
    · rw [if_pos hbig]
    · rw [if_neg hbig, en _ (by omega), Option.bind_some]
      obtain ⟨k, hk⟩ : ∃ k, K1 + 5000 = k + 1 := ⟨K1 + 4999, rfl⟩
      rw [hk]
      by_cases h0 : n < 0
      · rw [if_pos h0]
        simp only [laws_FnNumbers.j0]
        rw [if_pos True.intro]
        exact e1 k (by omega)
      · rw [if_neg h0, decide_eq_true (show n > 1000000000 by omega)]
        simp only [laws_FnNumbers.j0]
        rw [if_pos True.intro]
        exact e1 k (by omega)

end Go.Proofs.YtkgpokiglanjfaaDoor.Pure
