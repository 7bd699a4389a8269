/- The pure statement of FnExactSame: over numbers and lists, what the printed functions come to is what the law wants, for every input. -/
import Derived.Test.YtkgpokiglanjfaaDoorQFnExactSamex2
set_option linter.unusedVariables false
set_option linter.unusedSimpArgs false
namespace Go.Proofs.YtkgpokiglanjfaaDoor.Pure
open Go.RowKit Go.Proofs.YtkgpokiglanjfaaDoor.QFnExactSame Go.Proofs.YtkgpokiglanjfaaDoorW.PrintWords Go.Proofs.YtkgpokiglanjfaaDoorW.PrintLast
/-! Words on strings as lists of numbers. -/
theorem w64 {x : Int} (h0 : -9223372036854775808 ≤ x) (h1 : x ≤ 9223372036854775807) : wrap64 x = x := by
  unfold wrap64
  omega
theorem bx_len (s : ByteArray) : (bytesOf s).length = s.size := bytesOf_length s
theorem bx_byte (s : ByteArray) : ∀ c ∈ bytesOf s, 0 ≤ c ∧ c ≤ 255 := by
  intro c hc
  unfold bytesOf at hc
  obtain ⟨b, _, rfl⟩ := List.mem_map.1 hc
  have := b.toNat_lt
  omega
theorem bx_at {s : ByteArray} {pre ys : List Int} {c : Int} (h : bytesOf s = pre ++ c :: ys) : bt s (pre.length : Int) = c := by
  rw [← rd_bytesOf, h, rd, Int.toNat_natCast, List.getD_eq_getElem?_getD, List.getElem?_append_right (Nat.le_refl _)]
  simp
theorem bx_lt {s : ByteArray} {pre ys : List Int} {c : Int} (h : bytesOf s = pre ++ c :: ys) : (pre.length : Int) < (s.size : Int) := by
  have := congrArg List.length h
  rw [bx_len, List.length_append, List.length_cons] at this
  omega
theorem bx_end {s : ByteArray} {pre : List Int} (h : bytesOf s = pre ++ []) : (s.size : Int) = (pre.length : Int) := by
  have := congrArg List.length h
  rw [bx_len, List.append_nil] at this
  omega
theorem bx_next {s : ByteArray} {pre ys : List Int} {c : Int} (h : bytesOf s = pre ++ c :: ys) : bytesOf s = (pre ++ [c]) ++ ys := by
  rw [h, List.append_assoc]; rfl
theorem len_next (pre : List Int) (c : Int) : ((pre ++ [c]).length : Int) = (pre.length : Int) + 1 := by
  rw [List.length_append, List.length_singleton]; omega
theorem bx_inj {s t : ByteArray} (h : bytesOf s = bytesOf t) : s = t := by
  unfold bytesOf at h
  have h2 : s.data.toList = t.data.toList := by
    refine (List.map_inj_right (f := fun b : UInt8 => (b.toNat : Int)) ?_).1 h
    intro x y hxy
    exact UInt8.toNat_inj.1 (Int.ofNat_inj.1 hxy)
  exact ByteArray.ext (Array.toList_inj.1 h2)
theorem tl_inj {s t : ByteArray} (h : s.toList = t.toList) : s = t := by
  rw [ByteArray.toList_eq, ByteArray.toList_eq] at h
  exact ByteArray.ext (Array.toList_inj.1 h)
theorem tl_iff {s t : ByteArray} : s.toList = t.toList ↔ bytesOf s = bytesOf t := ⟨fun h => by rw [tl_inj h], fun h => by rw [bx_inj h]⟩
theorem bx_app (s t : ByteArray) : bytesOf (s ++ t) = bytesOf s ++ bytesOf t := by
  simp [bytesOf]
theorem bx_cut (s : ByteArray) (a b : Nat) : bytesOf (s.extract a b) = ((bytesOf s).take b).drop a := by
  simp [bytesOf, ByteArray.data_extract, List.map_drop, List.map_take, List.take_drop]
  rw [List.drop_take, List.drop_take]
  congr 1
  omega
theorem bx_str {xs : List Int} (h : ∀ c ∈ xs, 0 ≤ c ∧ c ≤ 255) : bytesOf (strOfNums xs) = xs := by
  unfold bytesOf
  rw [strOfNums_data, List.map_map]
  induction xs with
  | nil => rfl
  | cons c xs ih =>
    rw [List.map_cons, ih (fun d hd => h d (List.mem_cons_of_mem _ hd))]
    have hc := h c (List.mem_cons_self ..)
    congr 1
    have e : (UInt8.ofNat c.toNat).toNat = c.toNat := by
      rw [UInt8.toNat_ofNat']
      omega
    show ((UInt8.ofNat c.toNat).toNat : Int) = c
    rw [e]
    omega
theorem bx_wrap {s : ByteArray} {pre ys : List Int} {c : Int} (h : bytesOf s = pre ++ c :: ys) (hs : s.size ≤ 140737488351232) : wrap64 ((pre.length : Int) + 1) = ((pre ++ [c]).length : Int) := by
  rw [len_next]
  have := bx_lt h
  exact w64 (by omega) (by omega)
theorem bx_in {s : ByteArray} {pre ys : List Int} {c : Int} (h : bytesOf s = pre ++ c :: ys) : 0 ≤ c ∧ c ≤ 255 :=
  bx_byte s c (by rw [h]; exact List.mem_append_right _ (List.mem_cons_self ..))
theorem succ_of {n k : Nat} (h : n < k) : ∃ m, k = m + 1 := ⟨k - 1, by omega⟩
theorem ev2 {α β : Type} {g : Nat → Option α} {f : Nat → Option β} {a : α} {b : β} (h : Ev g a) (h' : Ev f b) : ∃ k, g k = some a ∧ f k = some b := by
  obtain ⟨K, h⟩ := h
  obtain ⟨K', h'⟩ := h'
  exact ⟨K + K', h _ (by omega), h' _ (by omega)⟩

theorem u32_in {x : Int} (h : (Lit.int .u32 x).wf = true) : 0 ≤ x ∧ x < 4294967296 := by
  simp only [Lit.wf, IntKind.min, IntKind.max, IntKind.signed, IntKind.bits, Bool.and_eq_true, decide_eq_true_eq] at h
  simp at h
  omega
theorem i64_in {x : Int} (h : (Lit.int .i64 x).wf = true) : -9223372036854775808 ≤ x ∧ x ≤ 9223372036854775807 := by
  simp only [Lit.wf, IntKind.min, IntKind.max, IntKind.signed, IntKind.bits, Bool.and_eq_true, decide_eq_true_eq] at h
  simp at h
  omega

def fig (c : Int) : Bool := decide (48 ≤ c) && decide (c ≤ 57)
def isNumL (xs : List Int) : Bool := xs.all fig && (decide (1 ≤ xs.length) && decide (xs.length ≤ 6))
theorem len16 (s : ByteArray) : (decide ((1 : Int) ≤ (s.size : Int)) && decide ((s.size : Int) ≤ 6)) = (decide (1 ≤ (bytesOf s).length) && decide ((bytesOf s).length ≤ 6)) := by
  rw [bx_len]
  congr 1 <;> apply decide_eq_decide.2 <;> omega

theorem sIn (a b c : Int) : spec_l01In.f a b c = some (decide (b ≤ a) && decide (a ≤ c)) := by
  unfold spec_l01In.f
  by_cases h : a ≥ b
  · rw [if_pos h]; simp [show b ≤ a from h]
  · rw [if_neg h]; simp [show ¬ b ≤ a from h]

theorem iIn (a b c : Int) : impl_within.f a b c = some (decide (b ≤ a) && decide (a ≤ c)) := by
  unfold impl_within.f
  by_cases h : a ≥ b
  · rw [if_pos h]; simp [show b ≤ a from h]
  · rw [if_neg h]; simp [show ¬ b ≤ a from h]

theorem iFig {c : Int} (h0 : 0 ≤ c) (h1 : c ≤ 255) : impl_isFigure.f c = some (fig c) := by
  unfold impl_isFigure.f
  rw [w64 (by omega) (by omega), iIn, Option.bind_some]
  rfl

theorem spec_IsNum_l {s : ByteArray} (hs : s.size ≤ 140737488351232) : ∀ (ys pre : List Int) (k : Nat), bytesOf s = pre ++ ys → ys.length < k →
    spec_IsNum.l0 k s (pre.length : Int) = some (ys.all fig && (decide ((1 : Int) ≤ (s.size : Int)) && decide ((s.size : Int) ≤ 6))) := by
  intro ys
  induction ys with
  | nil =>
    intro pre k h hk
    obtain ⟨k, rfl⟩ := succ_of hk
    have he := bx_end h
    simp only [spec_IsNum.l0]
    rw [if_neg (by omega), sIn, Option.bind_some]
    rfl
  | cons c ys ih =>
    intro pre k h hk
    obtain ⟨k, rfl⟩ := succ_of hk
    have hlt := bx_lt h
    simp only [spec_IsNum.l0]
    rw [if_pos hlt, if_pos (by omega), bx_at h, bx_wrap h hs, ih (pre ++ [c]) k (bx_next h) (by simpa using hk)]
    rw [List.all_cons]
    by_cases h1 : c < 48
    · rw [if_pos h1]; simp [fig, show ¬ 48 ≤ c by omega]
    · rw [if_neg h1]
      by_cases h2 : c > 57
      · rw [if_pos h2]; simp [fig, show ¬ c ≤ 57 by omega]
      · rw [if_neg h2]; simp [fig, show 48 ≤ c by omega, show c ≤ 57 by omega]
theorem spec_IsNum_k {s : ByteArray} (hs : s.size ≤ 140737488351232) {k : Nat} (hk : s.size + 1 ≤ k) : spec_IsNum.f k s = some (isNumL (bytesOf s)) := by
  show spec_IsNum.l0 k s 0 = _
  rw [show (0 : Int) = (([] : List Int).length : Int) from rfl, spec_IsNum_l hs (bytesOf s) [] k rfl (by rw [bx_len]; omega), len16]
  rfl
theorem spec_IsNum_ev {s : ByteArray} (hs : s.size ≤ 140737488351232) : Ev (fun k => spec_IsNum.f k s) (isNumL (bytesOf s)) := ⟨s.size + 1, fun k hk => spec_IsNum_k hs hk⟩

theorem impl_allFigures_l {s : ByteArray} (hs : s.size ≤ 140737488351232) (lo hi : Int) : ∀ (ys pre : List Int) (k : Nat), bytesOf s = pre ++ ys → ys.length < k →
    impl_allFigures.l0 k s lo hi (s.size : Int) (pre.length : Int) = some (ys.all fig && (decide (lo ≤ (s.size : Int)) && decide ((s.size : Int) ≤ hi))) := by
  intro ys
  induction ys with
  | nil =>
    intro pre k h hk
    obtain ⟨k, rfl⟩ := succ_of hk
    have he := bx_end h
    simp only [impl_allFigures.l0]
    rw [if_neg (by omega), iIn, Option.bind_some]
    rfl
  | cons c ys ih =>
    intro pre k h hk
    obtain ⟨k, rfl⟩ := succ_of hk
    have hlt := bx_lt h
    simp only [impl_allFigures.l0]
    rw [if_pos hlt, if_pos (by omega), if_pos hlt, bx_at h, iFig (bx_in h).1 (bx_in h).2, Option.bind_some, bx_wrap h hs, ih (pre ++ [c]) k (bx_next h) (by simpa using hk)]
    rw [List.all_cons]
    cases fig c <;> simp
theorem impl_IsNum_k {s : ByteArray} (hs : s.size ≤ 140737488351232) {k : Nat} (hk : s.size + 1 ≤ k) : impl_IsNum.f k s = some (isNumL (bytesOf s)) := by
  show (impl_allFigures.l0 k s 1 6 (s.size : Int) 0).bind _ = _
  rw [show (0 : Int) = (([] : List Int).length : Int) from rfl, impl_allFigures_l hs 1 6 (bytesOf s) [] k rfl (by rw [bx_len]; omega), len16]
  rfl
theorem impl_IsNum_ev {s : ByteArray} (hs : s.size ≤ 140737488351232) : Ev (fun k => impl_IsNum.f k s) (isNumL (bytesOf s)) := ⟨s.size + 1, fun k hk => impl_IsNum_k hs hk⟩

def blk32 (c : Int) : Bool := decide (c = 32)
/-- The number of a text. -/
def numS (s : ByteArray) : Int := qnumL 0 ((bytesOf s).dropWhile blk32)
theorem bx_trim (s : ByteArray) : bytesOf ⟨(Go.Lib.trimLeftB s.data.toList 32).toArray⟩ = (bytesOf s).dropWhile blk32 := by
  show (List.dropWhile (· == 32) s.data.toList).map (fun b : UInt8 => (b.toNat : Int)) = List.dropWhile blk32 (s.data.toList.map fun b : UInt8 => (b.toNat : Int))
  rw [List.dropWhile_map]
  congr 2
  funext b
  show (b == 32) = decide ((b.toNat : Int) = 32)
  by_cases h : b = 32
  · subst h; rfl
  · have h2 : ¬ ((b.toNat : Int) = 32) := fun e => h (UInt8.toNat_inj.1 (by show b.toNat = 32; omega))
    rw [decide_eq_false h2]
    exact beq_eq_false_iff_ne.2 h

theorem impl_NumOf_k {s : ByteArray} (hs : s.size ≤ 140737488351232) : impl_NumOf.f s = some (numS s) := by
  unfold impl_NumOf.f numS
  rw [bx_trim]
  have h : (Go.Lib.trimLeftB s.data.toList 32).length ≤ s.data.toList.length := by
    unfold Go.Lib.trimLeftB
    exact (List.dropWhile_suffix _).length_le
  have h2 : s.data.toList.length = s.size := Array.length_toList
  rw [if_pos (by omega)]

theorem spec_NumOf_l1 {s : ByteArray} (hs : s.size ≤ 140737488351232) : ∀ (ys pre : List Int) (k : Nat) (x : Int), bytesOf s = pre ++ ys → 0 ≤ x → x < 1000000 → ys.length < k →
    spec_NumOf.l1 k s (pre.length : Int) x = some (qnumL x ys) := by
  intro ys
  induction ys with
  | nil =>
    intro pre k x h h0 h1 hk
    obtain ⟨k, rfl⟩ := succ_of hk
    have he := bx_end h
    simp only [spec_NumOf.l1]
    rw [if_neg (by omega)]
    rfl
  | cons c ys ih =>
    intro pre k x h h0 h1 hk
    obtain ⟨k, rfl⟩ := succ_of hk
    have hlt := bx_lt h
    have hc := bx_in h
    rw [List.length_cons] at hk
    simp only [spec_NumOf.l1]
    rw [if_pos hlt, if_pos (by omega), bx_at h]
    by_cases h48 : c ≥ 48
    · rw [if_pos h48]
      by_cases h57 : c ≤ 57
      · rw [if_pos h57, bx_wrap h hs, show (c - 48) % 256 = c - 48 by omega, w64 (x := 10 * x) (by omega) (by omega), w64 (by omega) (by omega), Int.tmod_eq_emod_of_nonneg (by omega), ih (pre ++ [c]) k _ (bx_next h) (by omega) (by omega) (by omega)]
        rw [qnumL_go]
        unfold qfigB
        rw [decide_eq_true (show 48 ≤ c by omega), decide_eq_true h57]
        rfl
      · rw [if_neg h57, qnumL_stop]
        unfold qfigB
        rw [decide_eq_false h57, Bool.and_false]
    · rw [if_neg h48, qnumL_stop]
      unfold qfigB
      rw [decide_eq_false (show ¬ 48 ≤ c by omega), Bool.false_and]
theorem spec_NumOf_l0 {s : ByteArray} (hs : s.size ≤ 140737488351232) : ∀ (ys pre : List Int) (k : Nat), bytesOf s = pre ++ ys → ys.length + 3 < k →
    spec_NumOf.l0 k s (pre.length : Int) = some (qnumL 0 (ys.dropWhile blk32)) := by
  intro ys
  induction ys with
  | nil =>
    intro pre k h hk
    obtain ⟨k, rfl⟩ := succ_of hk
    have he := bx_end h
    simp only [spec_NumOf.l0]
    rw [if_neg (by omega)]
    obtain ⟨k, rfl⟩ : ∃ m, k = m + 1 := ⟨k - 1, by rw [List.length_nil] at hk; omega⟩
    simp only [spec_NumOf.j1]
    exact spec_NumOf_l1 hs [] pre k 0 h (by omega) (by omega) (by rw [List.length_nil] at hk ⊢; omega)
  | cons c ys ih =>
    intro pre k h hk
    obtain ⟨k, rfl⟩ := succ_of hk
    have hlt := bx_lt h
    have hc := bx_in h
    rw [List.length_cons] at hk
    simp only [spec_NumOf.l0]
    rw [if_pos hlt, if_pos (by omega), bx_at h]
    by_cases h32 : c = 32
    · rw [if_pos h32, bx_wrap h hs, ih (pre ++ [c]) k (bx_next h) (by omega), List.dropWhile_cons]
      unfold blk32
      rw [decide_eq_true h32, if_pos rfl]
    · rw [if_neg h32, List.dropWhile_cons]
      unfold blk32
      rw [decide_eq_false h32, if_neg (by decide)]
      obtain ⟨k, rfl⟩ : ∃ m, k = m + 1 := ⟨k - 1, by omega⟩
      simp only [spec_NumOf.j1]
      exact spec_NumOf_l1 hs (c :: ys) pre k 0 h (by omega) (by omega) (by rw [List.length_cons]; omega)
theorem spec_NumOf_k {s : ByteArray} (hs : s.size ≤ 140737488351232) {k : Nat} (hk : s.size + 4 ≤ k) : spec_NumOf.f k s = some (numS s) :=
  spec_NumOf_l0 hs (bytesOf s) [] k rfl (by rw [bx_len]; omega)

def sameS (a b : ByteArray) : Bool := if isNumL (bytesOf a) = true ∧ isNumL (bytesOf b) = true then (numS a == numS b) else (a.toList == b.toList)

theorem impl_Same_k {a b : ByteArray} (ha : a.size ≤ 140737488351232) (hb : b.size ≤ 140737488351232) {k : Nat} (hk : a.size + b.size + 10 ≤ k) : impl_Same.f k a b = some (sameS a b) := by
  obtain ⟨k, rfl⟩ : ∃ m, k = m + 1 := ⟨k - 1, by omega⟩
  unfold impl_Same.f sameS
  rw [impl_IsNum_k ha (by omega), Option.bind_some]
  by_cases h1 : isNumL (bytesOf a) = true
  · rw [if_pos h1, impl_IsNum_k hb (by omega), Option.bind_some]
    simp only [impl_Same.j0]
    by_cases h2 : isNumL (bytesOf b) = true
    · rw [if_pos h2, impl_NumOf_k ha, impl_NumOf_k hb, Option.bind_some, Option.bind_some, if_pos ⟨h1, h2⟩]
    · rw [if_neg h2, if_neg (fun h => h2 h.2)]
  · rw [if_neg h1, if_neg (fun h => h1 h.1)]
    simp only [impl_Same.j0]
    rw [if_neg (by decide)]

theorem spec_Same_k {a b : ByteArray} (ha : a.size ≤ 140737488351232) (hb : b.size ≤ 140737488351232) {k : Nat} (hk : a.size + b.size + 10 ≤ k) : spec_Same.f k a b = some (sameS a b) := by
  obtain ⟨k, rfl⟩ : ∃ m, k = m + 1 := ⟨k - 1, by omega⟩
  unfold spec_Same.f sameS
  rw [spec_IsNum_k ha (by omega), Option.bind_some]
  by_cases h1 : isNumL (bytesOf a) = true
  · rw [if_pos h1, spec_IsNum_k hb (by omega), Option.bind_some]
    simp only [spec_Same.j0]
    by_cases h2 : isNumL (bytesOf b) = true
    · rw [if_pos h2, spec_NumOf_k ha (by omega), spec_NumOf_k hb (by omega), Option.bind_some, Option.bind_some, if_pos ⟨h1, h2⟩]
    · rw [if_neg h2, if_neg (fun h => h2 h.2)]
  · rw [if_neg h1, if_neg (fun h => h1 h.1)]
    simp only [spec_Same.j0]
    rw [if_neg (by decide)]

theorem FnExactSame : laws_FnExactSame.Pure := by
  intro a b ha hb
  refine ⟨a.size + b.size + 10, ?_⟩
  unfold laws_FnExactSame.f
  split
  · rfl
  · split
    · rfl
    · rw [spec_Same_k ha hb (Nat.le_refl _), impl_Same_k ha hb (Nat.le_refl _), Option.bind_some, Option.bind_some, if_neg (by simp)]

end Go.Proofs.YtkgpokiglanjfaaDoor.Pure
