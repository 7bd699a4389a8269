/- The pure statement of FnOrders: over numbers and lists, what the printed functions come to is what the law wants, for every input. -/
import Derived.Test.YtkgpokiglanjfaaDoorQFnOrdersx4
set_option linter.unusedVariables false
set_option linter.unusedSimpArgs false
namespace Go.Proofs.YtkgpokiglanjfaaDoor.Pure
open Go.RowKit Go.Proofs.YtkgpokiglanjfaaDoor.QFnOrders Go.Proofs.YtkgpokiglanjfaaDoorW.PrintWords Go.Proofs.YtkgpokiglanjfaaDoorW.PrintLast
/-! Words on strings as lists of numbers. -/
theorem w64 {x : Int} (h0 : -9223372036854775808 ≤ x) (h1 : x ≤ 9223372036854775807) : wrap64 x = x := by
  unfold wrap64
  omega
theorem bx_len (s : ByteArray) : (bytesOf s).length = s.size := bytesOf_length s
theorem bx_byte (s : ByteArray) : ∀ c ∈ bytesOf s, 0 ≤ c ∧ c ≤ 255 := by
  intro c hc
  unfold bytesOf at hc
  obtain ⟨b, _, rfl⟩ := List.mem_map.1 hc
  have := b.toNat_lt
  omega
theorem bx_at {s : ByteArray} {pre ys : List Int} {c : Int} (h : bytesOf s = pre ++ c :: ys) : bt s (pre.length : Int) = c := by
  rw [← rd_bytesOf, h, rd, Int.toNat_natCast, List.getD_eq_getElem?_getD, List.getElem?_append_right (Nat.le_refl _)]
  simp
theorem bx_lt {s : ByteArray} {pre ys : List Int} {c : Int} (h : bytesOf s = pre ++ c :: ys) : (pre.length : Int) < (s.size : Int) := by
  have := congrArg List.length h
  rw [bx_len, List.length_append, List.length_cons] at this
  omega
theorem bx_end {s : ByteArray} {pre : List Int} (h : bytesOf s = pre ++ []) : (s.size : Int) = (pre.length : Int) := by
  have := congrArg List.length h
  rw [bx_len, List.append_nil] at this
  omega
theorem bx_next {s : ByteArray} {pre ys : List Int} {c : Int} (h : bytesOf s = pre ++ c :: ys) : bytesOf s = (pre ++ [c]) ++ ys := by
  rw [h, List.append_assoc]; rfl
theorem len_next (pre : List Int) (c : Int) : ((pre ++ [c]).length : Int) = (pre.length : Int) + 1 := by
  rw [List.length_append, List.length_singleton]; omega
theorem bx_inj {s t : ByteArray} (h : bytesOf s = bytesOf t) : s = t := by
  unfold bytesOf at h
  have h2 : s.data.toList = t.data.toList := by
    refine (List.map_inj_right (f := fun b : UInt8 => (b.toNat : Int)) ?_).1 h
    intro x y hxy
    exact UInt8.toNat_inj.1 (Int.ofNat_inj.1 hxy)
  exact ByteArray.ext (Array.toList_inj.1 h2)
theorem tl_inj {s t : ByteArray} (h : s.toList = t.toList) : s = t := by
  rw [ByteArray.toList_eq, ByteArray.toList_eq] at h
  exact ByteArray.ext (Array.toList_inj.1 h)
theorem tl_iff {s t : ByteArray} : s.toList = t.toList ↔ bytesOf s = bytesOf t := ⟨fun h => by rw [tl_inj h], fun h => by rw [bx_inj h]⟩
theorem bx_app (s t : ByteArray) : bytesOf (s ++ t) = bytesOf s ++ bytesOf t := by
  simp [bytesOf]
theorem bx_cut (s : ByteArray) (a b : Nat) : bytesOf (s.extract a b) = ((bytesOf s).take b).drop a := by
  simp [bytesOf, ByteArray.data_extract, List.map_drop, List.map_take, List.take_drop]
  rw [List.drop_take, List.drop_take]
  congr 1
  omega
theorem bx_str {xs : List Int} (h : ∀ c ∈ xs, 0 ≤ c ∧ c ≤ 255) : bytesOf (strOfNums xs) = xs := by
  unfold bytesOf
  rw [strOfNums_data, List.map_map]
  induction xs with
  | nil => rfl
  | cons c xs ih =>
    rw [List.map_cons, ih (fun d hd => h d (List.mem_cons_of_mem _ hd))]
    have hc := h c (List.mem_cons_self ..)
    congr 1
    have e : (UInt8.ofNat c.toNat).toNat = c.toNat := by
      rw [UInt8.toNat_ofNat']
      omega
    show ((UInt8.ofNat c.toNat).toNat : Int) = c
    rw [e]
    omega
theorem bx_wrap {s : ByteArray} {pre ys : List Int} {c : Int} (h : bytesOf s = pre ++ c :: ys) (hs : s.size ≤ 140737488351232) : wrap64 ((pre.length : Int) + 1) = ((pre ++ [c]).length : Int) := by
  rw [len_next]
  have := bx_lt h
  exact w64 (by omega) (by omega)
theorem bx_in {s : ByteArray} {pre ys : List Int} {c : Int} (h : bytesOf s = pre ++ c :: ys) : 0 ≤ c ∧ c ≤ 255 :=
  bx_byte s c (by rw [h]; exact List.mem_append_right _ (List.mem_cons_self ..))
theorem succ_of {n k : Nat} (h : n < k) : ∃ m, k = m + 1 := ⟨k - 1, by omega⟩
theorem ev2 {α β : Type} {g : Nat → Option α} {f : Nat → Option β} {a : α} {b : β} (h : Ev g a) (h' : Ev f b) : ∃ k, g k = some a ∧ f k = some b := by
  obtain ⟨K, h⟩ := h
  obtain ⟨K', h'⟩ := h'
  exact ⟨K + K', h _ (by omega), h' _ (by omega)⟩

theorem u32_in {x : Int} (h : (Lit.int .u32 x).wf = true) : 0 ≤ x ∧ x < 4294967296 := by
  simp only [Lit.wf, IntKind.min, IntKind.max, IntKind.signed, IntKind.bits, Bool.and_eq_true, decide_eq_true_eq] at h
  simp at h
  omega
theorem i64_in {x : Int} (h : (Lit.int .i64 x).wf = true) : -9223372036854775808 ≤ x ∧ x ≤ 9223372036854775807 := by
  simp only [Lit.wf, IntKind.min, IntKind.max, IntKind.signed, IntKind.bits, Bool.and_eq_true, decide_eq_true_eq] at h
  simp at h
  omega

def fig (c : Int) : Bool := decide (48 ≤ c) && decide (c ≤ 57)
def isNumL (xs : List Int) : Bool := xs.all fig && (decide (1 ≤ xs.length) && decide (xs.length ≤ 6))
theorem len16 (s : ByteArray) : (decide ((1 : Int) ≤ (s.size : Int)) && decide ((s.size : Int) ≤ 6)) = (decide (1 ≤ (bytesOf s).length) && decide ((bytesOf s).length ≤ 6)) := by
  rw [bx_len]
  congr 1 <;> apply decide_eq_decide.2 <;> omega

theorem sIn (a b c : Int) : spec_l01In.f a b c = some (decide (b ≤ a) && decide (a ≤ c)) := by
  unfold spec_l01In.f
  by_cases h : a ≥ b
  · rw [if_pos h]; simp [show b ≤ a from h]
  · rw [if_neg h]; simp [show ¬ b ≤ a from h]

theorem iIn (a b c : Int) : impl_within.f a b c = some (decide (b ≤ a) && decide (a ≤ c)) := by
  unfold impl_within.f
  by_cases h : a ≥ b
  · rw [if_pos h]; simp [show b ≤ a from h]
  · rw [if_neg h]; simp [show ¬ b ≤ a from h]

theorem iFig {c : Int} (h0 : 0 ≤ c) (h1 : c ≤ 255) : impl_isFigure.f c = some (fig c) := by
  unfold impl_isFigure.f
  rw [w64 (by omega) (by omega), iIn, Option.bind_some]
  rfl

theorem spec_IsNum_l {s : ByteArray} (hs : s.size ≤ 140737488351232) : ∀ (ys pre : List Int) (k : Nat), bytesOf s = pre ++ ys → ys.length < k →
    spec_IsNum.l0 k s (pre.length : Int) = some (ys.all fig && (decide ((1 : Int) ≤ (s.size : Int)) && decide ((s.size : Int) ≤ 6))) := by
  intro ys
  induction ys with
  | nil =>
    intro pre k h hk
    obtain ⟨k, rfl⟩ := succ_of hk
    have he := bx_end h
    simp only [spec_IsNum.l0]
    rw [if_neg (by omega), sIn, Option.bind_some]
    rfl
  | cons c ys ih =>
    intro pre k h hk
    obtain ⟨k, rfl⟩ := succ_of hk
    have hlt := bx_lt h
    simp only [spec_IsNum.l0]
    rw [if_pos hlt, if_pos (by omega), bx_at h, bx_wrap h hs, ih (pre ++ [c]) k (bx_next h) (by simpa using hk)]
    rw [List.all_cons]
    by_cases h1 : c < 48
    · rw [if_pos h1]; simp [fig, show ¬ 48 ≤ c by omega]
    · rw [if_neg h1]
      by_cases h2 : c > 57
      · rw [if_pos h2]; simp [fig, show ¬ c ≤ 57 by omega]
      · rw [if_neg h2]; simp [fig, show 48 ≤ c by omega, show c ≤ 57 by omega]
theorem spec_IsNum_k {s : ByteArray} (hs : s.size ≤ 140737488351232) {k : Nat} (hk : s.size + 1 ≤ k) : spec_IsNum.f k s = some (isNumL (bytesOf s)) := by
  show spec_IsNum.l0 k s 0 = _
  rw [show (0 : Int) = (([] : List Int).length : Int) from rfl, spec_IsNum_l hs (bytesOf s) [] k rfl (by rw [bx_len]; omega), len16]
  rfl
theorem spec_IsNum_ev {s : ByteArray} (hs : s.size ≤ 140737488351232) : Ev (fun k => spec_IsNum.f k s) (isNumL (bytesOf s)) := ⟨s.size + 1, fun k hk => spec_IsNum_k hs hk⟩

theorem impl_allFigures_l {s : ByteArray} (hs : s.size ≤ 140737488351232) (lo hi : Int) : ∀ (ys pre : List Int) (k : Nat), bytesOf s = pre ++ ys → ys.length < k →
    impl_allFigures.l0 k s lo hi (s.size : Int) (pre.length : Int) = some (ys.all fig && (decide (lo ≤ (s.size : Int)) && decide ((s.size : Int) ≤ hi))) := by
  intro ys
  induction ys with
  | nil =>
    intro pre k h hk
    obtain ⟨k, rfl⟩ := succ_of hk
    have he := bx_end h
    simp only [impl_allFigures.l0]
    rw [if_neg (by omega), iIn, Option.bind_some]
    rfl
  | cons c ys ih =>
    intro pre k h hk
    obtain ⟨k, rfl⟩ := succ_of hk
    have hlt := bx_lt h
    simp only [impl_allFigures.l0]
    rw [if_pos hlt, if_pos (by omega), if_pos hlt, bx_at h, iFig (bx_in h).1 (bx_in h).2, Option.bind_some, bx_wrap h hs, ih (pre ++ [c]) k (bx_next h) (by simpa using hk)]
    rw [List.all_cons]
    cases fig c <;> simp
theorem impl_IsNum_k {s : ByteArray} (hs : s.size ≤ 140737488351232) {k : Nat} (hk : s.size + 1 ≤ k) : impl_IsNum.f k s = some (isNumL (bytesOf s)) := by
  show (impl_allFigures.l0 k s 1 6 (s.size : Int) 0).bind _ = _
  rw [show (0 : Int) = (([] : List Int).length : Int) from rfl, impl_allFigures_l hs 1 6 (bytesOf s) [] k rfl (by rw [bx_len]; omega), len16]
  rfl
theorem impl_IsNum_ev {s : ByteArray} (hs : s.size ≤ 140737488351232) : Ev (fun k => impl_IsNum.f k s) (isNumL (bytesOf s)) := ⟨s.size + 1, fun k hk => impl_IsNum_k hs hk⟩

theorem and255_in (x : Int) : 0 ≤ Go.bits .and .i64 x 255 ∧ Go.bits .and .i64 x 255 ≤ 255 := by
  simp only [Go.bits]
  rw [IntKind.wrap_i64]
  have h : (BitVec.ofInt IntKind.i64.bits x &&& BitVec.ofInt IntKind.i64.bits 255).toNat ≤ 255 := by
    rw [BitVec.toNat_and]
    exact Nat.le_trans Nat.and_le_right (by decide)
  omega
/-- The drawn bytes are bytes, and no more than can be. -/
def IsCode (b : List Int) : Prop := b.length ≤ 9223372036854775807

theorem byte_ok {b : List Int} (hb : IsCode b) {i : Int} (hi : 0 ≤ i) (h : Int) : ∃ r i' h', spec_l01Byte.f b i h = some (r, i', h') ∧ 0 ≤ r ∧ r ≤ 255 ∧ 0 ≤ i' := by
  unfold IsCode at hb
  unfold spec_l01Byte.f
  by_cases h1 : i < (b.length : Int)
  · rw [if_pos h1, if_pos hi]
    refine ⟨_, _, _, rfl, (and255_in _).1, (and255_in _).2, ?_⟩
    rw [w64 (by omega) (by omega)]
    omega
  · rw [if_neg h1]
    exact ⟨_, _, _, rfl, (and255_in _).1, (and255_in _).2, hi⟩
theorem below_ok {b : List Int} (hb : IsCode b) {i : Int} (hi : 0 ≤ i) (h : Int) {n : Int} (h0 : 0 < n) (h1 : n ≤ 4294967296) :
    ∃ r i' h', spec_l01Below.f b i h n = some (r, i', h') ∧ 0 ≤ r ∧ r < n ∧ 0 ≤ i' := by
  unfold spec_l01Below.f
  rw [if_neg (by omega)]
  obtain ⟨r1, i1, h1', e1, a1, b1, c1⟩ := byte_ok hb hi h
  by_cases hn : n ≤ 256
  · rw [if_pos hn, e1, Option.bind_some, if_neg (by omega)]
    refine ⟨_, _, _, rfl, ?_, ?_, c1⟩
    · rw [Int.tmod_eq_emod_of_nonneg a1]; exact Int.emod_nonneg _ (by omega)
    · rw [Int.tmod_eq_emod_of_nonneg a1]; exact Int.emod_lt_of_pos _ h0
  · rw [if_neg hn, e1, Option.bind_some]
    obtain ⟨r2, i2, h2', e2, a2, b2, c2⟩ := byte_ok hb c1 h1'
    obtain ⟨r3, i3, h3', e3, a3, b3, c3⟩ := byte_ok hb c2 h2'
    obtain ⟨r4, i4, h4', e4, a4, b4, c4⟩ := byte_ok hb c3 h3'
    dsimp only
    rw [e2, Option.bind_some]
    dsimp only
    rw [e3, Option.bind_some]
    dsimp only
    rw [e4, Option.bind_some, if_neg (by omega)]
    dsimp only
    rw [w64 (show _ ≤ r1 * 16777216 by omega) (by omega), w64 (show _ ≤ r2 * 65536 by omega) (by omega), w64 (show _ ≤ r3 * 256 by omega) (by omega),
      w64 (show _ ≤ r1 * 16777216 + r2 * 65536 by omega) (by omega), w64 (show _ ≤ r1 * 16777216 + r2 * 65536 + r3 * 256 by omega) (by omega), w64 (show _ ≤ r1 * 16777216 + r2 * 65536 + r3 * 256 + r4 by omega) (by omega)]
    refine ⟨_, _, _, rfl, ?_, ?_, c4⟩
    · rw [Int.tmod_eq_emod_of_nonneg (by omega)]; exact Int.emod_nonneg _ (by omega)
    · rw [Int.tmod_eq_emod_of_nonneg (by omega)]; exact Int.emod_lt_of_pos _ h0
theorem new_l {b : List Int} (hb : IsCode b) : ∀ (d : Nat) (k : Nat) (h i : Int), 0 ≤ i → (4000 : Int) - i ≤ d → d < k → ∃ h', spec_l01New.l0 k b h i = some (b, 0, h') := by
  unfold IsCode at hb
  intro d
  induction d with
  | zero =>
    intro k h i hi hd hk
    obtain ⟨k, rfl⟩ := succ_of hk
    simp only [spec_l01New.l0]
    by_cases h1 : i < (b.length : Int)
    · rw [if_pos h1, if_neg (by omega)]; exact ⟨_, rfl⟩
    · rw [if_neg h1]; exact ⟨_, rfl⟩
  | succ d ih =>
    intro k h i hi hd hk
    obtain ⟨k, rfl⟩ := succ_of hk
    simp only [spec_l01New.l0]
    by_cases h1 : i < (b.length : Int)
    · rw [if_pos h1]
      by_cases h2 : i < 4000
      · rw [if_pos h2, if_pos hi, w64 (show _ ≤ i + 1 by omega) (by omega)]
        exact ih k _ (i + 1) (by omega) (by omega) (by omega)
      · rw [if_neg h2]; exact ⟨_, rfl⟩
    · rw [if_neg h1]; exact ⟨_, rfl⟩
theorem new_ok {b : List Int} (hb : IsCode b) : ∃ h', ∀ k, 4001 ≤ k → spec_l01New.f k b = some (b, 0, h') := by
  obtain ⟨h', e⟩ := new_l hb 4000 4001 (wrap64 (38001 + (b.length : Int))) 0 (by omega) (by omega) (by omega)
  refine ⟨h', fun k hk => ?_⟩
  have hm : ∀ k, LeO (spec_l01New.l0 k b (wrap64 (38001 + (b.length : Int))) 0) (spec_l01New.l0 (k + 1) b (wrap64 (38001 + (b.length : Int))) 0) := fun k => by
    have := spec_l01New.mono_l k
    exact this _ _ _
  exact at_rounds (g := fun k => spec_l01New.l0 k b (wrap64 (38001 + (b.length : Int))) 0) hm hk e

theorem pick_ok {b : List Int} (hb : IsCode b) {i : Int} (hi : 0 ≤ i) (h : Int) {l : List ByteArray} (h0 : 0 < l.length) (h1 : l.length ≤ 4294967296) :
    ∃ r i' h', spec_l01Pick.f b i h l = some (r, i', h') ∧ r ∈ l ∧ 0 ≤ i' := by
  unfold spec_l01Pick.f
  obtain ⟨r, i', h', e, a, b', c⟩ := below_ok hb hi h (n := (l.length : Int)) (by omega) (by omega)
  rw [e, Option.bind_some]
  dsimp only
  rw [if_pos a, if_pos b']
  refine ⟨_, _, _, rfl, ?_, c⟩
  unfold rdOf
  rw [List.getD_eq_getElem?_getD, List.getElem?_eq_getElem (by omega)]
  exact List.getElem_mem _

theorem val_ok {b : List Int} (hb : IsCode b) {i : Int} (hi : 0 ≤ i) (h : Int) : ∃ s i' h', spec_l03Val.f b i h = some (s, i', h') ∧ s.size ≤ 42 ∧ 0 ≤ i' := by
  unfold spec_l03Val.f
  generalize hl : ([_, _, _, _, _, _, _, _, _, _, _, _, _, _, _, _] : List ByteArray) = l
  have hlen : l.length = 16 := by rw [← hl]; rfl
  have hall : ∀ s ∈ l, s.size ≤ 42 := by
    rw [← hl]
    intro s hs
    simp only [List.mem_cons, List.mem_nil_iff, or_false] at hs
    rcases hs with rfl | rfl | rfl | rfl | rfl | rfl | rfl | rfl | rfl | rfl | rfl | rfl | rfl | rfl | rfl | rfl <;> decide
  obtain ⟨r, i', h', e, hr, c⟩ := pick_ok hb hi h (l := l) (by omega) (by omega)
  rw [e, Option.bind_some]
  exact ⟨_, _, _, rfl, hall r hr, c⟩

theorem places_l {b : List Int} (hb : IsCode b) : ∀ (d : Nat) (k : Nat) (out : List Int) (i h : Int), out.length + d = 12 → (∀ x ∈ out, 0 ≤ x ∧ x < 10000) → 0 ≤ i → d < k →
    ∃ r, spec_DrawPlaces.l0 k out (out.length : Int) b i h = some r ∧ r.length = 12 ∧ ∀ x ∈ r, 0 ≤ x ∧ x < 10000 := by
  intro d
  induction d with
  | zero =>
    intro k out i h hd ho hi hk
    obtain ⟨k, rfl⟩ := succ_of hk
    simp only [spec_DrawPlaces.l0]
    rw [if_neg (by omega)]
    exact ⟨_, rfl, by omega, ho⟩
  | succ d ih =>
    intro k out i h hd ho hi hk
    obtain ⟨k, rfl⟩ := succ_of hk
    simp only [spec_DrawPlaces.l0]
    obtain ⟨r, i', h', e, a, b', c⟩ := below_ok hb hi h (n := 10000) (by omega) (by omega)
    rw [if_pos (by omega), e, Option.bind_some, if_pos (by omega), w64 (by omega) (by omega), ← len_next out r]
    exact ih k (out ++ [r]) i' h' (by rw [List.length_append, List.length_singleton]; omega) (fun x hx => by rcases List.mem_append.1 hx with hx | hx; exact ho x hx; (have : x = r := (by simpa using hx)); omega) c (by omega)
theorem places_ok {b : List Int} (hb : IsCode b) : ∃ r, Ev (fun k => spec_DrawPlaces.f k b) r ∧ r.length = 12 ∧ ∀ x ∈ r, 0 ≤ x ∧ x < 10000 := by
  obtain ⟨h', e⟩ := new_ok hb
  obtain ⟨x, i1, h1, e1, _, _, c1⟩ := byte_ok hb (Int.le_refl 0) h'
  obtain ⟨r, e2, hl, hr⟩ := places_l hb 12 13 [] i1 h1 rfl (by simp) c1 (by omega)
  refine ⟨r, ⟨4001, fun k hk => ?_⟩, hl, hr⟩
  dsimp only
  unfold spec_DrawPlaces.f
  rw [e k hk, Option.bind_some]
  dsimp only
  rw [e1, Option.bind_some]
  dsimp only
  have hm : ∀ k, LeO (spec_DrawPlaces.l0 k [] 0 b i1 h1) (spec_DrawPlaces.l0 (k + 1) [] 0 b i1 h1) := fun k => by
    have := spec_DrawPlaces.mono_l k
    exact this _ _ _ _ _
  exact at_rounds (g := fun k => spec_DrawPlaces.l0 k [] 0 b i1 h1) hm (show 13 ≤ k by omega) e2
theorem rd_in {r : List Int} (hl : r.length = 12) (hr : ∀ x ∈ r, 0 ≤ x ∧ x < 10000) (i : Int) (h0 : 0 ≤ i) (hi : i < 12) : 0 ≤ rd r i ∧ rd r i < 10000 := by
  unfold rd
  rw [List.getD_eq_getElem?_getD, List.getElem?_eq_getElem (by omega)]
  exact hr _ (List.getElem_mem _)

/-- Decimal figures, the highest first, of a number above 0. -/
def decL : Nat → Int → List Int → List Int
  | 0, _, acc => acc
  | f + 1, n, acc => if n = 0 then acc else decL f (n / 10) ((48 + n % 10) :: acc)
def figsOf (n : Int) : List Int := if n = 0 then [48] else decL 20 n []
theorem fig_add (d : Int) (h0 : 0 ≤ d) (h1 : d < 10) : fig (48 + d) = true := by
  unfold fig
  rw [decide_eq_true (by omega), decide_eq_true (by omega)]
  rfl
theorem decL_all : ∀ (f : Nat) (n : Int) (acc : List Int), 0 ≤ n → acc.all fig = true → (decL f n acc).all fig = true := by
  intro f
  induction f with
  | zero => intro n acc _ h; exact h
  | succ f ih =>
    intro n acc hn h
    unfold decL
    split
    · exact h
    · exact ih (n / 10) _ (by omega) (by rw [List.all_cons, fig_add _ (by omega) (by omega), h]; rfl)
theorem decL_len : ∀ (f : Nat) (n : Int) (acc : List Int) (m : Nat), 0 ≤ n → n < 10 ^ m → acc.length ≤ (decL f n acc).length ∧ (decL f n acc).length ≤ acc.length + m := by
  intro f
  induction f with
  | zero => intro n acc m _ _; simp [decL]
  | succ f ih =>
    intro n acc m hn h
    unfold decL
    split
    · simp
    · cases m with
      | zero => exfalso; simp at h; omega
      | succ m =>
        have := ih (n / 10) ((48 + n % 10) :: acc) m (by omega) (by rw [Int.pow_succ] at h; omega)
        rw [List.length_cons] at this
        omega
theorem figs_all {n : Int} (hn : 0 ≤ n) : (figsOf n).all fig = true := by
  unfold figsOf
  split
  · rfl
  · exact decL_all 20 n [] hn rfl
theorem figs_len {n : Int} (hn : 0 ≤ n) {m : Nat} (h : n < 10 ^ (m + 1)) : 1 ≤ (figsOf n).length ∧ (figsOf n).length ≤ m + 1 := by
  unfold figsOf
  split
  · simp
  · rename_i h0
    have := decL_len 20 n [] (m + 1) hn h
    refine ⟨?_, by simpa using this.2⟩
    have := decL_len 19 (n / 10) [48 + n % 10] 20
    unfold decL
    rw [if_neg h0]
    have h2 := (decL_len 19 (n / 10) [48 + n % 10] (m + 1) (by omega) (by rw [Int.pow_succ] at h ⊢; omega)).1
    simpa using h2
theorem figs_byte {n : Int} (hn : 0 ≤ n) : ∀ c ∈ figsOf n, 0 ≤ c ∧ c ≤ 255 := by
  intro c hc
  have := List.all_eq_true.1 (figs_all hn) c hc
  unfold fig at this
  simp at this
  omega
theorem isNum_figs {n : Int} (hn : 0 ≤ n) (h : n < 1000000) : isNumL (figsOf n) = true := by
  unfold isNumL
  have := figs_len hn (m := 5) h
  rw [figs_all hn, decide_eq_true this.1, decide_eq_true this.2]
  rfl

theorem sFigure {d : Int} (h0 : 0 ≤ d) (h1 : d < 10) : spec_l01Figure.f d = some (48 + d) := by
  unfold spec_l01Figure.f
  rw [if_pos h1, w64 (by omega) (by omega), show (48 + d) % 256 = 48 + d by omega]
theorem bx_cons {d : Int} (h0 : 0 ≤ d) (h1 : d ≤ 255) (t : ByteArray) : bytesOf (strOfNums [d] ++ t) = d :: bytesOf t := by
  rw [bx_app, bx_str (by intro c hc; have : c = d := (by simpa using hc); omega)]
  rfl
/-- The loop of Decimal, of a number not below 0: figures are laid ahead of what is there. -/
theorem dec_l : ∀ (f : Nat) (k : Nat) (n : Int) (s : ByteArray), 0 ≤ n → n < 10 ^ f → n ≤ 9223372036854775807 → s.size + f ≤ 1000 → f < k →
    ∃ t, spec_Decimal.l0 k n false s = some t ∧ bytesOf t = decL f n (bytesOf s) := by
  intro f
  induction f with
  | zero =>
    intro k n s h0 h1 hm hs hk
    obtain ⟨k, rfl⟩ := succ_of hk
    simp only [spec_Decimal.l0]
    rw [if_pos (by simp at h1; omega), if_neg (by decide)]
    exact ⟨_, rfl, rfl⟩
  | succ f ih =>
    intro k n s h0 h1 hm hs hk
    obtain ⟨k, rfl⟩ := succ_of hk
    simp only [spec_Decimal.l0]
    by_cases hz : n = 0
    · rw [if_pos hz, if_neg (by decide)]
      refine ⟨_, rfl, ?_⟩
      unfold decL
      rw [if_pos hz]
    · rw [if_neg hz, Int.tmod_eq_emod_of_nonneg h0, if_neg (by omega), sFigure (by omega) (by omega), Option.bind_some, Option.bind_some, Int.tdiv_eq_ediv_of_nonneg h0, w64 (by omega) (by omega)]
      have hz1 : (strOfNums [48 + n % 10]).size = 1 := by rw [strOfNums_size]; rfl
      rw [if_pos (by omega)]
      obtain ⟨t, e, ht⟩ := ih k (n / 10) (strOfNums [48 + n % 10] ++ s) (by omega) (by rw [Int.pow_succ] at h1; omega) (by omega) (by rw [ByteArray.size_append]; omega) (by omega)
      refine ⟨t, e, ?_⟩
      rw [ht, bx_cons (by omega) (by omega)]
      conv => rhs; unfold decL
      rw [if_neg hz]
theorem dec_ok {n : Int} (h0 : 0 ≤ n) (h1 : n ≤ 9223372036854775807) : ∃ t, (∀ k, 30 ≤ k → spec_Decimal.f k n = some t) ∧ bytesOf t = figsOf n := by
  unfold spec_Decimal.f figsOf
  by_cases hz : n = 0
  · rw [if_pos hz]
    exact ⟨_, fun k _ => by rw [if_pos hz], rfl⟩
  · rw [if_neg hz, decide_eq_false (show ¬ n < 0 by omega)]
    obtain ⟨t, e, ht⟩ := dec_l 20 30 n ⟨#[]⟩ h0 (by omega) h1 (by decide) (by omega)
    refine ⟨t, fun k hk => ?_, ht⟩
    rw [if_neg hz]
    have hm : ∀ k, LeO (spec_Decimal.l0 k n false ⟨#[]⟩) (spec_Decimal.l0 (k + 1) n false ⟨#[]⟩) := fun k => by
      have := spec_Decimal.mono_l k
      exact this _ _ _
    exact at_rounds (g := fun k => spec_Decimal.l0 k n false ⟨#[]⟩) hm hk e

def blk32 (c : Int) : Bool := decide (c = 32)
/-- The number of a text. -/
def numS (s : ByteArray) : Int := qnumL 0 ((bytesOf s).dropWhile blk32)
theorem bx_trim (s : ByteArray) : bytesOf ⟨(Go.Lib.trimLeftB s.data.toList 32).toArray⟩ = (bytesOf s).dropWhile blk32 := by
  show (List.dropWhile (· == 32) s.data.toList).map (fun b : UInt8 => (b.toNat : Int)) = List.dropWhile blk32 (s.data.toList.map fun b : UInt8 => (b.toNat : Int))
  rw [List.dropWhile_map]
  congr 2
  funext b
  show (b == 32) = decide ((b.toNat : Int) = 32)
  by_cases h : b = 32
  · subst h; rfl
  · have h2 : ¬ ((b.toNat : Int) = 32) := fun e => h (UInt8.toNat_inj.1 (by show b.toNat = 32; omega))
    rw [decide_eq_false h2]
    exact beq_eq_false_iff_ne.2 h

theorem impl_NumOf_k {s : ByteArray} (hs : s.size ≤ 140737488351232) : impl_NumOf.f s = some (numS s) := by
  unfold impl_NumOf.f numS
  rw [bx_trim]
  have h : (Go.Lib.trimLeftB s.data.toList 32).length ≤ s.data.toList.length := by
    unfold Go.Lib.trimLeftB
    exact (List.dropWhile_suffix _).length_le
  have h2 : s.data.toList.length = s.size := Array.length_toList
  rw [if_pos (by omega)]

theorem spec_NumOf_l1 {s : ByteArray} (hs : s.size ≤ 140737488351232) : ∀ (ys pre : List Int) (k : Nat) (x : Int), bytesOf s = pre ++ ys → 0 ≤ x → x < 1000000 → ys.length < k →
    spec_NumOf.l1 k s (pre.length : Int) x = some (qnumL x ys) := by
  intro ys
  induction ys with
  | nil =>
    intro pre k x h h0 h1 hk
    obtain ⟨k, rfl⟩ := succ_of hk
    have he := bx_end h
    simp only [spec_NumOf.l1]
    rw [if_neg (by omega)]
    rfl
  | cons c ys ih =>
    intro pre k x h h0 h1 hk
    obtain ⟨k, rfl⟩ := succ_of hk
    have hlt := bx_lt h
    have hc := bx_in h
    rw [List.length_cons] at hk
    simp only [spec_NumOf.l1]
    rw [if_pos hlt, if_pos (by omega), bx_at h]
    by_cases h48 : c ≥ 48
    · rw [if_pos h48]
      by_cases h57 : c ≤ 57
      · rw [if_pos h57, bx_wrap h hs, show (c - 48) % 256 = c - 48 by omega, w64 (x := 10 * x) (by omega) (by omega), w64 (by omega) (by omega), Int.tmod_eq_emod_of_nonneg (by omega), ih (pre ++ [c]) k _ (bx_next h) (by omega) (by omega) (by omega)]
        rw [qnumL_go]
        unfold qfigB
        rw [decide_eq_true (show 48 ≤ c by omega), decide_eq_true h57]
        rfl
      · rw [if_neg h57, qnumL_stop]
        unfold qfigB
        rw [decide_eq_false h57, Bool.and_false]
    · rw [if_neg h48, qnumL_stop]
      unfold qfigB
      rw [decide_eq_false (show ¬ 48 ≤ c by omega), Bool.false_and]
theorem spec_NumOf_l0 {s : ByteArray} (hs : s.size ≤ 140737488351232) : ∀ (ys pre : List Int) (k : Nat), bytesOf s = pre ++ ys → ys.length + 3 < k →
    spec_NumOf.l0 k s (pre.length : Int) = some (qnumL 0 (ys.dropWhile blk32)) := by
  intro ys
  induction ys with
  | nil =>
    intro pre k h hk
    obtain ⟨k, rfl⟩ := succ_of hk
    have he := bx_end h
    simp only [spec_NumOf.l0]
    rw [if_neg (by omega)]
    obtain ⟨k, rfl⟩ : ∃ m, k = m + 1 := ⟨k - 1, by rw [List.length_nil] at hk; omega⟩
    simp only [spec_NumOf.j1]
    exact spec_NumOf_l1 hs [] pre k 0 h (by omega) (by omega) (by rw [List.length_nil] at hk ⊢; omega)
  | cons c ys ih =>
    intro pre k h hk
    obtain ⟨k, rfl⟩ := succ_of hk
    have hlt := bx_lt h
    have hc := bx_in h
    rw [List.length_cons] at hk
    simp only [spec_NumOf.l0]
    rw [if_pos hlt, if_pos (by omega), bx_at h]
    by_cases h32 : c = 32
    · rw [if_pos h32, bx_wrap h hs, ih (pre ++ [c]) k (bx_next h) (by omega), List.dropWhile_cons]
      unfold blk32
      rw [decide_eq_true h32, if_pos rfl]
    · rw [if_neg h32, List.dropWhile_cons]
      unfold blk32
      rw [decide_eq_false h32, if_neg (by decide)]
      obtain ⟨k, rfl⟩ : ∃ m, k = m + 1 := ⟨k - 1, by omega⟩
      simp only [spec_NumOf.j1]
      exact spec_NumOf_l1 hs (c :: ys) pre k 0 h (by omega) (by omega) (by rw [List.length_cons]; omega)
theorem spec_NumOf_k {s : ByteArray} (hs : s.size ≤ 140737488351232) {k : Nat} (hk : s.size + 4 ≤ k) : spec_NumOf.f k s = some (numS s) :=
  spec_NumOf_l0 hs (bytesOf s) [] k rfl (by rw [bx_len]; omega)

/-! The number of a told number is that number. -/
theorem decL_app : ∀ (f : Nat) (n : Int) (acc r : List Int), decL f n acc ++ r = decL f n (acc ++ r) := by
  intro f
  induction f with
  | zero => intro n acc r; rfl
  | succ f ih =>
    intro n acc r
    unfold decL
    split
    · rfl
    · rw [ih, List.cons_append]
theorem fig_q (d : Int) (h0 : 0 ≤ d) (h1 : d < 10) : qfigB (48 + d) = true := by
  unfold qfigB
  rw [decide_eq_true (by omega), decide_eq_true (by omega)]
  rfl
theorem numL_dec : ∀ (f : Nat) (n : Int) (acc : List Int), 0 ≤ n → n < 10 ^ f → qnumL 0 (decL f n acc) = qnumL (n % 1000000) acc := by
  intro f
  induction f with
  | zero =>
    intro n acc h0 h1
    have : n = 0 := by simp at h1; omega
    subst this
    rfl
  | succ f ih =>
    intro n acc h0 h1
    unfold decL
    by_cases hz : n = 0
    · rw [if_pos hz, hz]
      rfl
    · rw [if_neg hz, ih (n / 10) _ (by omega) (by rw [Int.pow_succ] at h1; omega), qnumL_go (fig_q _ (by omega) (by omega))]
      congr 1
      omega
theorem numL_figs {n : Int} (h0 : 0 ≤ n) (h1 : n < 1000000) (r : List Int) : qnumL 0 (figsOf n ++ r) = qnumL n r := by
  unfold figsOf
  by_cases hz : n = 0
  · rw [if_pos hz, hz]
    show qnumL 0 (48 :: r) = _
    rw [qnumL_go rfl]
    rfl
  · rw [if_neg hz, decL_app, List.nil_append, numL_dec 20 n r h0 (by omega), Int.emod_eq_of_lt h0 h1]
theorem fig_blk {c : Int} (h : fig c = true) : blk32 c = false := by
  unfold fig at h
  simp only [Bool.and_eq_true, decide_eq_true_eq] at h
  exact decide_eq_false (by omega)
theorem figs_drop {n : Int} (h0 : 0 ≤ n) (r : List Int) : (figsOf n ++ r).dropWhile blk32 = figsOf n ++ r := by
  have hl := figs_all h0
  have hn : figsOf n ≠ [] := by
    unfold figsOf
    split
    · simp
    · intro e
      have := (decL_len 19 (n / 10) [48 + n % 10] (19) (by omega))
      rename_i hz
      unfold decL at e
      rw [if_neg hz] at e
      have h2 : ∀ (f : Nat) (m : Int) (acc : List Int), acc ≠ [] → decL f m acc ≠ [] := by
        intro f
        induction f with
        | zero => intro m acc h; exact h
        | succ f ih =>
          intro m acc h
          unfold decL
          split
          · exact h
          · exact ih _ _ (by simp)
      exact h2 19 _ _ (by simp) e
  cases hf : figsOf n with
  | nil => exact absurd hf hn
  | cons c cs =>
    rw [hf, List.all_cons, Bool.and_eq_true] at hl
    rw [List.cons_append, List.dropWhile_cons, fig_blk hl.1, if_neg (by decide)]

def lessS (a b : ByteArray) : Bool := if isNumL (bytesOf a) = true ∧ isNumL (bytesOf b) = true then decide (numS a < numS b) else Op.bytesLess a.toList b.toList

theorem impl_Less_k {a b : ByteArray} (ha : a.size ≤ 140737488351232) (hb : b.size ≤ 140737488351232) {k : Nat} (hk : a.size + b.size + 10 ≤ k) : impl_Less.f k a b = some (lessS a b) := by
  obtain ⟨k, rfl⟩ : ∃ m, k = m + 1 := ⟨k - 1, by omega⟩
  unfold impl_Less.f lessS
  rw [impl_IsNum_k ha (by omega), Option.bind_some]
  by_cases h1 : isNumL (bytesOf a) = true
  · rw [if_pos h1, impl_IsNum_k hb (by omega), Option.bind_some]
    simp only [impl_Less.j0]
    by_cases h2 : isNumL (bytesOf b) = true
    · rw [if_pos h2, impl_NumOf_k ha, impl_NumOf_k hb, Option.bind_some, Option.bind_some, if_pos ⟨h1, h2⟩]
    · rw [if_neg h2, if_neg (fun h => h2 h.2)]
  · rw [if_neg h1, if_neg (fun h => h1 h.1)]
    simp only [impl_Less.j0]
    rw [if_neg (by decide)]

theorem spec_Less_k {a b : ByteArray} (ha : a.size ≤ 140737488351232) (hb : b.size ≤ 140737488351232) {k : Nat} (hk : a.size + b.size + 10 ≤ k) : spec_Less.f k a b = some (lessS a b) := by
  obtain ⟨k, rfl⟩ : ∃ m, k = m + 1 := ⟨k - 1, by omega⟩
  unfold spec_Less.f lessS
  rw [spec_IsNum_k ha (by omega), Option.bind_some]
  by_cases h1 : isNumL (bytesOf a) = true
  · rw [if_pos h1, spec_IsNum_k hb (by omega), Option.bind_some]
    simp only [spec_Less.j0]
    by_cases h2 : isNumL (bytesOf b) = true
    · rw [if_pos h2, spec_NumOf_k ha (by omega), spec_NumOf_k hb (by omega), Option.bind_some, Option.bind_some, if_pos ⟨h1, h2⟩]
    · rw [if_neg h2, if_neg (fun h => h2 h.2)]
  · rw [if_neg h1, if_neg (fun h => h1 h.1)]
    simp only [spec_Less.j0]
    rw [if_neg (by decide)]

def sameS (a b : ByteArray) : Bool := if isNumL (bytesOf a) = true ∧ isNumL (bytesOf b) = true then (numS a == numS b) else (a.toList == b.toList)

theorem impl_Same_k {a b : ByteArray} (ha : a.size ≤ 140737488351232) (hb : b.size ≤ 140737488351232) {k : Nat} (hk : a.size + b.size + 10 ≤ k) : impl_Same.f k a b = some (sameS a b) := by
  obtain ⟨k, rfl⟩ : ∃ m, k = m + 1 := ⟨k - 1, by omega⟩
  unfold impl_Same.f sameS
  rw [impl_IsNum_k ha (by omega), Option.bind_some]
  by_cases h1 : isNumL (bytesOf a) = true
  · rw [if_pos h1, impl_IsNum_k hb (by omega), Option.bind_some]
    simp only [impl_Same.j0]
    by_cases h2 : isNumL (bytesOf b) = true
    · rw [if_pos h2, impl_NumOf_k ha, impl_NumOf_k hb, Option.bind_some, Option.bind_some, if_pos ⟨h1, h2⟩]
    · rw [if_neg h2, if_neg (fun h => h2 h.2)]
  · rw [if_neg h1, if_neg (fun h => h1 h.1)]
    simp only [impl_Same.j0]
    rw [if_neg (by decide)]

theorem spec_Same_k {a b : ByteArray} (ha : a.size ≤ 140737488351232) (hb : b.size ≤ 140737488351232) {k : Nat} (hk : a.size + b.size + 10 ≤ k) : spec_Same.f k a b = some (sameS a b) := by
  obtain ⟨k, rfl⟩ : ∃ m, k = m + 1 := ⟨k - 1, by omega⟩
  unfold spec_Same.f sameS
  rw [spec_IsNum_k ha (by omega), Option.bind_some]
  by_cases h1 : isNumL (bytesOf a) = true
  · rw [if_pos h1, spec_IsNum_k hb (by omega), Option.bind_some]
    simp only [spec_Same.j0]
    by_cases h2 : isNumL (bytesOf b) = true
    · rw [if_pos h2, spec_NumOf_k ha (by omega), spec_NumOf_k hb (by omega), Option.bind_some, Option.bind_some, if_pos ⟨h1, h2⟩]
    · rw [if_neg h2, if_neg (fun h => h2 h.2)]
  · rw [if_neg h1, if_neg (fun h => h1 h.1)]
    simp only [spec_Same.j0]
    rw [if_neg (by decide)]

theorem drawLess_ok {b : List Int} (hb : IsCode b) : ∃ s t, (∀ k, 4001 ≤ k → spec_DrawLess.f k b = some (s, t)) ∧ s.size ≤ 42 ∧ t.size ≤ 42 := by
  obtain ⟨h', e⟩ := new_ok hb
  obtain ⟨s, i1, h1, e1, hs, c1⟩ := val_ok hb (Int.le_refl 0) h'
  obtain ⟨t, i2, h2, e2, ht, _⟩ := val_ok hb c1 h1
  refine ⟨s, t, fun k hk => ?_, hs, ht⟩
  unfold spec_DrawLess.f
  rw [e k hk, Option.bind_some]
  dsimp only
  rw [e1, Option.bind_some]
  dsimp only
  rw [e2, Option.bind_some]
theorem numS_of {s : ByteArray} {n : Int} {r : List Int} (h : bytesOf s = figsOf n ++ r) (h0 : 0 ≤ n) (h1 : n < 1000000) : numS s = qnumL n r := by
  unfold numS
  rw [h, figs_drop h0, numL_figs h0 h1]
theorem less_self (a : List UInt8) : Op.bytesLess a a = false := by
  have h := gtr_less a a
  rw [show (a == a) = true from beq_self_eq_true a, Bool.or_true] at h
  exact h.symm
theorem tri (a b : ByteArray) : (lessS a b = true ∧ lessS b a = false ∧ sameS a b = false) ∨ (lessS a b = false ∧ lessS b a = true ∧ sameS a b = false) ∨ (lessS a b = false ∧ lessS b a = false ∧ sameS a b = true) := by
  unfold lessS sameS
  by_cases h : isNumL (bytesOf a) = true ∧ isNumL (bytesOf b) = true
  · rw [if_pos h, if_pos ⟨h.2, h.1⟩, if_pos h]
    rcases Int.lt_trichotomy (numS a) (numS b) with h1 | h1 | h1
    · exact .inl ⟨decide_eq_true h1, decide_eq_false (by omega), beq_eq_false_iff_ne.2 (by omega)⟩
    · exact .inr (.inr ⟨decide_eq_false (by omega), decide_eq_false (by omega), beq_iff_eq.2 h1⟩)
    · exact .inr (.inl ⟨decide_eq_false (by omega), decide_eq_true h1, beq_eq_false_iff_ne.2 (by omega)⟩)
  · rw [if_neg h, if_neg (fun k => h ⟨k.2, k.1⟩), if_neg h]
    have g := gtr_less a.toList b.toList
    cases h1 : Op.bytesLess a.toList b.toList with
    | true =>
      rw [h1, Bool.true_or] at g
      refine .inl ⟨rfl, g.symm, beq_eq_false_iff_ne.2 fun e => ?_⟩
      rw [e, less_self] at h1
      cases h1
    | false =>
      rw [h1, Bool.false_or] at g
      cases h2 : (a.toList == b.toList) with
      | true => rw [h2] at g; exact .inr (.inr ⟨rfl, g.symm, rfl⟩)
      | false => rw [h2] at g; exact .inr (.inl ⟨rfl, g.symm, rfl⟩)
theorem same_self (a : ByteArray) : sameS a a = true := by
  unfold sameS
  split
  · exact beq_self_eq_true _
  · exact beq_self_eq_true _
theorem less_figs {s t : ByteArray} {m n : Int} (hs : bytesOf s = figsOf m) (ht : bytesOf t = figsOf n) (h0 : 0 ≤ m) (h1 : m < 10000) (h2 : 0 ≤ n) (h3 : n < 10000) : lessS s t = decide (m < n) := by
  unfold lessS
  rw [if_pos ⟨by rw [hs]; exact isNum_figs h0 (by omega), by rw [ht]; exact isNum_figs h2 (by omega)⟩]
  rw [numS_of (r := []) (by rw [hs, List.append_nil]) h0 (by omega), numS_of (r := []) (by rw [ht, List.append_nil]) h2 (by omega)]
  rfl
theorem order_j2 {a b : ByteArray} (ha : a.size ≤ 42) (hb : b.size ≤ 42) {p : List Int} (hpl : p.length = 12) (hp : ∀ x ∈ p, 0 ≤ x ∧ x < 10000) {k : Nat} (hk : 300 ≤ k) :
    laws_FnOrders.j2 k a b p 1 = some true := by
  obtain ⟨k, rfl⟩ : ∃ m, k = m + 1 := ⟨k - 1, by omega⟩
  have h0 := rd_in hpl hp 0 (by omega) (by omega)
  have h1 := rd_in hpl hp 1 (by omega) (by omega)
  obtain ⟨s, es, hs⟩ := dec_ok h0.1 (by omega)
  obtain ⟨t, et, ht⟩ := dec_ok h1.1 (by omega)
  have ls := figs_len h0.1 (m := 3) (by omega)
  have lt := figs_len h1.1 (m := 3) (by omega)
  have zs : s.size ≤ 4 := by rw [← bx_len, hs]; exact ls.2
  have zt : t.size ≤ 4 := by rw [← bx_len, ht]; exact lt.2
  have z1 : (⟨#[48, 48, 55]⟩ : ByteArray).size = 3 := rfl
  have z2 : (⟨#[55]⟩ : ByteArray).size = 1 := rfl
  have z3 : (⟨#[97]⟩ : ByteArray).size = 1 := rfl
  have z4 : (⟨#[98]⟩ : ByteArray).size = 1 := rfl
  simp only [laws_FnOrders.j2]
  rw [hpl, if_pos (by omega), es _ (by omega), Option.bind_some, if_pos (by omega), et _ (by omega), Option.bind_some, if_pos True.intro,
    impl_Less_k (by omega) (by omega) (by omega), spec_Less_k (by omega) (by omega) (by omega), Option.bind_some, Option.bind_some, if_pos (beq_self_eq_true _),
    impl_Same_k (by omega) (by omega) (by omega), spec_Same_k (by omega) (by omega) (by omega), Option.bind_some, Option.bind_some, if_pos (beq_self_eq_true _),
    impl_Less_k (a := s) (b := t) (by omega) (by omega) (by omega), Option.bind_some, less_figs hs ht h0.1 h0.2 h1.1 h1.2, if_pos (beq_self_eq_true _),
    impl_Same_k (by omega) (by omega) (by omega), Option.bind_some, show sameS ⟨#[48, 48, 55]⟩ ⟨#[55]⟩ = true from rfl, if_pos rfl,
    impl_Same_k (a := ⟨#[97]⟩) (by omega) (by omega) (by omega), Option.bind_some, show sameS ⟨#[97]⟩ ⟨#[98]⟩ = false from (by unfold sameS; rw [if_neg (by decide), ByteArray.toList_eq, ByteArray.toList_eq]; rfl), if_neg (by decide),
    impl_Same_k (by omega) (by omega) (by omega), Option.bind_some, same_self]
theorem FnOrders : laws_FnOrders.Pure := by
  intro b hb0 hb1 hb2
  have hb : IsCode b := by unfold IsCode; omega
  obtain ⟨s, t, es, hs, ht⟩ := drawLess_ok hb
  obtain ⟨p, ⟨K, ep⟩, hpl, hp⟩ := places_ok hb
  have ep := ep (K + 5000) (by omega)
  dsimp only at ep
  refine ⟨K + 5000, ?_⟩
  unfold laws_FnOrders.f laws_big.f
  rw [Option.bind_some]
  by_cases hbig : decide ((b.length : Int) > 1048576) = true
  · rw [if_pos hbig]
  · rw [if_neg hbig, es _ (by omega), Option.bind_some, ep, Option.bind_some]
    dsimp only
    rw [impl_Less_k (by omega) (by omega) (by omega), Option.bind_some]
    have fin : ∀ m, 300 ≤ m → laws_FnOrders.j2 m s t p 1 = some true := fun m hm => order_j2 hs ht hpl hp hm
    rcases tri s t with ⟨h1, h2, h3⟩ | ⟨h1, h2, h3⟩ | ⟨h1, h2, h3⟩
    · rw [h1, if_pos rfl]
      simp only [laws_FnOrders.j0]
      rw [impl_Less_k (by omega) (by omega) (by omega), Option.bind_some, h2, if_neg (by decide)]
      simp only [laws_FnOrders.j1]
      rw [impl_Same_k (by omega) (by omega) (by omega), Option.bind_some, h3, if_neg (by decide)]
      exact fin _ (by omega)
    · rw [h1, if_neg (by decide)]
      simp only [laws_FnOrders.j0]
      rw [impl_Less_k (by omega) (by omega) (by omega), Option.bind_some, h2, if_pos rfl]
      simp only [laws_FnOrders.j1]
      rw [impl_Same_k (by omega) (by omega) (by omega), Option.bind_some, h3, if_neg (by decide), w64 (by omega) (by omega)]
      exact fin _ (by omega)
    · rw [h1, if_neg (by decide)]
      simp only [laws_FnOrders.j0]
      rw [impl_Less_k (by omega) (by omega) (by omega), Option.bind_some, h2, if_neg (by decide)]
      simp only [laws_FnOrders.j1]
      rw [impl_Same_k (by omega) (by omega) (by omega), Option.bind_some, h3, if_pos rfl, w64 (by omega) (by omega)]
      exact fin _ (by omega)

end Go.Proofs.YtkgpokiglanjfaaDoor.Pure
