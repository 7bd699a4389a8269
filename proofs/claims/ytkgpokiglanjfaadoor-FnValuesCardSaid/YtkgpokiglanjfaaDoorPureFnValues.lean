/- The pure statement of FnValues: over numbers and lists, what the printed functions come to is what the law wants, for every input. -/
import Derived.Test.YtkgpokiglanjfaaDoorQFnValuesx2
set_option linter.unusedVariables false
set_option linter.unusedSimpArgs false
namespace Go.Proofs.YtkgpokiglanjfaaDoor.Pure
open Go.RowKit Go.Proofs.YtkgpokiglanjfaaDoor.QFnValues Go.Proofs.YtkgpokiglanjfaaDoorW.PrintWords Go.Proofs.YtkgpokiglanjfaaDoorW.PrintLast
/-! Words on strings as lists of numbers. -/
theorem w64 {x : Int} (h0 : -9223372036854775808 ≤ x) (h1 : x ≤ 9223372036854775807) : wrap64 x = x := by
  unfold wrap64
  omega
theorem bx_len (s : ByteArray) : (bytesOf s).length = s.size := bytesOf_length s
theorem bx_byte (s : ByteArray) : ∀ c ∈ bytesOf s, 0 ≤ c ∧ c ≤ 255 := by
  intro c hc
  unfold bytesOf at hc
  obtain ⟨b, _, rfl⟩ := List.mem_map.1 hc
  have := b.toNat_lt
  omega
theorem bx_at {s : ByteArray} {pre ys : List Int} {c : Int} (h : bytesOf s = pre ++ c :: ys) : bt s (pre.length : Int) = c := by
  rw [← rd_bytesOf, h, rd, Int.toNat_natCast, List.getD_eq_getElem?_getD, List.getElem?_append_right (Nat.le_refl _)]
  simp
theorem bx_lt {s : ByteArray} {pre ys : List Int} {c : Int} (h : bytesOf s = pre ++ c :: ys) : (pre.length : Int) < (s.size : Int) := by
  have := congrArg List.length h
  rw [bx_len, List.length_append, List.length_cons] at this
  omega
theorem bx_end {s : ByteArray} {pre : List Int} (h : bytesOf s = pre ++ []) : (s.size : Int) = (pre.length : Int) := by
  have := congrArg List.length h
  rw [bx_len, List.append_nil] at this
  omega
theorem bx_next {s : ByteArray} {pre ys : List Int} {c : Int} (h : bytesOf s = pre ++ c :: ys) : bytesOf s = (pre ++ [c]) ++ ys := by
  rw [h, List.append_assoc]; rfl
theorem len_next (pre : List Int) (c : Int) : ((pre ++ [c]).length : Int) = (pre.length : Int) + 1 := by
  rw [List.length_append, List.length_singleton]; omega
theorem bx_inj {s t : ByteArray} (h : bytesOf s = bytesOf t) : s = t := by
  unfold bytesOf at h
  have h2 : s.data.toList = t.data.toList := by
    refine (List.map_inj_right (f := fun b : UInt8 => (b.toNat : Int)) ?_).1 h
    intro x y hxy
    exact UInt8.toNat_inj.1 (Int.ofNat_inj.1 hxy)
  exact ByteArray.ext (Array.toList_inj.1 h2)
theorem tl_inj {s t : ByteArray} (h : s.toList = t.toList) : s = t := by
  rw [ByteArray.toList_eq, ByteArray.toList_eq] at h
  exact ByteArray.ext (Array.toList_inj.1 h)
theorem tl_iff {s t : ByteArray} : s.toList = t.toList ↔ bytesOf s = bytesOf t := ⟨fun h => by rw [tl_inj h], fun h => by rw [bx_inj h]⟩
theorem bx_app (s t : ByteArray) : bytesOf (s ++ t) = bytesOf s ++ bytesOf t := by
  simp [bytesOf]
theorem bx_cut (s : ByteArray) (a b : Nat) : bytesOf (s.extract a b) = ((bytesOf s).take b).drop a := by
  simp [bytesOf, ByteArray.data_extract, List.map_drop, List.map_take, List.take_drop]
  rw [List.drop_take, List.drop_take]
  congr 1
  omega
theorem bx_str {xs : List Int} (h : ∀ c ∈ xs, 0 ≤ c ∧ c ≤ 255) : bytesOf (strOfNums xs) = xs := by
  unfold bytesOf
  rw [strOfNums_data, List.map_map]
  induction xs with
  | nil => rfl
  | cons c xs ih =>
    rw [List.map_cons, ih (fun d hd => h d (List.mem_cons_of_mem _ hd))]
    have hc := h c (List.mem_cons_self ..)
    congr 1
    have e : (UInt8.ofNat c.toNat).toNat = c.toNat := by
      rw [UInt8.toNat_ofNat']
      omega
    show ((UInt8.ofNat c.toNat).toNat : Int) = c
    rw [e]
    omega
theorem bx_wrap {s : ByteArray} {pre ys : List Int} {c : Int} (h : bytesOf s = pre ++ c :: ys) (hs : s.size ≤ 140737488351232) : wrap64 ((pre.length : Int) + 1) = ((pre ++ [c]).length : Int) := by
  rw [len_next]
  have := bx_lt h
  exact w64 (by omega) (by omega)
theorem bx_in {s : ByteArray} {pre ys : List Int} {c : Int} (h : bytesOf s = pre ++ c :: ys) : 0 ≤ c ∧ c ≤ 255 :=
  bx_byte s c (by rw [h]; exact List.mem_append_right _ (List.mem_cons_self ..))
theorem succ_of {n k : Nat} (h : n < k) : ∃ m, k = m + 1 := ⟨k - 1, by omega⟩
theorem ev2 {α β : Type} {g : Nat → Option α} {f : Nat → Option β} {a : α} {b : β} (h : Ev g a) (h' : Ev f b) : ∃ k, g k = some a ∧ f k = some b := by
  obtain ⟨K, h⟩ := h
  obtain ⟨K', h'⟩ := h'
  exact ⟨K + K', h _ (by omega), h' _ (by omega)⟩

theorem u32_in {x : Int} (h : (Lit.int .u32 x).wf = true) : 0 ≤ x ∧ x < 4294967296 := by
  simp only [Lit.wf, IntKind.min, IntKind.max, IntKind.signed, IntKind.bits, Bool.and_eq_true, decide_eq_true_eq] at h
  simp at h
  omega
theorem i64_in {x : Int} (h : (Lit.int .i64 x).wf = true) : -9223372036854775808 ≤ x ∧ x ≤ 9223372036854775807 := by
  simp only [Lit.wf, IntKind.min, IntKind.max, IntKind.signed, IntKind.bits, Bool.and_eq_true, decide_eq_true_eq] at h
  simp at h
  omega

def fig (c : Int) : Bool := decide (48 ≤ c) && decide (c ≤ 57)
def isNumL (xs : List Int) : Bool := xs.all fig && (decide (1 ≤ xs.length) && decide (xs.length ≤ 6))
theorem len16 (s : ByteArray) : (decide ((1 : Int) ≤ (s.size : Int)) && decide ((s.size : Int) ≤ 6)) = (decide (1 ≤ (bytesOf s).length) && decide ((bytesOf s).length ≤ 6)) := by
  rw [bx_len]
  congr 1 <;> apply decide_eq_decide.2 <;> omega

theorem iIn (a b c : Int) : impl_within.f a b c = some (decide (b ≤ a) && decide (a ≤ c)) := by
  unfold impl_within.f
  by_cases h : a ≥ b
  · rw [if_pos h]; simp [show b ≤ a from h]
  · rw [if_neg h]; simp [show ¬ b ≤ a from h]

theorem iFig {c : Int} (h0 : 0 ≤ c) (h1 : c ≤ 255) : impl_isFigure.f c = some (fig c) := by
  unfold impl_isFigure.f
  rw [w64 (by omega) (by omega), iIn, Option.bind_some]
  rfl

theorem impl_allFigures_l {s : ByteArray} (hs : s.size ≤ 140737488351232) (lo hi : Int) : ∀ (ys pre : List Int) (k : Nat), bytesOf s = pre ++ ys → ys.length < k →
    impl_allFigures.l0 k s lo hi (s.size : Int) (pre.length : Int) = some (ys.all fig && (decide (lo ≤ (s.size : Int)) && decide ((s.size : Int) ≤ hi))) := by
  intro ys
  induction ys with
  | nil =>
    intro pre k h hk
    obtain ⟨k, rfl⟩ := succ_of hk
    have he := bx_end h
    simp only [impl_allFigures.l0]
    rw [if_neg (by omega), iIn, Option.bind_some]
    rfl
  | cons c ys ih =>
    intro pre k h hk
    obtain ⟨k, rfl⟩ := succ_of hk
    have hlt := bx_lt h
    simp only [impl_allFigures.l0]
    rw [if_pos hlt, if_pos (by omega), if_pos hlt, bx_at h, iFig (bx_in h).1 (bx_in h).2, Option.bind_some, bx_wrap h hs, ih (pre ++ [c]) k (bx_next h) (by simpa using hk)]
    rw [List.all_cons]
    cases fig c <;> simp
theorem impl_IsNum_k {s : ByteArray} (hs : s.size ≤ 140737488351232) {k : Nat} (hk : s.size + 1 ≤ k) : impl_IsNum.f k s = some (isNumL (bytesOf s)) := by
  show (impl_allFigures.l0 k s 1 6 (s.size : Int) 0).bind _ = _
  rw [show (0 : Int) = (([] : List Int).length : Int) from rfl, impl_allFigures_l hs 1 6 (bytesOf s) [] k rfl (by rw [bx_len]; omega), len16]
  rfl
theorem impl_IsNum_ev {s : ByteArray} (hs : s.size ≤ 140737488351232) : Ev (fun k => impl_IsNum.f k s) (isNumL (bytesOf s)) := ⟨s.size + 1, fun k hk => impl_IsNum_k hs hk⟩

theorem and255_in (x : Int) : 0 ≤ Go.bits .and .i64 x 255 ∧ Go.bits .and .i64 x 255 ≤ 255 := by
  simp only [Go.bits]
  rw [IntKind.wrap_i64]
  have h : (BitVec.ofInt IntKind.i64.bits x &&& BitVec.ofInt IntKind.i64.bits 255).toNat ≤ 255 := by
    rw [BitVec.toNat_and]
    exact Nat.le_trans Nat.and_le_right (by decide)
  omega
/-- The drawn bytes are bytes, and no more than can be. -/
def IsCode (b : List Int) : Prop := b.length ≤ 9223372036854775807

theorem byte_ok {b : List Int} (hb : IsCode b) {i : Int} (hi : 0 ≤ i) (h : Int) : ∃ r i' h', spec_l01Byte.f b i h = some (r, i', h') ∧ 0 ≤ r ∧ r ≤ 255 ∧ 0 ≤ i' := by
  unfold IsCode at hb
  unfold spec_l01Byte.f
  by_cases h1 : i < (b.length : Int)
  · rw [if_pos h1, if_pos hi]
    refine ⟨_, _, _, rfl, (and255_in _).1, (and255_in _).2, ?_⟩
    rw [w64 (by omega) (by omega)]
    omega
  · rw [if_neg h1]
    exact ⟨_, _, _, rfl, (and255_in _).1, (and255_in _).2, hi⟩
theorem below_ok {b : List Int} (hb : IsCode b) {i : Int} (hi : 0 ≤ i) (h : Int) {n : Int} (h0 : 0 < n) (h1 : n ≤ 4294967296) :
    ∃ r i' h', spec_l01Below.f b i h n = some (r, i', h') ∧ 0 ≤ r ∧ r < n ∧ 0 ≤ i' := by
  unfold spec_l01Below.f
  rw [if_neg (by omega)]
  obtain ⟨r1, i1, h1', e1, a1, b1, c1⟩ := byte_ok hb hi h
  by_cases hn : n ≤ 256
  · rw [if_pos hn, e1, Option.bind_some, if_neg (by omega)]
    refine ⟨_, _, _, rfl, ?_, ?_, c1⟩
    · rw [Int.tmod_eq_emod_of_nonneg a1]; exact Int.emod_nonneg _ (by omega)
    · rw [Int.tmod_eq_emod_of_nonneg a1]; exact Int.emod_lt_of_pos _ h0
  · rw [if_neg hn, e1, Option.bind_some]
    obtain ⟨r2, i2, h2', e2, a2, b2, c2⟩ := byte_ok hb c1 h1'
    obtain ⟨r3, i3, h3', e3, a3, b3, c3⟩ := byte_ok hb c2 h2'
    obtain ⟨r4, i4, h4', e4, a4, b4, c4⟩ := byte_ok hb c3 h3'
    dsimp only
    rw [e2, Option.bind_some]
    dsimp only
    rw [e3, Option.bind_some]
    dsimp only
    rw [e4, Option.bind_some, if_neg (by omega)]
    dsimp only
    rw [w64 (show _ ≤ r1 * 16777216 by omega) (by omega), w64 (show _ ≤ r2 * 65536 by omega) (by omega), w64 (show _ ≤ r3 * 256 by omega) (by omega),
      w64 (show _ ≤ r1 * 16777216 + r2 * 65536 by omega) (by omega), w64 (show _ ≤ r1 * 16777216 + r2 * 65536 + r3 * 256 by omega) (by omega), w64 (show _ ≤ r1 * 16777216 + r2 * 65536 + r3 * 256 + r4 by omega) (by omega)]
    refine ⟨_, _, _, rfl, ?_, ?_, c4⟩
    · rw [Int.tmod_eq_emod_of_nonneg (by omega)]; exact Int.emod_nonneg _ (by omega)
    · rw [Int.tmod_eq_emod_of_nonneg (by omega)]; exact Int.emod_lt_of_pos _ h0
theorem new_l {b : List Int} (hb : IsCode b) : ∀ (d : Nat) (k : Nat) (h i : Int), 0 ≤ i → (4000 : Int) - i ≤ d → d < k → ∃ h', spec_l01New.l0 k b h i = some (b, 0, h') := by
  unfold IsCode at hb
  intro d
  induction d with
  | zero =>
    intro k h i hi hd hk
    obtain ⟨k, rfl⟩ := succ_of hk
    simp only [spec_l01New.l0]
    by_cases h1 : i < (b.length : Int)
    · rw [if_pos h1, if_neg (by omega)]; exact ⟨_, rfl⟩
    · rw [if_neg h1]; exact ⟨_, rfl⟩
  | succ d ih =>
    intro k h i hi hd hk
    obtain ⟨k, rfl⟩ := succ_of hk
    simp only [spec_l01New.l0]
    by_cases h1 : i < (b.length : Int)
    · rw [if_pos h1]
      by_cases h2 : i < 4000
      · rw [if_pos h2, if_pos hi, w64 (show _ ≤ i + 1 by omega) (by omega)]
        exact ih k _ (i + 1) (by omega) (by omega) (by omega)
      · rw [if_neg h2]; exact ⟨_, rfl⟩
    · rw [if_neg h1]; exact ⟨_, rfl⟩
theorem new_ok {b : List Int} (hb : IsCode b) : ∃ h', ∀ k, 4001 ≤ k → spec_l01New.f k b = some (b, 0, h') := by
  obtain ⟨h', e⟩ := new_l hb 4000 4001 (wrap64 (38001 + (b.length : Int))) 0 (by omega) (by omega) (by omega)
  refine ⟨h', fun k hk => ?_⟩
  have hm : ∀ k, LeO (spec_l01New.l0 k b (wrap64 (38001 + (b.length : Int))) 0) (spec_l01New.l0 (k + 1) b (wrap64 (38001 + (b.length : Int))) 0) := fun k => by
    have := spec_l01New.mono_l k
    exact this _ _ _
  exact at_rounds (g := fun k => spec_l01New.l0 k b (wrap64 (38001 + (b.length : Int))) 0) hm hk e

theorem places_l {b : List Int} (hb : IsCode b) : ∀ (d : Nat) (k : Nat) (out : List Int) (i h : Int), out.length + d = 12 → (∀ x ∈ out, 0 ≤ x ∧ x < 10000) → 0 ≤ i → d < k →
    ∃ r, spec_DrawPlaces.l0 k out (out.length : Int) b i h = some r ∧ r.length = 12 ∧ ∀ x ∈ r, 0 ≤ x ∧ x < 10000 := by
  intro d
  induction d with
  | zero =>
    intro k out i h hd ho hi hk
    obtain ⟨k, rfl⟩ := succ_of hk
    simp only [spec_DrawPlaces.l0]
    rw [if_neg (by omega)]
    exact ⟨_, rfl, by omega, ho⟩
  | succ d ih =>
    intro k out i h hd ho hi hk
    obtain ⟨k, rfl⟩ := succ_of hk
    simp only [spec_DrawPlaces.l0]
    obtain ⟨r, i', h', e, a, b', c⟩ := below_ok hb hi h (n := 10000) (by omega) (by omega)
    rw [if_pos (by omega), e, Option.bind_some, if_pos (by omega), w64 (by omega) (by omega), ← len_next out r]
    exact ih k (out ++ [r]) i' h' (by rw [List.length_append, List.length_singleton]; omega) (fun x hx => by rcases List.mem_append.1 hx with hx | hx; exact ho x hx; (have : x = r := (by simpa using hx)); omega) c (by omega)
theorem places_ok {b : List Int} (hb : IsCode b) : ∃ r, Ev (fun k => spec_DrawPlaces.f k b) r ∧ r.length = 12 ∧ ∀ x ∈ r, 0 ≤ x ∧ x < 10000 := by
  obtain ⟨h', e⟩ := new_ok hb
  obtain ⟨x, i1, h1, e1, _, _, c1⟩ := byte_ok hb (Int.le_refl 0) h'
  obtain ⟨r, e2, hl, hr⟩ := places_l hb 12 13 [] i1 h1 rfl (by simp) c1 (by omega)
  refine ⟨r, ⟨4001, fun k hk => ?_⟩, hl, hr⟩
  dsimp only
  unfold spec_DrawPlaces.f
  rw [e k hk, Option.bind_some]
  dsimp only
  rw [e1, Option.bind_some]
  dsimp only
  have hm : ∀ k, LeO (spec_DrawPlaces.l0 k [] 0 b i1 h1) (spec_DrawPlaces.l0 (k + 1) [] 0 b i1 h1) := fun k => by
    have := spec_DrawPlaces.mono_l k
    exact this _ _ _ _ _
  exact at_rounds (g := fun k => spec_DrawPlaces.l0 k [] 0 b i1 h1) hm (show 13 ≤ k by omega) e2
theorem rd_in {r : List Int} (hl : r.length = 12) (hr : ∀ x ∈ r, 0 ≤ x ∧ x < 10000) (i : Int) (h0 : 0 ≤ i) (hi : i < 12) : 0 ≤ rd r i ∧ rd r i < 10000 := by
  unfold rd
  rw [List.getD_eq_getElem?_getD, List.getElem?_eq_getElem (by omega)]
  exact hr _ (List.getElem_mem _)

theorem pickInt_ok {b : List Int} (hb : IsCode b) {i : Int} (hi : 0 ≤ i) (h : Int) {l : List Int} (h0 : 0 < l.length) (h1 : l.length ≤ 4294967296) :
    ∃ r i' h', spec_l01PickInt.f b i h l = some (r, i', h') ∧ r ∈ l ∧ 0 ≤ i' := by
  unfold spec_l01PickInt.f
  obtain ⟨r, i', h', e, a, b', c⟩ := below_ok hb hi h (n := (l.length : Int)) (by omega) (by omega)
  rw [e, Option.bind_some]
  dsimp only
  rw [if_pos a, if_pos b']
  refine ⟨_, _, _, rfl, ?_, c⟩
  unfold rd
  rw [List.getD_eq_getElem?_getD, List.getElem?_eq_getElem (by omega)]
  exact List.getElem_mem _

theorem long_l {x n : Int} (hn : n ≤ 100000) : ∀ (d : Nat) (k : Nat) (xs : List Int) (i : Int), 0 ≤ i → n - i ≤ d → (xs.length : Int) = n → d < k → ∃ ys : List Int, spec_l01Long.l0 k n x xs i = some (strOfNums ys) ∧ ys.length = xs.length := by
  intro d
  induction d with
  | zero =>
    intro k xs i hi hd hl hk
    obtain ⟨k, rfl⟩ := succ_of hk
    simp only [spec_l01Long.l0]
    rw [if_neg (by omega)]
    exact ⟨xs, rfl, rfl⟩
  | succ d ih =>
    intro k xs i hi hd hl hk
    obtain ⟨k, rfl⟩ := succ_of hk
    simp only [spec_l01Long.l0]
    by_cases h : i < n
    · rw [if_pos h, if_pos hi, if_pos (by omega), w64 (by omega) (by omega)]
      obtain ⟨ys, e, hy⟩ := ih k (xs.set i.toNat x) (i + 1) (by omega) (by omega) (by rw [List.length_set]; exact hl) (by omega)
      exact ⟨ys, e, by rw [hy, List.length_set]⟩
    · rw [if_neg h]
      exact ⟨xs, rfl, rfl⟩
theorem long_ok {n x : Int} (h0 : 0 ≤ n) (hn : n ≤ 100000) {k : Nat} (hk : 100001 ≤ k) : ∃ s, spec_l01Long.f k n x = some s ∧ (s.size : Int) = n := by
  unfold spec_l01Long.f
  rw [if_pos h0, if_pos (by omega)]
  obtain ⟨ys, e, hy⟩ := long_l hn n.toNat k (List.replicate n.toNat 0) 0 (x := x) (by omega) (by omega) (by rw [List.length_replicate]; omega) (by omega)
  rw [List.length_replicate] at hy
  exact ⟨_, e, by rw [strOfNums_size, hy]; omega⟩
theorem long_ev {n x : Int} (h0 : 0 ≤ n) (hn : n ≤ 100000) : ∃ s, (∀ k, 100001 ≤ k → spec_l01Long.f k n x = some s) ∧ (s.size : Int) = n := by
  obtain ⟨s, e, hs⟩ := long_ok (x := x) h0 hn (Nat.le_refl 100001)
  refine ⟨s, fun k hk => ?_, hs⟩
  have hm : ∀ k, LeO (spec_l01Long.f k n x) (spec_l01Long.f (k + 1) n x) := fun k => spec_l01Long.mono n x k
  exact at_rounds (g := fun k => spec_l01Long.f k n x) hm hk e

/-- Decimal figures, the highest first, of a number above 0. -/
def decL : Nat → Int → List Int → List Int
  | 0, _, acc => acc
  | f + 1, n, acc => if n = 0 then acc else decL f (n / 10) ((48 + n % 10) :: acc)
def figsOf (n : Int) : List Int := if n = 0 then [48] else decL 20 n []
theorem fig_add (d : Int) (h0 : 0 ≤ d) (h1 : d < 10) : fig (48 + d) = true := by
  unfold fig
  rw [decide_eq_true (by omega), decide_eq_true (by omega)]
  rfl
theorem decL_all : ∀ (f : Nat) (n : Int) (acc : List Int), 0 ≤ n → acc.all fig = true → (decL f n acc).all fig = true := by
  intro f
  induction f with
  | zero => intro n acc _ h; exact h
  | succ f ih =>
    intro n acc hn h
    unfold decL
    split
    · exact h
    · exact ih (n / 10) _ (by omega) (by rw [List.all_cons, fig_add _ (by omega) (by omega), h]; rfl)
theorem decL_len : ∀ (f : Nat) (n : Int) (acc : List Int) (m : Nat), 0 ≤ n → n < 10 ^ m → acc.length ≤ (decL f n acc).length ∧ (decL f n acc).length ≤ acc.length + m := by
  intro f
  induction f with
  | zero => intro n acc m _ _; simp [decL]
  | succ f ih =>
    intro n acc m hn h
    unfold decL
    split
    · simp
    · cases m with
      | zero => exfalso; simp at h; omega
      | succ m =>
        have := ih (n / 10) ((48 + n % 10) :: acc) m (by omega) (by rw [Int.pow_succ] at h; omega)
        rw [List.length_cons] at this
        omega
theorem figs_all {n : Int} (hn : 0 ≤ n) : (figsOf n).all fig = true := by
  unfold figsOf
  split
  · rfl
  · exact decL_all 20 n [] hn rfl
theorem figs_len {n : Int} (hn : 0 ≤ n) {m : Nat} (h : n < 10 ^ (m + 1)) : 1 ≤ (figsOf n).length ∧ (figsOf n).length ≤ m + 1 := by
  unfold figsOf
  split
  · simp
  · rename_i h0
    have := decL_len 20 n [] (m + 1) hn h
    refine ⟨?_, by simpa using this.2⟩
    have := decL_len 19 (n / 10) [48 + n % 10] 20
    unfold decL
    rw [if_neg h0]
    have h2 := (decL_len 19 (n / 10) [48 + n % 10] (m + 1) (by omega) (by rw [Int.pow_succ] at h ⊢; omega)).1
    simpa using h2
theorem figs_byte {n : Int} (hn : 0 ≤ n) : ∀ c ∈ figsOf n, 0 ≤ c ∧ c ≤ 255 := by
  intro c hc
  have := List.all_eq_true.1 (figs_all hn) c hc
  unfold fig at this
  simp at this
  omega
theorem isNum_figs {n : Int} (hn : 0 ≤ n) (h : n < 1000000) : isNumL (figsOf n) = true := by
  unfold isNumL
  have := figs_len hn (m := 5) h
  rw [figs_all hn, decide_eq_true this.1, decide_eq_true this.2]
  rfl

theorem sFigure {d : Int} (h0 : 0 ≤ d) (h1 : d < 10) : spec_l01Figure.f d = some (48 + d) := by
  unfold spec_l01Figure.f
  rw [if_pos h1, w64 (by omega) (by omega), show (48 + d) % 256 = 48 + d by omega]
theorem bx_cons {d : Int} (h0 : 0 ≤ d) (h1 : d ≤ 255) (t : ByteArray) : bytesOf (strOfNums [d] ++ t) = d :: bytesOf t := by
  rw [bx_app, bx_str (by intro c hc; have : c = d := (by simpa using hc); omega)]
  rfl
/-- The loop of Decimal, of a number not below 0: figures are laid ahead of what is there. -/
theorem dec_l : ∀ (f : Nat) (k : Nat) (n : Int) (s : ByteArray), 0 ≤ n → n < 10 ^ f → n ≤ 9223372036854775807 → s.size + f ≤ 1000 → f < k →
    ∃ t, spec_Decimal.l0 k n false s = some t ∧ bytesOf t = decL f n (bytesOf s) := by
  intro f
  induction f with
  | zero =>
    intro k n s h0 h1 hm hs hk
    obtain ⟨k, rfl⟩ := succ_of hk
    simp only [spec_Decimal.l0]
    rw [if_pos (by simp at h1; omega), if_neg (by decide)]
    exact ⟨_, rfl, rfl⟩
  | succ f ih =>
    intro k n s h0 h1 hm hs hk
    obtain ⟨k, rfl⟩ := succ_of hk
    simp only [spec_Decimal.l0]
    by_cases hz : n = 0
    · rw [if_pos hz, if_neg (by decide)]
      refine ⟨_, rfl, ?_⟩
      unfold decL
      rw [if_pos hz]
    · rw [if_neg hz, Int.tmod_eq_emod_of_nonneg h0, if_neg (by omega), sFigure (by omega) (by omega), Option.bind_some, Option.bind_some, Int.tdiv_eq_ediv_of_nonneg h0, w64 (by omega) (by omega)]
      have hz1 : (strOfNums [48 + n % 10]).size = 1 := by rw [strOfNums_size]; rfl
      rw [if_pos (by omega)]
      obtain ⟨t, e, ht⟩ := ih k (n / 10) (strOfNums [48 + n % 10] ++ s) (by omega) (by rw [Int.pow_succ] at h1; omega) (by omega) (by rw [ByteArray.size_append]; omega) (by omega)
      refine ⟨t, e, ?_⟩
      rw [ht, bx_cons (by omega) (by omega)]
      conv => rhs; unfold decL
      rw [if_neg hz]
theorem dec_ok {n : Int} (h0 : 0 ≤ n) (h1 : n ≤ 9223372036854775807) : ∃ t, (∀ k, 30 ≤ k → spec_Decimal.f k n = some t) ∧ bytesOf t = figsOf n := by
  unfold spec_Decimal.f figsOf
  by_cases hz : n = 0
  · rw [if_pos hz]
    exact ⟨_, fun k _ => by rw [if_pos hz], rfl⟩
  · rw [if_neg hz, decide_eq_false (show ¬ n < 0 by omega)]
    obtain ⟨t, e, ht⟩ := dec_l 20 30 n ⟨#[]⟩ h0 (by omega) h1 (by decide) (by omega)
    refine ⟨t, fun k hk => ?_, ht⟩
    rw [if_neg hz]
    have hm : ∀ k, LeO (spec_Decimal.l0 k n false ⟨#[]⟩) (spec_Decimal.l0 (k + 1) n false ⟨#[]⟩) := fun k => by
      have := spec_Decimal.mono_l k
      exact this _ _ _
    exact at_rounds (g := fun k => spec_Decimal.l0 k n false ⟨#[]⟩) hm hk e

/-! The library's decimal numeral, as a list of numbers. -/
theorem decL_zero (f : Nat) (acc : List Int) : decL f 0 acc = acc := by
  cases f with
  | zero => rfl
  | succ f => unfold decL; rw [if_pos rfl]
theorem u8n {u : Nat} (h : u < 256) : ((UInt8.ofNat u).toNat : Int) = (u : Int) := by
  rw [UInt8.toNat_ofNat']
  omega
theorem decL_dig : ∀ (f u : Nat) (acc : List Int), 0 < u → u < 10 ^ f → decL f (u : Int) acc = (Go.Lib.decDigits u).map (fun b => (b.toNat : Int)) ++ acc := by
  intro f
  induction f with
  | zero => intro u acc h0 h1; simp at h1; omega
  | succ f ih =>
    intro u acc h0 h1
    have e1 : ((u : Int) / 10) = ((u / 10 : Nat) : Int) := by omega
    have e2 : ((u : Int) % 10) = ((u % 10 : Nat) : Int) := by omega
    unfold decL
    rw [if_neg (by omega), e1, e2, Go.Lib.decDigits]
    by_cases h : u < 10
    · rw [dif_pos h, show u / 10 = 0 by omega, show u % 10 = u by omega]
      show decL f 0 _ = _
      rw [decL_zero, List.map_cons, u8n (by omega), Int.natCast_add]
      rfl
    · rw [dif_neg h, ih (u / 10) _ (by omega) (by rw [Nat.pow_succ] at h1; omega), List.map_append, List.map_cons, List.map_nil, u8n (by omega), List.append_assoc, Int.natCast_add]
      rfl
theorem bx_mk (l : List UInt8) : bytesOf ⟨l.toArray⟩ = l.map (fun b => (b.toNat : Int)) := rfl
theorem dig_figs (u : Nat) (h : u < 100000000000000000000) : (Go.Lib.decDigits u).map (fun b => (b.toNat : Int)) = figsOf (u : Int) := by
  unfold figsOf
  by_cases h0 : u = 0
  · subst h0
    rw [if_pos (by omega), Go.Lib.decDigits, dif_pos (by omega)]
    rfl
  · rw [if_neg (by omega), decL_dig 20 u [] (by omega) (by omega), List.append_nil]
theorem itoa_figs {n : Int} (h0 : 0 ≤ n) (h1 : n ≤ 9223372036854775808) : bytesOf ⟨(Go.Lib.itoa n).toArray⟩ = figsOf n := by
  obtain ⟨u, rfl⟩ : ∃ u : Nat, n = u := ⟨n.toNat, by omega⟩
  rw [bx_mk, Go.Lib.itoa_nonneg, dig_figs u (by omega)]
theorem itoa_negs {n : Int} (h0 : 0 < n) (h1 : n ≤ 9223372036854775808) : bytesOf ⟨(Go.Lib.itoa (-n)).toArray⟩ = 45 :: figsOf n := by
  obtain ⟨u, rfl⟩ : ∃ u : Nat, n = u := ⟨n.toNat, by omega⟩
  rw [bx_mk, Go.Lib.itoa_neg u (by omega), List.map_cons, dig_figs u (by omega)]
  rfl

theorem impl_Decimal_k {n : Int} (h0 : -9223372036854775808 ≤ n) (h1 : n ≤ 9223372036854775807) : impl_Decimal.f n = some ⟨(Go.Lib.itoa n).toArray⟩ := by
  unfold impl_Decimal.f strconv_Itoa.f
  rw [if_pos ⟨h0, h1⟩]
  rfl

theorem tmod_neg {n : Int} (h : 0 ≤ n) : Int.tmod (-n) 10 = -(n % 10) := by rw [Int.neg_tmod, Int.tmod_eq_emod_of_nonneg h]
theorem tdiv_neg {n : Int} (h : 0 ≤ n) : Int.tdiv (-n) 10 = -(n / 10) := by rw [Int.neg_tdiv, Int.tdiv_eq_ediv_of_nonneg h]
/-- The loop of Decimal, of a number not above 0. -/
theorem dec_ln : ∀ (f : Nat) (k : Nat) (n : Int) (s : ByteArray), 0 ≤ n → n < 10 ^ f → n ≤ 9223372036854775808 → s.size + f ≤ 1000 → f < k →
    ∃ t, spec_Decimal.l0 k (-n) true s = some t ∧ bytesOf t = 45 :: decL f n (bytesOf s) := by
  intro f
  induction f with
  | zero =>
    intro k n s h0 h1 hm hs hk
    obtain ⟨k, rfl⟩ := succ_of hk
    simp only [spec_Decimal.l0]
    rw [if_pos (by simp at h1; omega), if_pos True.intro, if_pos (by omega)]
    exact ⟨_, rfl, by rw [bx_app]; rfl⟩
  | succ f ih =>
    intro k n s h0 h1 hm hs hk
    obtain ⟨k, rfl⟩ := succ_of hk
    simp only [spec_Decimal.l0]
    by_cases hz : n = 0
    · rw [if_pos (by omega), if_pos True.intro, if_pos (by omega)]
      refine ⟨_, rfl, ?_⟩
      rw [bx_app]
      unfold decL
      rw [if_pos hz]
      rfl
    · have hz1 : ∀ d : Int, (strOfNums [d]).size = 1 := fun d => by rw [strOfNums_size]; rfl
      obtain ⟨t, e, ht⟩ := ih k (n / 10) (strOfNums [48 + n % 10] ++ s) (by omega) (by rw [Int.pow_succ] at h1; omega) (by omega) (by rw [ByteArray.size_append, hz1]; omega) (by omega)
      refine ⟨t, ?_, ?_⟩
      · rw [if_neg (by omega), tmod_neg h0, tdiv_neg h0]
        by_cases hd : n % 10 = 0
        · rw [if_neg (by omega), hd, show (-(0 : Int)) = 0 from rfl, sFigure (by omega) (by omega), Option.bind_some, Option.bind_some, w64 (by omega) (by omega), hz1, if_pos (by omega)]
          rw [hd] at e
          exact e
        · rw [if_pos (by omega), w64 (by omega) (by omega), show - -(n % 10) = n % 10 by omega, sFigure (by omega) (by omega), Option.bind_some, Option.bind_some, w64 (by omega) (by omega), hz1, if_pos (by omega)]
          exact e
      · rw [ht, bx_cons (by omega) (by omega)]
        conv => rhs; unfold decL
        rw [if_neg hz]
theorem dec_neg {n : Int} (h0 : 0 < n) (h1 : n ≤ 9223372036854775808) : ∃ t, (∀ k, 30 ≤ k → spec_Decimal.f k (-n) = some t) ∧ bytesOf t = 45 :: figsOf n := by
  unfold spec_Decimal.f figsOf
  rw [if_neg (show ¬ n = 0 by omega), decide_eq_true (show -n < 0 by omega)]
  obtain ⟨t, e, ht⟩ := dec_ln 20 30 n ⟨#[]⟩ (by omega) (by omega) h1 (by decide) (by omega)
  refine ⟨t, fun k hk => ?_, ht⟩
  rw [if_neg (by omega)]
  have hm : ∀ k, LeO (spec_Decimal.l0 k (-n) true ⟨#[]⟩) (spec_Decimal.l0 (k + 1) (-n) true ⟨#[]⟩) := fun k => by
    have := spec_Decimal.mono_l k
    exact this _ _ _
  exact at_rounds (g := fun k => spec_Decimal.l0 k (-n) true ⟨#[]⟩) hm hk e
theorem dec_all {n : Int} (h0 : -9223372036854775808 ≤ n) (h1 : n ≤ 9223372036854775807) : ∀ k, 30 ≤ k → spec_Decimal.f k n = some ⟨(Go.Lib.itoa n).toArray⟩ := by
  by_cases h : 0 ≤ n
  · obtain ⟨t, e, ht⟩ := dec_ok h h1
    rw [← itoa_figs h (by omega)] at ht
    obtain rfl := bx_inj ht
    exact e
  · obtain ⟨m, rfl⟩ : ∃ m : Int, n = -m := ⟨-n, by omega⟩
    obtain ⟨t, e, ht⟩ := dec_neg (n := m) (by omega) (by omega)
    rw [← itoa_negs (by omega) (by omega)] at ht
    obtain rfl := bx_inj ht
    exact e

theorem tmod_lt (n : Int) (h : n < 0) : Int.tmod n 1000000 = -((-n) % 1000000) := by
  obtain ⟨m, rfl⟩ : ∃ m : Int, n = -m := ⟨-n, by omega⟩
  rw [Int.neg_tmod, Int.tmod_eq_emod_of_nonneg (by omega), Int.neg_neg]
theorem tmod_in (n : Int) : -1000000 < Int.tmod n 1000000 ∧ Int.tmod n 1000000 < 1000000 := by
  by_cases h : n < 0
  · rw [tmod_lt n h]; omega
  · rw [Int.tmod_eq_emod_of_nonneg (by omega)]; omega
/-- The number that is told: between 0 and 999999. -/
def roundN (n : Int) : Int := if Int.tmod n 1000000 < 0 then Int.tmod n 1000000 + 1000000 else Int.tmod n 1000000
theorem round_in (n : Int) : 0 ≤ roundN n ∧ roundN n < 1000000 := by
  have := tmod_in n
  unfold roundN
  split <;> omega
theorem spec_NumText_k (n : Int) {k : Nat} (hk : 30 ≤ k) : spec_NumText.f k n = some ⟨(Go.Lib.itoa (roundN n)).toArray⟩ := by
  have h := tmod_in n
  unfold spec_NumText.f roundN
  by_cases h0 : Int.tmod n 1000000 < 0
  · rw [if_pos h0, if_pos h0, w64 (by omega) (by omega), dec_all (by omega) (by omega) k hk, Option.bind_some]
  · rw [if_neg h0, if_neg h0, dec_all (by omega) (by omega) k hk, Option.bind_some]

theorem impl_NumText_k (n : Int) : impl_NumText.f n = some ⟨(Go.Lib.itoa (roundN n)).toArray⟩ := by
  have h := tmod_in n
  unfold impl_NumText.f
  have e : Int.tmod (wrap64 (Int.tmod n 1000000 + 1000000)) 1000000 = roundN n := by
    unfold roundN
    rw [w64 (by omega) (by omega), Int.tmod_eq_emod_of_nonneg (by omega)]
    split <;> omega
  have := round_in n
  rw [e, impl_Decimal_k (by omega) (by omega), Option.bind_some]

def blk32 (c : Int) : Bool := decide (c = 32)
/-- The number of a text. -/
def numS (s : ByteArray) : Int := qnumL 0 ((bytesOf s).dropWhile blk32)
theorem bx_trim (s : ByteArray) : bytesOf ⟨(Go.Lib.trimLeftB s.data.toList 32).toArray⟩ = (bytesOf s).dropWhile blk32 := by
  show (List.dropWhile (· == 32) s.data.toList).map (fun b : UInt8 => (b.toNat : Int)) = List.dropWhile blk32 (s.data.toList.map fun b : UInt8 => (b.toNat : Int))
  rw [List.dropWhile_map]
  congr 2
  funext b
  show (b == 32) = decide ((b.toNat : Int) = 32)
  by_cases h : b = 32
  · subst h; rfl
  · have h2 : ¬ ((b.toNat : Int) = 32) := fun e => h (UInt8.toNat_inj.1 (by show b.toNat = 32; omega))
    rw [decide_eq_false h2]
    exact beq_eq_false_iff_ne.2 h

theorem impl_NumOf_k {s : ByteArray} (hs : s.size ≤ 140737488351232) : impl_NumOf.f s = some (numS s) := by
  unfold impl_NumOf.f numS
  rw [bx_trim]
  have h : (Go.Lib.trimLeftB s.data.toList 32).length ≤ s.data.toList.length := by
    unfold Go.Lib.trimLeftB
    exact (List.dropWhile_suffix _).length_le
  have h2 : s.data.toList.length = s.size := Array.length_toList
  rw [if_pos (by omega)]

/-! The number of a told number is that number. -/
theorem decL_app : ∀ (f : Nat) (n : Int) (acc r : List Int), decL f n acc ++ r = decL f n (acc ++ r) := by
  intro f
  induction f with
  | zero => intro n acc r; rfl
  | succ f ih =>
    intro n acc r
    unfold decL
    split
    · rfl
    · rw [ih, List.cons_append]
theorem fig_q (d : Int) (h0 : 0 ≤ d) (h1 : d < 10) : qfigB (48 + d) = true := by
  unfold qfigB
  rw [decide_eq_true (by omega), decide_eq_true (by omega)]
  rfl
theorem numL_dec : ∀ (f : Nat) (n : Int) (acc : List Int), 0 ≤ n → n < 10 ^ f → qnumL 0 (decL f n acc) = qnumL (n % 1000000) acc := by
  intro f
  induction f with
  | zero =>
    intro n acc h0 h1
    have : n = 0 := by simp at h1; omega
    subst this
    rfl
  | succ f ih =>
    intro n acc h0 h1
    unfold decL
    by_cases hz : n = 0
    · rw [if_pos hz, hz]
      rfl
    · rw [if_neg hz, ih (n / 10) _ (by omega) (by rw [Int.pow_succ] at h1; omega), qnumL_go (fig_q _ (by omega) (by omega))]
      congr 1
      omega
theorem numL_figs {n : Int} (h0 : 0 ≤ n) (h1 : n < 1000000) (r : List Int) : qnumL 0 (figsOf n ++ r) = qnumL n r := by
  unfold figsOf
  by_cases hz : n = 0
  · rw [if_pos hz, hz]
    show qnumL 0 (48 :: r) = _
    rw [qnumL_go rfl]
    rfl
  · rw [if_neg hz, decL_app, List.nil_append, numL_dec 20 n r h0 (by omega), Int.emod_eq_of_lt h0 h1]
theorem fig_blk {c : Int} (h : fig c = true) : blk32 c = false := by
  unfold fig at h
  simp only [Bool.and_eq_true, decide_eq_true_eq] at h
  exact decide_eq_false (by omega)
theorem figs_drop {n : Int} (h0 : 0 ≤ n) (r : List Int) : (figsOf n ++ r).dropWhile blk32 = figsOf n ++ r := by
  have hl := figs_all h0
  have hn : figsOf n ≠ [] := by
    unfold figsOf
    split
    · simp
    · intro e
      have := (decL_len 19 (n / 10) [48 + n % 10] (19) (by omega))
      rename_i hz
      unfold decL at e
      rw [if_neg hz] at e
      have h2 : ∀ (f : Nat) (m : Int) (acc : List Int), acc ≠ [] → decL f m acc ≠ [] := by
        intro f
        induction f with
        | zero => intro m acc h; exact h
        | succ f ih =>
          intro m acc h
          unfold decL
          split
          · exact h
          · exact ih _ _ (by simp)
      exact h2 19 _ _ (by simp) e
  cases hf : figsOf n with
  | nil => exact absurd hf hn
  | cons c cs =>
    rw [hf, List.all_cons, Bool.and_eq_true] at hl
    rw [List.cons_append, List.dropWhile_cons, fig_blk hl.1, if_neg (by decide)]

def cutB (s : ByteArray) : ByteArray := if s.size ≤ 40 then s else s.extract 0 40
theorem extract_all (s : ByteArray) {n : Nat} (h : s.size ≤ n) : s.extract 0 n = s := by
  apply bx_inj
  rw [bx_cut, List.drop_zero, List.take_of_length_le (by rw [bx_len]; exact h)]

theorem iCut (s : ByteArray) : impl_Cut.f s = some (cutB s) := by
  unfold impl_Cut.f cutB
  by_cases h : s.size ≤ 40
  · have e : mn (s.size : Int) 40 = (s.size : Int) := by unfold mn; split <;> omega
    rw [e, if_pos (by omega), if_pos (by omega), if_pos h, Int.toNat_natCast, extract_all s (Nat.le_refl _)]
  · have e : mn (s.size : Int) 40 = 40 := by unfold mn; split <;> omega
    rw [e, if_pos (by omega), if_pos (by omega), if_neg h]
    rfl

theorem cut_size (s : ByteArray) : (cutB s).size ≤ 40 ∧ (cutB s).size ≤ s.size := by
  unfold cutB
  split
  · omega
  · rw [ByteArray.size_extract]; omega
theorem cut_cut (s : ByteArray) : cutB (cutB s) = cutB s := by
  have e : ∀ t : ByteArray, t.size ≤ 40 → cutB t = t := fun t h => by
    unfold cutB
    rw [if_pos h]
  exact e _ (cut_size s).1
theorem begins_cut (s : ByteArray) : laws_begins.f (cutB s) s = some true := by
  have h := cut_size s
  unfold laws_begins.f
  rw [if_pos (by omega), if_pos (by omega), Int.toNat_natCast]
  have e : s.extract 0 (cutB s).size = cutB s := by
    unfold cutB
    split
    · exact extract_all s (Nat.le_refl _)
    · rw [ByteArray.size_extract, show min 40 s.size - 0 = 40 by omega]
  rw [e, beq_self_eq_true]

theorem drawCut_ok {b : List Int} (hb : IsCode b) : ∃ s, (∀ k, 104001 ≤ k → spec_DrawCut.f k b = some s) ∧ s.size ≤ 60 := by
  obtain ⟨h', e⟩ := new_ok hb
  obtain ⟨n, i1, h1, e1, hn, c1⟩ := pickInt_ok hb (Int.le_refl 0) h' (l := [0, 3, 40, 41, 60]) (by decide) (by decide)
  have hn2 : 0 ≤ n ∧ n ≤ 60 := by
    simp only [List.mem_cons, List.mem_nil_iff, or_false] at hn
    omega
  obtain ⟨s, es, hs⟩ := long_ev (x := 65) hn2.1 (by omega)
  refine ⟨s, fun k hk => ?_, by omega⟩
  unfold spec_DrawCut.f
  rw [e k (by omega), Option.bind_some]
  dsimp only
  rw [e1, Option.bind_some]
  dsimp only
  rw [es k (by omega), Option.bind_some]
theorem drawNumText_ok {b : List Int} (hb : IsCode b) : ∃ m, ∀ k, 4001 ≤ k → spec_DrawNumText.f k b = some m := by
  obtain ⟨h', e⟩ := new_ok hb
  obtain ⟨r, i1, h1, e1, _, _, c1⟩ := below_ok hb (Int.le_refl 0) h' (n := 5000) (by omega) (by omega)
  obtain ⟨m, i2, h2, e2, _, _⟩ := pickInt_ok hb c1 h1 (l := [0, 1, (-1), 999999, 1000000, 9223372036854775807, (-9223372036854775808), r]) (by simp) (by simp)
  refine ⟨m, fun k hk => ?_⟩
  unfold spec_DrawNumText.f
  rw [e k hk, Option.bind_some]
  dsimp only
  rw [e1, Option.bind_some]
  dsimp only
  rw [e2, Option.bind_some]
theorem round_id {n : Int} (h0 : 0 ≤ n) (h1 : n < 1000000) : roundN n = n := by
  unfold roundN
  rw [Int.tmod_eq_emod_of_nonneg h0]
  split <;> omega
theorem round_neg {n : Int} (h0 : 0 ≤ n) (h1 : n < 1000000) : roundN (-n) = roundN (1000000 - n) := by
  have h2 := tmod_in (-n)
  unfold roundN
  rw [Int.tmod_eq_emod_of_nonneg (show 0 ≤ 1000000 - n by omega)]
  by_cases hz : n = 0
  · subst hz
    rfl
  · rw [tmod_lt (-n) (by omega), Int.neg_neg]
    split <;> split <;> omega
theorem itoa_size {n : Int} (h0 : 0 ≤ n) (h1 : n < 1000000) : (⟨(Go.Lib.itoa n).toArray⟩ : ByteArray).size ≤ 6 := by
  rw [← bx_len, itoa_figs h0 (by omega)]
  exact (figs_len h0 (m := 5) h1).2
theorem numS_itoa {n : Int} (h0 : 0 ≤ n) (h1 : n < 1000000) : numS ⟨(Go.Lib.itoa n).toArray⟩ = n := by
  unfold numS
  rw [itoa_figs h0 (by omega), ← List.append_nil (figsOf n), figs_drop h0, numL_figs h0 h1]
  rfl
theorem FnValues : laws_FnValues.Pure := by
  intro b hb0 hb1 hb2
  have hb : IsCode b := by unfold IsCode; omega
  obtain ⟨s, es, hs⟩ := drawCut_ok hb
  obtain ⟨m, em⟩ := drawNumText_ok hb
  obtain ⟨p, ⟨K, ep⟩, hpl, hp⟩ := places_ok hb
  have hp0 := rd_in hpl hp 0 (by omega) (by omega)
  have hp1 := rd_in hpl hp 1 (by omega) (by omega)
  have ep := ep (K + 200000) (by omega)
  dsimp only at ep
  obtain ⟨n, hn⟩ : ∃ n, wrap64 (wrap64 (rd p 0 * 100) + Int.tmod (rd p 1) 100) = n := ⟨_, rfl⟩
  have hn1 : 0 ≤ n ∧ n < 1000000 := by
    rw [Int.tmod_eq_emod_of_nonneg hp1.1, w64 (x := rd p 0 * 100) (by omega) (by omega), w64 (by omega) (by omega)] at hn
    omega
  have hr := round_in m
  have hc := cut_size s
  have z0 := itoa_size hr.1 hr.2
  have z1 := itoa_size hn1.1 hn1.2
  refine ⟨K + 200000, ?_⟩
  unfold laws_FnValues.f laws_big.f
  rw [Option.bind_some]
  by_cases hbig : decide ((b.length : Int) > 1048576) = true
  · rw [if_pos hbig]
  · rw [if_neg hbig, ep, Option.bind_some, hpl, if_pos (by omega), if_pos (by omega), es _ (by omega), Option.bind_some, em _ (by omega), Option.bind_some, impl_NumText_k, Option.bind_some, iCut, Option.bind_some, hn,
      impl_NumText_k, Option.bind_some, round_id hn1.1 hn1.2, impl_NumOf_k (by omega), Option.bind_some, numS_itoa hn1.1 hn1.2, if_pos rfl, w64 (x := -n) (by omega) (by omega), w64 (x := 1000000 - n) (by omega) (by omega),
      impl_NumText_k, impl_NumText_k, Option.bind_some, Option.bind_some, round_neg hn1.1 hn1.2, if_pos rfl, impl_IsNum_k (by omega) (by omega), Option.bind_some, itoa_figs hr.1 (by omega), isNum_figs hr.1 hr.2, if_pos rfl,
      spec_NumText_k m (by omega), Option.bind_some, if_pos rfl, begins_cut, Option.bind_some, if_pos rfl, if_pos (by omega), iCut, Option.bind_some, cut_cut, if_pos rfl]
    by_cases h40 : (s.size : Int) > 40
    · rw [if_pos h40]
    · rw [if_neg h40]
      unfold cutB
      rw [if_pos (by omega), beq_self_eq_true]

end Go.Proofs.YtkgpokiglanjfaaDoor.Pure
