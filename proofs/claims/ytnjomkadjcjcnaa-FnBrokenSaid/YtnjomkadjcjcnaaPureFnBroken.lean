/- The pure statement of FnBroken: over numbers and lists, what the printed functions come to is what the law wants, for every input. -/
import Derived.Test.YtnjomkadjcjcnaaQFnBrokenx4
set_option linter.unusedVariables false
set_option linter.unusedSimpArgs false
namespace Go.Proofs.Ytnjomkadjcjcnaa.Pure
open Go.RowKit Go.Proofs.Ytnjomkadjcjcnaa.QFnBroken Go.Proofs.YtnjomkadjcjcnaaW.PrintWords Go.Proofs.YtnjomkadjcjcnaaW.PrintLast
/-! Words on strings as lists of numbers. -/
theorem w64 {x : Int} (h0 : -9223372036854775808 ≤ x) (h1 : x ≤ 9223372036854775807) : wrap64 x = x := by
  unfold wrap64
  omega
theorem bx_len (s : ByteArray) : (bytesOf s).length = s.size := bytesOf_length s
theorem bx_byte (s : ByteArray) : ∀ c ∈ bytesOf s, 0 ≤ c ∧ c ≤ 255 := by
  intro c hc
  unfold bytesOf at hc
  obtain ⟨b, _, rfl⟩ := List.mem_map.1 hc
  have := b.toNat_lt
  omega
theorem bx_at {s : ByteArray} {pre ys : List Int} {c : Int} (h : bytesOf s = pre ++ c :: ys) : bt s (pre.length : Int) = c := by
  rw [← rd_bytesOf, h, rd, Int.toNat_natCast, List.getD_eq_getElem?_getD, List.getElem?_append_right (Nat.le_refl _)]
  simp
theorem bx_lt {s : ByteArray} {pre ys : List Int} {c : Int} (h : bytesOf s = pre ++ c :: ys) : (pre.length : Int) < (s.size : Int) := by
  have := congrArg List.length h
  rw [bx_len, List.length_append, List.length_cons] at this
  omega
theorem bx_end {s : ByteArray} {pre : List Int} (h : bytesOf s = pre ++ []) : (s.size : Int) = (pre.length : Int) := by
  have := congrArg List.length h
  rw [bx_len, List.append_nil] at this
  omega
theorem bx_next {s : ByteArray} {pre ys : List Int} {c : Int} (h : bytesOf s = pre ++ c :: ys) : bytesOf s = (pre ++ [c]) ++ ys := by
  rw [h, List.append_assoc]; rfl
theorem len_next (pre : List Int) (c : Int) : ((pre ++ [c]).length : Int) = (pre.length : Int) + 1 := by
  rw [List.length_append, List.length_singleton]; omega
theorem bx_inj {s t : ByteArray} (h : bytesOf s = bytesOf t) : s = t := by
  unfold bytesOf at h
  have h2 : s.data.toList = t.data.toList := by
    refine (List.map_inj_right (f := fun b : UInt8 => (b.toNat : Int)) ?_).1 h
    intro x y hxy
    exact UInt8.toNat_inj.1 (Int.ofNat_inj.1 hxy)
  exact ByteArray.ext (Array.toList_inj.1 h2)
theorem tl_inj {s t : ByteArray} (h : s.toList = t.toList) : s = t := by
  rw [ByteArray.toList_eq, ByteArray.toList_eq] at h
  exact ByteArray.ext (Array.toList_inj.1 h)
theorem tl_iff {s t : ByteArray} : s.toList = t.toList ↔ bytesOf s = bytesOf t := ⟨fun h => by rw [tl_inj h], fun h => by rw [bx_inj h]⟩
theorem bx_app (s t : ByteArray) : bytesOf (s ++ t) = bytesOf s ++ bytesOf t := by
  simp [bytesOf]
theorem bx_cut (s : ByteArray) (a b : Nat) : bytesOf (s.extract a b) = ((bytesOf s).take b).drop a := by
  simp [bytesOf, ByteArray.data_extract, List.map_drop, List.map_take, List.take_drop]
  rw [List.drop_take, List.drop_take]
  congr 1
  omega
theorem bx_str {xs : List Int} (h : ∀ c ∈ xs, 0 ≤ c ∧ c ≤ 255) : bytesOf (strOfNums xs) = xs := by
  unfold bytesOf
  rw [strOfNums_data, List.map_map]
  induction xs with
  | nil => rfl
  | cons c xs ih =>
    rw [List.map_cons, ih (fun d hd => h d (List.mem_cons_of_mem _ hd))]
    have hc := h c (List.mem_cons_self ..)
    congr 1
    have e : (UInt8.ofNat c.toNat).toNat = c.toNat := by
      rw [UInt8.toNat_ofNat']
      omega
    show ((UInt8.ofNat c.toNat).toNat : Int) = c
    rw [e]
    omega
theorem bx_wrap {s : ByteArray} {pre ys : List Int} {c : Int} (h : bytesOf s = pre ++ c :: ys) (hs : s.size ≤ 140737488351232) : wrap64 ((pre.length : Int) + 1) = ((pre ++ [c]).length : Int) := by
  rw [len_next]
  have := bx_lt h
  exact w64 (by omega) (by omega)
theorem bx_in {s : ByteArray} {pre ys : List Int} {c : Int} (h : bytesOf s = pre ++ c :: ys) : 0 ≤ c ∧ c ≤ 255 :=
  bx_byte s c (by rw [h]; exact List.mem_append_right _ (List.mem_cons_self ..))
theorem succ_of {n k : Nat} (h : n < k) : ∃ m, k = m + 1 := ⟨k - 1, by omega⟩
theorem ev2 {α β : Type} {g : Nat → Option α} {f : Nat → Option β} {a : α} {b : β} (h : Ev g a) (h' : Ev f b) : ∃ k, g k = some a ∧ f k = some b := by
  obtain ⟨K, h⟩ := h
  obtain ⟨K', h'⟩ := h'
  exact ⟨K + K', h _ (by omega), h' _ (by omega)⟩

theorem u32_in {x : Int} (h : (Lit.int .u32 x).wf = true) : 0 ≤ x ∧ x < 4294967296 := by
  simp only [Lit.wf, IntKind.min, IntKind.max, IntKind.signed, IntKind.bits, Bool.and_eq_true, decide_eq_true_eq] at h
  simp at h
  omega
theorem i64_in {x : Int} (h : (Lit.int .i64 x).wf = true) : -9223372036854775808 ≤ x ∧ x ≤ 9223372036854775807 := by
  simp only [Lit.wf, IntKind.min, IntKind.max, IntKind.signed, IntKind.bits, Bool.and_eq_true, decide_eq_true_eq] at h
  simp at h
  omega

theorem and255_in (x : Int) : 0 ≤ Go.bits .and .i64 x 255 ∧ Go.bits .and .i64 x 255 ≤ 255 := by
  simp only [Go.bits]
  rw [IntKind.wrap_i64]
  have h : (BitVec.ofInt IntKind.i64.bits x &&& BitVec.ofInt IntKind.i64.bits 255).toNat ≤ 255 := by
    rw [BitVec.toNat_and]
    exact Nat.le_trans Nat.and_le_right (by decide)
  omega
/-- The drawn bytes are bytes, and no more than can be. -/
def IsCode (b : List Int) : Prop := b.length ≤ 9223372036854775807

theorem byte_ok {b : List Int} (hb : IsCode b) {i : Int} (hi : 0 ≤ i) (h : Int) : ∃ r i' h', spec_l01Byte.f b i h = some (r, i', h') ∧ 0 ≤ r ∧ r ≤ 255 ∧ 0 ≤ i' := by
  unfold IsCode at hb
  unfold spec_l01Byte.f
  by_cases h1 : i < (b.length : Int)
  · rw [if_pos h1, if_pos hi]
    refine ⟨_, _, _, rfl, (and255_in _).1, (and255_in _).2, ?_⟩
    rw [w64 (by omega) (by omega)]
    omega
  · rw [if_neg h1]
    exact ⟨_, _, _, rfl, (and255_in _).1, (and255_in _).2, hi⟩
theorem below_ok {b : List Int} (hb : IsCode b) {i : Int} (hi : 0 ≤ i) (h : Int) {n : Int} (h0 : 0 < n) (h1 : n ≤ 4294967296) :
    ∃ r i' h', spec_l01Below.f b i h n = some (r, i', h') ∧ 0 ≤ r ∧ r < n ∧ 0 ≤ i' := by
  unfold spec_l01Below.f
  rw [if_neg (by omega)]
  obtain ⟨r1, i1, h1', e1, a1, b1, c1⟩ := byte_ok hb hi h
  by_cases hn : n ≤ 256
  · rw [if_pos hn, e1, Option.bind_some, if_neg (by omega)]
    refine ⟨_, _, _, rfl, ?_, ?_, c1⟩
    · rw [Int.tmod_eq_emod_of_nonneg a1]; exact Int.emod_nonneg _ (by omega)
    · rw [Int.tmod_eq_emod_of_nonneg a1]; exact Int.emod_lt_of_pos _ h0
  · rw [if_neg hn, e1, Option.bind_some]
    obtain ⟨r2, i2, h2', e2, a2, b2, c2⟩ := byte_ok hb c1 h1'
    obtain ⟨r3, i3, h3', e3, a3, b3, c3⟩ := byte_ok hb c2 h2'
    obtain ⟨r4, i4, h4', e4, a4, b4, c4⟩ := byte_ok hb c3 h3'
    dsimp only
    rw [e2, Option.bind_some]
    dsimp only
    rw [e3, Option.bind_some]
    dsimp only
    rw [e4, Option.bind_some, if_neg (by omega)]
    dsimp only
    rw [w64 (show _ ≤ r1 * 16777216 by omega) (by omega), w64 (show _ ≤ r2 * 65536 by omega) (by omega), w64 (show _ ≤ r3 * 256 by omega) (by omega),
      w64 (show _ ≤ r1 * 16777216 + r2 * 65536 by omega) (by omega), w64 (show _ ≤ r1 * 16777216 + r2 * 65536 + r3 * 256 by omega) (by omega), w64 (show _ ≤ r1 * 16777216 + r2 * 65536 + r3 * 256 + r4 by omega) (by omega)]
    refine ⟨_, _, _, rfl, ?_, ?_, c4⟩
    · rw [Int.tmod_eq_emod_of_nonneg (by omega)]; exact Int.emod_nonneg _ (by omega)
    · rw [Int.tmod_eq_emod_of_nonneg (by omega)]; exact Int.emod_lt_of_pos _ h0
theorem new_l {b : List Int} (hb : IsCode b) : ∀ (d : Nat) (k : Nat) (h i : Int), 0 ≤ i → (4000 : Int) - i ≤ d → d < k → ∃ h', spec_l01New.l0 k b h i = some (b, 0, h') := by
  unfold IsCode at hb
  intro d
  induction d with
  | zero =>
    intro k h i hi hd hk
    obtain ⟨k, rfl⟩ := succ_of hk
    simp only [spec_l01New.l0]
    by_cases h1 : i < (b.length : Int)
    · rw [if_pos h1, if_neg (by omega)]; exact ⟨_, rfl⟩
    · rw [if_neg h1]; exact ⟨_, rfl⟩
  | succ d ih =>
    intro k h i hi hd hk
    obtain ⟨k, rfl⟩ := succ_of hk
    simp only [spec_l01New.l0]
    by_cases h1 : i < (b.length : Int)
    · rw [if_pos h1]
      by_cases h2 : i < 4000
      · rw [if_pos h2, if_pos hi, w64 (show _ ≤ i + 1 by omega) (by omega)]
        exact ih k _ (i + 1) (by omega) (by omega) (by omega)
      · rw [if_neg h2]; exact ⟨_, rfl⟩
    · rw [if_neg h1]; exact ⟨_, rfl⟩
theorem new_ok {b : List Int} (hb : IsCode b) : ∃ h', ∀ k, 4001 ≤ k → spec_l01New.f k b = some (b, 0, h') := by
  obtain ⟨h', e⟩ := new_l hb 4000 4001 (wrap64 (38001 + (b.length : Int))) 0 (by omega) (by omega) (by omega)
  refine ⟨h', fun k hk => ?_⟩
  have hm : ∀ k, LeO (spec_l01New.l0 k b (wrap64 (38001 + (b.length : Int))) 0) (spec_l01New.l0 (k + 1) b (wrap64 (38001 + (b.length : Int))) 0) := fun k => by
    have := spec_l01New.mono_l k
    exact this _ _ _
  exact at_rounds (g := fun k => spec_l01New.l0 k b (wrap64 (38001 + (b.length : Int))) 0) hm hk e

theorem places_l {b : List Int} (hb : IsCode b) : ∀ (d : Nat) (k : Nat) (out : List Int) (i h : Int), out.length + d = 12 → (∀ x ∈ out, 0 ≤ x ∧ x < 10000) → 0 ≤ i → d < k →
    ∃ r, spec_DrawPlaces.l0 k out (out.length : Int) b i h = some r ∧ r.length = 12 ∧ ∀ x ∈ r, 0 ≤ x ∧ x < 10000 := by
  intro d
  induction d with
  | zero =>
    intro k out i h hd ho hi hk
    obtain ⟨k, rfl⟩ := succ_of hk
    simp only [spec_DrawPlaces.l0]
    rw [if_neg (by omega)]
    exact ⟨_, rfl, by omega, ho⟩
  | succ d ih =>
    intro k out i h hd ho hi hk
    obtain ⟨k, rfl⟩ := succ_of hk
    simp only [spec_DrawPlaces.l0]
    obtain ⟨r, i', h', e, a, b', c⟩ := below_ok hb hi h (n := 10000) (by omega) (by omega)
    rw [if_pos (by omega), e, Option.bind_some, if_pos (by omega), w64 (by omega) (by omega), ← len_next out r]
    exact ih k (out ++ [r]) i' h' (by rw [List.length_append, List.length_singleton]; omega) (fun x hx => by rcases List.mem_append.1 hx with hx | hx; exact ho x hx; (have : x = r := (by simpa using hx)); omega) c (by omega)
theorem places_ok {b : List Int} (hb : IsCode b) : ∃ r, Ev (fun k => spec_DrawPlaces.f k b) r ∧ r.length = 12 ∧ ∀ x ∈ r, 0 ≤ x ∧ x < 10000 := by
  obtain ⟨h', e⟩ := new_ok hb
  obtain ⟨x, i1, h1, e1, _, _, c1⟩ := byte_ok hb (Int.le_refl 0) h'
  obtain ⟨r, e2, hl, hr⟩ := places_l hb 12 13 [] i1 h1 rfl (by simp) c1 (by omega)
  refine ⟨r, ⟨4001, fun k hk => ?_⟩, hl, hr⟩
  dsimp only
  unfold spec_DrawPlaces.f
  rw [e k hk, Option.bind_some]
  dsimp only
  rw [e1, Option.bind_some]
  dsimp only
  have hm : ∀ k, LeO (spec_DrawPlaces.l0 k [] 0 b i1 h1) (spec_DrawPlaces.l0 (k + 1) [] 0 b i1 h1) := fun k => by
    have := spec_DrawPlaces.mono_l k
    exact this _ _ _ _ _
  exact at_rounds (g := fun k => spec_DrawPlaces.l0 k [] 0 b i1 h1) hm (show 13 ≤ k by omega) e2
theorem rd_in {r : List Int} (hl : r.length = 12) (hr : ∀ x ∈ r, 0 ≤ x ∧ x < 10000) (i : Int) (h0 : 0 ≤ i) (hi : i < 12) : 0 ≤ rd r i ∧ rd r i < 10000 := by
  unfold rd
  rw [List.getD_eq_getElem?_getD, List.getElem?_eq_getElem (by omega)]
  exact hr _ (List.getElem_mem _)

theorem FnBroken : laws_FnBroken.Pure := by
  intro b hb0 hb1 hb2
  have hb : IsCode b := by unfold IsCode; omega
  obtain ⟨p, ⟨K1, ep⟩, hpl, hp⟩ := places_ok hb
  have h0 := rd_in hpl hp 0 (by omega) (by omega)
  refine ⟨K1 + 200, ?_⟩
  unfold laws_FnBroken.f laws_big.f
  rw [Option.bind_some]
  by_cases hbig : decide ((b.length : Int) > 1048576) = true
  · rw [if_pos hbig]
  have e1 : spec_DrawPlaces.f (K1 + 200) b = some p := ep _ (by omega)
  rw [if_neg hbig, e1, Option.bind_some, if_pos ⟨by omega, hpl, h0⟩]

end Go.Proofs.Ytnjomkadjcjcnaa.Pure
