/- The pure statement of FnExactReadShort: over numbers and lists, what the printed functions come to is what the law wants, for every input. -/
import Derived.Test.YtipegeaimloobaaPFnExactReadShortx2
set_option linter.unusedVariables false
set_option linter.unusedSimpArgs false
namespace Go.Proofs.Ytipegeaimloobaa.Pure
open Go.RowKit Go.Proofs.Ytipegeaimloobaa.PFnExactReadShort Go.Proofs.YtipegeaimloobaaW.PrintWords Go.Proofs.YtipegeaimloobaaW.PrintLast
/-! Words on strings as lists of numbers. -/
theorem w64 {x : Int} (h0 : -9223372036854775808 ≤ x) (h1 : x ≤ 9223372036854775807) : wrap64 x = x := by
  unfold wrap64
  omega
theorem bx_len (s : ByteArray) : (bytesOf s).length = s.size := bytesOf_length s
theorem bx_byte (s : ByteArray) : ∀ c ∈ bytesOf s, 0 ≤ c ∧ c ≤ 255 := by
  intro c hc
  unfold bytesOf at hc
  obtain ⟨b, _, rfl⟩ := List.mem_map.1 hc
  have := b.toNat_lt
  omega
theorem bx_at {s : ByteArray} {pre ys : List Int} {c : Int} (h : bytesOf s = pre ++ c :: ys) : bt s (pre.length : Int) = c := by
  rw [← rd_bytesOf, h, rd, Int.toNat_natCast, List.getD_eq_getElem?_getD, List.getElem?_append_right (Nat.le_refl _)]
  simp
theorem bx_lt {s : ByteArray} {pre ys : List Int} {c : Int} (h : bytesOf s = pre ++ c :: ys) : (pre.length : Int) < (s.size : Int) := by
  have := congrArg List.length h
  rw [bx_len, List.length_append, List.length_cons] at this
  omega
theorem bx_end {s : ByteArray} {pre : List Int} (h : bytesOf s = pre ++ []) : (s.size : Int) = (pre.length : Int) := by
  have := congrArg List.length h
  rw [bx_len, List.append_nil] at this
  omega
theorem bx_next {s : ByteArray} {pre ys : List Int} {c : Int} (h : bytesOf s = pre ++ c :: ys) : bytesOf s = (pre ++ [c]) ++ ys := by
  rw [h, List.append_assoc]; rfl
theorem len_next (pre : List Int) (c : Int) : ((pre ++ [c]).length : Int) = (pre.length : Int) + 1 := by
  rw [List.length_append, List.length_singleton]; omega
theorem bx_inj {s t : ByteArray} (h : bytesOf s = bytesOf t) : s = t := by
  unfold bytesOf at h
  have h2 : s.data.toList = t.data.toList := by
    refine (List.map_inj_right (f := fun b : UInt8 => (b.toNat : Int)) ?_).1 h
    intro x y hxy
    exact UInt8.toNat_inj.1 (Int.ofNat_inj.1 hxy)
  exact ByteArray.ext (Array.toList_inj.1 h2)
theorem tl_inj {s t : ByteArray} (h : s.toList = t.toList) : s = t := by
  rw [ByteArray.toList_eq, ByteArray.toList_eq] at h
  exact ByteArray.ext (Array.toList_inj.1 h)
theorem tl_iff {s t : ByteArray} : s.toList = t.toList ↔ bytesOf s = bytesOf t := ⟨fun h => by rw [tl_inj h], fun h => by rw [bx_inj h]⟩
theorem bx_app (s t : ByteArray) : bytesOf (s ++ t) = bytesOf s ++ bytesOf t := by
  simp [bytesOf]
theorem bx_cut (s : ByteArray) (a b : Nat) : bytesOf (s.extract a b) = ((bytesOf s).take b).drop a := by
  simp [bytesOf, ByteArray.data_extract, List.map_drop, List.map_take, List.take_drop]
  rw [List.drop_take, List.drop_take]
  congr 1
  omega
theorem bx_str {xs : List Int} (h : ∀ c ∈ xs, 0 ≤ c ∧ c ≤ 255) : bytesOf (strOfNums xs) = xs := by
  unfold bytesOf
  rw [strOfNums_data, List.map_map]
  induction xs with
  | nil => rfl
  | cons c xs ih =>
    rw [List.map_cons, ih (fun d hd => h d (List.mem_cons_of_mem _ hd))]
    have hc := h c (List.mem_cons_self ..)
    congr 1
    have e : (UInt8.ofNat c.toNat).toNat = c.toNat := by
      rw [UInt8.toNat_ofNat']
      omega
    show ((UInt8.ofNat c.toNat).toNat : Int) = c
    rw [e]
    omega
theorem bx_wrap {s : ByteArray} {pre ys : List Int} {c : Int} (h : bytesOf s = pre ++ c :: ys) (hs : s.size ≤ 140737488351232) : wrap64 ((pre.length : Int) + 1) = ((pre ++ [c]).length : Int) := by
  rw [len_next]
  have := bx_lt h
  exact w64 (by omega) (by omega)
theorem bx_in {s : ByteArray} {pre ys : List Int} {c : Int} (h : bytesOf s = pre ++ c :: ys) : 0 ≤ c ∧ c ≤ 255 :=
  bx_byte s c (by rw [h]; exact List.mem_append_right _ (List.mem_cons_self ..))
theorem succ_of {n k : Nat} (h : n < k) : ∃ m, k = m + 1 := ⟨k - 1, by omega⟩
theorem ev2 {α β : Type} {g : Nat → Option α} {f : Nat → Option β} {a : α} {b : β} (h : Ev g a) (h' : Ev f b) : ∃ k, g k = some a ∧ f k = some b := by
  obtain ⟨K, h⟩ := h
  obtain ⟨K', h'⟩ := h'
  exact ⟨K + K', h _ (by omega), h' _ (by omega)⟩

theorem u32_in {x : Int} (h : (Lit.int .u32 x).wf = true) : 0 ≤ x ∧ x < 4294967296 := by
  simp only [Lit.wf, IntKind.min, IntKind.max, IntKind.signed, IntKind.bits, Bool.and_eq_true, decide_eq_true_eq] at h
  simp at h
  omega
theorem i64_in {x : Int} (h : (Lit.int .i64 x).wf = true) : -9223372036854775808 ≤ x ∧ x ≤ 9223372036854775807 := by
  simp only [Lit.wf, IntKind.min, IntKind.max, IntKind.signed, IntKind.bits, Bool.and_eq_true, decide_eq_true_eq] at h
  simp at h
  omega

theorem sIn (a b c : Int) : spec_l01In.f a b c = some (decide (b ≤ a) && decide (a ≤ c)) := by
  unfold spec_l01In.f
  by_cases h : a ≥ b
  · rw [if_pos h]; simp [show b ≤ a from h]
  · rw [if_neg h]; simp [show ¬ b ≤ a from h]

theorem iIn (a b c : Int) : impl_within.f a b c = some (decide (b ≤ a) && decide (a ≤ c)) := by
  unfold impl_within.f
  by_cases h : a ≥ b
  · rw [if_pos h]; simp [show b ≤ a from h]
  · rw [if_neg h]; simp [show ¬ b ≤ a from h]

/-- The bytes of a number, seven bits in each, the lowest first. -/
def varL : Nat → Int → List Int
  | 0, n => [n]
  | f + 1, n => if n > 127 then (n % 128 + 128) :: varL f (n / 128) else [n]
theorem varL_in (f : Nat) : ∀ n : Int, 0 ≤ n → n < 128 ^ (f + 1) → ∀ c ∈ varL f n, 0 ≤ c ∧ c ≤ 255 := by
  induction f with
  | zero =>
    intro n h0 h1 c hc
    have : c = n := by simpa [varL] using hc
    omega
  | succ f ih =>
    intro n h0 h1 c hc
    unfold varL at hc
    split at hc
    · rcases List.mem_cons.1 hc with rfl | hc
      · omega
      · have h3 : n < 128 ^ (f + 1) * 128 := by rw [← Int.pow_succ]; exact h1
        exact ih (n / 128) (by omega) (by omega) c hc
    · have : c = n := by simpa using hc
      omega
theorem varL_len (f : Nat) : ∀ n : Int, (varL f n).length ≤ f + 1 := by
  induction f with
  | zero => intro n; simp [varL]
  | succ f ih =>
    intro n
    unfold varL
    split
    · have := ih (n / 128)
      simp
      omega
    · simp

theorem spec_l01Var_l (f : Nat) : ∀ (k : Nat) (n : Int) (acc : List Int), 0 ≤ n → n < 128 ^ (f + 1) → n ≤ 9223372036854775807 → acc.length + f < 1000 → f < k →
    spec_l01Var.l0 k n acc = some (strOfNums (acc ++ varL f n)) := by
  induction f with
  | zero =>
    intro k n acc h0 h1 hm ha hk
    obtain ⟨k, rfl⟩ := succ_of hk
    simp only [spec_l01Var.l0]
    rw [if_neg (by omega), if_pos (by omega), show n % 256 = n by omega]
    rfl
  | succ f ih =>
    intro k n acc h0 h1 hm ha hk
    obtain ⟨k, rfl⟩ := succ_of hk
    simp only [spec_l01Var.l0]
    by_cases h : n > 127
    · have e : varL (f + 1) n = (n % 128 + 128) :: varL f (n / 128) := by rw [varL, if_pos h]
      have h3 : n < 128 ^ (f + 1) * 128 := by rw [← Int.pow_succ]; exact h1
      rw [if_pos h, if_pos (by omega), Int.tdiv_eq_ediv_of_nonneg h0, Int.tmod_eq_emod_of_nonneg h0, w64 (by omega) (by omega), w64 (by omega) (by omega),
        show (n % 128 + 128) % 256 = n % 128 + 128 by omega, ih k (n / 128) _ (by omega) (by omega) (by omega) (by rw [List.length_append, List.length_singleton]; omega) (by omega), e, List.append_assoc]
      rfl
    · have e : varL (f + 1) n = [n] := by rw [varL, if_neg h]
      rw [if_neg h, if_pos (by omega), show n % 256 = n by omega, e]
theorem spec_l01Var_k {n : Int} (h0 : 0 ≤ n) (h1 : n ≤ 1000000000) {k : Nat} (hk : 4 < k) : spec_l01Var.f k n = some (strOfNums (varL 4 n)) := by
  have := spec_l01Var_l 4 k n [] h0 (by omega) (by omega) (by simp) hk
  exact this

/-! Reading a number back. -/
def val : List Int → Int → Int
  | [], c => c
  | x :: cs, c => (x - 128) + 128 * val cs c
theorem val_eq (cs : List Int) (c : Int) : val cs c = val cs 0 + 128 ^ cs.length * c := by
  induction cs with
  | nil => simp [val]
  | cons x cs ih =>
    rw [val, ih, val, List.length_cons, Int.pow_succ, Int.mul_assoc, Int.mul_left_comm]
    omega
theorem val_snoc (cs : List Int) (x c : Int) : val (cs ++ [x]) c = val cs (x - 128 + 128 * c) := by
  induction cs with
  | nil => rfl
  | cons y cs ih => rw [List.cons_append, val, ih, val]
theorem val_in {cs : List Int} (h : ∀ x ∈ cs, 128 ≤ x ∧ x ≤ 255) {c : Int} (h0 : 0 ≤ c) : 0 ≤ val cs c ∧ (c ≤ 127 → val cs c < 128 ^ (cs.length + 1)) := by
  induction cs with
  | nil => simp [val]; omega
  | cons x cs ih =>
    have := h x (List.mem_cons_self ..)
    have ih := ih (fun y hy => h y (List.mem_cons_of_mem _ hy))
    rw [val, List.length_cons, Int.pow_succ _ (cs.length + 1)]
    refine ⟨by omega, fun hc => ?_⟩
    have := ih.2 hc
    omega
theorem varL_val {cs : List Int} (h : ∀ x ∈ cs, 128 ≤ x ∧ x ≤ 255) {c : Int} (h0 : 0 ≤ c) (h1 : c ≤ 127) : ∀ f, cs.length ≤ f → (varL f (val cs c) = cs ++ [c] ↔ (cs.length = 0 ∨ c ≠ 0)) := by
  induction cs with
  | nil =>
    intro f _
    have : varL f c = [c] := by cases f <;> simp [varL]; omega
    simp [val, this]
  | cons x cs ih =>
    intro f hf
    have hx := h x (List.mem_cons_self ..)
    have hr : ∀ y ∈ cs, 128 ≤ y ∧ y ≤ 255 := fun y hy => h y (List.mem_cons_of_mem _ hy)
    have hv := (val_in hr h0).1
    cases f with
    | zero => simp at hf
    | succ f =>
      have ih := ih hr f (by simpa using hf)
      rw [val, varL]
      by_cases hz : val cs c = 0
      · have hc : c = 0 := by
          have e := val_eq cs c
          have hv0 := (val_in hr (Int.le_refl 0)).1
          have hp : (0 : Int) < 128 ^ cs.length := Int.pow_pos (by omega)
          by_cases hcz : c = 0
          · exact hcz
          · have : 0 < 128 ^ cs.length * c := Int.mul_pos hp (by omega)
            omega
        rw [hz, if_neg (by omega)]
        simp [hc]
      · rw [if_pos (by omega), show (x - 128 + 128 * val cs c) % 128 + 128 = x by omega, show (x - 128 + 128 * val cs c) / 128 = val cs c by omega, List.cons_append]
        simp only [List.cons.injEq, true_and]
        rw [ih]
        constructor
        · rintro (h2 | h2)
          · have : cs = [] := List.length_eq_zero_iff.1 h2
            subst this
            exact .inr hz
          · exact .inr h2
        · rintro (h2 | h2)
          · simp at h2
          · exact .inr h2
def readGo : Nat → List Int → List Int → Option (Int × Nat)
  | 0, _, _ => none
  | _ + 1, _, [] => none
  | f + 1, cs, c :: ys =>
    if c < 128 then (if (0 < cs.length ∧ c = 0) ∨ val cs c > 1000000000 then none else some (val cs c, cs.length + 1)) else readGo f (cs ++ [c]) ys
def readR (a : Int) : Option (Int × Nat) → Int × Int × Bool
  | none => (0, 0, false)
  | some (n, l) => (n, a + (l : Int), true)
def readM (s : ByteArray) (a : Int) : Int × Int × Bool :=
  if 0 ≤ a ∧ a ≤ (s.size : Int) then readR a (readGo 5 [] ((bytesOf s).drop a.toNat)) else (0, 0, false)
theorem bx_split {s : ByteArray} {a : Int} (h0 : 0 ≤ a) (h1 : a ≤ (s.size : Int)) : bytesOf s = (bytesOf s).take a.toNat ++ (bytesOf s).drop a.toNat ∧ (((bytesOf s).take a.toNat).length : Int) = a := by
  refine ⟨(List.take_append_drop _ _).symm, ?_⟩
  rw [List.length_take, bx_len]
  omega
theorem p5 {n : Nat} (h : n < 5) : (128 : Int) ^ n ≤ 268435456 ∧ (1 : Int) ≤ 128 ^ n := by
  have : n = 0 ∨ n = 1 ∨ n = 2 ∨ n = 3 ∨ n = 4 := by omega
  rcases this with rfl | rfl | rfl | rfl | rfl <;> decide
theorem val5 {cs : List Int} (hb : ∀ x ∈ cs, 128 ≤ x ∧ x ≤ 255) (hl : cs.length < 5) {c : Int} (h0 : 0 ≤ c) (h1 : c ≤ 127) : 0 ≤ val cs c ∧ val cs c < 34359738368 := by
  have := val_in hb h0
  have h2 := this.2 h1
  have := p5 hl
  rw [Int.pow_succ] at h2
  omega

theorem shl7 {c : Int} (h0 : 0 ≤ c) (h1 : c ≤ 127) {n : Nat} (hn : n < 5) : shl .i64 c (wrap64 (7 * (n : Int))) = 128 ^ n * c := by
  rw [w64 (by omega) (by omega)]
  have : n = 0 ∨ n = 1 ∨ n = 2 ∨ n = 3 ∨ n = 4 := by omega
  rcases this with rfl | rfl | rfl | rfl | rfl
  all_goals
    unfold shl
    rw [IntKind.wrap_i64]
    simp [IntKind.bits]
    omega
theorem impl_ReadVar_l {s : ByteArray} (hs : s.size ≤ 140737488351232) (pre : List Int) : ∀ (f : Nat) (cs ys : List Int) (k : Nat), cs.length + f = 5 → bytesOf s = (pre ++ cs) ++ ys →
    (∀ x ∈ cs, 128 ≤ x ∧ x ≤ 255) → 2 * f + 1 < k → impl_ReadVar.l0 k s (pre.length : Int) (val cs 0) (cs.length : Int) = some (readR (pre.length : Int) (readGo f cs ys)) := by
  intro f
  induction f with
  | zero =>
    intro cs ys k hf h hb hk
    obtain ⟨k, rfl⟩ : ∃ m, k = m + 2 := ⟨k - 2, by omega⟩
    simp only [impl_ReadVar.l0, impl_ReadVar.j1]
    rw [if_neg (by omega), if_neg (by decide)]
    rfl
  | succ f ih =>
    intro cs ys k hf h hb hk
    obtain ⟨k, rfl⟩ : ∃ m, k = m + 2 := ⟨k - 2, by omega⟩
    have hl := congrArg List.length h
    rw [bx_len, List.length_append, List.length_append] at hl
    have hw : wrap64 ((pre.length : Int) + (cs.length : Int)) = ((pre ++ cs).length : Int) := by rw [w64 (by omega) (by omega), List.length_append]; omega
    simp only [impl_ReadVar.l0, impl_ReadVar.j1]
    rw [if_pos (by omega), hw]
    cases ys with
    | nil =>
      rw [decide_eq_false (by rw [bx_end h]; omega), if_neg (by decide)]
      rfl
    | cons c ys =>
      have hc := bx_in h
      have hlt := bx_lt h
      rw [decide_eq_true hlt, if_pos rfl, if_pos (by omega), if_pos hlt, if_pos (by rw [w64 (by omega) (by omega)]; omega), bx_at h, w64 (show _ ≤ c by omega) (by omega), Int.tmod_eq_emod_of_nonneg hc.1]
      have hs7 := shl7 (c := c % 128) (by omega) (by omega) (n := cs.length) (by omega)
      have hv := val5 hb (by omega) (c := c % 128) (by omega) (by omega)
      have e : val cs 0 + 128 ^ cs.length * (c % 128) = val cs (c % 128) := (val_eq cs _).symm
      rw [hs7, e, w64 (show _ ≤ val cs (c % 128) by omega) (by omega), readGo]
      by_cases h1 : c < 128
      · rw [if_neg (by omega), if_pos h1, show c % 128 = c by omega, bx_wrap h hs, len_next, List.length_append]
        rw [show c % 128 = c by omega] at hv
        by_cases h2 : (cs.length : Int) > 0
        · rw [if_pos h2]
          by_cases h3 : c = 0
          · rw [if_pos h3, if_pos (.inl ⟨by omega, h3⟩)]
            rfl
          · rw [if_neg h3]
            by_cases h4 : val cs c > 1000000000
            · rw [if_pos h4, if_pos (.inr h4)]
              rfl
            · rw [if_neg h4, if_neg (by rintro (⟨_, h5⟩ | h5); exact h3 h5; exact h4 h5)]
              simp [readR]
              omega
        · rw [if_neg h2]
          by_cases h4 : val cs c > 1000000000
          · rw [if_pos h4, if_pos (.inr h4)]
            rfl
          · rw [if_neg h4, if_neg (by rintro (⟨h5, _⟩ | h5); omega; exact h4 h5)]
            simp [readR]
            omega
      · rw [if_pos (by omega), if_neg h1, w64 (by omega) (by omega)]
        have e2 : val cs (c % 128) = val (cs ++ [c]) 0 := by rw [val_snoc]; congr 1; omega
        have hi := ih (cs ++ [c]) ys k (by rw [List.length_append, List.length_singleton]; omega) (by rw [h, List.append_assoc, List.append_assoc, List.append_assoc]; rfl)
          (fun x hx => by rcases List.mem_append.1 hx with hx | hx; exact hb x hx; (have : x = c := (by simpa using hx)); omega) (by omega)
        rw [e2, ← hi, len_next]
theorem impl_ReadVar_ev {s : ByteArray} (hs : s.size ≤ 140737488351232) (a : Int) : Ev (fun k => impl_ReadVar.f k s a) (readM s a) := by
  refine ⟨20, fun k hk => ?_⟩
  dsimp only
  unfold impl_ReadVar.f readM
  rw [iIn, Option.bind_some]
  by_cases h : 0 ≤ a ∧ a ≤ (s.size : Int)
  · obtain ⟨h1, h2⟩ := bx_split h.1 h.2
    have := impl_ReadVar_l hs ((bytesOf s).take a.toNat) 5 [] ((bytesOf s).drop a.toNat) k rfl (by rw [List.append_nil]; exact h1) (by simp) (by omega)
    rw [decide_eq_true h.1, decide_eq_true h.2, Bool.and_self, if_pos rfl, if_pos h, ← h2]
    rw [h2] at this
    rw [h2]
    exact this
  · rw [if_neg h, if_neg]
    simp
    omega

theorem spec_ReadVar_l {s : ByteArray} (hs : s.size ≤ 140737488351232) (pre : List Int) : ∀ (f : Nat) (cs ys : List Int) (k : Nat), cs.length + f = 5 → bytesOf s = (pre ++ cs) ++ ys →
    (∀ x ∈ cs, 128 ≤ x ∧ x ≤ 255) → 2 * f + 10 < k → spec_ReadVar.l0 k s (pre.length : Int) (val cs 0) (128 ^ cs.length) ((pre ++ cs).length : Int) = some (readR (pre.length : Int) (readGo f cs ys)) := by
  intro f
  induction f with
  | zero =>
    intro cs ys k hf h hb hk
    obtain ⟨k, rfl⟩ : ∃ m, k = m + 2 := ⟨k - 2, by omega⟩
    have hl := congrArg List.length h
    rw [bx_len, List.length_append] at hl
    simp only [spec_ReadVar.l0, spec_ReadVar.j1]
    rw [w64 (by rw [List.length_append] at hl; omega) (by rw [List.length_append] at hl; omega), decide_eq_false (by rw [List.length_append]; omega)]
    simp [readGo, readR]
  | succ f ih =>
    intro cs ys k hf h hb hk
    obtain ⟨k, rfl⟩ : ∃ m, k = m + 2 := ⟨k - 2, by omega⟩
    have hl := congrArg List.length h
    rw [bx_len, List.length_append] at hl
    have hpl : (pre ++ cs).length = pre.length + cs.length := List.length_append
    simp only [spec_ReadVar.l0, spec_ReadVar.j1]
    cases ys with
    | nil =>
      rw [if_neg (by rw [bx_end h]; omega), if_neg (by decide)]
      rfl
    | cons c ys =>
      have hc := bx_in h
      have hlt := bx_lt h
      have hv := val5 hb (by omega) (c := c % 128) (by omega) (by omega)
      have hp := p5 (n := cs.length) (by omega)
      have e : val cs 0 + 128 ^ cs.length * (c % 128) = val cs (c % 128) := (val_eq cs _).symm
      have hv0 := (val_in hb (Int.le_refl 0)).1
      have hm : 0 ≤ 128 ^ cs.length * (c % 128) := Int.mul_nonneg (by omega) (by omega)
      rw [if_pos hlt, decide_eq_true (by rw [w64 (by omega) (by omega)]; omega), if_pos rfl, if_pos (by omega), if_pos hlt, bx_at h, w64 (show _ ≤ c by omega) (by omega), Int.tmod_eq_emod_of_nonneg hc.1,
        Int.mul_comm (c % 128), w64 (show _ ≤ 128 ^ cs.length * (c % 128) by omega) (by omega), e, w64 (show _ ≤ val cs (c % 128) by omega) (by omega), readGo, bx_wrap h hs]
      by_cases h1 : c < 128
      · rw [if_pos h1, if_pos h1, show c % 128 = c by omega]
        rw [show c % 128 = c by omega] at hv
        by_cases h4 : val cs c > 1000000000
        · rw [if_pos h4, if_pos (.inr h4)]
          rfl
        · rw [if_neg h4, spec_l01Var_k hv.1 (by omega) (by omega), Option.bind_some, if_pos (by omega), len_next, if_pos (by omega), if_pos (by omega)]
          have hcut : bytesOf (s.extract (pre.length : Int).toNat (((pre ++ cs).length : Int) + 1).toNat) = cs ++ [c] := by
            rw [bx_cut, h, Int.toNat_natCast, show (((pre ++ cs).length : Int) + 1).toNat = (pre ++ cs).length + 1 by omega]
            rw [List.take_length_add_append, List.append_assoc, List.drop_left]
            rfl
          have hvar : bytesOf (strOfNums (varL 4 (val cs c))) = varL 4 (val cs c) := bx_str (varL_in 4 _ hv.1 (by omega))
          have hiff := varL_val hb hc.1 (by omega) 4 (by omega)
          by_cases h5 : 0 < cs.length ∧ c = 0
          · rw [if_neg (by rw [tl_iff, hcut, hvar, hiff]; omega), if_pos (.inl h5)]
            rfl
          · rw [if_pos (by rw [tl_iff, hcut, hvar, hiff]; omega), if_neg (by omega)]
            simp [readR]
            omega
      · rw [if_neg h1, if_neg h1]
        have e2 : val cs (c % 128) = val (cs ++ [c]) 0 := by rw [val_snoc]; congr 1; omega
        have e3 : wrap64 (128 ^ cs.length * 128) = 128 ^ (cs ++ [c]).length := by
          rw [List.length_append, List.length_singleton, Int.pow_succ, w64 (by omega) (by omega)]
        have hi := ih (cs ++ [c]) ys k (by rw [List.length_append, List.length_singleton]; omega) (by rw [h, List.append_assoc, List.append_assoc, List.append_assoc]; rfl)
          (fun x hx => by rcases List.mem_append.1 hx with hx | hx; exact hb x hx; (have : x = c := (by simpa using hx)); omega) (by omega)
        rw [e2, e3, List.append_assoc, ← hi]
theorem spec_ReadVar_ev {s : ByteArray} (hs : s.size ≤ 140737488351232) (a : Int) : Ev (fun k => spec_ReadVar.f k s a) (readM s a) := by
  refine ⟨30, fun k hk => ?_⟩
  dsimp only
  unfold spec_ReadVar.f readM
  rw [sIn, Option.bind_some]
  by_cases h : 0 ≤ a ∧ a ≤ (s.size : Int)
  · obtain ⟨h1, h2⟩ := bx_split h.1 h.2
    have := spec_ReadVar_l hs ((bytesOf s).take a.toNat) 5 [] ((bytesOf s).drop a.toNat) k rfl (by rw [List.append_nil]; exact h1) (by simp) (by omega)
    rw [decide_eq_true h.1, decide_eq_true h.2, Bool.and_self, if_pos rfl, if_pos h]
    rw [List.append_nil, h2] at this
    exact this
  · rw [if_neg h, if_neg]
    simp
    omega

theorem readGo_in : ∀ (f : Nat) (cs ys : List Int), (∀ x ∈ cs, 128 ≤ x ∧ x ≤ 255) → (∀ x ∈ ys, 0 ≤ x ∧ x ≤ 255) → ∀ n l, readGo f cs ys = some (n, l) → 0 ≤ n ∧ n ≤ 1000000000 ∧ cs.length < l ∧ l ≤ cs.length + ys.length := by
  intro f
  induction f with
  | zero => intro cs ys _ _ n l h; cases h
  | succ f ih =>
    intro cs ys hb hy n l h
    cases ys with
    | nil => cases h
    | cons c ys =>
      have hc := hy c (List.mem_cons_self ..)
      rw [readGo] at h
      split at h
      · split at h
        · cases h
        · rename_i h1 h2
          simp only [Option.some.injEq, Prod.mk.injEq] at h
          obtain ⟨rfl, rfl⟩ := h
          refine ⟨(val_in hb hc.1).1, by omega, by omega, by rw [List.length_cons]; omega⟩
      · have := ih (cs ++ [c]) ys (fun x hx => by rcases List.mem_append.1 hx with hx | hx; exact hb x hx; (have : x = c := (by simpa using hx)); omega) (fun x hx => hy x (List.mem_cons_of_mem _ hx)) n l h
        rw [List.length_append, List.length_singleton] at this
        rw [List.length_cons]
        omega
theorem readM_in (s : ByteArray) (a : Int) : 0 ≤ (readM s a).1 ∧ (readM s a).1 ≤ 1000000000 ∧ ((readM s a).2.2 = true → 0 ≤ (readM s a).2.1 ∧ (readM s a).2.1 ≤ (s.size : Int)) := by
  unfold readM
  split
  · rename_i h
    generalize hr : readGo 5 [] ((bytesOf s).drop a.toNat) = r
    cases r with
    | none => simp [readR]
    | some p =>
      obtain ⟨n, l⟩ := p
      have := readGo_in 5 [] _ (by simp) (fun x hx => bx_byte s x (List.mem_of_mem_drop hx)) n l hr
      rw [List.length_drop, bx_len] at this
      simp only [readR, List.length_nil] at this ⊢
      refine ⟨this.1, this.2.1, fun _ => ?_⟩
      omega
  · simp
def readSM (s : ByteArray) (p : Int × Int × Bool) : ByteArray × Int × Bool :=
  if p.2.2 = true then (if p.1 > 20000 then (⟨#[]⟩, 0, false) else (if p.1 > (s.size : Int) - p.2.1 then (⟨#[]⟩, 0, false) else (s.extract p.2.1.toNat (p.2.1 + p.1).toNat, p.2.1 + p.1, true))) else (⟨#[]⟩, 0, false)

theorem spec_ReadShort_ev {s : ByteArray} (hs : s.size ≤ 140737488351232) (a : Int) : Ev (fun k => spec_ReadShort.f k s a) (readSM s (readM s a)) := by
  obtain ⟨K, h⟩ := spec_ReadVar_ev hs a
  refine ⟨K, fun k hk => ?_⟩
  have h := h k hk
  have hin := readM_in s a
  dsimp only at h ⊢
  unfold spec_ReadShort.f readSM
  rw [h, Option.bind_some]
  generalize readM s a = r at hin
  obtain ⟨n, b, ok⟩ := r
  dsimp only at hin ⊢
  cases ok with
  | false => rfl
  | true =>
    have h3 := hin.2.2 rfl
    rw [if_pos rfl, if_pos rfl]
    by_cases h1 : n > 20000
    · rw [if_pos h1, if_pos h1]
    · rw [if_neg h1, if_neg h1, w64 (show _ ≤ (s.size : Int) - b by omega) (by omega), w64 (show _ ≤ b + n by omega) (by omega)]
      by_cases h2 : n > (s.size : Int) - b
      · rw [if_pos h2, if_pos h2]
      · rw [if_neg h2, if_neg h2, if_pos h3.1, if_pos (by omega), if_pos (by omega)]

theorem impl_ReadShort_ev {s : ByteArray} (hs : s.size ≤ 140737488351232) (a : Int) : Ev (fun k => impl_ReadShort.f k s a) (readSM s (readM s a)) := by
  obtain ⟨K, h⟩ := impl_ReadVar_ev hs a
  refine ⟨K, fun k hk => ?_⟩
  have h := h k hk
  have hin := readM_in s a
  dsimp only at h ⊢
  unfold impl_ReadShort.f readSM
  rw [h, Option.bind_some]
  generalize readM s a = r at hin
  obtain ⟨n, b, ok⟩ := r
  dsimp only at hin ⊢
  cases ok with
  | false => rfl
  | true =>
    have h3 := hin.2.2 rfl
    rw [if_pos rfl, if_pos rfl]
    by_cases h1 : n > 20000
    · rw [if_pos h1, if_pos h1]
    · rw [if_neg h1, if_neg h1, w64 (show _ ≤ (s.size : Int) - b by omega) (by omega), w64 (show _ ≤ b + n by omega) (by omega)]
      by_cases h2 : n > (s.size : Int) - b
      · rw [if_pos h2, if_pos h2]
      · rw [if_neg h2, if_neg h2, if_pos h3.1, if_pos (by omega), if_pos (by omega)]

theorem FnExactReadShort : laws_FnExactReadShort.Pure := by
  intro s a hs ha
  obtain ⟨k, h, h'⟩ := ev2 (spec_ReadShort_ev hs a) (impl_ReadShort_ev hs a)
  refine ⟨k, ?_⟩
  unfold laws_FnExactReadShort.f
  rw [h, h']
  simp

end Go.Proofs.Ytipegeaimloobaa.Pure
