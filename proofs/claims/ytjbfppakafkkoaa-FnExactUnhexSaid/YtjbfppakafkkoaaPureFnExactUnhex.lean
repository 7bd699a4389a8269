/- The pure statement of FnExactUnhex: over numbers and lists, what the printed functions come to is what the law wants, for every input. -/
import Derived.Test.YtjbfppakafkkoaaQFnExactUnhexx1
set_option linter.unusedVariables false
set_option linter.unusedSimpArgs false
namespace Go.Proofs.Ytjbfppakafkkoaa.Pure
open Go.RowKit Go.Proofs.Ytjbfppakafkkoaa.QFnExactUnhex Go.Proofs.YtjbfppakafkkoaaW.PrintWords Go.Proofs.YtjbfppakafkkoaaW.PrintLast
/-! Words on strings as lists of numbers. -/
theorem w64 {x : Int} (h0 : -9223372036854775808 ≤ x) (h1 : x ≤ 9223372036854775807) : wrap64 x = x := by
  unfold wrap64
  omega
theorem bx_len (s : ByteArray) : (bytesOf s).length = s.size := bytesOf_length s
theorem bx_byte (s : ByteArray) : ∀ c ∈ bytesOf s, 0 ≤ c ∧ c ≤ 255 := by
  intro c hc
  unfold bytesOf at hc
  obtain ⟨b, _, rfl⟩ := List.mem_map.1 hc
  have := b.toNat_lt
  omega
theorem bx_at {s : ByteArray} {pre ys : List Int} {c : Int} (h : bytesOf s = pre ++ c :: ys) : bt s (pre.length : Int) = c := by
  rw [← rd_bytesOf, h, rd, Int.toNat_natCast, List.getD_eq_getElem?_getD, List.getElem?_append_right (Nat.le_refl _)]
  simp
theorem bx_lt {s : ByteArray} {pre ys : List Int} {c : Int} (h : bytesOf s = pre ++ c :: ys) : (pre.length : Int) < (s.size : Int) := by
  have := congrArg List.length h
  rw [bx_len, List.length_append, List.length_cons] at this
  omega
theorem bx_end {s : ByteArray} {pre : List Int} (h : bytesOf s = pre ++ []) : (s.size : Int) = (pre.length : Int) := by
  have := congrArg List.length h
  rw [bx_len, List.append_nil] at this
  omega
theorem bx_next {s : ByteArray} {pre ys : List Int} {c : Int} (h : bytesOf s = pre ++ c :: ys) : bytesOf s = (pre ++ [c]) ++ ys := by
  rw [h, List.append_assoc]; rfl
theorem len_next (pre : List Int) (c : Int) : ((pre ++ [c]).length : Int) = (pre.length : Int) + 1 := by
  rw [List.length_append, List.length_singleton]; omega
theorem bx_inj {s t : ByteArray} (h : bytesOf s = bytesOf t) : s = t := by
  unfold bytesOf at h
  have h2 : s.data.toList = t.data.toList := by
    refine (List.map_inj_right (f := fun b : UInt8 => (b.toNat : Int)) ?_).1 h
    intro x y hxy
    exact UInt8.toNat_inj.1 (Int.ofNat_inj.1 hxy)
  exact ByteArray.ext (Array.toList_inj.1 h2)
theorem tl_inj {s t : ByteArray} (h : s.toList = t.toList) : s = t := by
  rw [ByteArray.toList_eq, ByteArray.toList_eq] at h
  exact ByteArray.ext (Array.toList_inj.1 h)
theorem tl_iff {s t : ByteArray} : s.toList = t.toList ↔ bytesOf s = bytesOf t := ⟨fun h => by rw [tl_inj h], fun h => by rw [bx_inj h]⟩
theorem bx_app (s t : ByteArray) : bytesOf (s ++ t) = bytesOf s ++ bytesOf t := by
  simp [bytesOf]
theorem bx_cut (s : ByteArray) (a b : Nat) : bytesOf (s.extract a b) = ((bytesOf s).take b).drop a := by
  simp [bytesOf, ByteArray.data_extract, List.map_drop, List.map_take, List.take_drop]
  rw [List.drop_take, List.drop_take]
  congr 1
  omega
theorem bx_str {xs : List Int} (h : ∀ c ∈ xs, 0 ≤ c ∧ c ≤ 255) : bytesOf (strOfNums xs) = xs := by
  unfold bytesOf
  rw [strOfNums_data, List.map_map]
  induction xs with
  | nil => rfl
  | cons c xs ih =>
    rw [List.map_cons, ih (fun d hd => h d (List.mem_cons_of_mem _ hd))]
    have hc := h c (List.mem_cons_self ..)
    congr 1
    have e : (UInt8.ofNat c.toNat).toNat = c.toNat := by
      rw [UInt8.toNat_ofNat']
      omega
    show ((UInt8.ofNat c.toNat).toNat : Int) = c
    rw [e]
    omega
theorem bx_wrap {s : ByteArray} {pre ys : List Int} {c : Int} (h : bytesOf s = pre ++ c :: ys) (hs : s.size ≤ 140737488351232) : wrap64 ((pre.length : Int) + 1) = ((pre ++ [c]).length : Int) := by
  rw [len_next]
  have := bx_lt h
  exact w64 (by omega) (by omega)
theorem bx_in {s : ByteArray} {pre ys : List Int} {c : Int} (h : bytesOf s = pre ++ c :: ys) : 0 ≤ c ∧ c ≤ 255 :=
  bx_byte s c (by rw [h]; exact List.mem_append_right _ (List.mem_cons_self ..))
theorem succ_of {n k : Nat} (h : n < k) : ∃ m, k = m + 1 := ⟨k - 1, by omega⟩
theorem ev2 {α β : Type} {g : Nat → Option α} {f : Nat → Option β} {a : α} {b : β} (h : Ev g a) (h' : Ev f b) : ∃ k, g k = some a ∧ f k = some b := by
  obtain ⟨K, h⟩ := h
  obtain ⟨K', h'⟩ := h'
  exact ⟨K + K', h _ (by omega), h' _ (by omega)⟩

/-! Figures of sixteen, read back. -/
def hv (c : Int) : Int := if 48 ≤ c ∧ c ≤ 57 then c - 48 else if 97 ≤ c ∧ c ≤ 102 then c - 87 else -1
theorem hv_in (c : Int) : -1 ≤ hv c ∧ hv c ≤ 15 := by
  unfold hv
  split
  · omega
  · split <;> omega
def unhexL : Nat → List Int → Option (List Int)
  | 0, _ => some []
  | n + 1, a :: b :: ys => if hv a < 0 ∨ hv b < 0 then none else (unhexL n ys).map fun out => (16 * hv a + hv b) :: out
  | _ + 1, _ => none
def unhexR (acc : List Int) : Option (List Int) → ByteArray × Bool
  | none => (⟨#[]⟩, false)
  | some out => (strOfNums (acc ++ out), true)
theorem unhexR_cons (acc : List Int) (x : Int) (o : Option (List Int)) : unhexR acc (o.map fun out => x :: out) = unhexR (acc ++ [x]) o := by
  cases o with
  | none => rfl
  | some out =>
    show (strOfNums (acc ++ x :: out), true) = (strOfNums (acc ++ [x] ++ out), true)
    rw [List.append_assoc]
    rfl
def unhexM (s : ByteArray) : ByteArray × Bool := if s.size ≤ 40000 ∧ s.size % 2 = 0 then unhexR [] (unhexL (s.size / 2) (bytesOf s)) else (⟨#[]⟩, false)

theorem sValue {c : Int} (h0 : 0 ≤ c) (h1 : c ≤ 255) {k : Nat} (hk : 1 ≤ k) : spec_l01Value.f k c = some (hv c) := by
  obtain ⟨k, rfl⟩ : ∃ m, k = m + 1 := ⟨k - 1, by omega⟩
  unfold spec_l01Value.f
  simp only [spec_l01Value.j0]
  rw [w64 (show _ ≤ c by omega) (by omega), w64 (show _ ≤ c - 48 by omega) (by omega), w64 (show _ ≤ c - 97 by omega) (by omega), w64 (show _ ≤ c - 97 + 10 by omega) (by omega)]
  unfold hv
  repeat' split
  all_goals first | rfl | (simp only [Option.some.injEq, decide_eq_true_eq] at *; omega) | (simp_all; done) | (simp_all; omega)
theorem spec_Unhex_l {s : ByteArray} (hs : s.size ≤ 1048576) : ∀ (n : Nat) (ys pre acc : List Int) (k : Nat), bytesOf s = pre ++ ys → ys.length = 2 * n → acc.length + n ≤ 1048576 → n + 2 < k →
    spec_Unhex.l0 k s acc (pre.length : Int) = some (unhexR acc (unhexL n ys)) := by
  intro n
  induction n with
  | zero =>
    intro ys pre acc k h hy ha hk
    obtain ⟨k, rfl⟩ := succ_of hk
    have : ys = [] := List.length_eq_zero_iff.1 (by omega)
    subst this
    have he := bx_end h
    simp only [spec_Unhex.l0]
    rw [if_neg (by omega)]
    show some (strOfNums acc, true) = some (strOfNums (acc ++ []), true)
    rw [List.append_nil]
  | succ n ih =>
    intro ys pre acc k h hy ha hk
    obtain ⟨k, rfl⟩ := succ_of hk
    match ys, hy with
    | a :: b :: ys, hy =>
      have hlt := bx_lt h
      have h2 : bytesOf s = (pre ++ [a]) ++ b :: ys := bx_next h
      have hlt2 := bx_lt h2
      have hw := bx_wrap h (by omega)
      have hab := bx_in h
      have hbb := bx_in h2
      have hva := hv_in a
      have hvb := hv_in b
      simp only [spec_Unhex.l0]
      rw [if_pos hlt, if_pos (by omega), bx_at h, sValue hab.1 hab.2 (by omega), Option.bind_some, hw, if_pos (by omega), if_pos hlt2, bx_at h2, sValue hbb.1 hbb.2 (by omega), Option.bind_some, unhexL]
      by_cases c1 : hv a < 0
      · rw [if_pos c1, if_pos (.inl c1)]
        rfl
      · rw [if_neg c1]
        by_cases c2 : hv b < 0
        · rw [if_pos c2, if_pos (.inr c2)]
          rfl
        · rw [if_neg c2, if_pos (show acc.length < 140737488355328 by omega), if_neg (show ¬ (hv a < 0 ∨ hv b < 0) by omega), w64 (show _ ≤ 16 * hv a by omega) (by omega), w64 (show _ ≤ 16 * hv a + hv b by omega) (by omega), show (16 * hv a + hv b) % 256 = 16 * hv a + hv b by omega, unhexR_cons]
          have hi := ih ys (pre ++ [a] ++ [b]) (acc ++ [16 * hv a + hv b]) k (bx_next h2) (by simp at hy; omega) (by rw [List.length_append, List.length_singleton]; omega) (by omega)
          rw [w64 (show _ ≤ (pre.length : Int) + 2 by omega) (by omega)]
          rw [len_next, len_next] at hi
          rw [show (pre.length : Int) + 2 = (pre.length : Int) + 1 + 1 by omega]
          exact hi
theorem spec_Unhex_ev {s : ByteArray} (hs : s.size ≤ 1048576) : Ev (fun k => spec_Unhex.f k s) (unhexM s) := by
  refine ⟨1048600, fun k hk => ?_⟩
  obtain ⟨k, rfl⟩ : ∃ m, k = m + 1 := ⟨k - 1, by omega⟩
  dsimp only
  unfold spec_Unhex.f unhexM
  simp only [spec_Unhex.j0]
  by_cases c1 : (s.size : Int) > 40000
  · rw [if_pos c1, if_pos trivial, if_neg (by omega)]
  · rw [if_neg c1]
    by_cases c2 : (s.size : Int) % 2 = 0
    · rw [if_neg (by simp [c2]), if_pos (by omega)]
      exact spec_Unhex_l hs (s.size / 2) (bytesOf s) [] [] k rfl (by rw [bx_len]; omega) (by simp; omega) (by omega)
    · rw [if_pos (by simp [c2]), if_neg (by omega)]

theorem ix_all : ∀ c : Fin 256, Go.Lib.indexByte (⟨#[48, 49, 50, 51, 52, 53, 54, 55, 56, 57, 97, 98, 99, 100, 101, 102]⟩ : ByteArray).data.toList c.val.toUInt8 = hv (c.val : Int) := by
  decide +kernel
theorem ixHex {c : Int} (h0 : 0 ≤ c) (h1 : c ≤ 255) : strings_IndexByte.f (⟨#[48, 49, 50, 51, 52, 53, 54, 55, 56, 57, 97, 98, 99, 100, 101, 102]⟩ : ByteArray) c = some (hv c) := by
  have := ix_all ⟨c.toNat, by omega⟩
  dsimp only at this
  rw [show ((c.toNat : Nat) : Int) = c by omega] at this
  unfold strings_IndexByte.f
  rw [this]
theorem impl_Unhex_l {s : ByteArray} (hs : s.size ≤ 1048576) : ∀ (n : Nat) (ys pre acc : List Int) (k : Nat), bytesOf s = pre ++ ys → ys.length = 2 * n → acc.length + n ≤ 1048576 → n + 2 < k →
    impl_Unhex.l0 k s acc (pre.length : Int) = some (unhexR acc (unhexL n ys)) := by
  intro n
  induction n with
  | zero =>
    intro ys pre acc k h hy ha hk
    obtain ⟨k, rfl⟩ := succ_of hk
    have : ys = [] := List.length_eq_zero_iff.1 (by omega)
    subst this
    have he := bx_end h
    simp only [impl_Unhex.l0]
    rw [if_neg (by omega)]
    show some (strOfNums acc, true) = some (strOfNums (acc ++ []), true)
    rw [List.append_nil]
  | succ n ih =>
    intro ys pre acc k h hy ha hk
    obtain ⟨k, rfl⟩ := succ_of hk
    match ys, hy with
    | a :: b :: ys, hy =>
      have hlt := bx_lt h
      have h2 : bytesOf s = (pre ++ [a]) ++ b :: ys := bx_next h
      have hlt2 := bx_lt h2
      have hw := bx_wrap h (by omega)
      have hab := bx_in h
      have hbb := bx_in h2
      have hva := hv_in a
      have hvb := hv_in b
      simp only [impl_Unhex.l0]
      rw [if_pos hlt, if_pos (by omega), bx_at h, ixHex hab.1 hab.2, Option.bind_some, hw, if_pos (by omega), if_pos hlt2, bx_at h2, ixHex hbb.1 hbb.2, Option.bind_some, unhexL]
      by_cases c1 : hv a < 0
      · rw [if_pos c1, if_pos (.inl c1)]
        rfl
      · rw [if_neg c1]
        by_cases c2 : hv b < 0
        · rw [if_pos c2, if_pos (.inr c2)]
          rfl
        · rw [if_neg c2, if_pos (show acc.length < 140737488355328 by omega), if_neg (show ¬ (hv a < 0 ∨ hv b < 0) by omega), w64 (show _ ≤ 16 * hv a by omega) (by omega), w64 (show _ ≤ 16 * hv a + hv b by omega) (by omega), show (16 * hv a + hv b) % 256 = 16 * hv a + hv b by omega, unhexR_cons]
          have hi := ih ys (pre ++ [a] ++ [b]) (acc ++ [16 * hv a + hv b]) k (bx_next h2) (by simp at hy; omega) (by rw [List.length_append, List.length_singleton]; omega) (by omega)
          rw [w64 (show _ ≤ (pre.length : Int) + 2 by omega) (by omega)]
          rw [len_next, len_next] at hi
          rw [show (pre.length : Int) + 2 = (pre.length : Int) + 1 + 1 by omega]
          exact hi
theorem impl_Unhex_ev {s : ByteArray} (hs : s.size ≤ 1048576) : Ev (fun k => impl_Unhex.f k s) (unhexM s) := by
  refine ⟨1048600, fun k hk => ?_⟩
  obtain ⟨k, rfl⟩ : ∃ m, k = m + 1 := ⟨k - 1, by omega⟩
  dsimp only
  unfold impl_Unhex.f unhexM
  simp only [impl_Unhex.j0]
  by_cases c2 : (s.size : Int) % 2 = 0
  · rw [if_pos c2]
    by_cases c1 : (s.size : Int) > 40000
    · rw [if_pos (decide_eq_true c1), if_neg (by omega)]
    · rw [if_neg (by simp; omega), if_pos (by omega)]
      exact impl_Unhex_l hs (s.size / 2) (bytesOf s) [] [] k rfl (by rw [bx_len]; omega) (by simp; omega) (by omega)
  · rw [if_neg c2, if_pos trivial, if_neg (by omega)]

theorem FnExactUnhex : laws_FnExactUnhex.Pure := by
  intro s hs
  by_cases c : (s.size : Int) > 1048576
  · refine ⟨0, ?_⟩
    unfold laws_FnExactUnhex.f
    rw [if_pos c]
  · obtain ⟨k, h, h'⟩ := ev2 (spec_Unhex_ev (s := s) (by omega)) (impl_Unhex_ev (s := s) (by omega))
    refine ⟨k, ?_⟩
    unfold laws_FnExactUnhex.f
    rw [h, h']
    simp

end Go.Proofs.Ytjbfppakafkkoaa.Pure
