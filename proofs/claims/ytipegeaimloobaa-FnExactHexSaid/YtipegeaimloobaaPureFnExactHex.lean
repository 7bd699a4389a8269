/- The pure statement of FnExactHex: over numbers and lists, what the printed functions come to is what the law wants, for every input. -/
import Derived.Test.YtipegeaimloobaaQFnExactHexx1
set_option linter.unusedVariables false
set_option linter.unusedSimpArgs false
namespace Go.Proofs.Ytipegeaimloobaa.Pure
open Go.RowKit Go.Proofs.Ytipegeaimloobaa.QFnExactHex Go.Proofs.YtipegeaimloobaaW.PrintWords Go.Proofs.YtipegeaimloobaaW.PrintLast
/-! Words on strings as lists of numbers. -/
theorem w64 {x : Int} (h0 : -9223372036854775808 ≤ x) (h1 : x ≤ 9223372036854775807) : wrap64 x = x := by
  unfold wrap64
  omega
theorem bx_len (s : ByteArray) : (bytesOf s).length = s.size := bytesOf_length s
theorem bx_byte (s : ByteArray) : ∀ c ∈ bytesOf s, 0 ≤ c ∧ c ≤ 255 := by
  intro c hc
  unfold bytesOf at hc
  obtain ⟨b, _, rfl⟩ := List.mem_map.1 hc
  have := b.toNat_lt
  omega
theorem bx_at {s : ByteArray} {pre ys : List Int} {c : Int} (h : bytesOf s = pre ++ c :: ys) : bt s (pre.length : Int) = c := by
  rw [← rd_bytesOf, h, rd, Int.toNat_natCast, List.getD_eq_getElem?_getD, List.getElem?_append_right (Nat.le_refl _)]
  simp
theorem bx_lt {s : ByteArray} {pre ys : List Int} {c : Int} (h : bytesOf s = pre ++ c :: ys) : (pre.length : Int) < (s.size : Int) := by
  have := congrArg List.length h
  rw [bx_len, List.length_append, List.length_cons] at this
  omega
theorem bx_end {s : ByteArray} {pre : List Int} (h : bytesOf s = pre ++ []) : (s.size : Int) = (pre.length : Int) := by
  have := congrArg List.length h
  rw [bx_len, List.append_nil] at this
  omega
theorem bx_next {s : ByteArray} {pre ys : List Int} {c : Int} (h : bytesOf s = pre ++ c :: ys) : bytesOf s = (pre ++ [c]) ++ ys := by
  rw [h, List.append_assoc]; rfl
theorem len_next (pre : List Int) (c : Int) : ((pre ++ [c]).length : Int) = (pre.length : Int) + 1 := by
  rw [List.length_append, List.length_singleton]; omega
theorem bx_inj {s t : ByteArray} (h : bytesOf s = bytesOf t) : s = t := by
  unfold bytesOf at h
  have h2 : s.data.toList = t.data.toList := by
    refine (List.map_inj_right (f := fun b : UInt8 => (b.toNat : Int)) ?_).1 h
    intro x y hxy
    exact UInt8.toNat_inj.1 (Int.ofNat_inj.1 hxy)
  exact ByteArray.ext (Array.toList_inj.1 h2)
theorem tl_inj {s t : ByteArray} (h : s.toList = t.toList) : s = t := by
  rw [ByteArray.toList_eq, ByteArray.toList_eq] at h
  exact ByteArray.ext (Array.toList_inj.1 h)
theorem tl_iff {s t : ByteArray} : s.toList = t.toList ↔ bytesOf s = bytesOf t := ⟨fun h => by rw [tl_inj h], fun h => by rw [bx_inj h]⟩
theorem bx_app (s t : ByteArray) : bytesOf (s ++ t) = bytesOf s ++ bytesOf t := by
  simp [bytesOf]
theorem bx_cut (s : ByteArray) (a b : Nat) : bytesOf (s.extract a b) = ((bytesOf s).take b).drop a := by
  simp [bytesOf, ByteArray.data_extract, List.map_drop, List.map_take, List.take_drop]
  rw [List.drop_take, List.drop_take]
  congr 1
  omega
theorem bx_str {xs : List Int} (h : ∀ c ∈ xs, 0 ≤ c ∧ c ≤ 255) : bytesOf (strOfNums xs) = xs := by
  unfold bytesOf
  rw [strOfNums_data, List.map_map]
  induction xs with
  | nil => rfl
  | cons c xs ih =>
    rw [List.map_cons, ih (fun d hd => h d (List.mem_cons_of_mem _ hd))]
    have hc := h c (List.mem_cons_self ..)
    congr 1
    have e : (UInt8.ofNat c.toNat).toNat = c.toNat := by
      rw [UInt8.toNat_ofNat']
      omega
    show ((UInt8.ofNat c.toNat).toNat : Int) = c
    rw [e]
    omega
theorem bx_wrap {s : ByteArray} {pre ys : List Int} {c : Int} (h : bytesOf s = pre ++ c :: ys) (hs : s.size ≤ 140737488351232) : wrap64 ((pre.length : Int) + 1) = ((pre ++ [c]).length : Int) := by
  rw [len_next]
  have := bx_lt h
  exact w64 (by omega) (by omega)
theorem bx_in {s : ByteArray} {pre ys : List Int} {c : Int} (h : bytesOf s = pre ++ c :: ys) : 0 ≤ c ∧ c ≤ 255 :=
  bx_byte s c (by rw [h]; exact List.mem_append_right _ (List.mem_cons_self ..))
theorem succ_of {n k : Nat} (h : n < k) : ∃ m, k = m + 1 := ⟨k - 1, by omega⟩
theorem ev2 {α β : Type} {g : Nat → Option α} {f : Nat → Option β} {a : α} {b : β} (h : Ev g a) (h' : Ev f b) : ∃ k, g k = some a ∧ f k = some b := by
  obtain ⟨K, h⟩ := h
  obtain ⟨K', h'⟩ := h'
  exact ⟨K + K', h _ (by omega), h' _ (by omega)⟩

def hexF (d : Int) : Int := if d < 10 then 48 + d else 87 + d
def hexL : List Int → List Int
  | [] => []
  | c :: cs => hexF (c / 16) :: hexF (c % 16) :: hexL cs
def hexM (s : ByteArray) : ByteArray × Bool := if s.size ≤ 20000 then (strOfNums (hexL (bytesOf s)), true) else (⟨#[]⟩, false)

theorem sFig16 {d : Int} (h0 : 0 ≤ d) (h1 : d < 16) : spec_l01Figure.f d = some (hexF d) := by
  unfold spec_l01Figure.f hexF
  by_cases c : d < 10
  · rw [if_pos c, if_pos c, w64 (by omega) (by omega), show (48 + d) % 256 = 48 + d by omega]
  · rw [if_neg c, if_neg c, w64 (show _ ≤ 97 + d by omega) (by omega), w64 (show _ ≤ 97 + d - 10 by omega) (by omega), show (97 + d - 10) % 256 = 87 + d by omega]
theorem spec_Hex_l {s : ByteArray} (hs : s.size ≤ 20000) : ∀ (ys pre acc : List Int) (k : Nat), bytesOf s = pre ++ ys → acc.length + 2 * ys.length ≤ 1048576 → ys.length < k →
    spec_Hex.l0 k s acc (pre.length : Int) = some (strOfNums (acc ++ hexL ys), true) := by
  intro ys
  induction ys with
  | nil =>
    intro pre acc k h ha hk
    obtain ⟨k, rfl⟩ := succ_of hk
    have he := bx_end h
    simp only [spec_Hex.l0]
    rw [if_neg (by omega), hexL, List.append_nil]
  | cons c ys ih =>
    intro pre acc k h ha hk
    obtain ⟨k, rfl⟩ := succ_of hk
    have hlt := bx_lt h
    have hc := bx_in h
    rw [List.length_cons] at ha
    have hi := ih (pre ++ [c]) (acc ++ [hexF (c / 16), hexF (c % 16)]) k (bx_next h) (by rw [List.length_append]; show acc.length + 2 + _ ≤ _; omega) (by simpa using hk)
    simp only [spec_Hex.l0]
    rw [if_pos hlt, if_pos (by omega), bx_at h, w64 (show _ ≤ c by omega) (by omega), Int.tdiv_eq_ediv_of_nonneg hc.1, Int.tmod_eq_emod_of_nonneg hc.1, w64 (show _ ≤ c / 16 by omega) (by omega),
      sFig16 (by omega) (by omega), Option.bind_some, sFig16 (by omega) (by omega), Option.bind_some, Option.bind_some, if_pos (by show acc.length + 2 < _; omega), bx_wrap h (by omega), hi, List.append_assoc]
    rfl
theorem spec_Hex_ev {s : ByteArray} : Ev (fun k => spec_Hex.f k s) (hexM s) := by
  refine ⟨20001, fun k hk => ?_⟩
  dsimp only
  unfold spec_Hex.f hexM
  by_cases c : s.size ≤ 20000
  · rw [if_neg (by omega), if_pos c]
    exact spec_Hex_l c (bytesOf s) [] [] k rfl (by rw [bx_len]; simp; omega) (by rw [bx_len]; omega)
  · rw [if_pos (by omega), if_neg c]

theorem hexT : ∀ d : Fin 16, bt (⟨#[48, 49, 50, 51, 52, 53, 54, 55, 56, 57, 97, 98, 99, 100, 101, 102]⟩ : ByteArray) (d.val : Int) = hexF (d.val : Int) := by
  decide +kernel
theorem iFig16 {d : Int} (h0 : 0 ≤ d) (h1 : d < 16) : bt (⟨#[48, 49, 50, 51, 52, 53, 54, 55, 56, 57, 97, 98, 99, 100, 101, 102]⟩ : ByteArray) d = hexF d := by
  have := hexT ⟨d.toNat, by omega⟩
  dsimp only at this
  rw [show ((d.toNat : Nat) : Int) = d by omega] at this
  exact this
theorem impl_Hex_l {s : ByteArray} (hs : s.size ≤ 20000) : ∀ (ys pre acc : List Int) (k : Nat), bytesOf s = pre ++ ys → acc.length + 2 * ys.length ≤ 1048576 → ys.length < k →
    impl_Hex.l0 k s acc (pre.length : Int) = some (strOfNums (acc ++ hexL ys), true) := by
  intro ys
  induction ys with
  | nil =>
    intro pre acc k h ha hk
    obtain ⟨k, rfl⟩ := succ_of hk
    have he := bx_end h
    simp only [impl_Hex.l0]
    rw [if_neg (by omega), hexL, List.append_nil]
  | cons c ys ih =>
    intro pre acc k h ha hk
    obtain ⟨k, rfl⟩ := succ_of hk
    have hlt := bx_lt h
    have hc := bx_in h
    rw [List.length_cons] at ha
    have hi := ih (pre ++ [c]) (acc ++ [hexF (c / 16), hexF (c % 16)]) k (bx_next h) (by rw [List.length_append]; show acc.length + 2 + _ ≤ _; omega) (by simpa using hk)
    simp only [impl_Hex.l0]
    rw [if_pos hlt, if_pos (by omega), bx_at h, Int.tdiv_eq_ediv_of_nonneg hc.1, Int.tmod_eq_emod_of_nonneg hc.1, show c / 16 % 256 = c / 16 by omega, if_pos (by omega), if_pos (by omega), if_pos (by omega), if_pos (by omega),
      iFig16 (by omega) (by omega), iFig16 (by omega) (by omega), Option.bind_some, if_pos (by show acc.length + 2 < _; omega), bx_wrap h (by omega), hi, List.append_assoc]
    rfl
theorem impl_Hex_ev {s : ByteArray} : Ev (fun k => impl_Hex.f k s) (hexM s) := by
  refine ⟨20001, fun k hk => ?_⟩
  dsimp only
  unfold impl_Hex.f hexM
  by_cases c : s.size ≤ 20000
  · rw [if_neg (by omega), if_pos c]
    exact impl_Hex_l c (bytesOf s) [] [] k rfl (by rw [bx_len]; simp; omega) (by rw [bx_len]; omega)
  · rw [if_pos (by omega), if_neg c]

theorem FnExactHex : laws_FnExactHex.Pure := by
  intro s hs
  obtain ⟨k, h, h'⟩ := ev2 (spec_Hex_ev (s := s)) (impl_Hex_ev (s := s))
  refine ⟨k, ?_⟩
  unfold laws_FnExactHex.f
  rw [h, h']
  simp

end Go.Proofs.Ytipegeaimloobaa.Pure
