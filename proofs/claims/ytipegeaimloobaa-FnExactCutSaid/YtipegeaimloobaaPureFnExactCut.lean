/- The pure statement of FnExactCut: over numbers and lists, what the printed functions come to is what the law wants, for every input. -/
import Derived.Test.YtipegeaimloobaaPFnExactCutx1
set_option linter.unusedVariables false
set_option linter.unusedSimpArgs false
namespace Go.Proofs.Ytipegeaimloobaa.Pure
open Go.RowKit Go.Proofs.Ytipegeaimloobaa.PFnExactCut Go.Proofs.YtipegeaimloobaaW.PrintWords Go.Proofs.YtipegeaimloobaaW.PrintLast
/-! Words on strings as lists of numbers. -/
theorem w64 {x : Int} (h0 : -9223372036854775808 ≤ x) (h1 : x ≤ 9223372036854775807) : wrap64 x = x := by
  unfold wrap64
  omega
theorem bx_len (s : ByteArray) : (bytesOf s).length = s.size := bytesOf_length s
theorem bx_byte (s : ByteArray) : ∀ c ∈ bytesOf s, 0 ≤ c ∧ c ≤ 255 := by
  intro c hc
  unfold bytesOf at hc
  obtain ⟨b, _, rfl⟩ := List.mem_map.1 hc
  have := b.toNat_lt
  omega
theorem bx_at {s : ByteArray} {pre ys : List Int} {c : Int} (h : bytesOf s = pre ++ c :: ys) : bt s (pre.length : Int) = c := by
  rw [← rd_bytesOf, h, rd, Int.toNat_natCast, List.getD_eq_getElem?_getD, List.getElem?_append_right (Nat.le_refl _)]
  simp
theorem bx_lt {s : ByteArray} {pre ys : List Int} {c : Int} (h : bytesOf s = pre ++ c :: ys) : (pre.length : Int) < (s.size : Int) := by
  have := congrArg List.length h
  rw [bx_len, List.length_append, List.length_cons] at this
  omega
theorem bx_end {s : ByteArray} {pre : List Int} (h : bytesOf s = pre ++ []) : (s.size : Int) = (pre.length : Int) := by
  have := congrArg List.length h
  rw [bx_len, List.append_nil] at this
  omega
theorem bx_next {s : ByteArray} {pre ys : List Int} {c : Int} (h : bytesOf s = pre ++ c :: ys) : bytesOf s = (pre ++ [c]) ++ ys := by
  rw [h, List.append_assoc]; rfl
theorem len_next (pre : List Int) (c : Int) : ((pre ++ [c]).length : Int) = (pre.length : Int) + 1 := by
  rw [List.length_append, List.length_singleton]; omega
theorem bx_inj {s t : ByteArray} (h : bytesOf s = bytesOf t) : s = t := by
  unfold bytesOf at h
  have h2 : s.data.toList = t.data.toList := by
    refine (List.map_inj_right (f := fun b : UInt8 => (b.toNat : Int)) ?_).1 h
    intro x y hxy
    exact UInt8.toNat_inj.1 (Int.ofNat_inj.1 hxy)
  exact ByteArray.ext (Array.toList_inj.1 h2)
theorem tl_inj {s t : ByteArray} (h : s.toList = t.toList) : s = t := by
  rw [ByteArray.toList_eq, ByteArray.toList_eq] at h
  exact ByteArray.ext (Array.toList_inj.1 h)
theorem tl_iff {s t : ByteArray} : s.toList = t.toList ↔ bytesOf s = bytesOf t := ⟨fun h => by rw [tl_inj h], fun h => by rw [bx_inj h]⟩
theorem bx_app (s t : ByteArray) : bytesOf (s ++ t) = bytesOf s ++ bytesOf t := by
  simp [bytesOf]
theorem bx_cut (s : ByteArray) (a b : Nat) : bytesOf (s.extract a b) = ((bytesOf s).take b).drop a := by
  simp [bytesOf, ByteArray.data_extract, List.map_drop, List.map_take, List.take_drop]
  rw [List.drop_take, List.drop_take]
  congr 1
  omega
theorem bx_str {xs : List Int} (h : ∀ c ∈ xs, 0 ≤ c ∧ c ≤ 255) : bytesOf (strOfNums xs) = xs := by
  unfold bytesOf
  rw [strOfNums_data, List.map_map]
  induction xs with
  | nil => rfl
  | cons c xs ih =>
    rw [List.map_cons, ih (fun d hd => h d (List.mem_cons_of_mem _ hd))]
    have hc := h c (List.mem_cons_self ..)
    congr 1
    have e : (UInt8.ofNat c.toNat).toNat = c.toNat := by
      rw [UInt8.toNat_ofNat']
      omega
    show ((UInt8.ofNat c.toNat).toNat : Int) = c
    rw [e]
    omega
theorem bx_wrap {s : ByteArray} {pre ys : List Int} {c : Int} (h : bytesOf s = pre ++ c :: ys) (hs : s.size ≤ 140737488351232) : wrap64 ((pre.length : Int) + 1) = ((pre ++ [c]).length : Int) := by
  rw [len_next]
  have := bx_lt h
  exact w64 (by omega) (by omega)
theorem bx_in {s : ByteArray} {pre ys : List Int} {c : Int} (h : bytesOf s = pre ++ c :: ys) : 0 ≤ c ∧ c ≤ 255 :=
  bx_byte s c (by rw [h]; exact List.mem_append_right _ (List.mem_cons_self ..))
theorem succ_of {n k : Nat} (h : n < k) : ∃ m, k = m + 1 := ⟨k - 1, by omega⟩
theorem ev2 {α β : Type} {g : Nat → Option α} {f : Nat → Option β} {a : α} {b : β} (h : Ev g a) (h' : Ev f b) : ∃ k, g k = some a ∧ f k = some b := by
  obtain ⟨K, h⟩ := h
  obtain ⟨K', h'⟩ := h'
  exact ⟨K + K', h _ (by omega), h' _ (by omega)⟩

def cutB (s : ByteArray) : ByteArray := if s.size ≤ 40 then s else s.extract 0 40
theorem extract_all (s : ByteArray) {n : Nat} (h : s.size ≤ n) : s.extract 0 n = s := by
  apply bx_inj
  rw [bx_cut, List.drop_zero, List.take_of_length_le (by rw [bx_len]; exact h)]

theorem sCut (s : ByteArray) : spec_Cut.f s = some (cutB s) := by
  unfold spec_Cut.f cutB
  by_cases h : (s.size : Int) > 40
  · rw [if_pos h, if_pos (by omega), if_pos (by omega), if_neg (by omega)]
  · rw [if_neg h, if_pos (by omega)]

theorem iCut (s : ByteArray) : impl_Cut.f s = some (cutB s) := by
  unfold impl_Cut.f cutB
  by_cases h : s.size ≤ 40
  · have e : mn (s.size : Int) 40 = (s.size : Int) := by unfold mn; split <;> omega
    rw [e, if_pos (by omega), if_pos (by omega), if_pos h, Int.toNat_natCast, extract_all s (Nat.le_refl _)]
  · have e : mn (s.size : Int) 40 = 40 := by unfold mn; split <;> omega
    rw [e, if_pos (by omega), if_pos (by omega), if_neg h]
    rfl

theorem FnExactCut : laws_FnExactCut.Pure := by
  intro s hs
  unfold laws_FnExactCut.f
  rw [sCut, iCut]
  simp

end Go.Proofs.Ytipegeaimloobaa.Pure
