/- The pure statement of FnFields: over numbers and lists, what the printed functions come to is what the law wants, for every input. -/
import Derived.Test.YtodpkfidkilpdaaQFnFieldsx3
set_option linter.unusedVariables false
set_option linter.unusedSimpArgs false
namespace Go.Proofs.Ytodpkfidkilpdaa.Pure
open Go.RowKit Go.Proofs.Ytodpkfidkilpdaa.QFnFields Go.Proofs.YtodpkfidkilpdaaW.PrintWords Go.Proofs.YtodpkfidkilpdaaW.PrintLast
/-! Words on strings as lists of numbers. -/
theorem w64 {x : Int} (h0 : -9223372036854775808 ≤ x) (h1 : x ≤ 9223372036854775807) : wrap64 x = x := by
  unfold wrap64
  omega
theorem bx_len (s : ByteArray) : (bytesOf s).length = s.size := bytesOf_length s
theorem bx_byte (s : ByteArray) : ∀ c ∈ bytesOf s, 0 ≤ c ∧ c ≤ 255 := by
  intro c hc
  unfold bytesOf at hc
  obtain ⟨b, _, rfl⟩ := List.mem_map.1 hc
  have := b.toNat_lt
  omega
theorem bx_at {s : ByteArray} {pre ys : List Int} {c : Int} (h : bytesOf s = pre ++ c :: ys) : bt s (pre.length : Int) = c := by
  rw [← rd_bytesOf, h, rd, Int.toNat_natCast, List.getD_eq_getElem?_getD, List.getElem?_append_right (Nat.le_refl _)]
  simp
theorem bx_lt {s : ByteArray} {pre ys : List Int} {c : Int} (h : bytesOf s = pre ++ c :: ys) : (pre.length : Int) < (s.size : Int) := by
  have := congrArg List.length h
  rw [bx_len, List.length_append, List.length_cons] at this
  omega
theorem bx_end {s : ByteArray} {pre : List Int} (h : bytesOf s = pre ++ []) : (s.size : Int) = (pre.length : Int) := by
  have := congrArg List.length h
  rw [bx_len, List.append_nil] at this
  omega
theorem bx_next {s : ByteArray} {pre ys : List Int} {c : Int} (h : bytesOf s = pre ++ c :: ys) : bytesOf s = (pre ++ [c]) ++ ys := by
  rw [h, List.append_assoc]; rfl
theorem len_next (pre : List Int) (c : Int) : ((pre ++ [c]).length : Int) = (pre.length : Int) + 1 := by
  rw [List.length_append, List.length_singleton]; omega
theorem bx_inj {s t : ByteArray} (h : bytesOf s = bytesOf t) : s = t := by
  unfold bytesOf at h
  have h2 : s.data.toList = t.data.toList := by
    refine (List.map_inj_right (f := fun b : UInt8 => (b.toNat : Int)) ?_).1 h
    intro x y hxy
    exact UInt8.toNat_inj.1 (Int.ofNat_inj.1 hxy)
  exact ByteArray.ext (Array.toList_inj.1 h2)
theorem tl_inj {s t : ByteArray} (h : s.toList = t.toList) : s = t := by
  rw [ByteArray.toList_eq, ByteArray.toList_eq] at h
  exact ByteArray.ext (Array.toList_inj.1 h)
theorem tl_iff {s t : ByteArray} : s.toList = t.toList ↔ bytesOf s = bytesOf t := ⟨fun h => by rw [tl_inj h], fun h => by rw [bx_inj h]⟩
theorem bx_app (s t : ByteArray) : bytesOf (s ++ t) = bytesOf s ++ bytesOf t := by
  simp [bytesOf]
theorem bx_cut (s : ByteArray) (a b : Nat) : bytesOf (s.extract a b) = ((bytesOf s).take b).drop a := by
  simp [bytesOf, ByteArray.data_extract, List.map_drop, List.map_take, List.take_drop]
  rw [List.drop_take, List.drop_take]
  congr 1
  omega
theorem bx_str {xs : List Int} (h : ∀ c ∈ xs, 0 ≤ c ∧ c ≤ 255) : bytesOf (strOfNums xs) = xs := by
  unfold bytesOf
  rw [strOfNums_data, List.map_map]
  induction xs with
  | nil => rfl
  | cons c xs ih =>
    rw [List.map_cons, ih (fun d hd => h d (List.mem_cons_of_mem _ hd))]
    have hc := h c (List.mem_cons_self ..)
    congr 1
    have e : (UInt8.ofNat c.toNat).toNat = c.toNat := by
      rw [UInt8.toNat_ofNat']
      omega
    show ((UInt8.ofNat c.toNat).toNat : Int) = c
    rw [e]
    omega
theorem bx_wrap {s : ByteArray} {pre ys : List Int} {c : Int} (h : bytesOf s = pre ++ c :: ys) (hs : s.size ≤ 140737488351232) : wrap64 ((pre.length : Int) + 1) = ((pre ++ [c]).length : Int) := by
  rw [len_next]
  have := bx_lt h
  exact w64 (by omega) (by omega)
theorem bx_in {s : ByteArray} {pre ys : List Int} {c : Int} (h : bytesOf s = pre ++ c :: ys) : 0 ≤ c ∧ c ≤ 255 :=
  bx_byte s c (by rw [h]; exact List.mem_append_right _ (List.mem_cons_self ..))
theorem succ_of {n k : Nat} (h : n < k) : ∃ m, k = m + 1 := ⟨k - 1, by omega⟩
theorem ev2 {α β : Type} {g : Nat → Option α} {f : Nat → Option β} {a : α} {b : β} (h : Ev g a) (h' : Ev f b) : ∃ k, g k = some a ∧ f k = some b := by
  obtain ⟨K, h⟩ := h
  obtain ⟨K', h'⟩ := h'
  exact ⟨K + K', h _ (by omega), h' _ (by omega)⟩

theorem u32_in {x : Int} (h : (Lit.int .u32 x).wf = true) : 0 ≤ x ∧ x < 4294967296 := by
  simp only [Lit.wf, IntKind.min, IntKind.max, IntKind.signed, IntKind.bits, Bool.and_eq_true, decide_eq_true_eq] at h
  simp at h
  omega
theorem i64_in {x : Int} (h : (Lit.int .i64 x).wf = true) : -9223372036854775808 ≤ x ∧ x ≤ 9223372036854775807 := by
  simp only [Lit.wf, IntKind.min, IntKind.max, IntKind.signed, IntKind.bits, Bool.and_eq_true, decide_eq_true_eq] at h
  simp at h
  omega

theorem getD_at {α : Type} (pre ys : List α) (y d : α) : (pre ++ y :: ys).getD (pre.length : Int).toNat d = y := by
  rw [Int.toNat_natCast, List.getD_eq_getElem?_getD, List.getElem?_append_right (Nat.le_refl _)]
  simp
theorem len_cons {α : Type} (pre ys : List α) (y : α) : (pre.length : Int) < ((pre ++ y :: ys).length : Int) := by
  rw [List.length_append, List.length_cons]; omega
theorem len_nil {α : Type} (pre : List α) : ¬ (pre.length : Int) < ((pre ++ []).length : Int) := by
  rw [List.append_nil]; omega
theorem len_succ {α : Type} (pre ys : List α) (y : α) (h : (pre ++ y :: ys).length ≤ 9223372036854775807) : wrap64 ((pre.length : Int) + 1) = ((pre ++ [y]).length : Int) := by
  rw [List.length_append, List.length_cons] at h
  rw [List.length_append, List.length_singleton, w64 (by omega) (by omega)]
  omega
theorem app_cons {α : Type} (pre ys : List α) (y : α) : pre ++ y :: ys = (pre ++ [y]) ++ ys := by rw [List.append_assoc]; rfl
theorem set_at {α : Type} (pre ys : List α) (y z : α) : (pre ++ y :: ys).set (pre.length : Int).toNat z = pre ++ z :: ys := by
  rw [Int.toNat_natCast, List.set_append_right _ _ (Nat.le_refl _), Nat.sub_self]
  rfl

def cutB (s : ByteArray) : ByteArray := if s.size ≤ 40 then s else s.extract 0 40
theorem extract_all (s : ByteArray) {n : Nat} (h : s.size ≤ n) : s.extract 0 n = s := by
  apply bx_inj
  rw [bx_cut, List.drop_zero, List.take_of_length_le (by rw [bx_len]; exact h)]

theorem iCut (s : ByteArray) : impl_Cut.f s = some (cutB s) := by
  unfold impl_Cut.f cutB
  by_cases h : s.size ≤ 40
  · have e : mn (s.size : Int) 40 = (s.size : Int) := by unfold mn; split <;> omega
    rw [e, if_pos (by omega), if_pos (by omega), if_pos h, Int.toNat_natCast, extract_all s (Nat.le_refl _)]
  · have e : mn (s.size : Int) 40 = 40 := by unfold mn; split <;> omega
    rw [e, if_pos (by omega), if_pos (by omega), if_neg h]
    rfl

theorem sCut (s : ByteArray) : spec_Cut.f s = some (cutB s) := by
  unfold spec_Cut.f cutB
  by_cases h : (s.size : Int) > 40
  · rw [if_pos h, if_pos (by omega), if_pos (by omega), if_neg (by omega)]
  · rw [if_neg h, if_pos (by omega)]

/-! The fields of a line. -/
def blk (c : Int) : Bool := decide (c = 32) || decide (c = 9)
def fieldsI : List Int → List Int → List (List Int)
  | cur, [] => if cur = [] then [] else [cur]
  | cur, c :: ys => if blk c = true then (if cur = [] then fieldsI [] ys else cur :: fieldsI [] ys) else fieldsI (cur ++ [c]) ys
theorem blk_hi {c : Int} (h : 128 ≤ c) : blk c = false := by
  unfold blk
  rw [decide_eq_false (by omega), decide_eq_false (by omega)]
  rfl
theorem fieldsI_app (ys : List Int) : ∀ (p cur : List Int), (∀ x ∈ p, blk x = false) → fieldsI cur (p ++ ys) = fieldsI (cur ++ p) ys := by
  intro p
  induction p with
  | nil => intro cur _; rw [List.nil_append, List.append_nil]
  | cons x p ih =>
    intro cur h
    rw [List.cons_append, fieldsI, h x (List.mem_cons_self ..), if_neg (by decide), ih _ (fun y hy => h y (List.mem_cons_of_mem _ hy)), List.append_assoc]
    rfl
theorem dec_lo {n b0 b1 b2 b3 : Nat} (h : b0 < 128) : Go.Lib.decodeN n b0 b1 b2 b3 = (b0, 1) := by
  unfold Go.Lib.decodeN
  rw [if_pos h]
theorem dec_hi {n b0 b1 b2 b3 : Nat} (hn : 1 ≤ n) (h : 128 ≤ b0) :
    128 ≤ (Go.Lib.decodeN n b0 b1 b2 b3).1 ∧ 1 ≤ (Go.Lib.decodeN n b0 b1 b2 b3).2 ∧ (Go.Lib.decodeN n b0 b1 b2 b3).2 ≤ n ∧ (Go.Lib.decodeN n b0 b1 b2 b3).2 ≤ 4 ∧
    (2 ≤ (Go.Lib.decodeN n b0 b1 b2 b3).2 → 128 ≤ b1) ∧ (3 ≤ (Go.Lib.decodeN n b0 b1 b2 b3).2 → 128 ≤ b2) ∧ (4 ≤ (Go.Lib.decodeN n b0 b1 b2 b3).2 → 128 ≤ b3) := by
  unfold Go.Lib.decodeN
  repeat' split
  all_goals (dsimp only; omega)
theorem getb {s : ByteArray} {i : Nat} (h : i < s.size) : ((s.get! i).toNat : Int) = (bytesOf s).getD i 0 := by
  have h2 : i < s.data.toList.length := by rw [Array.length_toList]; exact h
  unfold bytesOf
  rw [List.getD_eq_getElem?_getD, List.getElem?_map, List.getElem?_eq_getElem h2]
  have e : s.get! i = s.data.toList[i] := by
    rw [Array.getElem_toList]
    exact getElem!_pos s.data i h
  rw [e]
  rfl
theorem fdrop_snoc {pre p : List Int} {b : Nat} (h : b ≤ pre.length) : (pre ++ p).drop b = pre.drop b ++ p := by
  rw [List.drop_append, show b - pre.length = 0 by omega, List.drop_zero]
theorem fext_pre {s : ByteArray} {pre ys : List Int} (h : bytesOf s = pre ++ ys) (b : Nat) : bytesOf (s.extract b pre.length) = pre.drop b := by
  rw [bx_cut, h, List.take_left]
theorem fdrop_ne {pre : List Int} {b : Nat} (h : b < pre.length) : ¬ pre.drop b = [] := by
  intro h2
  have := congrArg List.length h2
  rw [List.length_drop, List.length_nil] at this
  omega
def curOf (pre : List Int) : Option Nat → List Int
  | some a => pre.drop a
  | none => []
theorem spans_end {s : ByteArray} {pre : List Int} (h : bytesOf s = pre ++ []) (st : Option Nat) (acc : List (Nat × Nat)) (hst : ∀ a, st = some a → a < pre.length) :
    ((Go.Lib.closeSpans s (acc, st)).map fun x => bytesOf (s.extract x.1 x.2)) = (acc.map fun x => bytesOf (s.extract x.1 x.2)) ++ fieldsI (curOf pre st) [] := by
  have hz : pre.length = s.size := by rw [← bx_len, h, List.append_nil]
  unfold Go.Lib.closeSpans curOf
  cases st with
  | none =>
    dsimp only
    rw [fieldsI, if_pos rfl, List.append_nil]
  | some a =>
    dsimp only
    rw [fieldsI, if_neg (fdrop_ne (hst a rfl)), List.map_append, List.map_cons, List.map_nil, ← hz, fext_pre h]
theorem spans_ok (s : ByteArray) : ∀ (f : Nat) (ys pre : List Int) (st : Option Nat) (acc : List (Nat × Nat)), bytesOf s = pre ++ ys → ys.length ≤ f → (∀ a, st = some a → a < pre.length) →
    ((Go.Lib.closeSpans s (Go.Lib.spansFromP qblank s f pre.length st acc)).map fun x => bytesOf (s.extract x.1 x.2)) = (acc.map fun x => bytesOf (s.extract x.1 x.2)) ++ fieldsI (curOf pre st) ys := by
  intro f
  induction f with
  | zero =>
    intro ys pre st acc h hf hst
    have hy : ys = [] := List.length_eq_zero_iff.1 (by omega)
    subst hy
    exact spans_end h st acc hst
  | succ f ih =>
    intro ys pre st acc h hf hst
    cases ys with
    | nil =>
      have he := bx_end h
      rw [Go.Lib.spansFromP_end _ _ _ _ _ _ (by omega)]
      exact spans_end h st acc hst
    | cons c ys =>
      have hlt := bx_lt h
      have hc := bx_in h
      rw [List.length_cons] at hf
      have hc0 : (s.get! pre.length).toNat = c.toNat := by
        have := getb (s := s) (i := pre.length) (by omega)
        rw [h, List.getD_eq_getElem?_getD, List.getElem?_append_right (Nat.le_refl _), Nat.sub_self] at this
        have h2 : ((s.get! pre.length).toNat : Int) = c := this
        omega
      unfold Go.Lib.spansFromP
      rw [if_pos (by omega), Go.Lib.decode_at, hc0]
      by_cases hlo : c < 128
      · rw [dec_lo (by omega)]
        dsimp only
        have hl1 : pre.length + 1 = (pre ++ [c]).length := by rw [List.length_append, List.length_singleton]
        have hq : qblank c.toNat = blk c := by
          unfold qblank blk
          by_cases h1 : c = 32
          · subst h1; rfl
          · rw [decide_eq_false h1, Bool.false_or, beq_eq_false_iff_ne.2 (show c.toNat ≠ 32 by omega), Bool.false_or]
            by_cases h2 : c = 9
            · subst h2; rfl
            · rw [decide_eq_false h2, beq_eq_false_iff_ne.2 (show c.toNat ≠ 9 by omega)]
        rw [hq, hl1, fieldsI]
        cases hb : blk c with
        | true =>
          rw [if_pos rfl, if_pos rfl]
          cases st with
          | none =>
            dsimp only
            rw [ih ys (pre ++ [c]) none acc (bx_next h) (by omega) (fun a k => by cases k)]
            unfold curOf
            rw [if_pos rfl]
          | some a =>
            dsimp only
            rw [ih ys (pre ++ [c]) none _ (bx_next h) (by omega) (fun a k => by cases k)]
            unfold curOf
            rw [if_neg (fdrop_ne (hst a rfl)), List.map_append, List.map_cons, List.map_nil, fext_pre h, List.append_assoc]
            rfl
        | false =>
          rw [if_neg (by decide), if_neg (by decide)]
          cases st with
          | none =>
            dsimp only
            rw [ih ys (pre ++ [c]) (some pre.length) acc (bx_next h) (by omega) (fun a k => by cases k; rw [List.length_append, List.length_singleton]; omega)]
            unfold curOf
            dsimp only
            rw [List.drop_left, List.nil_append]
          | some a =>
            have ha := hst a rfl
            dsimp only
            rw [ih ys (pre ++ [c]) (some a) acc (bx_next h) (by omega) (fun b k => by cases k; rw [List.length_append]; omega)]
            unfold curOf
            dsimp only
            rw [fdrop_snoc (by omega)]
      · obtain ⟨d, hd⟩ : ∃ d, Go.Lib.decodeN (s.size - pre.length) c.toNat (s.get! (pre.length + 1)).toNat (s.get! (pre.length + 2)).toNat (s.get! (pre.length + 3)).toNat = d := ⟨_, rfl⟩
        have hh := dec_hi (n := s.size - pre.length) (b0 := c.toNat) (b1 := (s.get! (pre.length + 1)).toNat) (b2 := (s.get! (pre.length + 2)).toNat) (b3 := (s.get! (pre.length + 3)).toNat) (by omega) (by omega)
        rw [hd] at hh ⊢
        have hlen : pre.length + (c :: ys).length = s.size := by rw [← bx_len, h, List.length_append]
        have hp : ∀ x ∈ (c :: ys).take d.2, blk x = false := by
          intro x hx
          obtain ⟨j, hj, rfl⟩ := List.getElem_of_mem hx
          rw [List.length_take] at hj
          rw [List.getElem_take]
          apply blk_hi
          have hj2 : j < (c :: ys).length := by omega
          have hg := getb (s := s) (i := pre.length + j) (by omega)
          rw [h, List.getD_eq_getElem?_getD, List.getElem?_append_right (by omega), show pre.length + j - pre.length = j by omega, List.getElem?_eq_getElem hj2] at hg
          have hg2 : ((s.get! (pre.length + j)).toNat : Int) = (c :: ys)[j] := hg
          have hj3 : j = 0 ∨ j = 1 ∨ j = 2 ∨ j = 3 := by omega
          rcases hj3 with rfl | rfl | rfl | rfl
          · show 128 ≤ c; omega
          · omega
          · omega
          · omega
        have hsplit : bytesOf s = (pre ++ (c :: ys).take d.2) ++ (c :: ys).drop d.2 := by rw [List.append_assoc, List.take_append_drop]; exact h
        have hl2 : pre.length + d.2 = (pre ++ (c :: ys).take d.2).length := by rw [List.length_append, List.length_take]; omega
        have hq : qblank d.1 = false := by
          unfold qblank
          rw [beq_eq_false_iff_ne.2 (show d.1 ≠ 32 by omega), beq_eq_false_iff_ne.2 (show d.1 ≠ 9 by omega)]
          rfl
        have hf2 : ((c :: ys).drop d.2).length ≤ f := by rw [List.length_drop, List.length_cons]; omega
        rw [hq, if_neg (by decide), hl2]
        have hfi : fieldsI (curOf pre st) (c :: ys) = fieldsI (curOf pre st ++ (c :: ys).take d.2) ((c :: ys).drop d.2) := by
          conv => lhs; rw [← List.take_append_drop d.2 (c :: ys)]
          exact fieldsI_app _ _ _ hp
        rw [hfi]
        cases st with
        | none =>
          dsimp only
          rw [ih _ (pre ++ (c :: ys).take d.2) (some pre.length) acc hsplit hf2 (fun a k => by cases k; omega)]
          unfold curOf
          dsimp only
          rw [List.drop_left, List.nil_append]
        | some a =>
          have ha := hst a rfl
          dsimp only
          rw [ih _ (pre ++ (c :: ys).take d.2) (some a) acc hsplit hf2 (fun b k => by cases k; omega)]
          unfold curOf
          dsimp only
          rw [fdrop_snoc (by omega)]
theorem goFields_bytes (s : ByteArray) : (Go.Lib.goFieldsP qblank s).map bytesOf = fieldsI [] (bytesOf s) := by
  unfold Go.Lib.goFieldsP Go.Lib.spansOfP
  rw [List.map_map]
  have := spans_ok s s.size (bytesOf s) [] none [] rfl (by rw [bx_len]; omega) (fun a k => by cases k)
  exact this

theorem cut_bytes (s : ByteArray) : bytesOf (cutB s) = (bytesOf s).take 40 := by
  unfold cutB
  split
  · rw [List.take_of_length_le (by rw [bx_len]; assumption)]
  · rw [bx_cut, List.drop_zero]
theorem impl_fields_l (len : Int) : ∀ (ys pre acc : List ByteArray) (k : Nat), ((pre ++ ys).length : Int) = len → (pre ++ ys).length ≤ 5000000000 → acc.length ≤ 20 → ys.length < k →
    impl_FieldsOf.l0 k acc (pre ++ ys) len (pre.length : Int) = some (acc ++ (ys.take (20 - acc.length)).map cutB) := by
  intro ys
  induction ys with
  | nil =>
    intro pre acc k hl hm ha hk
    obtain ⟨k, rfl⟩ := succ_of hk
    simp only [impl_FieldsOf.l0]
    rw [← hl, if_neg (len_nil pre), List.take_nil, List.map_nil, List.append_nil]
  | cons y ys ih =>
    intro pre acc k hl hm ha hk
    obtain ⟨k, rfl⟩ := succ_of hk
    rw [List.length_cons] at hk
    simp only [impl_FieldsOf.l0]
    have hi := fun (a : List ByteArray) (h : a.length ≤ 20) => ih (pre ++ [y]) a k (by rw [← app_cons]; exact hl) (by rw [← app_cons]; exact hm) h (by omega)
    rw [app_cons pre ys y] at hl
    rw [← hl] at hi
    rw [← hl, ← app_cons, if_pos (len_cons pre ys y), if_pos (by omega), if_pos (len_cons pre ys y), show rdOf ByteArray.empty (pre ++ y :: ys) (pre.length : Int) = y from getD_at pre ys y _, len_succ pre ys y (by omega), app_cons pre ys y]
    by_cases h20 : acc.length = 20
    · rw [if_neg (by omega), hi acc ha, h20, Nat.sub_self, List.take_zero, List.take_zero]
    · rw [if_pos (by omega), iCut, Option.bind_some, if_pos (by omega), hi (acc ++ [cutB y]) (by rw [List.length_append, List.length_singleton]; omega), List.length_append, List.length_singleton, show 20 - acc.length = (20 - (acc.length + 1)) + 1 by omega, List.take_succ_cons, List.map_cons, List.append_assoc]
      rfl
theorem fieldsI_len : ∀ (ys cur : List Int), (fieldsI cur ys).length ≤ ys.length + 1 := by
  intro ys
  induction ys with
  | nil => intro cur; rw [fieldsI]; split <;> simp
  | cons y ys ih =>
    intro cur
    rw [fieldsI, List.length_cons]
    split
    · split
      · have := ih []; omega
      · rw [List.length_cons]; have := ih []; omega
    · have := ih (cur ++ [y]); omega
theorem impl_fields {s : ByteArray} (hs : s.size ≤ 4000000000) : ∃ R : List ByteArray, (∀ k, s.size + 2 < k → impl_FieldsOf.f k s = some R) ∧ R.length ≤ 20 ∧ R.map bytesOf = ((fieldsI [] (bytesOf s)).take 20).map (List.take 40) := by
  have hg := goFields_bytes s
  have hl : (Go.Lib.goFieldsP qblank s).length ≤ s.size + 1 := by
    have := congrArg List.length hg
    rw [List.length_map] at this
    have h2 := fieldsI_len (bytesOf s) []
    rw [bx_len] at h2
    omega
  have hf : strings_FieldsFunc.f s true = some (Go.Lib.goFieldsP qblank s) := by
    unfold strings_FieldsFunc.f
    rw [if_pos hs]
  generalize Go.Lib.goFieldsP qblank s = G at *
  refine ⟨(G.take 20).map cutB, fun k hk => ?_, by rw [List.length_map, List.length_take]; omega, ?_⟩
  · unfold impl_FieldsOf.f
    rw [hf, Option.bind_some]
    exact impl_fields_l _ _ [] [] k rfl (by rw [List.nil_append]; omega) (by simp) (by omega)
  · rw [List.map_map, ← hg, ← List.map_take, List.map_map]
    apply List.map_congr_left
    intro x _
    exact cut_bytes x

def begOf : Option Nat → Int
  | some a => (a : Int)
  | none => -1
theorem spec_fields_j1 {s : ByteArray} (hs : s.size ≤ 4000000000) {pre : List Int} (hp : (pre.length : Int) ≤ (s.size : Int)) (out : List ByteArray) (st : Option Nat) (hst : ∀ a, st = some a → a < pre.length) (ho : out.length ≤ 20) (k : Nat) (i' : Int) (hi : wrap64 ((pre.length : Int) + 1) = i') :
    (∀ b, b = false → spec_FieldsOf.j1 (k + 4) s out (begOf st) (pre.length : Int) b = spec_FieldsOf.l0 k s out (begOf (some (st.getD pre.length))) i') ∧
    (st = none → spec_FieldsOf.j1 (k + 4) s out (begOf st) (pre.length : Int) true = spec_FieldsOf.l0 k s out (-1) i') ∧
    (∀ a, st = some a → out.length = 20 → spec_FieldsOf.j1 (k + 4) s out (begOf st) (pre.length : Int) true = spec_FieldsOf.l0 k s out (-1) i') ∧
    (∀ a, st = some a → out.length < 20 → spec_FieldsOf.j1 (k + 4) s out (begOf st) (pre.length : Int) true = spec_FieldsOf.l0 k s (out ++ [cutB (s.extract a pre.length)]) (-1) i') := by
  refine ⟨fun b hb => ?_, fun h => ?_, fun a h h20 => ?_, fun a h h20 => ?_⟩
  · subst hb
    simp only [spec_FieldsOf.j1, spec_FieldsOf.j2, spec_FieldsOf.j3, spec_FieldsOf.j4]
    rw [if_neg (by decide), hi]
    cases st with
    | none =>
      rw [if_pos (decide_eq_true (by unfold begOf; decide)), if_neg (by decide), if_neg (by decide)]
      rfl
    | some a =>
      rw [if_neg (by unfold begOf; dsimp only; rw [decide_eq_false (by omega)]; decide), if_neg (by decide), if_neg (by decide)]
      rfl
  · subst h
    simp only [spec_FieldsOf.j1, spec_FieldsOf.j2, spec_FieldsOf.j3, spec_FieldsOf.j4]
    rw [if_pos trivial, if_neg (by decide), if_pos trivial, if_neg (by unfold begOf; decide), hi]
    rfl
  · subst h
    simp only [spec_FieldsOf.j1, spec_FieldsOf.j2, spec_FieldsOf.j3, spec_FieldsOf.j4]
    rw [if_pos trivial, if_neg (by decide), if_pos trivial, if_pos (by unfold begOf; dsimp only; exact decide_eq_true (by omega)), if_neg (by omega), hi]
  · subst h
    have ha := hst a rfl
    simp only [spec_FieldsOf.j1, spec_FieldsOf.j2, spec_FieldsOf.j3, spec_FieldsOf.j4]
    unfold begOf
    dsimp only
    rw [if_pos trivial, if_neg (by decide), if_pos trivial, if_pos (decide_eq_true (by omega)), if_pos (by omega), if_pos (by omega), if_pos (by omega), if_pos (by omega), sCut, Option.bind_some, if_pos (by omega), hi, Int.toNat_natCast, Int.toNat_natCast]
theorem spec_fields_l {s : ByteArray} (hs : s.size ≤ 4000000000) : ∀ (ys pre : List Int) (out : List ByteArray) (st : Option Nat) (k : Nat), bytesOf s = pre ++ ys → (∀ a, st = some a → a < pre.length) → out.length ≤ 20 → 5 * ys.length + 8 < k →
    ∃ R : List ByteArray, spec_FieldsOf.l0 k s out (begOf st) (pre.length : Int) = some (out ++ R) ∧ R.map bytesOf = ((fieldsI (curOf pre st) ys).take (20 - out.length)).map (List.take 40) := by
  intro ys
  induction ys with
  | nil =>
    intro pre out st k h hst ho hk
    have he := bx_end h
    obtain ⟨k, rfl⟩ : ∃ m, k = m + 6 := ⟨k - 6, by omega⟩
    obtain ⟨j1, j2, j3, j4⟩ := spec_fields_j1 hs (by omega) out st hst ho (k + 1) _ rfl
    have hstop : ∀ o, spec_FieldsOf.l0 (k + 1) s o (-1) (wrap64 ((pre.length : Int) + 1)) = some o := by
      intro o
      simp only [spec_FieldsOf.l0]
      rw [if_neg (by rw [w64 (by omega) (by omega)]; omega)]
    have h0 : spec_FieldsOf.l0 (k + 6) s out (begOf st) (pre.length : Int) = spec_FieldsOf.j1 (k + 1 + 4) s out (begOf st) (pre.length : Int) true := by
      simp only [spec_FieldsOf.l0]
      rw [if_pos (by omega), if_pos (by omega)]
    rw [h0]
    cases st with
    | none =>
      rw [j2 rfl, hstop, curOf, fieldsI, if_pos rfl, List.take_nil]
      exact ⟨[], by rw [List.append_nil], rfl⟩
    | some a =>
      have ha := hst a rfl
      rw [curOf, fieldsI, if_neg (fdrop_ne ha)]
      by_cases h20 : out.length = 20
      · rw [j3 a rfl h20, hstop, h20]
        exact ⟨[], by rw [List.append_nil], rfl⟩
      · rw [j4 a rfl (by omega), hstop]
        refine ⟨[cutB (s.extract a pre.length)], rfl, ?_⟩
        rw [List.take_of_length_le (by rw [List.length_singleton]; omega), List.map_cons, List.map_nil, List.map_cons, List.map_nil, cut_bytes, fext_pre h]
  | cons c ys ih =>
    intro pre out st k h hst ho hk
    have hlt := bx_lt h
    rw [List.length_cons] at hk
    obtain ⟨k, rfl⟩ : ∃ m, k = m + 5 := ⟨k - 5, by omega⟩
    have hw : wrap64 ((pre.length : Int) + 1) = ((pre ++ [c]).length : Int) := by rw [List.length_append, List.length_singleton, w64 (by omega) (by omega)]; omega
    have hl1 : (pre ++ [c]).length = pre.length + 1 := by rw [List.length_append, List.length_singleton]
    obtain ⟨j1, j2, j3, j4⟩ := spec_fields_j1 hs (by omega) out st hst ho k _ hw
    have h0 : spec_FieldsOf.l0 (k + 5) s out (begOf st) (pre.length : Int) = spec_FieldsOf.j1 (k + 4) s out (begOf st) (pre.length : Int) (blk c) := by
      simp only [spec_FieldsOf.l0]
      rw [if_pos (by omega), if_neg (by omega), if_pos (by omega), if_pos hlt, bx_at h]
      unfold blk
      by_cases h32 : c = 32
      · rw [if_pos h32, decide_eq_true h32]
        rfl
      · rw [if_neg h32, decide_eq_false h32, Bool.false_or]
        congr 1
    rw [h0]
    cases hb : blk c with
    | true =>
      have hi := fun (o : List ByteArray) (h2 : o.length ≤ 20) => ih (pre ++ [c]) o none k (bx_next h) (fun a k => by cases k) h2 (by omega)
      unfold begOf at hi
      dsimp only at hi
      rw [fieldsI, hb, if_pos rfl]
      cases st with
      | none =>
        rw [j2 rfl, curOf, if_pos rfl]
        exact hi out ho
      | some a =>
        have ha := hst a rfl
        rw [curOf, if_neg (fdrop_ne ha)]
        by_cases h20 : out.length = 20
        · rw [j3 a rfl h20]
          obtain ⟨R, e, hR⟩ := hi out ho
          rw [h20, Nat.sub_self, List.take_zero] at hR ⊢
          exact ⟨R, e, hR⟩
        · rw [j4 a rfl (by omega)]
          obtain ⟨R, e, hR⟩ := hi (out ++ [cutB (s.extract a pre.length)]) (by rw [List.length_append, List.length_singleton]; omega)
          refine ⟨cutB (s.extract a pre.length) :: R, by rw [e, List.append_assoc]; rfl, ?_⟩
          rw [List.length_append, List.length_singleton] at hR
          rw [show 20 - out.length = (20 - (out.length + 1)) + 1 by omega, List.take_succ_cons, List.map_cons, List.map_cons, hR, cut_bytes, fext_pre h]
          rfl
    | false =>
      rw [j1 false rfl, fieldsI, hb, if_neg (by decide)]
      have hi := ih (pre ++ [c]) out (some (st.getD pre.length)) k (bx_next h) (fun a k => by cases k; cases st with | none => rw [hl1]; show pre.length < _; omega | some a => have := hst a rfl; rw [hl1]; show a < _; omega) ho (by omega)
      have e : curOf (pre ++ [c]) (some (st.getD pre.length)) = curOf pre st ++ [c] := by
        cases st with
        | none =>
          show (pre ++ [c]).drop pre.length = [] ++ [c]
          rw [List.drop_left]
          rfl
        | some a =>
          have := hst a rfl
          show (pre ++ [c]).drop a = pre.drop a ++ [c]
          exact fdrop_snoc (by omega)
      rw [e] at hi
      exact hi
theorem fbytes_inj {a b : List ByteArray} (h : a.map bytesOf = b.map bytesOf) : a = b := (List.map_inj_right (f := bytesOf) (fun _ _ e => bx_inj e)).1 h
theorem fields_ok {s : ByteArray} (hs : s.size ≤ 4000000000) : ∃ R : List ByteArray, R.length ≤ 20 ∧ R.map bytesOf = ((fieldsI [] (bytesOf s)).take 20).map (List.take 40) ∧ (∀ k, s.size + 2 < k → impl_FieldsOf.f k s = some R) ∧ ∀ k, 5 * s.size + 9 ≤ k → spec_FieldsOf.f k s = some R := by
  obtain ⟨R, e, hl, hR⟩ := impl_fields hs
  refine ⟨R, hl, hR, e, fun k hk => ?_⟩
  obtain ⟨R2, e2, hR2⟩ := spec_fields_l hs (bytesOf s) [] [] none k rfl (fun a k => by cases k) (by simp) (by rw [bx_len]; omega)
  have : R2 = R := fbytes_inj (by rw [hR2, hR]; rfl)
  unfold spec_FieldsOf.f
  rw [this] at e2
  exact e2

theorem sameTexts_l : ∀ (ys pre : List ByteArray) (k : Nat), (pre ++ ys).length ≤ 100000000 → ys.length < k → laws_sameTexts.l0 k (pre ++ ys) (pre ++ ys) (pre.length : Int) = some true := by
  intro ys
  induction ys with
  | nil =>
    intro pre k hl hk
    obtain ⟨k, rfl⟩ := succ_of hk
    simp only [laws_sameTexts.l0]
    rw [if_neg (len_nil pre)]
  | cons y ys ih =>
    intro pre k hl hk
    obtain ⟨k, rfl⟩ := succ_of hk
    rw [List.length_cons] at hk
    simp only [laws_sameTexts.l0]
    rw [if_pos (len_cons pre ys y), if_pos (by omega), if_pos (len_cons pre ys y), if_pos trivial, len_succ pre ys y (by omega), app_cons]
    exact ih (pre ++ [y]) k (by rw [← app_cons]; exact hl) (by omega)
theorem sameTexts_k {l : List ByteArray} (hl : l.length ≤ 100000000) {k : Nat} (hk : l.length < k) : laws_sameTexts.f k l l = some true := by
  unfold laws_sameTexts.f
  rw [if_pos rfl]
  exact sameTexts_l l [] k hl hk

theorem and255_in (x : Int) : 0 ≤ Go.bits .and .i64 x 255 ∧ Go.bits .and .i64 x 255 ≤ 255 := by
  simp only [Go.bits]
  rw [IntKind.wrap_i64]
  have h : (BitVec.ofInt IntKind.i64.bits x &&& BitVec.ofInt IntKind.i64.bits 255).toNat ≤ 255 := by
    rw [BitVec.toNat_and]
    exact Nat.le_trans Nat.and_le_right (by decide)
  omega
/-- The drawn bytes are bytes, and no more than can be. -/
def IsCode (b : List Int) : Prop := b.length ≤ 9223372036854775807

theorem byte_ok {b : List Int} (hb : IsCode b) {i : Int} (hi : 0 ≤ i) (h : Int) : ∃ r i' h', spec_l01Byte.f b i h = some (r, i', h') ∧ 0 ≤ r ∧ r ≤ 255 ∧ 0 ≤ i' := by
  unfold IsCode at hb
  unfold spec_l01Byte.f
  by_cases h1 : i < (b.length : Int)
  · rw [if_pos h1, if_pos hi]
    refine ⟨_, _, _, rfl, (and255_in _).1, (and255_in _).2, ?_⟩
    rw [w64 (by omega) (by omega)]
    omega
  · rw [if_neg h1]
    exact ⟨_, _, _, rfl, (and255_in _).1, (and255_in _).2, hi⟩
theorem below_ok {b : List Int} (hb : IsCode b) {i : Int} (hi : 0 ≤ i) (h : Int) {n : Int} (h0 : 0 < n) (h1 : n ≤ 4294967296) :
    ∃ r i' h', spec_l01Below.f b i h n = some (r, i', h') ∧ 0 ≤ r ∧ r < n ∧ 0 ≤ i' := by
  unfold spec_l01Below.f
  rw [if_neg (by omega)]
  obtain ⟨r1, i1, h1', e1, a1, b1, c1⟩ := byte_ok hb hi h
  by_cases hn : n ≤ 256
  · rw [if_pos hn, e1, Option.bind_some, if_neg (by omega)]
    refine ⟨_, _, _, rfl, ?_, ?_, c1⟩
    · rw [Int.tmod_eq_emod_of_nonneg a1]; exact Int.emod_nonneg _ (by omega)
    · rw [Int.tmod_eq_emod_of_nonneg a1]; exact Int.emod_lt_of_pos _ h0
  · rw [if_neg hn, e1, Option.bind_some]
    obtain ⟨r2, i2, h2', e2, a2, b2, c2⟩ := byte_ok hb c1 h1'
    obtain ⟨r3, i3, h3', e3, a3, b3, c3⟩ := byte_ok hb c2 h2'
    obtain ⟨r4, i4, h4', e4, a4, b4, c4⟩ := byte_ok hb c3 h3'
    dsimp only
    rw [e2, Option.bind_some]
    dsimp only
    rw [e3, Option.bind_some]
    dsimp only
    rw [e4, Option.bind_some, if_neg (by omega)]
    dsimp only
    rw [w64 (show _ ≤ r1 * 16777216 by omega) (by omega), w64 (show _ ≤ r2 * 65536 by omega) (by omega), w64 (show _ ≤ r3 * 256 by omega) (by omega),
      w64 (show _ ≤ r1 * 16777216 + r2 * 65536 by omega) (by omega), w64 (show _ ≤ r1 * 16777216 + r2 * 65536 + r3 * 256 by omega) (by omega), w64 (show _ ≤ r1 * 16777216 + r2 * 65536 + r3 * 256 + r4 by omega) (by omega)]
    refine ⟨_, _, _, rfl, ?_, ?_, c4⟩
    · rw [Int.tmod_eq_emod_of_nonneg (by omega)]; exact Int.emod_nonneg _ (by omega)
    · rw [Int.tmod_eq_emod_of_nonneg (by omega)]; exact Int.emod_lt_of_pos _ h0
theorem new_l {b : List Int} (hb : IsCode b) : ∀ (d : Nat) (k : Nat) (h i : Int), 0 ≤ i → (4000 : Int) - i ≤ d → d < k → ∃ h', spec_l01New.l0 k b h i = some (b, 0, h') := by
  unfold IsCode at hb
  intro d
  induction d with
  | zero =>
    intro k h i hi hd hk
    obtain ⟨k, rfl⟩ := succ_of hk
    simp only [spec_l01New.l0]
    by_cases h1 : i < (b.length : Int)
    · rw [if_pos h1, if_neg (by omega)]; exact ⟨_, rfl⟩
    · rw [if_neg h1]; exact ⟨_, rfl⟩
  | succ d ih =>
    intro k h i hi hd hk
    obtain ⟨k, rfl⟩ := succ_of hk
    simp only [spec_l01New.l0]
    by_cases h1 : i < (b.length : Int)
    · rw [if_pos h1]
      by_cases h2 : i < 4000
      · rw [if_pos h2, if_pos hi, w64 (show _ ≤ i + 1 by omega) (by omega)]
        exact ih k _ (i + 1) (by omega) (by omega) (by omega)
      · rw [if_neg h2]; exact ⟨_, rfl⟩
    · rw [if_neg h1]; exact ⟨_, rfl⟩
theorem new_ok {b : List Int} (hb : IsCode b) : ∃ h', ∀ k, 4001 ≤ k → spec_l01New.f k b = some (b, 0, h') := by
  obtain ⟨h', e⟩ := new_l hb 4000 4001 (wrap64 (38001 + (b.length : Int))) 0 (by omega) (by omega) (by omega)
  refine ⟨h', fun k hk => ?_⟩
  have hm : ∀ k, LeO (spec_l01New.l0 k b (wrap64 (38001 + (b.length : Int))) 0) (spec_l01New.l0 (k + 1) b (wrap64 (38001 + (b.length : Int))) 0) := fun k => by
    have := spec_l01New.mono_l k
    exact this _ _ _
  exact at_rounds (g := fun k => spec_l01New.l0 k b (wrap64 (38001 + (b.length : Int))) 0) hm hk e

theorem pick_ok {b : List Int} (hb : IsCode b) {i : Int} (hi : 0 ≤ i) (h : Int) {l : List ByteArray} (h0 : 0 < l.length) (h1 : l.length ≤ 4294967296) :
    ∃ r i' h', spec_l01Pick.f b i h l = some (r, i', h') ∧ r ∈ l ∧ 0 ≤ i' := by
  unfold spec_l01Pick.f
  obtain ⟨r, i', h', e, a, b', c⟩ := below_ok hb hi h (n := (l.length : Int)) (by omega) (by omega)
  rw [e, Option.bind_some]
  dsimp only
  rw [if_pos a, if_pos b']
  refine ⟨_, _, _, rfl, ?_, c⟩
  unfold rdOf
  rw [List.getD_eq_getElem?_getD, List.getElem?_eq_getElem (by omega)]
  exact List.getElem_mem _

theorem once_ok {b : List Int} (hb : IsCode b) {i : Int} (hi : 0 ≤ i) (h : Int) {n : Int} (h0 : 0 < n) (h1 : n ≤ 4294967296) : ∃ r i' h', spec_l01Once.f b i h n = some (r, i', h') ∧ 0 ≤ i' := by
  unfold spec_l01Once.f
  obtain ⟨r, i1, h1, e1, _, _, c1⟩ := below_ok hb hi h h0 h1
  rw [e1, Option.bind_some]
  exact ⟨_, _, _, rfl, c1⟩
theorem pick_sz {b : List Int} (hb : IsCode b) {i : Int} (hi : 0 ≤ i) (h : Int) {l : List ByteArray} (h0 : 0 < l.length) (h1 : l.length ≤ 4294967296) {m : Nat} (hm : ∀ x ∈ l, x.size ≤ m) :
    ∃ r i' h', spec_l01Pick.f b i h l = some (r, i', h') ∧ r.size ≤ m ∧ 0 ≤ i' := by
  obtain ⟨r, i', h', e, hr, c⟩ := pick_ok hb hi h h0 h1
  exact ⟨r, i', h', e, hm r hr, c⟩
theorem line_l {b : List Int} (hb : IsCode b) : ∀ (d : Nat) (k : Nat) (s : ByteArray) (j i h : Int), 0 ≤ j → 5 - j ≤ d → s.size + 7 * d ≤ 100000 → 0 ≤ i → d < k →
    ∃ t i' h', spec_l03Line.l0 k s j b i h = some (t, i', h') ∧ t.size ≤ s.size + 7 * d ∧ 0 ≤ i' := by
  intro d
  induction d with
  | zero =>
    intro k s j i h hj hd hs hi hk
    obtain ⟨k, rfl⟩ := succ_of hk
    simp only [spec_l03Line.l0]
    obtain ⟨r, i1, h1, e1, a1, b1, c1⟩ := below_ok hb hi h (n := 5) (by omega) (by omega)
    rw [e1, Option.bind_some]
    dsimp only
    rw [if_neg (by omega)]
    exact ⟨s, i1, h1, rfl, by omega, c1⟩
  | succ d ih =>
    intro k s j i h hj hd hs hi hk
    obtain ⟨k, rfl⟩ := succ_of hk
    simp only [spec_l03Line.l0]
    obtain ⟨r, i1, h1, e1, a1, b1, c1⟩ := below_ok hb hi h (n := 5) (by omega) (by omega)
    rw [e1, Option.bind_some]
    dsimp only
    by_cases hc : j < r
    · rw [if_pos hc]
      obtain ⟨u, i2, h2, e2, hu, c2⟩ := pick_sz hb c1 h1 (l := [(⟨#[]⟩ : ByteArray), (⟨#[32]⟩ : ByteArray), (⟨#[32, 32]⟩ : ByteArray), (⟨#[9]⟩ : ByteArray)]) (m := 2) (by decide) (by decide)
        (by intro x hx; simp only [List.mem_cons, List.mem_nil_iff, or_false] at hx; rcases hx with rfl | rfl | rfl | rfl <;> decide)
      rw [e2, Option.bind_some]
      dsimp only
      rw [if_pos (by omega)]
      obtain ⟨v, i3, h3, e3, hv, c3⟩ := pick_sz hb c2 h2 (l := [(⟨#[97]⟩ : ByteArray), (⟨#[98]⟩ : ByteArray), (⟨#[97, 98]⟩ : ByteArray), (⟨#[49]⟩ : ByteArray), (⟨#[50]⟩ : ByteArray), (⟨#[51, 48]⟩ : ByteArray), (⟨#[120, 55]⟩ : ByteArray), (⟨#[97, 98, 98, 97]⟩ : ByteArray)]) (m := 4) (by decide) (by decide)
        (by intro x hx; simp only [List.mem_cons, List.mem_nil_iff, or_false] at hx; rcases hx with rfl | rfl | rfl | rfl | rfl | rfl | rfl | rfl <;> decide)
      rw [e3, Option.bind_some]
      dsimp only
      have z1 : (s ++ u).size = s.size + u.size := ByteArray.size_append
      have z2 : (s ++ u ++ v).size = s.size + u.size + v.size := by rw [ByteArray.size_append, z1]
      have z3 : (s ++ u ++ v ++ (⟨#[32]⟩ : ByteArray)).size = s.size + u.size + v.size + 1 := by rw [ByteArray.size_append, z2]; rfl
      rw [if_pos (by omega), if_pos (by omega), w64 (by omega) (by omega)]
      obtain ⟨t, i4, h4, e4, ht, c4⟩ := ih k (s ++ u ++ v ++ (⟨#[32]⟩ : ByteArray)) (j + 1) i3 h3 (by omega) (by omega) (by omega) c3 (by omega)
      exact ⟨t, i4, h4, e4, by omega, c4⟩
    · rw [if_neg hc]
      exact ⟨s, i1, h1, rfl, by omega, c1⟩
theorem line_ok {b : List Int} (hb : IsCode b) {i : Int} (hi : 0 ≤ i) (h : Int) : ∃ t i' h', (∀ k, 6 ≤ k → spec_l03Line.f k b i h = some (t, i', h')) ∧ t.size ≤ 35 ∧ 0 ≤ i' := by
  obtain ⟨t, i', h', e, ht, hi'⟩ := line_l hb 5 6 ⟨#[]⟩ 0 i h (by omega) (by omega) (by decide) hi (by omega)
  refine ⟨t, i', h', fun k hk => ?_, by have : (⟨#[]⟩ : ByteArray).size = 0 := rfl; omega, hi'⟩
  have hm : ∀ k, LeO (spec_l03Line.f k b i h) (spec_l03Line.f (k + 1) b i h) := fun k => spec_l03Line.mono b i h k
  exact at_rounds (g := fun k => spec_l03Line.f k b i h) hm hk e

theorem fieldsI_good : ∀ (ys cur : List Int), (∀ x ∈ cur, blk x = false) → ∀ l ∈ fieldsI cur ys, l ≠ [] ∧ ∀ x ∈ l, blk x = false := by
  intro ys
  induction ys with
  | nil =>
    intro cur hc l h
    rw [fieldsI] at h
    split at h
    · cases h
    · rename_i hn
      have : l = cur := by simpa using h
      subst this
      exact ⟨hn, hc⟩
  | cons y ys ih =>
    intro cur hc l h
    rw [fieldsI] at h
    split at h
    · split at h
      · exact ih [] (by simp) l h
      · rename_i hn
        rcases List.mem_cons.1 h with rfl | h
        · exact ⟨hn, hc⟩
        · exact ih [] (by simp) l h
    · rename_i hb
      refine ih (cur ++ [y]) (fun x hx => ?_) l h
      rcases List.mem_append.1 hx with hx | hx
      · exact hc x hx
      · have : x = y := by simpa using hx
        rw [this]
        exact Bool.not_eq_true _ ▸ hb
def joinF : List (List Int) → List Int
  | [] => []
  | l :: ls => 32 :: l ++ joinF ls
theorem fieldsI_join : ∀ (ls : List (List Int)) (cur : List Int), (∀ l ∈ ls, l ≠ [] ∧ ∀ x ∈ l, blk x = false) → fieldsI cur (joinF ls) = (if cur = [] then [] else [cur]) ++ ls := by
  intro ls
  induction ls with
  | nil => intro cur _; rw [joinF, fieldsI, List.append_nil]
  | cons l ls ih =>
    intro cur h
    have hl := h l (List.mem_cons_self ..)
    have h2 : fieldsI [] (l ++ joinF ls) = l :: ls := by
      rw [fieldsI_app _ _ _ hl.2, List.nil_append, ih l (fun x hx => h x (List.mem_cons_of_mem _ hx)), if_neg hl.1]
      rfl
    show fieldsI cur (32 :: (l ++ joinF ls)) = _
    rw [fieldsI, show blk 32 = true from rfl, if_pos rfl, h2]
    split
    · rfl
    · rfl
def joinB : List ByteArray → ByteArray → ByteArray
  | [], t => t
  | l :: ls, t => joinB ls (t ++ (⟨#[32]⟩ : ByteArray) ++ l)
theorem joinB_bytes : ∀ (ls : List ByteArray) (t : ByteArray), bytesOf (joinB ls t) = bytesOf t ++ joinF (ls.map bytesOf) := by
  intro ls
  induction ls with
  | nil => intro t; rw [joinB, List.map_nil, joinF, List.append_nil]
  | cons l ls ih =>
    intro t
    rw [joinB, ih, bx_app, bx_app, List.map_cons, joinF, List.append_assoc, List.append_assoc]
    rfl
theorem joinB_size : ∀ (ls : List ByteArray) (t : ByteArray), (∀ x ∈ ls, x.size ≤ 40) → (joinB ls t).size ≤ t.size + 41 * ls.length := by
  intro ls
  induction ls with
  | nil => intro t _; rw [joinB]; omega
  | cons l ls ih =>
    intro t h
    have hl := h l (List.mem_cons_self ..)
    have := ih (t ++ (⟨#[32]⟩ : ByteArray) ++ l) (fun x hx => h x (List.mem_cons_of_mem _ hx))
    have z : (t ++ (⟨#[32]⟩ : ByteArray) ++ l).size = t.size + 1 + l.size := by rw [ByteArray.size_append, ByteArray.size_append]; rfl
    rw [joinB, List.length_cons]
    omega
theorem good_cut {l : List Int} (h : l ≠ [] ∧ ∀ x ∈ l, blk x = false) : l.take 40 ≠ [] ∧ (∀ x ∈ l.take 40, blk x = false) ∧ (l.take 40).length ≤ 40 := by
  refine ⟨?_, fun x hx => h.2 x (List.mem_of_mem_take hx), by rw [List.length_take]; omega⟩
  cases l with
  | nil => exact absurd rfl h.1
  | cons a l => simp
theorem fields_abc {k : Nat} (hk : 100 ≤ k) : ∃ R : List ByteArray, impl_FieldsOf.f k (⟨#[97, 32, 98, 9, 99]⟩ : ByteArray) = some R ∧ R.length = 3 := by
  obtain ⟨R, e, _, h⟩ := impl_fields (s := ⟨#[97, 32, 98, 9, 99]⟩) (by decide)
  refine ⟨R, e k (by show 5 + 2 < k; omega), ?_⟩
  have := congrArg List.length h
  rw [List.length_map] at this
  exact this.trans rfl
theorem fields_l1 {l l2 : List ByteArray} {t : ByteArray} {i : Int} {y : ByteArray} (hi0 : 0 ≤ i) (hi1 : i < (l.length : Int)) (hy : rdOf ByteArray.empty l i = y) (hz : y.size ≤ 40) (ht : t.size ≤ 100000) : ∀ (ys pre : List Int) (k : Nat), bytesOf y = pre ++ ys → (∀ x ∈ ys, blk x = false) → ys.length < k →
    ∃ k', k = k' + ys.length + 1 ∧ laws_FnFields.l1 k l l2 t i (pre.length : Int) = laws_FnFields.l0 k' l l2 (t ++ (⟨#[32]⟩ : ByteArray) ++ y) (wrap64 (i + 1)) := by
  intro ys
  induction ys with
  | nil =>
    intro pre k h _ hk
    obtain ⟨k, rfl⟩ := succ_of hk
    have he := bx_end h
    refine ⟨k, rfl, ?_⟩
    have z : (t ++ (⟨#[32]⟩ : ByteArray)).size = t.size + 1 := by rw [ByteArray.size_append]; rfl
    simp only [laws_FnFields.l1]
    rw [if_pos hi0, if_pos hi1, hy, if_neg (by omega), if_pos (by omega), if_pos (by omega)]
  | cons c ys ih =>
    intro pre k h hb hk
    obtain ⟨k, rfl⟩ := succ_of hk
    have hlt := bx_lt h
    rw [List.length_cons] at hk
    obtain ⟨k', hk', e⟩ := ih (pre ++ [c]) k (bx_next h) (fun x hx => hb x (List.mem_cons_of_mem _ hx)) (by omega)
    refine ⟨k', by rw [List.length_cons]; omega, ?_⟩
    have hc := hb c (List.mem_cons_self ..)
    unfold blk at hc
    simp only [Bool.or_eq_false_iff, decide_eq_false_iff_not] at hc
    simp only [laws_FnFields.l1]
    rw [if_pos hi0, if_pos hi1, hy, if_pos hlt, if_pos (by omega), bx_at h, if_neg hc.1, if_neg hc.2, bx_wrap h (by omega)]
    exact e
theorem fields_l0 {l : List ByteArray} (hl : l.length ≤ 20) (hg : ∀ x ∈ l, x.size ≤ 40 ∧ bytesOf x ≠ [] ∧ ∀ c ∈ bytesOf x, blk c = false) (hF : ∀ k, 5000 ≤ k → impl_FieldsOf.f k (joinB l ⟨#[]⟩) = some l) : ∀ (ys pre : List ByteArray) (t : ByteArray) (k : Nat), l = pre ++ ys → joinB ys t = joinB l ⟨#[]⟩ → t.size + 50 * ys.length ≤ 100000 → 50 * ys.length + 6000 < k →
    laws_FnFields.l0 k l l t (pre.length : Int) = some true := by
  intro ys
  induction ys with
  | nil =>
    intro pre t k h ht hz hk
    obtain ⟨k, rfl⟩ := succ_of hk
    rw [List.length_nil] at hk
    rw [joinB] at ht
    obtain ⟨R, e3, h3⟩ := fields_abc (k := k) (by omega)
    simp only [laws_FnFields.l0]
    have hn : ¬ (pre.length : Int) < (l.length : Int) := by rw [h]; exact len_nil pre
    rw [if_neg hn, sameTexts_k (by omega) (by omega), Option.bind_some, if_pos rfl, ht, hF k (by omega), Option.bind_some, sameTexts_k (by omega) (by omega), Option.bind_some, if_pos rfl, if_pos (by omega), e3, Option.bind_some, h3]
    rfl
  | cons y ys ih =>
    intro pre t k h ht hz hk
    obtain ⟨k, rfl⟩ := succ_of hk
    rw [List.length_cons] at hk hz
    have hy := hg y (by rw [h]; exact List.mem_append_right _ (List.mem_cons_self ..))
    have hr : rdOf ByteArray.empty l (pre.length : Int) = y := by rw [h]; exact getD_at pre ys y _
    have hlt : (pre.length : Int) < (l.length : Int) := by rw [h]; exact len_cons pre ys y
    have hsucc : wrap64 ((pre.length : Int) + 1) = ((pre ++ [y]).length : Int) := len_succ pre ys y (by rw [← h]; omega)
    have hne : ¬ y.toList = [] := by
      intro e
      apply hy.2.1
      rw [ByteArray.toList_eq] at e
      unfold bytesOf
      rw [e]
      rfl
    have hlen : (bytesOf y).length ≤ 40 := by rw [bx_len]; exact hy.1
    obtain ⟨k', hk', e⟩ := fields_l1 (l2 := l) (t := t) (by omega) hlt hr hy.1 (by omega) (bytesOf y) [] k rfl hy.2.2 (by omega)
    have z : (t ++ (⟨#[32]⟩ : ByteArray) ++ y).size = t.size + 1 + y.size := by rw [ByteArray.size_append, ByteArray.size_append]; rfl
    simp only [laws_FnFields.l0]
    rw [if_pos hlt, if_pos (by omega), hr, if_neg hne]
    refine (show laws_FnFields.l1 k l l t (pre.length : Int) 0 = _ from e).trans ?_
    rw [hsucc]
    exact ih (pre ++ [y]) _ k' (by rw [h, app_cons]) (by rw [← ht]; rfl) (by omega) (by omega)
theorem fdraw_l {b : List Int} (hb : IsCode b) : ∀ (d : Nat) (k : Nat) (s : ByteArray) (j i h : Int), 0 ≤ j → 22 - j ≤ d → s.size + 2 * d ≤ 100000 → 0 ≤ i → d < k →
    ∃ t, spec_DrawFieldsOf.l0 k s j b i h = some t ∧ t.size ≤ s.size + 2 * d := by
  intro d
  induction d with
  | zero =>
    intro k s j i h hj hd hs hi hk
    obtain ⟨k, rfl⟩ := succ_of hk
    simp only [spec_DrawFieldsOf.l0]
    obtain ⟨r, i1, h1, e1, a1, b1, c1⟩ := below_ok hb hi h (n := 4) (by omega) (by omega)
    rw [e1, Option.bind_some]
    dsimp only
    rw [w64 (by omega) (by omega), if_neg (by omega)]
    exact ⟨s, rfl, by omega⟩
  | succ d ih =>
    intro k s j i h hj hd hs hi hk
    obtain ⟨k, rfl⟩ := succ_of hk
    simp only [spec_DrawFieldsOf.l0]
    obtain ⟨r, i1, h1, e1, a1, b1, c1⟩ := below_ok hb hi h (n := 4) (by omega) (by omega)
    rw [e1, Option.bind_some]
    dsimp only
    rw [w64 (show _ ≤ 19 + r by omega) (by omega)]
    by_cases hc : j < 19 + r
    · have z : (s ++ (⟨#[102, 32]⟩ : ByteArray)).size = s.size + 2 := by rw [ByteArray.size_append]; rfl
      rw [if_pos hc, if_pos (by omega), w64 (by omega) (by omega)]
      obtain ⟨t, e, ht⟩ := ih k (s ++ (⟨#[102, 32]⟩ : ByteArray)) (j + 1) i1 h1 (by omega) (by omega) (by omega) c1 (by omega)
      exact ⟨t, e, by omega⟩
    · rw [if_neg hc]
      exact ⟨s, rfl, by omega⟩
theorem drawFields_ok {b : List Int} (hb : IsCode b) : ∃ s, (∀ k, 4001 ≤ k → spec_DrawFieldsOf.f k b = some s) ∧ s.size ≤ 100 := by
  obtain ⟨h', e⟩ := new_ok hb
  obtain ⟨o, i1, h1, e1, c1⟩ := once_ok hb (Int.le_refl 0) h' (n := 12) (by omega) (by omega)
  cases o with
  | true =>
    obtain ⟨t, et, ht⟩ := fdraw_l hb 22 23 ⟨#[]⟩ 0 i1 h1 (by omega) (by omega) (by decide) c1 (by omega)
    have hz : (⟨#[]⟩ : ByteArray).size = 0 := rfl
    refine ⟨t, fun k hk => ?_, by omega⟩
    unfold spec_DrawFieldsOf.f
    rw [e k (by omega), Option.bind_some]
    dsimp only
    rw [e1, Option.bind_some]
    dsimp only
    rw [if_pos rfl]
    have hm : ∀ k, LeO (spec_DrawFieldsOf.l0 k ⟨#[]⟩ 0 b i1 h1) (spec_DrawFieldsOf.l0 (k + 1) ⟨#[]⟩ 0 b i1 h1) := fun k => by
      have := spec_DrawFieldsOf.mono_l k
      exact this _ _ _ _ _
    exact at_rounds (g := fun k => spec_DrawFieldsOf.l0 k ⟨#[]⟩ 0 b i1 h1) hm (show 23 ≤ k by omega) et
  | false =>
    obtain ⟨t, i2, h2, e2, ht, _⟩ := line_ok hb c1 h1
    refine ⟨t, fun k hk => ?_, by omega⟩
    unfold spec_DrawFieldsOf.f
    rw [e k (by omega), Option.bind_some]
    dsimp only
    rw [e1, Option.bind_some]
    dsimp only
    rw [if_neg (by decide), e2 k (by omega), Option.bind_some]
theorem FnFields : laws_FnFields.Pure := by
  intro b hb0 hb1 hb2
  have hb : IsCode b := by unfold IsCode; omega
  obtain ⟨s, es, hs⟩ := drawFields_ok hb
  obtain ⟨l, hl, hR, eI, eS⟩ := fields_ok (s := s) (by omega)
  have hg : ∀ x ∈ l, x.size ≤ 40 ∧ bytesOf x ≠ [] ∧ ∀ c ∈ bytesOf x, blk c = false := by
    intro x hx
    have h1 : bytesOf x ∈ l.map bytesOf := List.mem_map.2 ⟨x, hx, rfl⟩
    rw [hR] at h1
    obtain ⟨p, hp, e⟩ := List.mem_map.1 h1
    have h2 := good_cut (fieldsI_good (bytesOf s) [] (by simp) p (List.mem_of_mem_take hp))
    rw [e, bx_len] at h2
    exact ⟨h2.2.2, h2.1, h2.2.1⟩
  have hz : (joinB l ⟨#[]⟩).size ≤ 820 := by
    have := joinB_size l ⟨#[]⟩ (fun x hx => (hg x hx).1)
    have hz0 : (⟨#[]⟩ : ByteArray).size = 0 := rfl
    omega
  have hF : ∀ k, 5000 ≤ k → impl_FieldsOf.f k (joinB l ⟨#[]⟩) = some l := by
    obtain ⟨R, e, _, hR2⟩ := impl_fields (s := joinB l ⟨#[]⟩) (by omega)
    have : R = l := by
      apply fbytes_inj
      rw [hR2, joinB_bytes, show bytesOf ⟨#[]⟩ = [] from rfl, List.nil_append, fieldsI_join (l.map bytesOf) [] (fun p hp => by obtain ⟨x, hx, rfl⟩ := List.mem_map.1 hp; exact (hg x hx).2), if_pos rfl, List.nil_append, List.take_of_length_le (by rw [List.length_map]; omega), List.map_map]
      apply List.map_congr_left
      intro x hx
      exact List.take_of_length_le (by rw [bx_len]; exact (hg x hx).1)
    rw [this] at e
    exact fun k hk => e k (by omega)
  refine ⟨20000, ?_⟩
  unfold laws_FnFields.f laws_big.f
  rw [Option.bind_some]
  by_cases hbig : decide ((b.length : Int) > 1048576) = true
  · rw [if_pos hbig]
  · rw [if_neg hbig, es _ (by omega), Option.bind_some, eI _ (by omega), Option.bind_some, eS _ (by omega), Option.bind_some]
    exact fields_l0 hl hg hF l [] ⟨#[]⟩ 20000 rfl rfl (by show 0 + 50 * l.length ≤ _; omega) (by omega)

end Go.Proofs.Ytodpkfidkilpdaa.Pure
