/- The pure statement of FnExactLinesOf: over numbers and lists, what the printed functions come to is what the law wants, for every input. -/
import Derived.Test.YtodpkfidkilpdaaDoorQFnExactLinesOfx2
set_option linter.unusedVariables false
set_option linter.unusedSimpArgs false
namespace Go.Proofs.YtodpkfidkilpdaaDoor.Pure
open Go.RowKit Go.Proofs.YtodpkfidkilpdaaDoor.QFnExactLinesOf Go.Proofs.YtodpkfidkilpdaaDoorW.PrintWords Go.Proofs.YtodpkfidkilpdaaDoorW.PrintLast
/-! Words on strings as lists of numbers. -/
theorem w64 {x : Int} (h0 : -9223372036854775808 ≤ x) (h1 : x ≤ 9223372036854775807) : wrap64 x = x := by
  unfold wrap64
  omega
theorem bx_len (s : ByteArray) : (bytesOf s).length = s.size := bytesOf_length s
theorem bx_byte (s : ByteArray) : ∀ c ∈ bytesOf s, 0 ≤ c ∧ c ≤ 255 := by
  intro c hc
  unfold bytesOf at hc
  obtain ⟨b, _, rfl⟩ := List.mem_map.1 hc
  have := b.toNat_lt
  omega
theorem bx_at {s : ByteArray} {pre ys : List Int} {c : Int} (h : bytesOf s = pre ++ c :: ys) : bt s (pre.length : Int) = c := by
  rw [← rd_bytesOf, h, rd, Int.toNat_natCast, List.getD_eq_getElem?_getD, List.getElem?_append_right (Nat.le_refl _)]
  simp
theorem bx_lt {s : ByteArray} {pre ys : List Int} {c : Int} (h : bytesOf s = pre ++ c :: ys) : (pre.length : Int) < (s.size : Int) := by
  have := congrArg List.length h
  rw [bx_len, List.length_append, List.length_cons] at this
  omega
theorem bx_end {s : ByteArray} {pre : List Int} (h : bytesOf s = pre ++ []) : (s.size : Int) = (pre.length : Int) := by
  have := congrArg List.length h
  rw [bx_len, List.append_nil] at this
  omega
theorem bx_next {s : ByteArray} {pre ys : List Int} {c : Int} (h : bytesOf s = pre ++ c :: ys) : bytesOf s = (pre ++ [c]) ++ ys := by
  rw [h, List.append_assoc]; rfl
theorem len_next (pre : List Int) (c : Int) : ((pre ++ [c]).length : Int) = (pre.length : Int) + 1 := by
  rw [List.length_append, List.length_singleton]; omega
theorem bx_inj {s t : ByteArray} (h : bytesOf s = bytesOf t) : s = t := by
  unfold bytesOf at h
  have h2 : s.data.toList = t.data.toList := by
    refine (List.map_inj_right (f := fun b : UInt8 => (b.toNat : Int)) ?_).1 h
    intro x y hxy
    exact UInt8.toNat_inj.1 (Int.ofNat_inj.1 hxy)
  exact ByteArray.ext (Array.toList_inj.1 h2)
theorem tl_inj {s t : ByteArray} (h : s.toList = t.toList) : s = t := by
  rw [ByteArray.toList_eq, ByteArray.toList_eq] at h
  exact ByteArray.ext (Array.toList_inj.1 h)
theorem tl_iff {s t : ByteArray} : s.toList = t.toList ↔ bytesOf s = bytesOf t := ⟨fun h => by rw [tl_inj h], fun h => by rw [bx_inj h]⟩
theorem bx_app (s t : ByteArray) : bytesOf (s ++ t) = bytesOf s ++ bytesOf t := by
  simp [bytesOf]
theorem bx_cut (s : ByteArray) (a b : Nat) : bytesOf (s.extract a b) = ((bytesOf s).take b).drop a := by
  simp [bytesOf, ByteArray.data_extract, List.map_drop, List.map_take, List.take_drop]
  rw [List.drop_take, List.drop_take]
  congr 1
  omega
theorem bx_str {xs : List Int} (h : ∀ c ∈ xs, 0 ≤ c ∧ c ≤ 255) : bytesOf (strOfNums xs) = xs := by
  unfold bytesOf
  rw [strOfNums_data, List.map_map]
  induction xs with
  | nil => rfl
  | cons c xs ih =>
    rw [List.map_cons, ih (fun d hd => h d (List.mem_cons_of_mem _ hd))]
    have hc := h c (List.mem_cons_self ..)
    congr 1
    have e : (UInt8.ofNat c.toNat).toNat = c.toNat := by
      rw [UInt8.toNat_ofNat']
      omega
    show ((UInt8.ofNat c.toNat).toNat : Int) = c
    rw [e]
    omega
theorem bx_wrap {s : ByteArray} {pre ys : List Int} {c : Int} (h : bytesOf s = pre ++ c :: ys) (hs : s.size ≤ 140737488351232) : wrap64 ((pre.length : Int) + 1) = ((pre ++ [c]).length : Int) := by
  rw [len_next]
  have := bx_lt h
  exact w64 (by omega) (by omega)
theorem bx_in {s : ByteArray} {pre ys : List Int} {c : Int} (h : bytesOf s = pre ++ c :: ys) : 0 ≤ c ∧ c ≤ 255 :=
  bx_byte s c (by rw [h]; exact List.mem_append_right _ (List.mem_cons_self ..))
theorem succ_of {n k : Nat} (h : n < k) : ∃ m, k = m + 1 := ⟨k - 1, by omega⟩
theorem ev2 {α β : Type} {g : Nat → Option α} {f : Nat → Option β} {a : α} {b : β} (h : Ev g a) (h' : Ev f b) : ∃ k, g k = some a ∧ f k = some b := by
  obtain ⟨K, h⟩ := h
  obtain ⟨K', h'⟩ := h'
  exact ⟨K + K', h _ (by omega), h' _ (by omega)⟩

theorem u32_in {x : Int} (h : (Lit.int .u32 x).wf = true) : 0 ≤ x ∧ x < 4294967296 := by
  simp only [Lit.wf, IntKind.min, IntKind.max, IntKind.signed, IntKind.bits, Bool.and_eq_true, decide_eq_true_eq] at h
  simp at h
  omega
theorem i64_in {x : Int} (h : (Lit.int .i64 x).wf = true) : -9223372036854775808 ≤ x ∧ x ≤ 9223372036854775807 := by
  simp only [Lit.wf, IntKind.min, IntKind.max, IntKind.signed, IntKind.bits, Bool.and_eq_true, decide_eq_true_eq] at h
  simp at h
  omega

theorem getD_at {α : Type} (pre ys : List α) (y d : α) : (pre ++ y :: ys).getD (pre.length : Int).toNat d = y := by
  rw [Int.toNat_natCast, List.getD_eq_getElem?_getD, List.getElem?_append_right (Nat.le_refl _)]
  simp
theorem len_cons {α : Type} (pre ys : List α) (y : α) : (pre.length : Int) < ((pre ++ y :: ys).length : Int) := by
  rw [List.length_append, List.length_cons]; omega
theorem len_nil {α : Type} (pre : List α) : ¬ (pre.length : Int) < ((pre ++ []).length : Int) := by
  rw [List.append_nil]; omega
theorem len_succ {α : Type} (pre ys : List α) (y : α) (h : (pre ++ y :: ys).length ≤ 9223372036854775807) : wrap64 ((pre.length : Int) + 1) = ((pre ++ [y]).length : Int) := by
  rw [List.length_append, List.length_cons] at h
  rw [List.length_append, List.length_singleton, w64 (by omega) (by omega)]
  omega
theorem app_cons {α : Type} (pre ys : List α) (y : α) : pre ++ y :: ys = (pre ++ [y]) ++ ys := by rw [List.append_assoc]; rfl
theorem set_at {α : Type} (pre ys : List α) (y z : α) : (pre ++ y :: ys).set (pre.length : Int).toNat z = pre ++ z :: ys := by
  rw [Int.toNat_natCast, List.set_append_right _ _ (Nat.le_refl _), Nat.sub_self]
  rfl

theorem markText_l : ∀ (d k : Nat) (n : Int) (s : ByteArray), 0 ≤ n → n < 10 ^ d → n ≤ 9223372036854775807 → s.size + d ≤ 1000 → d < k → ∃ t, laws_markText.l0 k n s = some t := by
  intro d
  induction d with
  | zero =>
    intro k n s h0 h1 _ hs hk
    obtain ⟨k, rfl⟩ := succ_of hk
    simp only [laws_markText.l0]
    rw [if_neg (by simp at h1; omega), if_pos (by omega)]
    exact ⟨_, rfl⟩
  | succ d ih =>
    intro k n s h0 h1 hm hs hk
    obtain ⟨k, rfl⟩ := succ_of hk
    simp only [laws_markText.l0]
    by_cases c : n > 0
    · rw [if_pos c, Option.bind_some]
      have hz : (strOfNums [(wrap64 (48 + (Int.tmod n 10))) % 256]).size = 1 := by rw [strOfNums_size]; rfl
      rw [if_pos (by rw [hz]; omega), Int.tdiv_eq_ediv_of_nonneg h0, w64 (by omega) (by omega)]
      exact ih k (n / 10) _ (by omega) (by rw [Int.pow_succ] at h1; omega) (by omega) (by rw [ByteArray.size_append, hz]; omega) (by omega)
    · rw [if_neg c, if_pos (by omega)]
      exact ⟨_, rfl⟩
def MT (n : Int) : ByteArray := ((laws_markText.f 64 n)).getD ⟨#[]⟩
theorem markText_k {n : Int} (h0 : 1 ≤ n) (h1 : n ≤ 1000000000) {k : Nat} (hk : 64 ≤ k) : laws_markText.f k n = some (MT n) := by
  have e : ∃ t, laws_markText.f 64 n = some t := by
    unfold laws_markText.f
    rw [if_neg (by omega)]
    exact markText_l 20 64 n _ (by omega) (by omega) (by omega) (by decide) (by decide)
  obtain ⟨t, e⟩ := e
  have e2 : MT n = t := by unfold MT; rw [e]; rfl
  rw [e2]
  exact at_rounds (g := fun k => laws_markText.f k n) (fun k => laws_markText.mono n k) hk e

theorem eqStringS_l : ∀ (ys pre : List ByteArray) (k : Nat), (pre ++ ys).length ≤ 100000000 → ys.length < k → laws_eqStringS.l0 k (pre ++ ys) (pre ++ ys) (pre.length : Int) = some true := by
  intro ys
  induction ys with
  | nil =>
    intro pre k hl hk
    obtain ⟨k, rfl⟩ := succ_of hk
    simp only [laws_eqStringS.l0]
    rw [if_neg (len_nil pre)]
  | cons y ys ih =>
    intro pre k hl hk
    obtain ⟨k, rfl⟩ := succ_of hk
    rw [List.length_cons] at hk
    simp only [laws_eqStringS.l0]
    rw [if_pos (len_cons pre ys y), if_pos (by omega), if_pos (len_cons pre ys y), if_pos trivial, len_succ pre ys y (by omega), app_cons]
    exact ih (pre ++ [y]) k (by rw [← app_cons]; exact hl) (by omega)
theorem eqStringS_k {l : List ByteArray} (hl : l.length ≤ 100000000) {k : Nat} (hk : l.length < k) : laws_eqStringS.f k l l = some true := by
  unfold laws_eqStringS.f
  rw [if_pos rfl]
  exact eqStringS_l l [] k hl hk
def markS : Int → List ByteArray → List ByteArray
  | _, [] => []
  | m, _ :: ys => MT m :: markS (m + 1) ys
theorem markS_len : ∀ (ys : List ByteArray) (m : Int), (markS m ys).length = ys.length
  | [], _ => rfl
  | _ :: ys, m => by rw [markS, List.length_cons, List.length_cons, markS_len ys]
theorem markStringS_l : ∀ (ys pre : List ByteArray) (k : Nat) (m : Int), 1 ≤ m → m + ys.length ≤ 1000000000 → ys.length + 64 < k → (pre ++ ys).length ≤ 100000000 →
    laws_markStringS.l0 k (pre ++ ys) m (pre.length : Int) = some (m + ys.length, pre ++ markS m ys) := by
  intro ys
  induction ys with
  | nil =>
    intro pre k m h1 h2 hk hl
    obtain ⟨k, rfl⟩ := succ_of hk
    simp only [laws_markStringS.l0]
    rw [if_neg (len_nil pre)]
    simp [markS]
  | cons y ys ih =>
    intro pre k m h1 h2 hk hl
    obtain ⟨k, rfl⟩ := succ_of hk
    rw [List.length_cons] at hk h2
    simp only [laws_markStringS.l0]
    rw [if_pos (len_cons pre ys y), markText_k h1 (by omega) (by omega), Option.bind_some, if_pos (by omega), set_at, w64 (show _ ≤ m + 1 by omega) (by omega), len_succ pre ys y (by omega), app_cons pre ys (MT m)]
    have := ih (pre ++ [MT m]) k (m + 1) (by omega) (by omega) (by omega) (by rw [List.length_append, List.length_append, List.length_singleton]; rw [List.length_append, List.length_cons] at hl; omega)
    rw [List.length_append, List.length_singleton] at this ⊢
    rw [this, markS, ← app_cons, List.length_cons]
    congr 2
    omega
theorem heldStringS_l : ∀ (ys pre : List ByteArray) (k : Nat) (m : Int), 1 ≤ m → m + ys.length ≤ 1000000000 → ys.length + 64 < k → (pre ++ ys).length ≤ 100000000 →
    laws_heldStringS.l0 k (pre ++ markS m ys) m (pre.length : Int) = some (m + ys.length) := by
  intro ys
  induction ys with
  | nil =>
    intro pre k m h1 h2 hk hl
    obtain ⟨k, rfl⟩ := succ_of hk
    rw [show markS m [] = [] from rfl]
    simp only [laws_heldStringS.l0]
    rw [if_neg (len_nil pre)]
    simp
  | cons y ys ih =>
    intro pre k m h1 h2 hk hl
    obtain ⟨k, rfl⟩ := succ_of hk
    rw [List.length_cons] at hk h2
    rw [List.length_append, List.length_cons] at hl
    rw [show markS m (y :: ys) = MT m :: markS (m + 1) ys from rfl]
    simp only [laws_heldStringS.l0]
    have hl2 : (pre ++ MT m :: markS (m + 1) ys).length ≤ 9223372036854775807 := by rw [List.length_append, List.length_cons, markS_len]; omega
    rw [if_pos (len_cons pre _ _), if_pos (by omega), markText_k h1 (by omega) (by omega), Option.bind_some, show rdOf ByteArray.empty (pre ++ MT m :: markS (m + 1) ys) (pre.length : Int) = MT m from getD_at pre _ _ _, if_pos rfl,
      w64 (show _ ≤ m + 1 by omega) (by omega), len_succ pre _ _ hl2, app_cons]
    have := ih (pre ++ [MT m]) k (m + 1) (by omega) (by omega) (by omega) (by rw [List.length_append, List.length_append, List.length_singleton]; omega)
    rw [this, List.length_cons]
    congr 1
    omega
theorem markStringS_k {l : List ByteArray} (hl : l.length ≤ 100000000) {k : Nat} (hk : l.length + 100 < k) : laws_markStringS.f k l 1 = some (1 + (l.length : Int), markS 1 l) := by
  unfold laws_markStringS.f
  exact markStringS_l l [] k 1 (by omega) (by omega) (by omega) hl
theorem heldStringS_k {l : List ByteArray} (hl : l.length ≤ 100000000) {k : Nat} (hk : l.length + 100 < k) : laws_heldStringS.f k (markS 1 l) 1 = some (1 + (l.length : Int)) := by
  unfold laws_heldStringS.f
  exact heldStringS_l l [] k 1 (by omega) (by omega) (by omega) hl

/-! A text cut at each byte of one kind. -/
def splitI (c : Int) : List Int → List Int → List (List Int)
  | cur, [] => [cur]
  | cur, x :: ys => if x = c then cur :: splitI c [] ys else splitI c (cur ++ [x]) ys
theorem splitI_no {c : Int} : ∀ (ys cur : List Int), (∀ x ∈ ys, x ≠ c) → splitI c cur ys = [cur ++ ys] := by
  intro ys
  induction ys with
  | nil => intro cur _; rw [splitI, List.append_nil]
  | cons y ys ih =>
    intro cur h
    rw [splitI, if_neg (h y (List.mem_cons_self ..)), ih _ (fun x hx => h x (List.mem_cons_of_mem _ hx)), List.append_assoc]
    rfl
theorem splitI_hit {c : Int} (ys : List Int) : ∀ (p cur : List Int), (∀ x ∈ p, x ≠ c) → splitI c cur (p ++ c :: ys) = (cur ++ p) :: splitI c [] ys := by
  intro p
  induction p with
  | nil => intro cur _; rw [List.nil_append, splitI, if_pos rfl, List.append_nil]
  | cons y p ih =>
    intro cur h
    rw [List.cons_append, splitI, if_neg (h y (List.mem_cons_self ..)), ih _ (fun x hx => h x (List.mem_cons_of_mem _ hx)), List.append_assoc]
    rfl
theorem split_one (c : UInt8) : ∀ (n : Nat) (s : ByteArray), s.size ≤ n → (Go.Lib.splitB ⟨#[c]⟩ 0 (Go.Lib.countB s ⟨#[c]⟩) s).map bytesOf = splitI (c.toNat : Int) [] (bytesOf s) := by
  intro n
  induction n with
  | zero =>
    intro s hs
    have hz : bytesOf s = [] := List.length_eq_zero_iff.1 (by rw [bx_len]; omega)
    rcases Go.Lib.indexB_cases s ⟨#[c]⟩ with h | ⟨i, h, hi⟩
    · rw [Go.Lib.countB_miss _ _ h, Go.Lib.splitB_zero, List.map_cons, List.map_nil, hz]
      rfl
    · have : (⟨#[c]⟩ : ByteArray).size = 1 := rfl
      omega
  | succ n ih =>
    intro s hs
    have hsz : (⟨#[c]⟩ : ByteArray).size = 1 := rfl
    have hone : Go.Lib.indexB s ⟨#[c]⟩ = Go.Lib.indexByte s.data.toList c := Go.Lib.index_one s.data.toList c
    rcases Go.Lib.indexB_cases s ⟨#[c]⟩ with h | ⟨i, h, hi⟩
    · rw [Go.Lib.countB_miss _ _ h, Go.Lib.splitB_zero, List.map_cons, List.map_nil, splitI_no]
      · rfl
      · intro x hx e
        rw [hone] at h
        unfold bytesOf at hx
        obtain ⟨b, hb, rfl⟩ := List.mem_map.1 hx
        obtain ⟨k, hk, e2⟩ := List.getElem_of_mem hb
        refine Go.Lib.indexByte_none h k ?_
        rw [List.getElem?_eq_getElem hk, e2]
        congr 1
        exact UInt8.toNat_inj.1 (by omega)
    · rw [Go.Lib.countB_hit s ⟨#[c]⟩ i (by omega) h, Nat.add_comm 1, Go.Lib.splitB_hit _ _ _ _ i h, List.map_cons, hsz]
      have hr : (s.extract (i + 1) s.size).size ≤ n := by rw [ByteArray.size_extract]; omega
      rw [ih _ hr, bx_cut, bx_cut]
      rw [hone] at h
      obtain ⟨h1, h2⟩ := Go.Lib.indexByte_some h
      have hb : bytesOf s = (bytesOf s).take i ++ (c.toNat : Int) :: (bytesOf s).drop (i + 1) := by
        have hl : i < (bytesOf s).length := by rw [bx_len]; omega
        have e : (bytesOf s)[i] = (c.toNat : Int) := by
          have : (bytesOf s)[i]? = some (c.toNat : Int) := by
            unfold bytesOf
            rw [List.getElem?_map, h1]
            rfl
          rw [List.getElem?_eq_getElem hl] at this
          exact Option.some.inj this
        rw [← e, ← List.drop_eq_getElem_cons hl, List.take_append_drop]
      have hno : ∀ x ∈ (bytesOf s).take i, x ≠ (c.toNat : Int) := by
        intro x hx e
        obtain ⟨k, hk, e2⟩ := List.getElem_of_mem hx
        have hk2 : k < i := by rw [List.length_take] at hk; omega
        have hk3 : k < s.data.toList.length := by
          rw [List.length_take, bx_len] at hk
          have : s.data.toList.length = s.size := Array.length_toList
          omega
        refine h2 k hk2 ?_
        rw [List.getElem?_eq_getElem hk3]
        congr 1
        apply UInt8.toNat_inj.1
        rw [List.getElem_take] at e2
        have e3 : (bytesOf s)[k]'(by rw [bx_len]; have : s.data.toList.length = s.size := Array.length_toList; omega) = ((s.data.toList[k]).toNat : Int) := by
          unfold bytesOf
          rw [List.getElem_map]
        rw [e3] at e2
        omega
      conv => rhs; rw [hb]
      rw [splitI_hit _ _ _ hno, List.nil_append, List.drop_zero, Nat.add_zero, List.take_of_length_le (show (bytesOf s).length ≤ s.size by rw [bx_len]; omega)]

/-! The lines of a text. -/
def linesI : List Int → List Int → List (List Int)
  | cur, [] => if cur = [] then [] else [cur]
  | cur, x :: ys => if x = 10 then cur :: linesI [] ys else linesI (cur ++ [x]) ys
def dropE (l : List (List Int)) : List (List Int) := if l.getLast? = some [] then l.dropLast else l
theorem splitI_ne (c : Int) : ∀ (ys cur : List Int), splitI c cur ys ≠ [] := by
  intro ys
  induction ys with
  | nil => intro cur; simp [splitI]
  | cons y ys ih =>
    intro cur
    rw [splitI]
    split
    · simp
    · exact ih _
theorem linesI_eq : ∀ (ys cur : List Int), linesI cur ys = dropE (splitI 10 cur ys) := by
  intro ys
  induction ys with
  | nil =>
    intro cur
    unfold linesI dropE splitI
    by_cases h : cur = []
    · subst h; rfl
    · rw [if_neg h, if_neg]
      simpa using h
  | cons y ys ih =>
    intro cur
    rw [linesI, splitI]
    by_cases h : y = 10
    · rw [if_pos h, if_pos h, ih]
      have hn := splitI_ne 10 ys []
      unfold dropE
      cases hs : splitI 10 [] ys with
      | nil => exact absurd hs hn
      | cons a l =>
        rw [List.getLast?_cons_cons, List.dropLast_cons_cons]
        split <;> rfl
    · rw [if_neg h, if_neg h, ih]
theorem map_take_ {α β : Type} (f : α → β) (l : List α) (n : Nat) : (l.take n).map f = (l.map f).take n := List.map_take
theorem impl_lines {s : ByteArray} (hs : s.size ≤ 4000000000) : ∃ R : List ByteArray, impl_LinesOf.f s = some R ∧ R.map bytesOf = (linesI [] (bytesOf s)).take 20 := by
  obtain ⟨t, ht⟩ : ∃ t, Go.Lib.splitB ⟨#[10]⟩ 0 (Go.Lib.countB s ⟨#[10]⟩) s = t := ⟨_, rfl⟩
  have hm : t.map bytesOf = splitI 10 [] (bytesOf s) := by rw [← ht]; exact split_one 10 s.size s (Nat.le_refl _)
  have hl := Go.Lib.splitB_all ⟨#[10]⟩ (by decide) 0 _ s rfl
  have hc := Go.Lib.countB_le ⟨#[10]⟩ (by decide) _ s (Nat.le_refl _)
  rw [ht] at hl
  unfold impl_LinesOf.f strings_Split.f
  rw [if_pos ⟨hs, by decide⟩, Option.bind_some, ht, w64 (show _ ≤ (t.length : Int) - 1 by omega) (by omega), if_pos (by omega), if_pos (by omega), linesI_eq, ← hm]
  have hlast : (t.map bytesOf).getLast? = some (bytesOf (rdOf ByteArray.empty t ((t.length : Int) - 1))) := by
    rw [List.getLast?_map, List.getLast?_eq_getElem?]
    unfold rdOf
    rw [show ((t.length : Int) - 1).toNat = t.length - 1 by omega, List.getD_eq_getElem?_getD, List.getElem?_eq_getElem (by omega)]
    rfl
  have hmn : ∀ n : Nat, ∀ l : List ByteArray, l.length = n → 0 ≤ mn (n : Int) 20 ∧ mn (n : Int) 20 ≤ (n : Int) ∧ l.take (mn (n : Int) 20).toNat = l.take 20 := by
    intro n l hn
    unfold mn
    by_cases h : (20 : Int) < (n : Int)
    · rw [if_pos h]
      exact ⟨by omega, by omega, rfl⟩
    · rw [if_neg h]
      exact ⟨by omega, by omega, by rw [Int.toNat_natCast, List.take_of_length_le (by omega), List.take_of_length_le (by omega)]⟩
  unfold dropE
  rw [hlast]
  by_cases he : (rdOf ByteArray.empty t ((t.length : Int) - 1)).toList = []
  · have e : bytesOf (rdOf ByteArray.empty t ((t.length : Int) - 1)) = [] := by rw [ByteArray.toList_eq] at he; unfold bytesOf; rw [he]; rfl
    have hd : t.take ((t.length : Int) - 1).toNat = t.dropLast := by rw [List.dropLast_eq_take]; congr 1; omega
    have hk := hmn _ t.dropLast rfl
    rw [if_pos he, if_pos (by omega), Option.bind_some, hd, if_pos hk.1, if_pos hk.2.1, hk.2.2, e, if_pos rfl]
    exact ⟨_, rfl, by rw [map_take_, List.map_dropLast]⟩
  · have e : ¬ some (bytesOf (rdOf ByteArray.empty t ((t.length : Int) - 1))) = some [] := by
      intro h
      apply he
      rw [ByteArray.toList_eq]
      have h := Option.some.inj h
      unfold bytesOf at h
      exact List.map_eq_nil_iff.1 h
    have hk := hmn _ t rfl
    rw [if_neg he, if_pos hk.1, if_pos hk.2.1, hk.2.2, if_neg e]
    exact ⟨_, rfl, by rw [map_take_]⟩
theorem ldrop_snoc {pre : List Int} {b : Nat} (h : b ≤ pre.length) (c : Int) : (pre ++ [c]).drop b = pre.drop b ++ [c] := by
  rw [List.drop_append, show b - pre.length = 0 by omega, List.drop_zero]
theorem spec_lines_l {s : ByteArray} (hs : s.size ≤ 4000000000) : ∀ (ys pre : List Int) (out : List ByteArray) (b k : Nat), bytesOf s = pre ++ ys → b ≤ pre.length → out.length ≤ 20 → 2 * ys.length + 2 < k →
    ∃ R : List ByteArray, spec_LinesOf.l0 k s out (b : Int) (pre.length : Int) = some (out ++ R) ∧ R.map bytesOf = (linesI (pre.drop b) ys).take (20 - out.length) := by
  have stop : ∀ (pre : List Int) (out : List ByteArray) (b k : Nat), out.length = 20 → (b : Int) ≤ (pre.length : Int) → spec_LinesOf.j1 (k + 1) s out (b : Int) (pre.length : Int) false = some out := by
    intro pre out b k ho hb
    simp only [spec_LinesOf.j1]
    rw [if_neg (by decide)]
    split
    · rw [if_neg (by omega)]
    · rfl
  intro ys
  induction ys with
  | nil =>
    intro pre out b k h hb ho hk
    have he := bx_end h
    have hz : bytesOf s = pre := by rw [h, List.append_nil]
    obtain ⟨k, rfl⟩ : ∃ m, k = m + 2 := ⟨k - 2, by omega⟩
    simp only [spec_LinesOf.l0]
    rw [if_neg (by omega)]
    by_cases h20 : out.length = 20
    · rw [stop pre out b k h20 (by omega)]
      exact ⟨[], by rw [List.append_nil], by rw [h20]; rfl⟩
    · simp only [spec_LinesOf.j1]
      rw [if_neg (by decide)]
      by_cases hlt : (b : Int) < (s.size : Int)
      · rw [if_pos hlt, if_pos (by omega), if_pos (by omega), if_pos (by omega), if_pos (by omega), Int.toNat_natCast]
        refine ⟨[s.extract b s.size], rfl, ?_⟩
        have hne : ¬ pre.drop b = [] := by
          intro h2
          have := congrArg List.length h2
          rw [List.length_drop, List.length_nil] at this
          omega
        rw [linesI, if_neg hne, List.take_of_length_le (by rw [List.length_singleton]; omega), List.map_cons, List.map_nil, bx_cut, hz, List.take_of_length_le (by omega)]
      · rw [if_neg hlt]
        refine ⟨[], by rw [List.append_nil], ?_⟩
        rw [linesI, if_pos (by rw [List.drop_of_length_le]; omega), List.take_nil]
        rfl
  | cons c ys ih =>
    intro pre out b k h hb ho hk
    have hlt := bx_lt h
    rw [List.length_cons] at hk
    obtain ⟨k, rfl⟩ : ∃ m, k = m + 2 := ⟨k - 2, by omega⟩
    simp only [spec_LinesOf.l0]
    rw [if_pos hlt]
    by_cases h20 : out.length = 20
    · rw [decide_eq_false (by omega), stop pre out b k h20 (by omega)]
      exact ⟨[], by rw [List.append_nil], by rw [h20]; rfl⟩
    · rw [decide_eq_true (by omega)]
      simp only [spec_LinesOf.j1]
      rw [if_pos trivial, if_pos (by omega), if_pos hlt, bx_at h, w64 (show _ ≤ (pre.length : Int) + 1 by omega) (by omega)]
      have hl1 : (pre.length : Int) + 1 = ((pre ++ [c]).length : Int) := by rw [List.length_append, List.length_singleton]; omega
      by_cases h10 : c = 10
      · rw [if_pos h10, if_pos (by omega), if_pos (by omega), if_pos (by omega), if_pos (by omega), Int.toNat_natCast, Int.toNat_natCast, hl1]
        obtain ⟨R, e, hR⟩ := ih (pre ++ [c]) (out ++ [s.extract b pre.length]) (pre ++ [c]).length k (bx_next h) (Nat.le_refl _) (by rw [List.length_append, List.length_singleton]; omega) (by omega)
        refine ⟨s.extract b pre.length :: R, by rw [e, List.append_assoc]; rfl, ?_⟩
        rw [List.drop_of_length_le (Nat.le_refl _), List.length_append, List.length_singleton] at hR
        rw [linesI, if_pos h10, show 20 - out.length = (20 - (out.length + 1)) + 1 by omega, List.take_succ_cons, List.map_cons, hR, bx_cut, h, List.take_left]
      · rw [if_neg h10, hl1]
        obtain ⟨R, e, hR⟩ := ih (pre ++ [c]) out b k (bx_next h) (by rw [List.length_append]; omega) ho (by omega)
        refine ⟨R, e, ?_⟩
        rw [linesI, if_neg h10, hR, ldrop_snoc hb]
theorem lbytes_inj {a b : List ByteArray} (h : a.map bytesOf = b.map bytesOf) : a = b := (List.map_inj_right (f := bytesOf) (fun _ _ e => bx_inj e)).1 h
theorem lines_ok {s : ByteArray} (hs : s.size ≤ 4000000000) : ∃ R : List ByteArray, R.length ≤ 20 ∧ R.map bytesOf = (linesI [] (bytesOf s)).take 20 ∧ impl_LinesOf.f s = some R ∧ ∀ k, 2 * s.size + 3 ≤ k → spec_LinesOf.f k s = some R := by
  obtain ⟨R, e, hR⟩ := impl_lines hs
  have hl : R.length ≤ 20 := by
    have := congrArg List.length hR
    rw [List.length_map, List.length_take] at this
    omega
  refine ⟨R, hl, hR, e, fun k hk => ?_⟩
  obtain ⟨R2, e2, hR2⟩ := spec_lines_l hs (bytesOf s) [] [] 0 k rfl (by omega) (by rw [List.length_nil]; omega) (by rw [bx_len]; omega)
  have : R2 = R := lbytes_inj (by rw [hR2, hR]; rfl)
  unfold spec_LinesOf.f
  rw [this] at e2
  exact e2

theorem FnExactLinesOf : laws_FnExactLinesOf.Pure := by
  intro s hs
  by_cases hbig : (s.size : Int) > 1048576
  · refine ⟨0, ?_⟩
    unfold laws_FnExactLinesOf.f
    rw [if_pos hbig]
  · obtain ⟨l, hl, _, eI, eS⟩ := lines_ok (s := s) (by omega)
    refine ⟨5000000, ?_⟩
    unfold laws_FnExactLinesOf.f
    rw [if_neg hbig, eS 5000000 (by omega), eI, Option.bind_some, Option.bind_some, eqStringS_k (by omega) (by omega), Option.bind_some, if_pos rfl, markStringS_k (by omega) (by omega), Option.bind_some]
    dsimp only
    rw [heldStringS_k (by omega) (by omega), Option.bind_some, if_neg (by omega), if_pos rfl, Option.bind_some, eqStringS_k (by omega) (by omega), Option.bind_some, if_pos rfl, Option.bind_some, if_neg (by omega), if_pos rfl]

end Go.Proofs.YtodpkfidkilpdaaDoor.Pure
