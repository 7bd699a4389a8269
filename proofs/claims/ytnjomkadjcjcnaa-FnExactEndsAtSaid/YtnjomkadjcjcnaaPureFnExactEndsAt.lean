/- The pure statement of FnExactEndsAt: over numbers and lists, what the printed functions come to is what the law wants, for every input. -/
import Derived.Test.YtnjomkadjcjcnaaQFnExactEndsAtx7
set_option linter.unusedVariables false
set_option linter.unusedSimpArgs false
namespace Go.Proofs.Ytnjomkadjcjcnaa.Pure
open Go.RowKit Go.Proofs.Ytnjomkadjcjcnaa.QFnExactEndsAt Go.Proofs.YtnjomkadjcjcnaaW.PrintWords Go.Proofs.YtnjomkadjcjcnaaW.PrintLast
/-! Words on strings as lists of numbers. -/
theorem w64 {x : Int} (h0 : -9223372036854775808 ≤ x) (h1 : x ≤ 9223372036854775807) : wrap64 x = x := by
  unfold wrap64
  omega
theorem bx_len (s : ByteArray) : (bytesOf s).length = s.size := bytesOf_length s
theorem bx_byte (s : ByteArray) : ∀ c ∈ bytesOf s, 0 ≤ c ∧ c ≤ 255 := by
  intro c hc
  unfold bytesOf at hc
  obtain ⟨b, _, rfl⟩ := List.mem_map.1 hc
  have := b.toNat_lt
  omega
theorem bx_at {s : ByteArray} {pre ys : List Int} {c : Int} (h : bytesOf s = pre ++ c :: ys) : bt s (pre.length : Int) = c := by
  rw [← rd_bytesOf, h, rd, Int.toNat_natCast, List.getD_eq_getElem?_getD, List.getElem?_append_right (Nat.le_refl _)]
  simp
theorem bx_lt {s : ByteArray} {pre ys : List Int} {c : Int} (h : bytesOf s = pre ++ c :: ys) : (pre.length : Int) < (s.size : Int) := by
  have := congrArg List.length h
  rw [bx_len, List.length_append, List.length_cons] at this
  omega
theorem bx_end {s : ByteArray} {pre : List Int} (h : bytesOf s = pre ++ []) : (s.size : Int) = (pre.length : Int) := by
  have := congrArg List.length h
  rw [bx_len, List.append_nil] at this
  omega
theorem bx_next {s : ByteArray} {pre ys : List Int} {c : Int} (h : bytesOf s = pre ++ c :: ys) : bytesOf s = (pre ++ [c]) ++ ys := by
  rw [h, List.append_assoc]; rfl
theorem len_next (pre : List Int) (c : Int) : ((pre ++ [c]).length : Int) = (pre.length : Int) + 1 := by
  rw [List.length_append, List.length_singleton]; omega
theorem bx_inj {s t : ByteArray} (h : bytesOf s = bytesOf t) : s = t := by
  unfold bytesOf at h
  have h2 : s.data.toList = t.data.toList := by
    refine (List.map_inj_right (f := fun b : UInt8 => (b.toNat : Int)) ?_).1 h
    intro x y hxy
    exact UInt8.toNat_inj.1 (Int.ofNat_inj.1 hxy)
  exact ByteArray.ext (Array.toList_inj.1 h2)
theorem tl_inj {s t : ByteArray} (h : s.toList = t.toList) : s = t := by
  rw [ByteArray.toList_eq, ByteArray.toList_eq] at h
  exact ByteArray.ext (Array.toList_inj.1 h)
theorem tl_iff {s t : ByteArray} : s.toList = t.toList ↔ bytesOf s = bytesOf t := ⟨fun h => by rw [tl_inj h], fun h => by rw [bx_inj h]⟩
theorem bx_app (s t : ByteArray) : bytesOf (s ++ t) = bytesOf s ++ bytesOf t := by
  simp [bytesOf]
theorem bx_cut (s : ByteArray) (a b : Nat) : bytesOf (s.extract a b) = ((bytesOf s).take b).drop a := by
  simp [bytesOf, ByteArray.data_extract, List.map_drop, List.map_take, List.take_drop]
  rw [List.drop_take, List.drop_take]
  congr 1
  omega
theorem bx_str {xs : List Int} (h : ∀ c ∈ xs, 0 ≤ c ∧ c ≤ 255) : bytesOf (strOfNums xs) = xs := by
  unfold bytesOf
  rw [strOfNums_data, List.map_map]
  induction xs with
  | nil => rfl
  | cons c xs ih =>
    rw [List.map_cons, ih (fun d hd => h d (List.mem_cons_of_mem _ hd))]
    have hc := h c (List.mem_cons_self ..)
    congr 1
    have e : (UInt8.ofNat c.toNat).toNat = c.toNat := by
      rw [UInt8.toNat_ofNat']
      omega
    show ((UInt8.ofNat c.toNat).toNat : Int) = c
    rw [e]
    omega
theorem bx_wrap {s : ByteArray} {pre ys : List Int} {c : Int} (h : bytesOf s = pre ++ c :: ys) (hs : s.size ≤ 140737488351232) : wrap64 ((pre.length : Int) + 1) = ((pre ++ [c]).length : Int) := by
  rw [len_next]
  have := bx_lt h
  exact w64 (by omega) (by omega)
theorem bx_in {s : ByteArray} {pre ys : List Int} {c : Int} (h : bytesOf s = pre ++ c :: ys) : 0 ≤ c ∧ c ≤ 255 :=
  bx_byte s c (by rw [h]; exact List.mem_append_right _ (List.mem_cons_self ..))
theorem succ_of {n k : Nat} (h : n < k) : ∃ m, k = m + 1 := ⟨k - 1, by omega⟩
theorem ev2 {α β : Type} {g : Nat → Option α} {f : Nat → Option β} {a : α} {b : β} (h : Ev g a) (h' : Ev f b) : ∃ k, g k = some a ∧ f k = some b := by
  obtain ⟨K, h⟩ := h
  obtain ⟨K', h'⟩ := h'
  exact ⟨K + K', h _ (by omega), h' _ (by omega)⟩

theorem getD_at {α : Type} (pre ys : List α) (y d : α) : (pre ++ y :: ys).getD (pre.length : Int).toNat d = y := by
  rw [Int.toNat_natCast, List.getD_eq_getElem?_getD, List.getElem?_append_right (Nat.le_refl _)]
  simp
theorem len_cons {α : Type} (pre ys : List α) (y : α) : (pre.length : Int) < ((pre ++ y :: ys).length : Int) := by
  rw [List.length_append, List.length_cons]; omega
theorem len_nil {α : Type} (pre : List α) : ¬ (pre.length : Int) < ((pre ++ []).length : Int) := by
  rw [List.append_nil]; omega
theorem len_succ {α : Type} (pre ys : List α) (y : α) (h : (pre ++ y :: ys).length ≤ 9223372036854775807) : wrap64 ((pre.length : Int) + 1) = ((pre ++ [y]).length : Int) := by
  rw [List.length_append, List.length_cons] at h
  rw [List.length_append, List.length_singleton, w64 (by omega) (by omega)]
  omega
theorem app_cons {α : Type} (pre ys : List α) (y : α) : pre ++ y :: ys = (pre ++ [y]) ++ ys := by rw [List.append_assoc]; rfl
theorem set_at {α : Type} (pre ys : List α) (y z : α) : (pre ++ y :: ys).set (pre.length : Int).toNat z = pre ++ z :: ys := by
  rw [Int.toNat_natCast, List.set_append_right _ _ (Nat.le_refl _), Nat.sub_self]
  rfl

theorem sIn (a b c : Int) : spec_l01In.f a b c = some (decide (b ≤ a) && decide (a ≤ c)) := by
  unfold spec_l01In.f
  by_cases h : a ≥ b
  · rw [if_pos h]; simp [show b ≤ a from h]
  · rw [if_neg h]; simp [show ¬ b ≤ a from h]

theorem iIn (a b c : Int) : impl_within.f a b c = some (decide (b ≤ a) && decide (a ≤ c)) := by
  unfold impl_within.f
  by_cases h : a ≥ b
  · rw [if_pos h]; simp [show b ≤ a from h]
  · rw [if_neg h]; simp [show ¬ b ≤ a from h]

/-! A right pattern: the rule, on lists. -/
def kidsNo (op : Int) : Int := if op = 5 ∨ op = 6 then 2 else if op = 7 ∨ op = 8 ∨ op = 9 then 1 else 0
def textOk (op : Int) (n : Int) : Bool := if op = 1 then decide (n = 1) else if op = 3 ∨ op = 4 then decide (1 ≤ n) && decide (n ≤ 24) else decide (n = 0)
def kidsOk (at_ : Int) (ks : List Int) : Bool := ks.all fun x => decide (0 ≤ x) && decide (x ≤ at_ - 1)
def pieceOk (at_ : Int) (p : S85) : Bool :=
  (decide (1 ≤ p.f0) && decide (p.f0 ≤ 12)) && (textOk p.f0 (p.f1.size : Int) && (decide ((p.f2.length : Int) = kidsNo p.f0) && kidsOk at_ p.f2))
def piecesOk : Int → List S85 → Bool
  | _, [] => true
  | i, p :: ps => pieceOk i p && piecesOk (i + 1) ps
def patOk (ps : List S85) : Bool := piecesOk 0 ps && (decide (1 ≤ ps.length) && decide (ps.length ≤ 60))
theorem len160 {α : Type} (l : List α) : (decide ((1 : Int) ≤ (l.length : Int)) && decide ((l.length : Int) ≤ 60)) = (decide (1 ≤ l.length) && decide (l.length ≤ 60)) := by
  congr 1 <;> apply decide_eq_decide.2 <;> omega
theorem tl_nil (s : ByteArray) : (s.toList == ([] : List UInt8)) = decide ((s.size : Int) = 0) := by
  rw [ByteArray.toList_eq]
  have h : s.data.toList.length = s.size := Array.length_toList
  cases hd : s.data.toList with
  | nil =>
    rw [hd] at h
    rw [decide_eq_true (by rw [← h]; rfl)]
    rfl
  | cons a l =>
    rw [hd, List.length_cons] at h
    rw [decide_eq_false (by omega)]
    rfl
/-- Pieces whose lengths are no more than the model has. -/
def PatIn (ps : List S85) : Prop := ps.length ≤ 1048576 ∧ ∀ p ∈ ps, p.f1.size ≤ 1048576 ∧ p.f2.length ≤ 1048576

theorem impl_kidsAhead_l (a : Int) (h0 : 0 ≤ a) (h1 : a ≤ 9223372036854775807) : ∀ (ys pre : List Int) (k : Nat), ys.length < k → (pre ++ ys).length ≤ 9223372036854775807 →
    impl_kidsAhead.l0 k a (pre ++ ys) ((pre ++ ys).length : Int) (pre.length : Int) = some (kidsOk a ys) := by
  intro ys
  induction ys with
  | nil =>
    intro pre k hk hl
    obtain ⟨k, rfl⟩ := succ_of hk
    simp only [impl_kidsAhead.l0]
    rw [if_neg (len_nil pre)]
    rfl
  | cons y ys ih =>
    intro pre k hk hl
    obtain ⟨k, rfl⟩ := succ_of hk
    simp only [impl_kidsAhead.l0]
    have hi := ih (pre ++ [y]) k (by simpa using hk) (by rw [← app_cons]; exact hl)
    rw [if_pos (len_cons pre ys y), if_pos (by omega), if_pos (len_cons pre ys y), show rd (pre ++ y :: ys) (pre.length : Int) = y from getD_at pre ys y _, iIn, Option.bind_some, w64 (show _ ≤ a - 1 by omega) (by omega), len_succ pre ys y hl, app_cons pre ys y, hi]
    show (if _ then _ else _) = some ((decide (0 ≤ y) && decide (y ≤ a - 1)) && kidsOk a ys)
    cases (decide (0 ≤ y) && decide (y ≤ a - 1)) <;> simp
theorem impl_kidsAhead_k {a : Int} (h0 : 0 ≤ a) (h1 : a ≤ 9223372036854775807) {ks : List Int} (hl : ks.length ≤ 1048576) {k : Nat} (hk : 1048577 ≤ k) : impl_kidsAhead.f k ks a = some (kidsOk a ks) :=
  impl_kidsAhead_l a h0 h1 ks [] k (by omega) (by simp; omega)
theorem impl_pieceOk_j1 {a : Int} (h0 : 0 ≤ a) (h1 : a ≤ 9223372036854775807) (n op : Int) (s : ByteArray) (ks : List Int) (hl : ks.length ≤ 1048576) {k : Nat} (hk : 1048580 ≤ k) :
    impl_pieceOk.j1 k a n op s ks = some ((decide (1 ≤ op) && decide (op ≤ 12)) && (textOk op (s.size : Int) && (decide ((ks.length : Int) = n) && kidsOk a ks))) := by
  obtain ⟨k, rfl⟩ : ∃ m, k = m + 2 := ⟨k - 2, by omega⟩
  have ek : ∀ j, 1048577 ≤ j → impl_kidsAhead.f j ks a = some (kidsOk a ks) := fun j hj => impl_kidsAhead_k h0 h1 hl hj
  have fin : ∀ (t b : Bool) (j : Nat), 1048577 ≤ j → (if b = true then (if t = true then (if (ks.length : Int) = n then ((impl_kidsAhead.f j ks a).bind fun x => some x) else some false) else some false) else some false) = some (b && (t && (decide ((ks.length : Int) = n) && kidsOk a ks))) := by
    intro t b j hj
    rw [ek j hj, Option.bind_some]
    cases b <;> cases t <;> simp
    split <;> simp_all
  simp only [impl_pieceOk.j1]
  by_cases c1 : op = 1
  · rw [if_pos c1, iIn, Option.bind_some]
    have := fin (decide ((s.size : Int) = 1)) (decide (1 ≤ op) && decide (op ≤ 12)) (k + 1) (by omega)
    simp only [decide_eq_true_eq] at this
    rw [this]
    unfold textOk
    rw [if_pos c1]
  · rw [if_neg c1]
    have hj : ∀ b : Bool, b = decide (op = 3 ∨ op = 4) → impl_pieceOk.j2 (k + 1) a n (s.toList == ([] : List UInt8)) b op s ks = some ((decide (1 ≤ op) && decide (op ≤ 12)) && (textOk op (s.size : Int) && (decide ((ks.length : Int) = n) && kidsOk a ks))) := by
      intro b hb
      simp only [impl_pieceOk.j2]
      cases b with
      | true =>
        have c3 : op = 3 ∨ op = 4 := by simpa using hb.symm
        rw [if_pos rfl, iIn, Option.bind_some, iIn, Option.bind_some, fin _ _ k (by omega)]
        unfold textOk
        rw [if_neg c1, if_pos c3]
      | false =>
        have c3 : ¬ (op = 3 ∨ op = 4) := by simpa using hb.symm
        rw [if_neg (by decide), iIn, Option.bind_some, fin _ _ k (by omega), tl_nil]
        unfold textOk
        rw [if_neg c1, if_neg c3]
    by_cases c3 : op = 3
    · rw [if_pos c3]
      exact hj _ (by simp [c3])
    · rw [if_neg c3]
      refine hj _ ?_
      by_cases c4 : op = 4
      · simp [c4]
      · simp [c3, c4]
theorem impl_pieceOk_k {a : Int} (h0 : 0 ≤ a) (h1 : a ≤ 9223372036854775807) (p : S85) (hl : p.f2.length ≤ 1048576) {k : Nat} (hk : 1048590 ≤ k) :
    impl_pieceOk.f k p.f0 p.f1 p.f2 a = some (pieceOk a p) := by
  obtain ⟨k, rfl⟩ : ∃ m, k = m + 2 := ⟨k - 2, by omega⟩
  unfold impl_pieceOk.f pieceOk
  have e : ∀ b : Bool, b = decide (p.f0 = 5 ∨ p.f0 = 6) → impl_pieceOk.j0 (k + 2) a 0 p.f0 b p.f0 p.f1 p.f2 = some ((decide (1 ≤ p.f0) && decide (p.f0 ≤ 12)) && (textOk p.f0 (p.f1.size : Int) && (decide ((p.f2.length : Int) = kidsNo p.f0) && kidsOk a p.f2))) := by
    intro b hb
    simp only [impl_pieceOk.j0]
    cases b with
    | true =>
      have c : p.f0 = 5 ∨ p.f0 = 6 := by simpa using hb.symm
      rw [if_pos rfl, impl_pieceOk_j1 h0 h1 2 _ _ _ hl (by omega)]
      unfold kidsNo
      rw [if_pos c]
    | false =>
      have c : ¬ (p.f0 = 5 ∨ p.f0 = 6) := by simpa using hb.symm
      rw [if_neg (by decide), impl_pieceOk_j1 h0 h1 1 _ _ _ hl (by omega), impl_pieceOk_j1 h0 h1 0 _ _ _ hl (by omega)]
      unfold kidsNo
      rw [if_neg c]
      by_cases c7 : p.f0 = 7
      · rw [if_pos c7, if_pos (.inl c7)]
      · rw [if_neg c7]
        by_cases c8 : p.f0 = 8
        · rw [if_pos c8, if_pos (.inr (.inl c8))]
        · rw [if_neg c8]
          by_cases c9 : p.f0 = 9
          · rw [if_pos c9, if_pos (.inr (.inr c9))]
          · rw [if_neg c9, if_neg (by omega)]
  by_cases c5 : p.f0 = 5
  · rw [if_pos c5]
    exact e _ (by simp [c5])
  · rw [if_neg c5]
    refine e _ ?_
    by_cases c6 : p.f0 = 6
    · simp [c6]
    · simp [c5, c6]
theorem impl_PatternOk_l (all : List S85) : ∀ (ys pre : List S85) (k : Nat), ys.length + 1048600 < k → (pre ++ ys).length ≤ 1048576 → (∀ p ∈ ys, p.f1.size ≤ 1048576 ∧ p.f2.length ≤ 1048576) →
    impl_PatternOk.l0 k (pre ++ ys) ((pre ++ ys).length : Int) (pre.length : Int) all = some (piecesOk (pre.length : Int) ys && (decide (1 ≤ all.length) && decide (all.length ≤ 60))) := by
  intro ys
  induction ys with
  | nil =>
    intro pre k hk hl hy
    obtain ⟨k, rfl⟩ := succ_of hk
    simp only [impl_PatternOk.l0]
    rw [if_neg (len_nil pre), iIn, Option.bind_some, len160]
    rfl
  | cons y ys ih =>
    intro pre k hk hl hy
    obtain ⟨k, rfl⟩ := succ_of hk
    simp only [impl_PatternOk.l0]
    rw [List.length_cons] at hk
    have hp : pre.length ≤ 1048576 := by rw [List.length_append] at hl; omega
    have hi := ih (pre ++ [y]) k (by omega) (by rw [← app_cons]; exact hl) (fun p hp => hy p (List.mem_cons_of_mem _ hp))
    rw [if_pos (len_cons pre ys y), if_pos (by omega), if_pos (len_cons pre ys y), show rd_T85 (pre ++ y :: ys) (pre.length : Int) = y from getD_at pre ys y _,
      impl_pieceOk_k (by omega) (by omega) y (hy y (List.mem_cons_self ..)).2 (by omega), Option.bind_some, len_succ pre ys y (by omega), app_cons pre ys y, hi, piecesOk, List.length_append, List.length_singleton]
    rw [show ((pre.length + 1 : Nat) : Int) = (pre.length : Int) + 1 by omega]
    cases pieceOk (pre.length : Int) y <;> simp
theorem impl_PatternOk_k {ps : List S85} (h : PatIn ps) {k : Nat} (hk : 3000000 ≤ k) : impl_PatternOk.f k ps = some (patOk ps) :=
  impl_PatternOk_l ps ps [] k (by have := h.1; omega) (by simpa using h.1) h.2

/-- Behind the choice of how many kids and how long a text: the rest of a round of the reference. 'texts': 0 where none may be. -/
theorem spec_kids_l (i : Int) (h0 : 0 ≤ i) (h1 : i ≤ 1048576) (all : List S85) (op : Int) (s : ByteArray) : ∀ (ys pre : List Int) (k : Nat), ys.length < k → (pre ++ ys).length ≤ 1048576 →
    (kidsOk i ys = true → ∃ k', k = k' + ys.length + 1 ∧ spec_PatternOk.l1 k i ((pre ++ ys).length : Int) (pre.length : Int) all op s (pre ++ ys) = spec_PatternOk.l0 k' (i + 1) all) ∧
    (kidsOk i ys = false → spec_PatternOk.l1 k i ((pre ++ ys).length : Int) (pre.length : Int) all op s (pre ++ ys) = some false) := by
  intro ys
  induction ys with
  | nil =>
    intro pre k hk hl
    obtain ⟨k, rfl⟩ := succ_of hk
    refine ⟨fun _ => ⟨k, rfl, ?_⟩, fun h => by cases h⟩
    simp only [spec_PatternOk.l1]
    rw [if_neg (len_nil pre), w64 (by omega) (by omega)]
  | cons y ys ih =>
    intro pre k hk hl
    obtain ⟨k, rfl⟩ := succ_of hk
    have hi := ih (pre ++ [y]) k (by simpa using hk) (by rw [← app_cons]; exact hl)
    have e : spec_PatternOk.l1 (k + 1) i ((pre ++ y :: ys).length : Int) (pre.length : Int) all op s (pre ++ y :: ys) = if (decide (0 ≤ y) && decide (y ≤ i - 1)) = true then spec_PatternOk.l1 k i ((pre ++ [y] ++ ys).length : Int) ((pre ++ [y]).length : Int) all op s (pre ++ [y] ++ ys) else some false := by
      simp only [spec_PatternOk.l1]
      rw [if_pos (len_cons pre ys y), if_pos (by omega), if_pos (len_cons pre ys y), show rd (pre ++ y :: ys) (pre.length : Int) = y from getD_at pre ys y _, sIn, Option.bind_some, w64 (show _ ≤ i - 1 by omega) (by omega), len_succ pre ys y (by omega), app_cons pre ys y]
    have ek : kidsOk i (y :: ys) = ((decide (0 ≤ y) && decide (y ≤ i - 1)) && kidsOk i ys) := rfl
    rw [e, ek]
    cases hb : (decide (0 ≤ y) && decide (y ≤ i - 1)) with
    | false => exact ⟨fun h => by simp at h, fun _ => by simp⟩
    | true =>
      refine ⟨fun h => ?_, fun h => ?_⟩
      · obtain ⟨k', h1, h2⟩ := hi.1 (by simpa using h)
        refine ⟨k', by rw [List.length_cons]; omega, ?_⟩
        rw [if_pos rfl]
        exact h2
      · rw [if_pos rfl]
        exact hi.2 (by simpa using h)
def roundOk (i kids texts : Int) (s : ByteArray) (ks : List Int) : Bool :=
  decide ((ks.length : Int) = kids) && (!decide ((s.size : Int) > texts) && (!(decide (texts > 0) && decide ((s.size : Int) = 0)) && kidsOk i ks))
theorem spec_j4 {i : Int} (h0 : 0 ≤ i) (h1 : i ≤ 1048576) (kids texts op : Int) (all : List S85) (s : ByteArray) (ks : List Int) (hl : ks.length ≤ 1048576) {k : Nat} (hk : 1048590 ≤ k) :
    (roundOk i kids texts s ks = true → ∃ k', k ≤ k' + 1048590 ∧ spec_PatternOk.j4 k i kids texts all op s ks = spec_PatternOk.l0 k' (i + 1) all) ∧ (roundOk i kids texts s ks = false → spec_PatternOk.j4 k i kids texts all op s ks = some false) := by
  obtain ⟨k, rfl⟩ : ∃ m, k = m + 2 := ⟨k - 2, by omega⟩
  have hj5 : ∀ b : Bool, spec_PatternOk.j5 (k + 1) i kids b all op s ks = if b = true then some false else spec_PatternOk.l1 k i kids 0 all op s ks := fun b => by simp only [spec_PatternOk.j5]
  have hkids := spec_kids_l i h0 h1 all op s ks [] k (by omega) (by simpa using hl)
  simp only [List.nil_append, List.length_nil] at hkids
  simp only [spec_PatternOk.j4, hj5]
  unfold roundOk
  by_cases c1 : (ks.length : Int) = kids
  · subst c1
    rw [if_pos rfl, decide_eq_true rfl, Bool.true_and]
    by_cases c2 : (s.size : Int) > texts
    · rw [if_pos c2, decide_eq_true c2]
      exact ⟨fun h => by simp at h, fun _ => by simp⟩
    · rw [if_neg c2, decide_eq_false c2]
      have hb : (if texts > 0 then (if (s.toList == ([] : List UInt8)) = true then some false else spec_PatternOk.l1 k i (ks.length : Int) 0 all op s ks) else (if false = true then some false else spec_PatternOk.l1 k i (ks.length : Int) 0 all op s ks)) = if (decide (texts > 0) && decide ((s.size : Int) = 0)) = true then some false else spec_PatternOk.l1 k i (ks.length : Int) 0 all op s ks := by
        rw [tl_nil]
        by_cases c3 : texts > 0
        · rw [if_pos c3, decide_eq_true c3, Bool.true_and]
        · rw [if_neg c3, decide_eq_false c3, Bool.false_and]
      rw [hb]
      cases (decide (texts > 0) && decide ((s.size : Int) = 0)) with
      | true => exact ⟨fun h => by simp at h, fun _ => by simp⟩
      | false =>
        rw [if_neg (by decide)]
        refine ⟨fun h => ?_, fun h => hkids.2 (by simpa using h)⟩
        obtain ⟨k', h2, h3⟩ := hkids.1 (by simpa using h)
        exact ⟨k', by omega, h3⟩
  · rw [if_neg c1, decide_eq_false c1]
    exact ⟨fun h => by simp at h, fun _ => by simp⟩
theorem spec_round {i : Int} (h0 : 0 ≤ i) (h1 : i ≤ 1048576) (all : List S85) (hi : i < (all.length : Int)) (p : S85) (hp : rd_T85 all i = p) (hl : p.f2.length ≤ 1048576) {k : Nat} (hk : 1048600 ≤ k) :
    (pieceOk i p = true → ∃ k', k ≤ k' + 1048600 ∧ spec_PatternOk.l0 k i all = spec_PatternOk.l0 k' (i + 1) all) ∧ (pieceOk i p = false → spec_PatternOk.l0 k i all = some false) := by
  obtain ⟨k, rfl⟩ : ∃ m, k = m + 4 := ⟨k - 4, by omega⟩
  obtain ⟨op, s, ks⟩ := p
  dsimp only at hl
  have hsn : 0 ≤ (s.size : Int) := by omega
  have hkn : 0 ≤ (ks.length : Int) := by omega
  -- where a round comes to, by what it chooses
  have go : ∀ (n : Nat) (kids texts : Int), 1048590 ≤ n → k ≤ n + 3 → n ≤ k + 3 → (pieceOk i ⟨op, s, ks⟩ = roundOk i kids texts s ks) →
      (pieceOk i ⟨op, s, ks⟩ = true → ∃ k', k + 4 ≤ k' + 1048600 ∧ spec_PatternOk.j4 n i kids texts all op s ks = spec_PatternOk.l0 k' (i + 1) all) ∧ (pieceOk i ⟨op, s, ks⟩ = false → spec_PatternOk.j4 n i kids texts all op s ks = some false) := by
    intro n kids texts hn hn2 hn3 he
    have := spec_j4 h0 h1 kids texts op all s ks hl hn
    rw [he]
    refine ⟨fun h => ?_, this.2⟩
    obtain ⟨k', h2, h3⟩ := this.1 h
    exact ⟨k', by omega, h3⟩
  by_cases c5 : op = 5
  · subst c5
    have e : spec_PatternOk.l0 (k + 4) i all = spec_PatternOk.j4 (k + 2) i 2 0 all 5 s ks := by
      simp only [spec_PatternOk.l0]
      rw [if_pos hi, if_pos h0, hp]
      simp [spec_PatternOk.j1, spec_PatternOk.j2, spec_PatternOk.j3]
    rw [e]
    refine go (k + 2) 2 0 (by omega) (by omega) (by omega) ?_
    rw [Bool.eq_iff_iff]
    simp only [pieceOk, roundOk, textOk, kidsNo]
    generalize (s.size : Int) = sn at hsn ⊢
    generalize (ks.length : Int) = kn at hkn ⊢
    by_cases hk2 : kidsOk i ks = true <;> simp [hk2] <;> omega
  by_cases c6 : op = 6
  · subst c6
    have e : spec_PatternOk.l0 (k + 4) i all = spec_PatternOk.j4 (k + 2) i 2 0 all 6 s ks := by
      simp only [spec_PatternOk.l0]
      rw [if_pos hi, if_pos h0, hp]
      simp [spec_PatternOk.j1, spec_PatternOk.j2, spec_PatternOk.j3]
    rw [e]
    refine go (k + 2) 2 0 (by omega) (by omega) (by omega) ?_
    rw [Bool.eq_iff_iff]
    simp only [pieceOk, roundOk, textOk, kidsNo]
    generalize (s.size : Int) = sn at hsn ⊢
    generalize (ks.length : Int) = kn at hkn ⊢
    by_cases hk2 : kidsOk i ks = true <;> simp [hk2] <;> omega
  by_cases c7 : op = 7
  · subst c7
    have e : spec_PatternOk.l0 (k + 4) i all = spec_PatternOk.j4 (k + 1) i 1 0 all 7 s ks := by
      simp only [spec_PatternOk.l0]
      rw [if_pos hi, if_pos h0, hp]
      simp [spec_PatternOk.j1, spec_PatternOk.j2, spec_PatternOk.j3]
    rw [e]
    refine go (k + 1) 1 0 (by omega) (by omega) (by omega) ?_
    rw [Bool.eq_iff_iff]
    simp only [pieceOk, roundOk, textOk, kidsNo]
    generalize (s.size : Int) = sn at hsn ⊢
    generalize (ks.length : Int) = kn at hkn ⊢
    by_cases hk2 : kidsOk i ks = true <;> simp [hk2] <;> omega
  by_cases c8 : op = 8
  · subst c8
    have e : spec_PatternOk.l0 (k + 4) i all = spec_PatternOk.j4 (k + 1) i 1 0 all 8 s ks := by
      simp only [spec_PatternOk.l0]
      rw [if_pos hi, if_pos h0, hp]
      simp [spec_PatternOk.j1, spec_PatternOk.j2, spec_PatternOk.j3]
    rw [e]
    refine go (k + 1) 1 0 (by omega) (by omega) (by omega) ?_
    rw [Bool.eq_iff_iff]
    simp only [pieceOk, roundOk, textOk, kidsNo]
    generalize (s.size : Int) = sn at hsn ⊢
    generalize (ks.length : Int) = kn at hkn ⊢
    by_cases hk2 : kidsOk i ks = true <;> simp [hk2] <;> omega
  by_cases c9 : op = 9
  · subst c9
    have e : spec_PatternOk.l0 (k + 4) i all = spec_PatternOk.j4 (k + 1) i 1 0 all 9 s ks := by
      simp only [spec_PatternOk.l0]
      rw [if_pos hi, if_pos h0, hp]
      simp [spec_PatternOk.j1, spec_PatternOk.j2, spec_PatternOk.j3]
    rw [e]
    refine go (k + 1) 1 0 (by omega) (by omega) (by omega) ?_
    rw [Bool.eq_iff_iff]
    simp only [pieceOk, roundOk, textOk, kidsNo]
    generalize (s.size : Int) = sn at hsn ⊢
    generalize (ks.length : Int) = kn at hkn ⊢
    by_cases hk2 : kidsOk i ks = true <;> simp [hk2] <;> omega
  by_cases c1 : op = 1
  · subst c1
    have e : spec_PatternOk.l0 (k + 4) i all = spec_PatternOk.j4 (k + 1) i 0 1 all 1 s ks := by
      simp only [spec_PatternOk.l0]
      rw [if_pos hi, if_pos h0, hp]
      simp [spec_PatternOk.j1, spec_PatternOk.j2, spec_PatternOk.j3]
    rw [e]
    refine go (k + 1) 0 1 (by omega) (by omega) (by omega) ?_
    rw [Bool.eq_iff_iff]
    simp only [pieceOk, roundOk, textOk, kidsNo]
    generalize (s.size : Int) = sn at hsn ⊢
    generalize (ks.length : Int) = kn at hkn ⊢
    by_cases hk2 : kidsOk i ks = true <;> simp [hk2] <;> omega
  by_cases c3 : op = 3
  · subst c3
    have e : spec_PatternOk.l0 (k + 4) i all = spec_PatternOk.j4 (k + 0) i 0 24 all 3 s ks := by
      simp only [spec_PatternOk.l0]
      rw [if_pos hi, if_pos h0, hp]
      simp [spec_PatternOk.j1, spec_PatternOk.j2, spec_PatternOk.j3]
    rw [e]
    refine go (k + 0) 0 24 (by omega) (by omega) (by omega) ?_
    rw [Bool.eq_iff_iff]
    simp only [pieceOk, roundOk, textOk, kidsNo]
    generalize (s.size : Int) = sn at hsn ⊢
    generalize (ks.length : Int) = kn at hkn ⊢
    by_cases hk2 : kidsOk i ks = true <;> simp [hk2] <;> omega
  by_cases c4 : op = 4
  · subst c4
    have e : spec_PatternOk.l0 (k + 4) i all = spec_PatternOk.j4 (k + 0) i 0 24 all 4 s ks := by
      simp only [spec_PatternOk.l0]
      rw [if_pos hi, if_pos h0, hp]
      simp [spec_PatternOk.j1, spec_PatternOk.j2, spec_PatternOk.j3]
    rw [e]
    refine go (k + 0) 0 24 (by omega) (by omega) (by omega) ?_
    rw [Bool.eq_iff_iff]
    simp only [pieceOk, roundOk, textOk, kidsNo]
    generalize (s.size : Int) = sn at hsn ⊢
    generalize (ks.length : Int) = kn at hkn ⊢
    by_cases hk2 : kidsOk i ks = true <;> simp [hk2] <;> omega
  by_cases c2 : op = 2
  · subst c2
    have e : spec_PatternOk.l0 (k + 4) i all = spec_PatternOk.j4 (k + 0) i 0 0 all 2 s ks := by
      simp only [spec_PatternOk.l0]
      rw [if_pos hi, if_pos h0, hp]
      simp [spec_PatternOk.j1, spec_PatternOk.j2, spec_PatternOk.j3]
    rw [e]
    refine go (k + 0) 0 0 (by omega) (by omega) (by omega) ?_
    rw [Bool.eq_iff_iff]
    simp only [pieceOk, roundOk, textOk, kidsNo]
    generalize (s.size : Int) = sn at hsn ⊢
    generalize (ks.length : Int) = kn at hkn ⊢
    by_cases hk2 : kidsOk i ks = true <;> simp [hk2] <;> omega
  by_cases c10 : op = 10
  · subst c10
    have e : spec_PatternOk.l0 (k + 4) i all = spec_PatternOk.j4 (k + 0) i 0 0 all 10 s ks := by
      simp only [spec_PatternOk.l0]
      rw [if_pos hi, if_pos h0, hp]
      simp [spec_PatternOk.j1, spec_PatternOk.j2, spec_PatternOk.j3]
    rw [e]
    refine go (k + 0) 0 0 (by omega) (by omega) (by omega) ?_
    rw [Bool.eq_iff_iff]
    simp only [pieceOk, roundOk, textOk, kidsNo]
    generalize (s.size : Int) = sn at hsn ⊢
    generalize (ks.length : Int) = kn at hkn ⊢
    by_cases hk2 : kidsOk i ks = true <;> simp [hk2] <;> omega
  by_cases c11 : op = 11
  · subst c11
    have e : spec_PatternOk.l0 (k + 4) i all = spec_PatternOk.j4 (k + 0) i 0 0 all 11 s ks := by
      simp only [spec_PatternOk.l0]
      rw [if_pos hi, if_pos h0, hp]
      simp [spec_PatternOk.j1, spec_PatternOk.j2, spec_PatternOk.j3]
    rw [e]
    refine go (k + 0) 0 0 (by omega) (by omega) (by omega) ?_
    rw [Bool.eq_iff_iff]
    simp only [pieceOk, roundOk, textOk, kidsNo]
    generalize (s.size : Int) = sn at hsn ⊢
    generalize (ks.length : Int) = kn at hkn ⊢
    by_cases hk2 : kidsOk i ks = true <;> simp [hk2] <;> omega
  by_cases c12 : op = 12
  · subst c12
    have e : spec_PatternOk.l0 (k + 4) i all = spec_PatternOk.j4 (k + 0) i 0 0 all 12 s ks := by
      simp only [spec_PatternOk.l0]
      rw [if_pos hi, if_pos h0, hp]
      simp [spec_PatternOk.j1, spec_PatternOk.j2, spec_PatternOk.j3]
    rw [e]
    refine go (k + 0) 0 0 (by omega) (by omega) (by omega) ?_
    rw [Bool.eq_iff_iff]
    simp only [pieceOk, roundOk, textOk, kidsNo]
    generalize (s.size : Int) = sn at hsn ⊢
    generalize (ks.length : Int) = kn at hkn ⊢
    by_cases hk2 : kidsOk i ks = true <;> simp [hk2] <;> omega
  have e : spec_PatternOk.l0 (k + 4) i all = some false := by
    simp only [spec_PatternOk.l0]
    rw [if_pos hi, if_pos h0, hp]
    simp [spec_PatternOk.j1, spec_PatternOk.j2, spec_PatternOk.j3, c5, c6, c7, c8, c9, c1, c3, c4, c2, c10, c11, c12]
  rw [e]
  have e2 : pieceOk i ⟨op, s, ks⟩ = false := by
    have : (decide (1 ≤ op) && decide (op ≤ 12)) = false := by
      rw [Bool.eq_false_iff]
      intro h
      simp at h
      omega
    unfold pieceOk
    rw [this]
    rfl
  exact ⟨fun h => absurd (e2.symm.trans h) (by decide), fun _ => rfl⟩
theorem spec_PatternOk_l : ∀ (ys pre : List S85) (k : Nat), 1048600 * (ys.length + 1) < k → (pre ++ ys).length ≤ 1048576 → (∀ p ∈ ys, p.f1.size ≤ 1048576 ∧ p.f2.length ≤ 1048576) →
    spec_PatternOk.l0 k (pre.length : Int) (pre ++ ys) = some (piecesOk (pre.length : Int) ys && (decide (1 ≤ (pre ++ ys).length) && decide ((pre ++ ys).length ≤ 60))) := by
  intro ys
  induction ys with
  | nil =>
    intro pre k hk hl hy
    obtain ⟨k, rfl⟩ := succ_of hk
    simp only [spec_PatternOk.l0]
    rw [if_neg (len_nil pre), sIn, Option.bind_some, len160]
    rfl
  | cons y ys ih =>
    intro pre k hk hl hy
    rw [List.length_cons] at hk
    have hp : pre.length ≤ 1048576 := by rw [List.length_append] at hl; omega
    have hr := spec_round (i := (pre.length : Int)) (by omega) (by omega) (pre ++ y :: ys) (len_cons pre ys y) y (getD_at pre ys y _) (hy y (List.mem_cons_self ..)).2 (k := k) (by omega)
    rw [piecesOk]
    cases hb : pieceOk (pre.length : Int) y with
    | false => rw [hr.2 hb]; simp
    | true =>
      obtain ⟨k', h1, h2⟩ := hr.1 hb
      have hi := ih (pre ++ [y]) k' (by omega) (by rw [← app_cons]; exact hl) (fun p hp => hy p (List.mem_cons_of_mem _ hp))
      rw [List.length_append, List.length_singleton, show ((pre.length + 1 : Nat) : Int) = (pre.length : Int) + 1 by omega, ← app_cons pre ys y] at hi
      rw [h2, hi, Bool.true_and]
theorem spec_PatternOk_ev {ps : List S85} (h : PatIn ps) : Ev (fun k => spec_PatternOk.f k ps) (patOk ps) :=
  ⟨1048600 * (ps.length + 1) + 1, fun k hk => spec_PatternOk_l ps [] k (by omega) (by simpa using h.1) h.2⟩

/-! What the laws ask of a pattern's size; a pattern of the laws as one of the program's; a pattern is the same as itself. -/
def BigPat (ps : List S84) : Prop := ps.length ≤ 9223372036854775807 ∧ ∀ p ∈ ps, (Lit.int .i64 p.f0).wf = true ∧ p.f1.size ≤ 9223372036854775807 ∧ (p.f2.length ≤ 9223372036854775807 ∧ ∀ x ∈ p.f2, (Lit.int .i64 x).wf = true)
theorem szPiece_ok (op : Int) (s : ByteArray) (ks : List Int) {left : Int} (h0 : 0 ≤ left) (h1 : left ≤ 1048576) (hs : s.size ≤ 9223372036854775807) (hk : ks.length ≤ 9223372036854775807) :
    ∃ r, laws_szPiece.f op s ks left = some r ∧ r ≤ left ∧ (0 ≤ r → (s.size : Int) ≤ left ∧ (ks.length : Int) ≤ left) := by
  unfold laws_szPiece.f laws_szIntS.f
  rw [w64 (show _ ≤ left - (s.size : Int) by omega) (by omega)]
  by_cases c : left - (s.size : Int) < 0
  · rw [if_pos c]; exact ⟨-1, rfl, by omega, by omega⟩
  · rw [if_neg c, w64 (show _ ≤ left - (s.size : Int) - (ks.length : Int) by omega) (by omega)]
    by_cases c2 : left - (s.size : Int) - (ks.length : Int) < 0
    · rw [if_pos c2, Option.bind_some, if_pos (by omega)]; exact ⟨-1, rfl, by omega, by omega⟩
    · rw [if_neg c2, Option.bind_some, if_neg c2]; exact ⟨_, rfl, by omega, by omega⟩
theorem szPieceS_l : ∀ (ys pre : List S84) (k : Nat) (left : Int), 0 ≤ left → left ≤ 1048576 → ys.length < k → (pre ++ ys).length ≤ 9223372036854775807 → (∀ y ∈ ys, y.f1.size ≤ 9223372036854775807 ∧ y.f2.length ≤ 9223372036854775807) →
    ∃ r, laws_szPieceS.l0 k (pre ++ ys) left (pre.length : Int) = some r ∧ r ≤ left ∧ (0 ≤ r → ∀ y ∈ ys, (y.f1.size : Int) ≤ left ∧ (y.f2.length : Int) ≤ left) := by
  intro ys
  induction ys with
  | nil =>
    intro pre k left h0 h1 hk hl hy
    obtain ⟨k, rfl⟩ := succ_of hk
    simp only [laws_szPieceS.l0]
    rw [if_neg (len_nil pre)]
    exact ⟨_, rfl, Int.le_refl _, fun _ y hy => by cases hy⟩
  | cons y ys ih =>
    intro pre k left h0 h1 hk hl hy
    obtain ⟨k, rfl⟩ := succ_of hk
    have hy0 := hy y (List.mem_cons_self ..)
    obtain ⟨r, e, hr, hq⟩ := szPiece_ok y.f0 y.f1 y.f2 h0 h1 hy0.1 hy0.2
    simp only [laws_szPieceS.l0]
    rw [if_pos (len_cons pre ys y), if_pos (by omega)]
    rw [show rd_T84 (pre ++ y :: ys) (pre.length : Int) = y from getD_at pre ys y _, e, Option.bind_some]
    by_cases c : r < 0
    · rw [if_pos c]; exact ⟨-1, rfl, by omega, by omega⟩
    · rw [if_neg c, len_succ pre ys y hl, app_cons pre ys y]
      obtain ⟨r2, e2, hr2, hq2⟩ := ih (pre ++ [y]) k r (by omega) (by omega) (by simpa using hk) (by rw [← app_cons]; exact hl) (fun z hz => hy z (List.mem_cons_of_mem _ hz))
      refine ⟨r2, e2, by omega, fun h z hz => ?_⟩
      rcases List.mem_cons.1 hz with rfl | hz
      · exact hq (by omega)
      · have := hq2 h z hz
        omega
def SmallPat (ps : List S84) : Prop := ps.length ≤ 1048576 ∧ ∀ p ∈ ps, p.f1.size ≤ 1048576 ∧ p.f2.length ≤ 1048576
theorem szPattern_ok {ps : List S84} (hb : BigPat ps) : ∃ r, Ev (fun k => laws_szPattern.f k ps 1048576) r ∧ (0 ≤ r → SmallPat ps) := by
  obtain ⟨b1, b2⟩ := hb
  by_cases c : (1048576 : Int) - (ps.length : Int) < 0
  · exact ⟨-1, ⟨0, fun k _ => by dsimp only; unfold laws_szPattern.f laws_szPieceS.f; rw [w64 (by omega) (by omega), if_pos c, Option.bind_some, if_pos (by omega)]⟩, by omega⟩
  · obtain ⟨r, e, hr, hq⟩ := szPieceS_l ps [] (ps.length + 1) (1048576 - (ps.length : Int)) (by omega) (by omega) (by omega) b1 (fun y hy => ⟨(b2 y hy).2.1, (b2 y hy).2.2.1⟩)
    have e2 : ∀ k, ps.length + 1 ≤ k → laws_szPieceS.f k ps 1048576 = some r := fun k hk => by
      unfold laws_szPieceS.f
      rw [w64 (by omega) (by omega), if_neg c]
      exact at_rounds (g := fun k => laws_szPieceS.l0 k ps (1048576 - (ps.length : Int)) 0) (fun k => laws_szPieceS.mono_l k _ _ _) hk e
    by_cases c2 : r < 0
    · refine ⟨-1, ⟨ps.length + 1, fun k hk => ?_⟩, by omega⟩
      dsimp only
      unfold laws_szPattern.f
      rw [e2 k hk, Option.bind_some, if_pos c2]
    · refine ⟨r, ⟨ps.length + 1, fun k hk => ?_⟩, fun h => ⟨by omega, fun y hy => ?_⟩⟩
      · dsimp only
        unfold laws_szPattern.f
        rw [e2 k hk, Option.bind_some, if_neg c2]
      · have := hq h y hy
        omega

def cP (x : S84) : S85 := ⟨x.f0, x.f1, x.f2⟩
theorem toIntS_l : ∀ (ys pre : List Int) (k : Nat), ys.length < k → (pre ++ ys).length ≤ 1048576 → laws_toIntS.l0 k (pre ++ ys) (pre ++ List.replicate ys.length 0) (pre.length : Int) = some (pre ++ ys) := by
  intro ys
  induction ys with
  | nil =>
    intro pre k hk hl
    obtain ⟨k, rfl⟩ := succ_of hk
    simp only [laws_toIntS.l0]
    rw [if_neg (len_nil pre)]
    rfl
  | cons y ys ih =>
    intro pre k hk hl
    obtain ⟨k, rfl⟩ := succ_of hk
    simp only [laws_toIntS.l0]
    have hi := ih (pre ++ [y]) k (by simpa using hk) (by rw [← app_cons]; exact hl)
    have e2 : List.replicate (y :: ys).length (0 : Int) = 0 :: List.replicate ys.length 0 := rfl
    have e3 : pre ++ y :: List.replicate ys.length (0 : Int) = pre ++ [y] ++ List.replicate ys.length 0 := app_cons _ _ _
    rw [if_pos (len_cons pre ys y), if_pos (by omega), e2, if_pos (len_cons pre _ _), show rd (pre ++ y :: ys) (pre.length : Int) = y from getD_at pre ys y _, set_at, len_succ pre ys y (by omega), e3, app_cons pre ys y]
    exact hi
theorem toIntS_k {l : List Int} (hl : l.length ≤ 1048576) {k : Nat} (hk : 1048577 ≤ k) : laws_toIntS.f k l = some l := by
  unfold laws_toIntS.f
  rw [if_pos (by omega), if_pos (by omega), Int.toNat_natCast]
  exact toIntS_l l [] k (by omega) hl
theorem toPieceS_l : ∀ (ys pre : List S84) (k : Nat), ys.length + 1048577 < k → (pre ++ ys).length ≤ 1048576 → (∀ p ∈ ys, p.f2.length ≤ 1048576) →
    laws_toPieceS.l0 k (pre ++ ys) (pre.map cP ++ List.replicate ys.length z85) (pre.length : Int) = some ((pre ++ ys).map cP) := by
  intro ys
  induction ys with
  | nil =>
    intro pre k hk hl hp
    obtain ⟨k, rfl⟩ := succ_of hk
    simp only [laws_toPieceS.l0]
    rw [if_neg (len_nil pre)]
    simp
  | cons y ys ih =>
    intro pre k hk hl hp
    obtain ⟨k, rfl⟩ := succ_of hk
    simp only [laws_toPieceS.l0]
    rw [List.length_cons] at hk
    have h1 : pre.length + (ys.length + 1) ≤ 1048576 := by rw [List.length_append, List.length_cons] at hl; exact hl
    rw [if_pos (len_cons pre ys y), if_pos (by omega), show rd_T84 (pre ++ y :: ys) (pre.length : Int) = y from getD_at pre ys y _]
    unfold laws_toPiece.f
    rw [toIntS_k (hp y (List.mem_cons_self ..)) (by omega), Option.bind_some, Option.bind_some]
    have e : (List.map cP pre).length = pre.length := List.length_map _
    have e2 : List.replicate (y :: ys).length z85 = z85 :: List.replicate ys.length z85 := rfl
    rw [if_pos (by rw [List.length_append, List.length_replicate, List.length_cons, e]; omega), e2, ← e, set_at, e, len_succ pre ys y (by omega), app_cons pre ys y]
    have := ih (pre ++ [y]) k (by omega) (by rw [← app_cons]; exact hl) (fun p hq => hp p (List.mem_cons_of_mem _ hq))
    have e3 : List.map cP pre ++ cP y :: List.replicate ys.length z85 = List.map cP (pre ++ [y]) ++ List.replicate ys.length z85 := by
      rw [List.map_append, List.append_assoc]; rfl
    rw [← e3] at this
    exact this
theorem toPattern_ok {ps : List S84} (h : SmallPat ps) {k : Nat} (hk : 3000000 ≤ k) : laws_toPattern.f k ps = some (ps.map cP) := by
  unfold laws_toPattern.f laws_toPieceS.f
  have := h.1
  rw [if_pos (by omega), if_pos (by omega), Int.toNat_natCast]
  rw [show laws_toPieceS.l0 k ps (List.replicate ps.length z85) 0 = some (ps.map cP) from toPieceS_l ps [] k (by omega) h.1 (fun p hp => (h.2 p hp).2), Option.bind_some]

theorem eqIntS_l : ∀ (ys pre : List Int) (k : Nat), ys.length < k → (pre ++ ys).length ≤ 9223372036854775807 → laws_eqIntS.l0 k (pre ++ ys) (pre ++ ys) (pre.length : Int) = some true := by
  intro ys
  induction ys with
  | nil =>
    intro pre k hk hl
    obtain ⟨k, rfl⟩ := succ_of hk
    simp only [laws_eqIntS.l0]
    rw [if_neg (len_nil pre)]
  | cons y ys ih =>
    intro pre k hk hl
    obtain ⟨k, rfl⟩ := succ_of hk
    simp only [laws_eqIntS.l0]
    rw [if_pos (len_cons pre ys y), if_pos (by omega), if_pos (len_cons pre ys y), if_pos trivial, len_succ pre ys y hl, app_cons pre ys y]
    exact ih (pre ++ [y]) k (by simpa using hk) (by rw [← app_cons]; exact hl)
theorem eqPiece_k (op : Int) (s : ByteArray) (ks : List Int) (hl : ks.length ≤ 1048576) {k : Nat} (hk : 1048577 ≤ k) : laws_eqPiece.f k op s ks op s ks = some true := by
  unfold laws_eqPiece.f laws_eqIntS.f
  rw [if_pos rfl, if_pos rfl, if_pos rfl, show laws_eqIntS.l0 k ks ks 0 = some true from eqIntS_l ks [] k (by omega) (by simp; omega), Option.bind_some, if_pos rfl]
theorem eqPieceS_l : ∀ (ys pre : List S85) (k : Nat), ys.length + 1048577 < k → (pre ++ ys).length ≤ 1048576 → (∀ p ∈ ys, p.f2.length ≤ 1048576) → laws_eqPieceS.l0 k (pre ++ ys) (pre ++ ys) (pre.length : Int) = some true := by
  intro ys
  induction ys with
  | nil =>
    intro pre k hk hl hp
    obtain ⟨k, rfl⟩ := succ_of hk
    simp only [laws_eqPieceS.l0]
    rw [if_neg (len_nil pre)]
  | cons y ys ih =>
    intro pre k hk hl hp
    obtain ⟨k, rfl⟩ := succ_of hk
    simp only [laws_eqPieceS.l0]
    rw [List.length_cons] at hk
    rw [if_pos (len_cons pre ys y), if_pos (by omega), if_pos (len_cons pre ys y), show rd_T85 (pre ++ y :: ys) (pre.length : Int) = y from getD_at pre ys y _,
      eqPiece_k y.f0 y.f1 y.f2 (hp y (List.mem_cons_self ..)) (by omega), Option.bind_some, if_pos rfl, len_succ pre ys y (by omega), app_cons pre ys y]
    exact ih (pre ++ [y]) k (by omega) (by rw [← app_cons]; exact hl) (fun p hq => hp p (List.mem_cons_of_mem _ hq))
theorem eqPattern_ok {ps : List S85} (h1 : ps.length ≤ 1048576) (h2 : ∀ p ∈ ps, p.f2.length ≤ 1048576) {k : Nat} (hk : 3000000 ≤ k) : laws_eqPattern.f k ps ps = some true := by
  unfold laws_eqPattern.f laws_eqPieceS.f
  rw [if_pos rfl, show laws_eqPieceS.l0 k ps ps 0 = some true from eqPieceS_l ps [] k (by omega) (by simpa using h1) h2, Option.bind_some, if_pos rfl]

theorem piecesOk_at : ∀ (ys : List S85) (a : Int) (k : Nat), piecesOk a ys = true → k < ys.length → pieceOk (a + k) (ys.getD k z85) = true
  | [], _, k, _, hk => absurd hk (by simp)
  | p :: ys, a, 0, h, _ => by
    rw [piecesOk, Bool.and_eq_true] at h
    have h1 := h.1
    simp only [List.getD_cons_zero]
    rw [show a + ((0 : Nat) : Int) = a by omega]
    exact h1
  | p :: ys, a, k + 1, h, hk => by
    rw [piecesOk, Bool.and_eq_true] at h
    have := piecesOk_at ys (a + 1) k h.2 (by rw [List.length_cons] at hk; omega)
    rw [List.getD_cons_succ, show a + ((k + 1 : Nat) : Int) = a + 1 + (k : Int) by omega]
    exact this
theorem pok_at {ps : List S85} (h : patOk ps = true) (k : Nat) (hk : k < ps.length) : pieceOk (k : Int) (rd_T85 ps (k : Int)) = true := by
  unfold patOk at h
  rw [Bool.and_eq_true] at h
  have := piecesOk_at ps 0 k h.1 hk
  rw [Int.zero_add] at this
  unfold rd_T85
  rw [Int.toNat_natCast]
  exact this
theorem kids_two {a : Int} {l : List Int} (h : kidsOk a l = true) (hl : (l.length : Int) = 2) : 2 ≤ l.length ∧ (0 ≤ rd l 0 ∧ rd l 0 < a) ∧ (0 ≤ rd l 1 ∧ rd l 1 < a) := by
  match l, hl with
  | [x, y], _ =>
    unfold kidsOk at h
    simp only [List.all_cons, List.all_nil, Bool.and_true, Bool.and_eq_true, decide_eq_true_eq] at h
    have e0 : rd [x, y] 0 = x := rfl
    have e1 : rd [x, y] 1 = y := rfl
    rw [e0, e1]
    refine ⟨by simp, ⟨h.1.1, by omega⟩, h.2.1, by omega⟩
  | [], hl => simp at hl
  | [x], hl => simp at hl
  | x :: y :: z :: l, hl => simp at hl; omega
theorem kids_one {a : Int} {l : List Int} (h : kidsOk a l = true) (hl : (l.length : Int) = 1) : 1 ≤ l.length ∧ (0 ≤ rd l 0 ∧ rd l 0 < a) := by
  match l, hl with
  | [x], _ =>
    unfold kidsOk at h
    simp only [List.all_cons, List.all_nil, Bool.and_true, Bool.and_eq_true, decide_eq_true_eq] at h
    have e0 : rd [x] 0 = x := rfl
    rw [e0]
    exact ⟨by simp, h.1, by omega⟩
  | [], hl => simp at hl
  | x :: y :: l, hl => simp at hl; omega
theorem psOk_of {ps : List S85} (hi : PatIn ps) (h : patOk ps = true) : PsOk ps ∧ 0 < ps.length ∧ ∀ k : Nat, k < ps.length → (rd_T85 ps k).f1.size ≤ 1048576 := by
  have hl : 1 ≤ ps.length ∧ ps.length ≤ 60 := by
    unfold patOk at h
    rw [Bool.and_eq_true, Bool.and_eq_true, decide_eq_true_eq, decide_eq_true_eq] at h
    exact h.2
  have hp : ∀ k : Nat, k < ps.length → (1 ≤ (rd_T85 ps k).f0 ∧ (rd_T85 ps k).f0 ≤ 12) ∧ ((rd_T85 ps k).f2.length : Int) = kidsNo (rd_T85 ps k).f0 ∧ kidsOk (k : Int) (rd_T85 ps k).f2 = true := fun k hk => by
    have h1 := pok_at h k hk
    unfold pieceOk at h1
    rw [Bool.and_eq_true, Bool.and_eq_true, Bool.and_eq_true, Bool.and_eq_true, decide_eq_true_eq, decide_eq_true_eq, decide_eq_true_eq] at h1
    exact ⟨h1.1, h1.2.2.1, h1.2.2.2⟩
  refine ⟨⟨hl.2, fun k hk => (hp k hk).1, fun k hk c => ?_, fun k hk c => ?_⟩, hl.1, fun k hk => ?_⟩
  · obtain ⟨_, h2, h3⟩ := hp k hk
    rw [show kidsNo (rd_T85 ps k).f0 = 2 from if_pos c] at h2
    exact kids_two h3 h2
  · obtain ⟨_, h2, h3⟩ := hp k hk
    have e : kidsNo (rd_T85 ps k).f0 = 1 := by
      unfold kidsNo
      rw [if_neg (by omega), if_pos c]
    rw [e] at h2
    exact kids_one h3 h2
  · have hm : rd_T85 ps k ∈ ps := by
      unfold rd_T85
      rw [Int.toNat_natCast, List.getD_eq_getElem?_getD, List.getElem?_eq_getElem hk, Option.getD_some]
      exact List.getElem_mem hk
    exact (hi.2 _ hm).1

theorem markText_l : ∀ (d k : Nat) (n : Int) (s : ByteArray), 0 ≤ n → n < 10 ^ d → n ≤ 9223372036854775807 → s.size + d ≤ 1000 → d < k → ∃ t, laws_markText.l0 k n s = some t := by
  intro d
  induction d with
  | zero =>
    intro k n s h0 h1 _ hs hk
    obtain ⟨k, rfl⟩ := succ_of hk
    simp only [laws_markText.l0]
    rw [if_neg (by simp at h1; omega), if_pos (by omega)]
    exact ⟨_, rfl⟩
  | succ d ih =>
    intro k n s h0 h1 hm hs hk
    obtain ⟨k, rfl⟩ := succ_of hk
    simp only [laws_markText.l0]
    by_cases c : n > 0
    · rw [if_pos c, Option.bind_some]
      have hz : (strOfNums [(wrap64 (48 + (Int.tmod n 10))) % 256]).size = 1 := by rw [strOfNums_size]; rfl
      rw [if_pos (by rw [hz]; omega), Int.tdiv_eq_ediv_of_nonneg h0, w64 (by omega) (by omega)]
      exact ih k (n / 10) _ (by omega) (by rw [Int.pow_succ] at h1; omega) (by omega) (by rw [ByteArray.size_append, hz]; omega) (by omega)
    · rw [if_neg c, if_pos (by omega)]
      exact ⟨_, rfl⟩
def MT (n : Int) : ByteArray := ((laws_markText.f 64 n)).getD ⟨#[]⟩
theorem markText_k {n : Int} (h0 : 1 ≤ n) (h1 : n ≤ 1000000000) {k : Nat} (hk : 64 ≤ k) : laws_markText.f k n = some (MT n) := by
  have e : ∃ t, laws_markText.f 64 n = some t := by
    unfold laws_markText.f
    rw [if_neg (by omega)]
    exact markText_l 20 64 n _ (by omega) (by omega) (by omega) (by decide) (by decide)
  obtain ⟨t, e⟩ := e
  have e2 : MT n = t := by unfold MT; rw [e]; rfl
  rw [e2]
  exact at_rounds (g := fun k => laws_markText.f k n) (fun k => laws_markText.mono n k) hk e

/-! Marks of pieces, and that they are held. -/
theorem markText_kB {n : Int} (h0 : 1 ≤ n) (h1 : n ≤ 1000000000000000000) {k : Nat} (hk : 64 ≤ k) : laws_markText.f k n = some (MT n) := by
  have e : ∃ t, laws_markText.f 64 n = some t := by
    unfold laws_markText.f
    rw [if_neg (by omega)]
    exact markText_l 20 64 n _ (by omega) (by omega) (by omega) (by decide) (by decide)
  obtain ⟨t, e⟩ := e
  have e2 : MT n = t := by unfold MT; rw [e]; rfl
  rw [e2]
  exact at_rounds (g := fun k => laws_markText.f k n) (fun k => laws_markText.mono n k) hk e
def markI : Int → List Int → List Int
  | _, [] => []
  | m, _ :: r => m :: markI (m + 1) r
theorem markI_len : ∀ (l : List Int) (m : Int), (markI m l).length = l.length
  | [], _ => rfl
  | _ :: l, m => by rw [markI, List.length_cons, List.length_cons, markI_len l]
theorem markIntS_l : ∀ (ys pre : List Int) (k : Nat) (m : Int), 1 ≤ m → m + ys.length ≤ 1000000000000000 → ys.length < k → (pre ++ ys).length ≤ 100000000 →
    laws_markIntS.l0 k (pre ++ ys) m (pre.length : Int) = some (m + ys.length, pre ++ markI m ys) := by
  intro ys
  induction ys with
  | nil =>
    intro pre k m h1 h2 hk hl
    obtain ⟨k, rfl⟩ := succ_of hk
    simp only [laws_markIntS.l0]
    rw [if_neg (len_nil pre)]
    simp [markI]
  | cons y ys ih =>
    intro pre k m h1 h2 hk hl
    obtain ⟨k, rfl⟩ := succ_of hk
    rw [List.length_cons] at hk h2
    simp only [laws_markIntS.l0]
    rw [if_pos (len_cons pre ys y), if_pos (by omega), set_at, w64 (show _ ≤ m + 1 by omega) (by omega), len_succ pre ys y (by omega), app_cons pre ys m]
    have := ih (pre ++ [m]) k (m + 1) (by omega) (by omega) (by omega) (by rw [List.length_append, List.length_append, List.length_singleton]; rw [List.length_append, List.length_cons] at hl; omega)
    rw [List.length_append, List.length_singleton] at this ⊢
    rw [this, markI, ← app_cons, List.length_cons]
    congr 2
    omega
theorem heldIntS_l : ∀ (ys pre : List Int) (k : Nat) (m : Int), 1 ≤ m → m + ys.length ≤ 1000000000000000 → ys.length < k → (pre ++ ys).length ≤ 100000000 →
    laws_heldIntS.l0 k (pre ++ markI m ys) m (pre.length : Int) = some (m + ys.length) := by
  intro ys
  induction ys with
  | nil =>
    intro pre k m h1 h2 hk hl
    obtain ⟨k, rfl⟩ := succ_of hk
    rw [show markI m [] = [] from rfl]
    simp only [laws_heldIntS.l0]
    rw [if_neg (len_nil pre)]
    simp
  | cons y ys ih =>
    intro pre k m h1 h2 hk hl
    obtain ⟨k, rfl⟩ := succ_of hk
    rw [List.length_cons] at hk h2
    rw [List.length_append, List.length_cons] at hl
    rw [show markI m (y :: ys) = m :: markI (m + 1) ys from rfl]
    simp only [laws_heldIntS.l0]
    have hl2 : (pre ++ m :: markI (m + 1) ys).length ≤ 9223372036854775807 := by rw [List.length_append, List.length_cons, markI_len]; omega
    rw [if_pos (len_cons pre _ _), if_pos (by omega), show rd (pre ++ m :: markI (m + 1) ys) (pre.length : Int) = m from getD_at pre _ _ _, if_pos rfl,
      w64 (show _ ≤ m + 1 by omega) (by omega), len_succ pre _ _ hl2, app_cons]
    have := ih (pre ++ [m]) k (m + 1) (by omega) (by omega) (by omega) (by rw [List.length_append, List.length_append, List.length_singleton]; omega)
    rw [this, List.length_cons]
    congr 1
    omega
theorem markIntS_k {l : List Int} {m : Int} (h1 : 1 ≤ m) (h2 : m + l.length ≤ 1000000000000000) (hl : l.length ≤ 100000000) {k : Nat} (hk : l.length < k) : laws_markIntS.f k l m = some (m + l.length, markI m l) := markIntS_l l [] k m h1 h2 hk hl
theorem heldIntS_k {l : List Int} {m : Int} (h1 : 1 ≤ m) (h2 : m + l.length ≤ 1000000000000000) (hl : l.length ≤ 100000000) {k : Nat} (hk : l.length < k) : laws_heldIntS.f k (markI m l) m = some (m + l.length) := heldIntS_l l [] k m h1 h2 hk hl
def markX : Int → List S85 → Int × List S85
  | m, [] => (m, [])
  | m, p :: r => ((markX (m + 2 + p.f2.length) r).1, ⟨m, MT (m + 1), markI (m + 2) p.f2⟩ :: (markX (m + 2 + p.f2.length) r).2)
theorem markX_len : ∀ (l : List S85) (m : Int), (markX m l).2.length = l.length
  | [], _ => rfl
  | p :: l, m => by rw [markX, List.length_cons, List.length_cons, markX_len l]
theorem markX_ge : ∀ (l : List S85) (m : Int), m ≤ (markX m l).1
  | [], _ => Int.le_refl _
  | p :: l, m => by rw [markX]; have := markX_ge l (m + 2 + p.f2.length); omega
theorem markL_l (k : Nat) (hk0 : 1048600 ≤ k) : ∀ (ys pre : List S85) (n : Nat) (m : Int), 1 ≤ m → m + 1048580 * ys.length ≤ 1000000000000000 → ys.length < n → (pre ++ ys).length ≤ 1048576 → (∀ p ∈ ys, p.f2.length ≤ 1048576) →
    markL k n (pre ++ ys) m pre.length = some ((markX m ys).1, pre ++ (markX m ys).2) := by
  intro ys
  induction ys with
  | nil =>
    intro pre n m h1 h2 hn hl hp
    obtain ⟨n, rfl⟩ := succ_of hn
    simp only [markL]
    rw [if_neg (by simp)]
    simp [markX]
  | cons y ys ih =>
    intro pre n m h1 h2 hn hl hp
    obtain ⟨n, rfl⟩ := succ_of hn
    rw [List.length_cons] at hn h2
    rw [List.length_append, List.length_cons] at hl
    have hy := hp y (List.mem_cons_self ..)
    simp only [markL]
    have hg : (pre ++ y :: ys).getD pre.length z85 = y := by have := getD_at pre ys y z85; rwa [Int.toNat_natCast] at this
    have hs : ∀ z, (pre ++ y :: ys).set pre.length z = pre ++ z :: ys := fun z => by have := set_at pre ys y z; rwa [Int.toNat_natCast] at this
    rw [if_pos (by rw [List.length_append, List.length_cons]; omega), if_pos ⟨by omega, by omega⟩, markText_kB (show 1 ≤ m + 1 by omega) (by omega) (by omega), Option.bind_some, hg,
      markIntS_k (show 1 ≤ m + 1 + 1 by omega) (by omega) (by omega) (by omega), Option.bind_some, hs, app_cons]
    have := ih (pre ++ [⟨m, MT (m + 1), markI (m + 1 + 1) y.f2⟩]) n (m + 1 + 1 + y.f2.length) (by omega) (by omega) (by omega) (by rw [List.length_append, List.length_append, List.length_singleton]; omega) (fun p hp' => hp p (List.mem_cons_of_mem _ hp'))
    rw [List.length_append, List.length_singleton] at this
    rw [this, markX, ← app_cons]
    simp only []
    rw [show m + 1 + 1 = m + 2 by omega]
theorem markP_k {ps : List S85} (hl : ps.length ≤ 1048576) (hp : ∀ p ∈ ps, p.f2.length ≤ 1048576) {k : Nat} (hk : 1048600 ≤ k) : markP k ps 1 = some ((markX 1 ps).1, (markX 1 ps).2) := by
  unfold markP
  rw [if_pos (by omega)]
  by_cases h0 : ps.length = 0
  · rw [if_pos h0]
    obtain rfl := List.length_eq_zero_iff.1 h0
    rfl
  · rw [if_neg h0]
    exact markL_l k (by omega) ps [] k 1 (by omega) (by omega) (by omega) (by simpa using (by omega : ps.length ≤ 1048576)) hp

theorem patIn_of {ps : List S84} (h : SmallPat ps) : PatIn (ps.map cP) :=
  ⟨by rw [List.length_map]; exact h.1, fun p hp => by obtain ⟨q, hq, rfl⟩ := List.mem_map.1 hp; exact h.2 q hq⟩
theorem eqIntS_k {l : List Int} (hl : l.length ≤ 1048577) {k : Nat} (hk : 1048578 ≤ k) : laws_eqIntS.f k l l = some true := by
  unfold laws_eqIntS.f
  rw [if_pos rfl]
  exact eqIntS_l l [] k (by omega) (by simp; omega)
theorem FnExactEndsAt : ∀ (ps : List S84) (a1 : Int) (s : ByteArray) (a3 : Int), BigPat ps → (Lit.int .i64 a1).wf = true → s.size ≤ 140737488351232 → (Lit.int .i64 a3).wf = true → ∃ k, laws_FnExactEndsAt.f k ps a1 s a3 = some true := by
  intro ps a1 s a3 hb _ _ _
  obtain ⟨r, ⟨K, e⟩, hs⟩ := szPattern_ok hb
  by_cases hsz : s.size ≤ 1048576
  · by_cases c : r < 0
    · have e := e K (by omega)
      dsimp only at e
      refine ⟨K, ?_⟩
      unfold laws_FnExactEndsAt.f
      rw [if_pos hsz, e, Option.bind_some, if_pos c]
    · have hs := hs (by omega)
      have hin := patIn_of hs
      obtain ⟨K2, e2⟩ := spec_PatternOk_ev hin
      have e := e (K + K2 + 3000000) (by omega)
      have e2 := e2 (K + K2 + 3000000) (by omega)
      dsimp only at e e2
      refine ⟨K + K2 + 3000000, ?_⟩
      have hL : (ints (EL (ps.map cP) s (patOk (ps.map cP)) a1 a3)).length ≤ 1048577 := by
        rw [ints_length]
        exact Nat.le_trans (EL_len _ _ _ _ _) (by omega)
      unfold laws_FnExactEndsAt.f
      rw [if_pos hsz, e, Option.bind_some, if_neg c, toPattern_ok hs (by omega), Option.bind_some, markP_k hin.1 (fun p hp => (hin.2 p hp).2) (by omega), Option.bind_some]
      rw [if_pos ⟨⟨patOk (ps.map cP), ⟨impl_PatternOk_k hin (by omega), e2, fun h => psOk_of hin h⟩, eqIntS_k hL (by omega), _, _, markIntS_k (by omega) (by omega) (by omega) (by omega), heldIntS_k (by omega) (by omega) (by omega) (by omega), by omega⟩, eqPattern_ok hin.1 (fun p hp => (hin.2 p hp).2) (by omega), by have := markX_ge (ps.map cP) 1; show 0 ≤ (markX 1 (ps.map cP)).1; omega⟩]
  · refine ⟨0, ?_⟩
    unfold laws_FnExactEndsAt.f
    rw [if_neg hsz]

end Go.Proofs.Ytnjomkadjcjcnaa.Pure
