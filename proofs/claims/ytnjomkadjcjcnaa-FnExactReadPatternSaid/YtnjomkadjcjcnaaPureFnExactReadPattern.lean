/- The pure statement of FnExactReadPattern: over numbers and lists, what the printed functions come to is what the law wants, for every input. -/
import Derived.Test.YtnjomkadjcjcnaaQFnExactReadPatternx5
set_option linter.unusedVariables false
set_option linter.unusedSimpArgs false
namespace Go.Proofs.Ytnjomkadjcjcnaa.Pure
open Go.RowKit Go.Proofs.Ytnjomkadjcjcnaa.QFnExactReadPattern Go.Proofs.YtnjomkadjcjcnaaW.PrintWords Go.Proofs.YtnjomkadjcjcnaaW.PrintLast
/-! Words on strings as lists of numbers. -/
theorem w64 {x : Int} (h0 : -9223372036854775808 ≤ x) (h1 : x ≤ 9223372036854775807) : wrap64 x = x := by
  unfold wrap64
  omega
theorem bx_len (s : ByteArray) : (bytesOf s).length = s.size := bytesOf_length s
theorem bx_byte (s : ByteArray) : ∀ c ∈ bytesOf s, 0 ≤ c ∧ c ≤ 255 := by
  intro c hc
  unfold bytesOf at hc
  obtain ⟨b, _, rfl⟩ := List.mem_map.1 hc
  have := b.toNat_lt
  omega
theorem bx_at {s : ByteArray} {pre ys : List Int} {c : Int} (h : bytesOf s = pre ++ c :: ys) : bt s (pre.length : Int) = c := by
  rw [← rd_bytesOf, h, rd, Int.toNat_natCast, List.getD_eq_getElem?_getD, List.getElem?_append_right (Nat.le_refl _)]
  simp
theorem bx_lt {s : ByteArray} {pre ys : List Int} {c : Int} (h : bytesOf s = pre ++ c :: ys) : (pre.length : Int) < (s.size : Int) := by
  have := congrArg List.length h
  rw [bx_len, List.length_append, List.length_cons] at this
  omega
theorem bx_end {s : ByteArray} {pre : List Int} (h : bytesOf s = pre ++ []) : (s.size : Int) = (pre.length : Int) := by
  have := congrArg List.length h
  rw [bx_len, List.append_nil] at this
  omega
theorem bx_next {s : ByteArray} {pre ys : List Int} {c : Int} (h : bytesOf s = pre ++ c :: ys) : bytesOf s = (pre ++ [c]) ++ ys := by
  rw [h, List.append_assoc]; rfl
theorem len_next (pre : List Int) (c : Int) : ((pre ++ [c]).length : Int) = (pre.length : Int) + 1 := by
  rw [List.length_append, List.length_singleton]; omega
theorem bx_inj {s t : ByteArray} (h : bytesOf s = bytesOf t) : s = t := by
  unfold bytesOf at h
  have h2 : s.data.toList = t.data.toList := by
    refine (List.map_inj_right (f := fun b : UInt8 => (b.toNat : Int)) ?_).1 h
    intro x y hxy
    exact UInt8.toNat_inj.1 (Int.ofNat_inj.1 hxy)
  exact ByteArray.ext (Array.toList_inj.1 h2)
theorem tl_inj {s t : ByteArray} (h : s.toList = t.toList) : s = t := by
  rw [ByteArray.toList_eq, ByteArray.toList_eq] at h
  exact ByteArray.ext (Array.toList_inj.1 h)
theorem tl_iff {s t : ByteArray} : s.toList = t.toList ↔ bytesOf s = bytesOf t := ⟨fun h => by rw [tl_inj h], fun h => by rw [bx_inj h]⟩
theorem bx_app (s t : ByteArray) : bytesOf (s ++ t) = bytesOf s ++ bytesOf t := by
  simp [bytesOf]
theorem bx_cut (s : ByteArray) (a b : Nat) : bytesOf (s.extract a b) = ((bytesOf s).take b).drop a := by
  simp [bytesOf, ByteArray.data_extract, List.map_drop, List.map_take, List.take_drop]
  rw [List.drop_take, List.drop_take]
  congr 1
  omega
theorem bx_str {xs : List Int} (h : ∀ c ∈ xs, 0 ≤ c ∧ c ≤ 255) : bytesOf (strOfNums xs) = xs := by
  unfold bytesOf
  rw [strOfNums_data, List.map_map]
  induction xs with
  | nil => rfl
  | cons c xs ih =>
    rw [List.map_cons, ih (fun d hd => h d (List.mem_cons_of_mem _ hd))]
    have hc := h c (List.mem_cons_self ..)
    congr 1
    have e : (UInt8.ofNat c.toNat).toNat = c.toNat := by
      rw [UInt8.toNat_ofNat']
      omega
    show ((UInt8.ofNat c.toNat).toNat : Int) = c
    rw [e]
    omega
theorem bx_wrap {s : ByteArray} {pre ys : List Int} {c : Int} (h : bytesOf s = pre ++ c :: ys) (hs : s.size ≤ 140737488351232) : wrap64 ((pre.length : Int) + 1) = ((pre ++ [c]).length : Int) := by
  rw [len_next]
  have := bx_lt h
  exact w64 (by omega) (by omega)
theorem bx_in {s : ByteArray} {pre ys : List Int} {c : Int} (h : bytesOf s = pre ++ c :: ys) : 0 ≤ c ∧ c ≤ 255 :=
  bx_byte s c (by rw [h]; exact List.mem_append_right _ (List.mem_cons_self ..))
theorem succ_of {n k : Nat} (h : n < k) : ∃ m, k = m + 1 := ⟨k - 1, by omega⟩
theorem ev2 {α β : Type} {g : Nat → Option α} {f : Nat → Option β} {a : α} {b : β} (h : Ev g a) (h' : Ev f b) : ∃ k, g k = some a ∧ f k = some b := by
  obtain ⟨K, h⟩ := h
  obtain ⟨K', h'⟩ := h'
  exact ⟨K + K', h _ (by omega), h' _ (by omega)⟩

theorem getD_at {α : Type} (pre ys : List α) (y d : α) : (pre ++ y :: ys).getD (pre.length : Int).toNat d = y := by
  rw [Int.toNat_natCast, List.getD_eq_getElem?_getD, List.getElem?_append_right (Nat.le_refl _)]
  simp
theorem len_cons {α : Type} (pre ys : List α) (y : α) : (pre.length : Int) < ((pre ++ y :: ys).length : Int) := by
  rw [List.length_append, List.length_cons]; omega
theorem len_nil {α : Type} (pre : List α) : ¬ (pre.length : Int) < ((pre ++ []).length : Int) := by
  rw [List.append_nil]; omega
theorem len_succ {α : Type} (pre ys : List α) (y : α) (h : (pre ++ y :: ys).length ≤ 9223372036854775807) : wrap64 ((pre.length : Int) + 1) = ((pre ++ [y]).length : Int) := by
  rw [List.length_append, List.length_cons] at h
  rw [List.length_append, List.length_singleton, w64 (by omega) (by omega)]
  omega
theorem app_cons {α : Type} (pre ys : List α) (y : α) : pre ++ y :: ys = (pre ++ [y]) ++ ys := by rw [List.append_assoc]; rfl
theorem set_at {α : Type} (pre ys : List α) (y z : α) : (pre ++ y :: ys).set (pre.length : Int).toNat z = pre ++ z :: ys := by
  rw [Int.toNat_natCast, List.set_append_right _ _ (Nat.le_refl _), Nat.sub_self]
  rfl

theorem iIn (a b c : Int) : impl_within.f a b c = some (decide (b ≤ a) && decide (a ≤ c)) := by
  unfold impl_within.f
  by_cases h : a ≥ b
  · rw [if_pos h]; simp [show b ≤ a from h]
  · rw [if_neg h]; simp [show ¬ b ≤ a from h]

/-! A right pattern: the rule, on lists. -/
def kidsNo (op : Int) : Int := if op = 5 ∨ op = 6 then 2 else if op = 7 ∨ op = 8 ∨ op = 9 then 1 else 0
def textOk (op : Int) (n : Int) : Bool := if op = 1 then decide (n = 1) else if op = 3 ∨ op = 4 then decide (1 ≤ n) && decide (n ≤ 24) else decide (n = 0)
def kidsOk (at_ : Int) (ks : List Int) : Bool := ks.all fun x => decide (0 ≤ x) && decide (x ≤ at_ - 1)
def pieceOk (at_ : Int) (p : S85) : Bool :=
  (decide (1 ≤ p.f0) && decide (p.f0 ≤ 12)) && (textOk p.f0 (p.f1.size : Int) && (decide ((p.f2.length : Int) = kidsNo p.f0) && kidsOk at_ p.f2))
def piecesOk : Int → List S85 → Bool
  | _, [] => true
  | i, p :: ps => pieceOk i p && piecesOk (i + 1) ps
def patOk (ps : List S85) : Bool := piecesOk 0 ps && (decide (1 ≤ ps.length) && decide (ps.length ≤ 60))
theorem len160 {α : Type} (l : List α) : (decide ((1 : Int) ≤ (l.length : Int)) && decide ((l.length : Int) ≤ 60)) = (decide (1 ≤ l.length) && decide (l.length ≤ 60)) := by
  congr 1 <;> apply decide_eq_decide.2 <;> omega
theorem tl_nil (s : ByteArray) : (s.toList == ([] : List UInt8)) = decide ((s.size : Int) = 0) := by
  rw [ByteArray.toList_eq]
  have h : s.data.toList.length = s.size := Array.length_toList
  cases hd : s.data.toList with
  | nil =>
    rw [hd] at h
    rw [decide_eq_true (by rw [← h]; rfl)]
    rfl
  | cons a l =>
    rw [hd, List.length_cons] at h
    rw [decide_eq_false (by omega)]
    rfl
/-- Pieces whose lengths are no more than the model has. -/
def PatIn (ps : List S85) : Prop := ps.length ≤ 1048576 ∧ ∀ p ∈ ps, p.f1.size ≤ 1048576 ∧ p.f2.length ≤ 1048576

theorem impl_kidsAhead_l (a : Int) (h0 : 0 ≤ a) (h1 : a ≤ 9223372036854775807) : ∀ (ys pre : List Int) (k : Nat), ys.length < k → (pre ++ ys).length ≤ 9223372036854775807 →
    impl_kidsAhead.l0 k a (pre ++ ys) ((pre ++ ys).length : Int) (pre.length : Int) = some (kidsOk a ys) := by
  intro ys
  induction ys with
  | nil =>
    intro pre k hk hl
    obtain ⟨k, rfl⟩ := succ_of hk
    simp only [impl_kidsAhead.l0]
    rw [if_neg (len_nil pre)]
    rfl
  | cons y ys ih =>
    intro pre k hk hl
    obtain ⟨k, rfl⟩ := succ_of hk
    simp only [impl_kidsAhead.l0]
    have hi := ih (pre ++ [y]) k (by simpa using hk) (by rw [← app_cons]; exact hl)
    rw [if_pos (len_cons pre ys y), if_pos (by omega), if_pos (len_cons pre ys y), show rd (pre ++ y :: ys) (pre.length : Int) = y from getD_at pre ys y _, iIn, Option.bind_some, w64 (show _ ≤ a - 1 by omega) (by omega), len_succ pre ys y hl, app_cons pre ys y, hi]
    show (if _ then _ else _) = some ((decide (0 ≤ y) && decide (y ≤ a - 1)) && kidsOk a ys)
    cases (decide (0 ≤ y) && decide (y ≤ a - 1)) <;> simp
theorem impl_kidsAhead_k {a : Int} (h0 : 0 ≤ a) (h1 : a ≤ 9223372036854775807) {ks : List Int} (hl : ks.length ≤ 1048576) {k : Nat} (hk : 1048577 ≤ k) : impl_kidsAhead.f k ks a = some (kidsOk a ks) :=
  impl_kidsAhead_l a h0 h1 ks [] k (by omega) (by simp; omega)
theorem impl_pieceOk_j1 {a : Int} (h0 : 0 ≤ a) (h1 : a ≤ 9223372036854775807) (n op : Int) (s : ByteArray) (ks : List Int) (hl : ks.length ≤ 1048576) {k : Nat} (hk : 1048580 ≤ k) :
    impl_pieceOk.j1 k a n op s ks = some ((decide (1 ≤ op) && decide (op ≤ 12)) && (textOk op (s.size : Int) && (decide ((ks.length : Int) = n) && kidsOk a ks))) := by
  obtain ⟨k, rfl⟩ : ∃ m, k = m + 2 := ⟨k - 2, by omega⟩
  have ek : ∀ j, 1048577 ≤ j → impl_kidsAhead.f j ks a = some (kidsOk a ks) := fun j hj => impl_kidsAhead_k h0 h1 hl hj
  have fin : ∀ (t b : Bool) (j : Nat), 1048577 ≤ j → (if b = true then (if t = true then (if (ks.length : Int) = n then ((impl_kidsAhead.f j ks a).bind fun x => some x) else some false) else some false) else some false) = some (b && (t && (decide ((ks.length : Int) = n) && kidsOk a ks))) := by
    intro t b j hj
    rw [ek j hj, Option.bind_some]
    cases b <;> cases t <;> simp
    split <;> simp_all
  simp only [impl_pieceOk.j1]
  by_cases c1 : op = 1
  · rw [if_pos c1, iIn, Option.bind_some]
    have := fin (decide ((s.size : Int) = 1)) (decide (1 ≤ op) && decide (op ≤ 12)) (k + 1) (by omega)
    simp only [decide_eq_true_eq] at this
    rw [this]
    unfold textOk
    rw [if_pos c1]
  · rw [if_neg c1]
    have hj : ∀ b : Bool, b = decide (op = 3 ∨ op = 4) → impl_pieceOk.j2 (k + 1) a n (s.toList == ([] : List UInt8)) b op s ks = some ((decide (1 ≤ op) && decide (op ≤ 12)) && (textOk op (s.size : Int) && (decide ((ks.length : Int) = n) && kidsOk a ks))) := by
      intro b hb
      simp only [impl_pieceOk.j2]
      cases b with
      | true =>
        have c3 : op = 3 ∨ op = 4 := by simpa using hb.symm
        rw [if_pos rfl, iIn, Option.bind_some, iIn, Option.bind_some, fin _ _ k (by omega)]
        unfold textOk
        rw [if_neg c1, if_pos c3]
      | false =>
        have c3 : ¬ (op = 3 ∨ op = 4) := by simpa using hb.symm
        rw [if_neg (by decide), iIn, Option.bind_some, fin _ _ k (by omega), tl_nil]
        unfold textOk
        rw [if_neg c1, if_neg c3]
    by_cases c3 : op = 3
    · rw [if_pos c3]
      exact hj _ (by simp [c3])
    · rw [if_neg c3]
      refine hj _ ?_
      by_cases c4 : op = 4
      · simp [c4]
      · simp [c3, c4]
theorem impl_pieceOk_k {a : Int} (h0 : 0 ≤ a) (h1 : a ≤ 9223372036854775807) (p : S85) (hl : p.f2.length ≤ 1048576) {k : Nat} (hk : 1048590 ≤ k) :
    impl_pieceOk.f k p.f0 p.f1 p.f2 a = some (pieceOk a p) := by
  obtain ⟨k, rfl⟩ : ∃ m, k = m + 2 := ⟨k - 2, by omega⟩
  unfold impl_pieceOk.f pieceOk
  have e : ∀ b : Bool, b = decide (p.f0 = 5 ∨ p.f0 = 6) → impl_pieceOk.j0 (k + 2) a 0 p.f0 b p.f0 p.f1 p.f2 = some ((decide (1 ≤ p.f0) && decide (p.f0 ≤ 12)) && (textOk p.f0 (p.f1.size : Int) && (decide ((p.f2.length : Int) = kidsNo p.f0) && kidsOk a p.f2))) := by
    intro b hb
    simp only [impl_pieceOk.j0]
    cases b with
    | true =>
      have c : p.f0 = 5 ∨ p.f0 = 6 := by simpa using hb.symm
      rw [if_pos rfl, impl_pieceOk_j1 h0 h1 2 _ _ _ hl (by omega)]
      unfold kidsNo
      rw [if_pos c]
    | false =>
      have c : ¬ (p.f0 = 5 ∨ p.f0 = 6) := by simpa using hb.symm
      rw [if_neg (by decide), impl_pieceOk_j1 h0 h1 1 _ _ _ hl (by omega), impl_pieceOk_j1 h0 h1 0 _ _ _ hl (by omega)]
      unfold kidsNo
      rw [if_neg c]
      by_cases c7 : p.f0 = 7
      · rw [if_pos c7, if_pos (.inl c7)]
      · rw [if_neg c7]
        by_cases c8 : p.f0 = 8
        · rw [if_pos c8, if_pos (.inr (.inl c8))]
        · rw [if_neg c8]
          by_cases c9 : p.f0 = 9
          · rw [if_pos c9, if_pos (.inr (.inr c9))]
          · rw [if_neg c9, if_neg (by omega)]
  by_cases c5 : p.f0 = 5
  · rw [if_pos c5]
    exact e _ (by simp [c5])
  · rw [if_neg c5]
    refine e _ ?_
    by_cases c6 : p.f0 = 6
    · simp [c6]
    · simp [c5, c6]
theorem impl_PatternOk_l (all : List S85) : ∀ (ys pre : List S85) (k : Nat), ys.length + 1048600 < k → (pre ++ ys).length ≤ 1048576 → (∀ p ∈ ys, p.f1.size ≤ 1048576 ∧ p.f2.length ≤ 1048576) →
    impl_PatternOk.l0 k (pre ++ ys) ((pre ++ ys).length : Int) (pre.length : Int) all = some (piecesOk (pre.length : Int) ys && (decide (1 ≤ all.length) && decide (all.length ≤ 60))) := by
  intro ys
  induction ys with
  | nil =>
    intro pre k hk hl hy
    obtain ⟨k, rfl⟩ := succ_of hk
    simp only [impl_PatternOk.l0]
    rw [if_neg (len_nil pre), iIn, Option.bind_some, len160]
    rfl
  | cons y ys ih =>
    intro pre k hk hl hy
    obtain ⟨k, rfl⟩ := succ_of hk
    simp only [impl_PatternOk.l0]
    rw [List.length_cons] at hk
    have hp : pre.length ≤ 1048576 := by rw [List.length_append] at hl; omega
    have hi := ih (pre ++ [y]) k (by omega) (by rw [← app_cons]; exact hl) (fun p hp => hy p (List.mem_cons_of_mem _ hp))
    rw [if_pos (len_cons pre ys y), if_pos (by omega), if_pos (len_cons pre ys y), show rd_T85 (pre ++ y :: ys) (pre.length : Int) = y from getD_at pre ys y _,
      impl_pieceOk_k (by omega) (by omega) y (hy y (List.mem_cons_self ..)).2 (by omega), Option.bind_some, len_succ pre ys y (by omega), app_cons pre ys y, hi, piecesOk, List.length_append, List.length_singleton]
    rw [show ((pre.length + 1 : Nat) : Int) = (pre.length : Int) + 1 by omega]
    cases pieceOk (pre.length : Int) y <;> simp
theorem impl_PatternOk_k {ps : List S85} (h : PatIn ps) {k : Nat} (hk : 3000000 ≤ k) : impl_PatternOk.f k ps = some (patOk ps) :=
  impl_PatternOk_l ps ps [] k (by have := h.1; omega) (by simpa using h.1) h.2

theorem eqIntS_l : ∀ (ys pre : List Int) (k : Nat), ys.length < k → (pre ++ ys).length ≤ 9223372036854775807 → laws_eqIntS.l0 k (pre ++ ys) (pre ++ ys) (pre.length : Int) = some true := by
  intro ys
  induction ys with
  | nil =>
    intro pre k hk hl
    obtain ⟨k, rfl⟩ := succ_of hk
    simp only [laws_eqIntS.l0]
    rw [if_neg (len_nil pre)]
  | cons y ys ih =>
    intro pre k hk hl
    obtain ⟨k, rfl⟩ := succ_of hk
    simp only [laws_eqIntS.l0]
    rw [if_pos (len_cons pre ys y), if_pos (by omega), if_pos (len_cons pre ys y), if_pos trivial, len_succ pre ys y hl, app_cons pre ys y]
    exact ih (pre ++ [y]) k (by simpa using hk) (by rw [← app_cons]; exact hl)
theorem eqPiece_k (op : Int) (s : ByteArray) (ks : List Int) (hl : ks.length ≤ 1048576) {k : Nat} (hk : 1048577 ≤ k) : laws_eqPiece.f k op s ks op s ks = some true := by
  unfold laws_eqPiece.f laws_eqIntS.f
  rw [if_pos rfl, if_pos rfl, if_pos rfl, show laws_eqIntS.l0 k ks ks 0 = some true from eqIntS_l ks [] k (by omega) (by simp; omega), Option.bind_some, if_pos rfl]
theorem eqPieceS_l : ∀ (ys pre : List S85) (k : Nat), ys.length + 1048577 < k → (pre ++ ys).length ≤ 1048576 → (∀ p ∈ ys, p.f2.length ≤ 1048576) → laws_eqPieceS.l0 k (pre ++ ys) (pre ++ ys) (pre.length : Int) = some true := by
  intro ys
  induction ys with
  | nil =>
    intro pre k hk hl hp
    obtain ⟨k, rfl⟩ := succ_of hk
    simp only [laws_eqPieceS.l0]
    rw [if_neg (len_nil pre)]
  | cons y ys ih =>
    intro pre k hk hl hp
    obtain ⟨k, rfl⟩ := succ_of hk
    simp only [laws_eqPieceS.l0]
    rw [List.length_cons] at hk
    rw [if_pos (len_cons pre ys y), if_pos (by omega), if_pos (len_cons pre ys y), show rd_T85 (pre ++ y :: ys) (pre.length : Int) = y from getD_at pre ys y _,
      eqPiece_k y.f0 y.f1 y.f2 (hp y (List.mem_cons_self ..)) (by omega), Option.bind_some, if_pos rfl, len_succ pre ys y (by omega), app_cons pre ys y]
    exact ih (pre ++ [y]) k (by omega) (by rw [← app_cons]; exact hl) (fun p hq => hp p (List.mem_cons_of_mem _ hq))
theorem eqPattern_ok {ps : List S85} (h1 : ps.length ≤ 1048576) (h2 : ∀ p ∈ ps, p.f2.length ≤ 1048576) {k : Nat} (hk : 3000000 ≤ k) : laws_eqPattern.f k ps ps = some true := by
  unfold laws_eqPattern.f laws_eqPieceS.f
  rw [if_pos rfl, show laws_eqPieceS.l0 k ps ps 0 = some true from eqPieceS_l ps [] k (by omega) (by simpa using h1) h2, Option.bind_some, if_pos rfl]

theorem markText_l : ∀ (d k : Nat) (n : Int) (s : ByteArray), 0 ≤ n → n < 10 ^ d → n ≤ 9223372036854775807 → s.size + d ≤ 1000 → d < k → ∃ t, laws_markText.l0 k n s = some t := by
  intro d
  induction d with
  | zero =>
    intro k n s h0 h1 _ hs hk
    obtain ⟨k, rfl⟩ := succ_of hk
    simp only [laws_markText.l0]
    rw [if_neg (by simp at h1; omega), if_pos (by omega)]
    exact ⟨_, rfl⟩
  | succ d ih =>
    intro k n s h0 h1 hm hs hk
    obtain ⟨k, rfl⟩ := succ_of hk
    simp only [laws_markText.l0]
    by_cases c : n > 0
    · rw [if_pos c, Option.bind_some]
      have hz : (strOfNums [(wrap64 (48 + (Int.tmod n 10))) % 256]).size = 1 := by rw [strOfNums_size]; rfl
      rw [if_pos (by rw [hz]; omega), Int.tdiv_eq_ediv_of_nonneg h0, w64 (by omega) (by omega)]
      exact ih k (n / 10) _ (by omega) (by rw [Int.pow_succ] at h1; omega) (by omega) (by rw [ByteArray.size_append, hz]; omega) (by omega)
    · rw [if_neg c, if_pos (by omega)]
      exact ⟨_, rfl⟩
def MT (n : Int) : ByteArray := ((laws_markText.f 64 n)).getD ⟨#[]⟩
theorem markText_k {n : Int} (h0 : 1 ≤ n) (h1 : n ≤ 1000000000) {k : Nat} (hk : 64 ≤ k) : laws_markText.f k n = some (MT n) := by
  have e : ∃ t, laws_markText.f 64 n = some t := by
    unfold laws_markText.f
    rw [if_neg (by omega)]
    exact markText_l 20 64 n _ (by omega) (by omega) (by omega) (by decide) (by decide)
  obtain ⟨t, e⟩ := e
  have e2 : MT n = t := by unfold MT; rw [e]; rfl
  rw [e2]
  exact at_rounds (g := fun k => laws_markText.f k n) (fun k => laws_markText.mono n k) hk e

/-! Marks of pieces, and that they are held. -/
def markI : Int → List Int → List Int
  | _, [] => []
  | m, _ :: r => m :: markI (m + 1) r
theorem markI_len : ∀ (l : List Int) (m : Int), (markI m l).length = l.length
  | [], _ => rfl
  | _ :: l, m => by rw [markI, List.length_cons, List.length_cons, markI_len l]
theorem markIntS_l : ∀ (ys pre : List Int) (k : Nat) (m : Int), 1 ≤ m → m + ys.length ≤ 1000000000 → ys.length < k → (pre ++ ys).length ≤ 100000000 →
    laws_markIntS.l0 k (pre ++ ys) m (pre.length : Int) = some (m + ys.length, pre ++ markI m ys) := by
  intro ys
  induction ys with
  | nil =>
    intro pre k m h1 h2 hk hl
    obtain ⟨k, rfl⟩ := succ_of hk
    simp only [laws_markIntS.l0]
    rw [if_neg (len_nil pre)]
    simp [markI]
  | cons y ys ih =>
    intro pre k m h1 h2 hk hl
    obtain ⟨k, rfl⟩ := succ_of hk
    rw [List.length_cons] at hk h2
    simp only [laws_markIntS.l0]
    rw [if_pos (len_cons pre ys y), if_pos (by omega), set_at, w64 (show _ ≤ m + 1 by omega) (by omega), len_succ pre ys y (by omega), app_cons pre ys m]
    have := ih (pre ++ [m]) k (m + 1) (by omega) (by omega) (by omega) (by rw [List.length_append, List.length_append, List.length_singleton]; rw [List.length_append, List.length_cons] at hl; omega)
    rw [List.length_append, List.length_singleton] at this ⊢
    rw [this, markI, ← app_cons, List.length_cons]
    congr 2
    omega
theorem heldIntS_l : ∀ (ys pre : List Int) (k : Nat) (m : Int), 1 ≤ m → m + ys.length ≤ 1000000000 → ys.length < k → (pre ++ ys).length ≤ 100000000 →
    laws_heldIntS.l0 k (pre ++ markI m ys) m (pre.length : Int) = some (m + ys.length) := by
  intro ys
  induction ys with
  | nil =>
    intro pre k m h1 h2 hk hl
    obtain ⟨k, rfl⟩ := succ_of hk
    rw [show markI m [] = [] from rfl]
    simp only [laws_heldIntS.l0]
    rw [if_neg (len_nil pre)]
    simp
  | cons y ys ih =>
    intro pre k m h1 h2 hk hl
    obtain ⟨k, rfl⟩ := succ_of hk
    rw [List.length_cons] at hk h2
    rw [List.length_append, List.length_cons] at hl
    rw [show markI m (y :: ys) = m :: markI (m + 1) ys from rfl]
    simp only [laws_heldIntS.l0]
    have hl2 : (pre ++ m :: markI (m + 1) ys).length ≤ 9223372036854775807 := by rw [List.length_append, List.length_cons, markI_len]; omega
    rw [if_pos (len_cons pre _ _), if_pos (by omega), show rd (pre ++ m :: markI (m + 1) ys) (pre.length : Int) = m from getD_at pre _ _ _, if_pos rfl,
      w64 (show _ ≤ m + 1 by omega) (by omega), len_succ pre _ _ hl2, app_cons]
    have := ih (pre ++ [m]) k (m + 1) (by omega) (by omega) (by omega) (by rw [List.length_append, List.length_append, List.length_singleton]; omega)
    rw [this, List.length_cons]
    congr 1
    omega
theorem markIntS_k {l : List Int} {m : Int} (h1 : 1 ≤ m) (h2 : m + l.length ≤ 1000000000) (hl : l.length ≤ 100000000) {k : Nat} (hk : l.length < k) : laws_markIntS.f k l m = some (m + l.length, markI m l) := markIntS_l l [] k m h1 h2 hk hl
theorem heldIntS_k {l : List Int} {m : Int} (h1 : 1 ≤ m) (h2 : m + l.length ≤ 1000000000) (hl : l.length ≤ 100000000) {k : Nat} (hk : l.length < k) : laws_heldIntS.f k (markI m l) m = some (m + l.length) := heldIntS_l l [] k m h1 h2 hk hl
def markX : Int → List S85 → Int × List S85
  | m, [] => (m, [])
  | m, p :: r => ((markX (m + 2 + p.f2.length) r).1, ⟨m, MT (m + 1), markI (m + 2) p.f2⟩ :: (markX (m + 2 + p.f2.length) r).2)
theorem markX_len : ∀ (l : List S85) (m : Int), (markX m l).2.length = l.length
  | [], _ => rfl
  | p :: l, m => by rw [markX, List.length_cons, List.length_cons, markX_len l]
theorem markX_ge : ∀ (l : List S85) (m : Int), m ≤ (markX m l).1
  | [], _ => Int.le_refl _
  | p :: l, m => by rw [markX]; have := markX_ge l (m + 2 + p.f2.length); omega
theorem markL_l (k : Nat) (hk0 : 1000 ≤ k) : ∀ (ys pre : List S85) (n : Nat) (m : Int), 1 ≤ m → m + 1002 * ys.length ≤ 1000000 → ys.length < n → (pre ++ ys).length ≤ 1000 → (∀ p ∈ ys, p.f2.length ≤ 900) →
    markL k n (pre ++ ys) m pre.length = some ((markX m ys).1, pre ++ (markX m ys).2) := by
  intro ys
  induction ys with
  | nil =>
    intro pre n m h1 h2 hn hl hp
    obtain ⟨n, rfl⟩ := succ_of hn
    simp only [markL]
    rw [if_neg (by simp)]
    simp [markX]
  | cons y ys ih =>
    intro pre n m h1 h2 hn hl hp
    obtain ⟨n, rfl⟩ := succ_of hn
    rw [List.length_cons] at hn h2
    rw [List.length_append, List.length_cons] at hl
    have hy := hp y (List.mem_cons_self ..)
    simp only [markL]
    have hg : (pre ++ y :: ys).getD pre.length z85 = y := by have := getD_at pre ys y z85; rwa [Int.toNat_natCast] at this
    have hs : ∀ z, (pre ++ y :: ys).set pre.length z = pre ++ z :: ys := fun z => by have := set_at pre ys y z; rwa [Int.toNat_natCast] at this
    rw [if_pos (by rw [List.length_append, List.length_cons]; omega), if_pos ⟨by omega, by omega⟩, markText_k (show 1 ≤ m + 1 by omega) (by omega) (by omega), Option.bind_some, hg,
      markIntS_k (show 1 ≤ m + 1 + 1 by omega) (by omega) (by omega) (by omega), Option.bind_some, hs, app_cons]
    have := ih (pre ++ [⟨m, MT (m + 1), markI (m + 1 + 1) y.f2⟩]) n (m + 1 + 1 + y.f2.length) (by omega) (by omega) (by omega) (by rw [List.length_append, List.length_append, List.length_singleton]; omega) (fun p hp' => hp p (List.mem_cons_of_mem _ hp'))
    rw [List.length_append, List.length_singleton] at this
    rw [this, markX, ← app_cons]
    simp only []
    rw [show m + 1 + 1 = m + 2 by omega]
theorem heldPieceS_l (k0 : Nat) : ∀ (ys pre : List S85) (k : Nat) (m : Int), 1 ≤ m → m + 1002 * ys.length ≤ 1000000 → ys.length + 1000 < k → (pre ++ ys).length ≤ 1000 → (∀ p ∈ ys, p.f2.length ≤ 900) →
    laws_heldPieceS.l0 k (pre ++ (markX m ys).2) m (pre.length : Int) = some (markX m ys).1 := by
  intro ys
  induction ys with
  | nil =>
    intro pre k m h1 h2 hk hl hp
    obtain ⟨k, rfl⟩ := succ_of hk
    rw [show markX m [] = (m, []) from rfl]
    simp only [laws_heldPieceS.l0]
    rw [if_neg (len_nil pre)]
  | cons y ys ih =>
    intro pre k m h1 h2 hk hl hp
    obtain ⟨k, rfl⟩ := succ_of hk
    rw [List.length_cons] at hk h2
    rw [List.length_append, List.length_cons] at hl
    have hy := hp y (List.mem_cons_self ..)
    have hge := markX_ge ys (m + 2 + y.f2.length)
    rw [markX]
    simp only [laws_heldPieceS.l0]
    have hl2 : (pre ++ (⟨m, MT (m + 1), markI (m + 2) y.f2⟩ : S85) :: (markX (m + 2 + y.f2.length) ys).2).length ≤ 9223372036854775807 := by rw [List.length_append, List.length_cons, markX_len]; omega
    rw [if_pos (len_cons pre _ _), if_pos (by omega), show rd_T85 (pre ++ (⟨m, MT (m + 1), markI (m + 2) y.f2⟩ : S85) :: (markX (m + 2 + y.f2.length) ys).2) (pre.length : Int) = ⟨m, MT (m + 1), markI (m + 2) y.f2⟩ from getD_at pre _ _ _, if_pos rfl,
      w64 (show _ ≤ m + 1 by omega) (by omega), markText_k (show 1 ≤ m + 1 by omega) (by omega) (by omega), Option.bind_some, if_pos rfl, w64 (show _ ≤ m + 1 + 1 by omega) (by omega), show m + 1 + 1 = m + 2 by omega]
    simp only []
    rw [heldIntS_k (show 1 ≤ m + 2 by omega) (by omega) (by omega) (by omega), Option.bind_some, if_neg (by omega), len_succ pre _ _ hl2, app_cons]
    exact ih (pre ++ [(⟨m, MT (m + 1), markI (m + 2) y.f2⟩ : S85)]) k (m + 2 + y.f2.length) (by omega) (by omega) (by omega) (by rw [List.length_append, List.length_append, List.length_singleton]; omega) (fun p hp' => hp p (List.mem_cons_of_mem _ hp'))
theorem markP_k {ps : List S85} (hl : ps.length ≤ 900) (hp : ∀ p ∈ ps, p.f2.length ≤ 900) {k : Nat} (hk : 2000 ≤ k) : markP k ps 1 = some ((markX 1 ps).1, (markX 1 ps).2) := by
  unfold markP
  rw [if_pos (by omega)]
  by_cases h0 : ps.length = 0
  · rw [if_pos h0]
    obtain rfl := List.length_eq_zero_iff.1 h0
    rfl
  · rw [if_neg h0]
    exact markL_l k (by omega) ps [] k 1 (by omega) (by omega) (by omega) (by simpa using (by omega : ps.length ≤ 1000)) hp
theorem heldPattern_k {ps : List S85} (hl : ps.length ≤ 900) (hp : ∀ p ∈ ps, p.f2.length ≤ 900) {k : Nat} (hk : 3000 ≤ k) : laws_heldPattern.f k (markX 1 ps).2 1 = some (markX 1 ps).1 := by
  unfold laws_heldPattern.f laws_heldPieceS.f
  have := heldPieceS_l 0 ps [] k 1 (by omega) (by omega) (by omega) (by simpa using (by omega : ps.length ≤ 1000)) hp
  have hge := markX_ge ps 1
  rw [show ([] ++ (markX 1 ps).2) = (markX 1 ps).2 from rfl] at this
  rw [show (0 : Int) = (([] : List S85).length : Int) from rfl, this, Option.bind_some, if_neg (by simp; omega)]

/-! What the plain reader of patterns reads is a right pattern. -/
theorem piecesOk_snoc : ∀ (ps : List S85) (i : Int) (p : S85), piecesOk i (ps ++ [p]) = (piecesOk i ps && pieceOk (i + ps.length) p)
  | [], i, p => by simp [piecesOk]
  | q :: ps, i, p => by
    rw [List.cons_append, piecesOk, piecesOk, piecesOk_snoc ps (i + 1) p, Bool.and_assoc, List.length_cons]
    congr 3
    omega
/-- What is told of an answer: right pieces, a place of one, no longer a text. -/
def InvR (t : ByteArray) (ps : List S85) (m c : Nat) (r : PR) : Prop := ∀ k u qs, r = some (k, u, qs) → piecesOk 0 qs = true ∧ 0 ≤ k ∧ k + 1 ≤ qs.length ∧ ps.length ≤ qs.length ∧ u.size + c ≤ t.size ∧ qs.length + 2 * u.size + c ≤ m
theorem InvR.none {t : ByteArray} {ps : List S85} {m c : Nat} : InvR t ps m c none := fun _ _ _ h => by cases h
theorem inv_put {t u : ByteArray} {ps : List S85} {m c : Nat} (p : S85) (h : piecesOk 0 ps = true) (hp : pieceOk ps.length p = true) (hu : u.size + c ≤ t.size) (hm : ps.length + 1 + 2 * u.size + c ≤ m) : InvR t ps m c (some ((ps.length : Int), u, ps ++ [p])) := by
  intro k v qs e
  injection e with e
  injection e with e1 e
  injection e with e2 e3
  subst e1 e2 e3
  refine ⟨by rw [piecesOk_snoc, h, Int.zero_add, hp]; rfl, by omega, by rw [List.length_append, List.length_singleton]; omega, by rw [List.length_append]; omega, hu, by rw [List.length_append, List.length_singleton]; omega⟩
theorem pieceOk_mk (at_ : Int) (op : Int) (s : ByteArray) (ks : List Int) (h1 : 1 ≤ op) (h2 : op ≤ 12) (h3 : textOk op (s.size : Int) = true) (h4 : (ks.length : Int) = kidsNo op) (h5 : kidsOk at_ ks = true) : pieceOk at_ (⟨op, s, ks⟩ : S85) = true := by
  unfold pieceOk
  simp only []
  rw [decide_eq_true h1, decide_eq_true h2, h3, decide_eq_true h4, h5]
  rfl
theorem kids1 {at_ k : Int} (h0 : 0 ≤ k) (h1 : k + 1 ≤ at_) : kidsOk at_ [k] = true := by
  unfold kidsOk
  simp
  omega
theorem kids2 {at_ k j : Int} (h0 : 0 ≤ k) (h1 : k + 1 ≤ at_) (h2 : 0 ≤ j) (h3 : j + 1 ≤ at_) : kidsOk at_ [k, j] = true := by
  unfold kidsOk
  simp
  omega
theorem inv_set {t : ByteArray} {ps : List S85} (ht : t.size ≤ 24) (h : piecesOk 0 ps = true) : InvR t ps (ps.length + 2 * t.size) 0 (pSet t ps) := by
  unfold pSet
  obtain ⟨u, hu⟩ : ∃ u, (if hdB t 94 = true then tl t else t) = u := ⟨_, rfl⟩
  have hus : u.size ≤ t.size := by rw [← hu]; split; rw [tl_size]; omega; omega
  rw [hu]
  by_cases hi : Go.Lib.indexByte u.data.toList 93 ≤ 0
  · rw [if_pos hi]; exact InvR.none
  · rw [if_neg hi]
    obtain ⟨i, hi2⟩ : ∃ i : Nat, Go.Lib.indexByte u.data.toList 93 = (i : Int) := ⟨(Go.Lib.indexByte u.data.toList 93).toNat, by omega⟩
    have hlt := ix_lt hi2
    rw [hi2, Int.toNat_natCast]
    have hi0 : 0 < i := by rw [hi2] at hi; omega
    have hz : (u.extract 0 i).size = i := by rw [ByteArray.size_extract]; omega
    have hr : (u.extract (i + 1) u.size).size = u.size - (i + 1) := by rw [ByteArray.size_extract]; omega
    refine inv_put _ h (pieceOk_mk _ _ _ _ ?_ ?_ ?_ ?_ rfl) (by omega) (by omega)
    · split <;> decide
    · split <;> decide
    · unfold textOk
      rw [if_neg (by split <;> decide), if_pos (by split <;> decide), hz, decide_eq_true (by omega), decide_eq_true (by omega)]
      rfl
    · split <;> rfl
theorem inv_one {t u : ByteArray} {ps : List S85} (sg : Bool) (hu : u.size ≤ t.size) (h : piecesOk 0 ps = true) : InvR t ps (ps.length + 2 * t.size) 1 (pOne sg u ps) := by
  unfold pOne
  split
  · exact InvR.none
  · next hc =>
    have hu0 : u.size ≠ 0 := fun e => hc (.inl e)
    have hz : (u.extract 0 1).size = 1 := by rw [ByteArray.size_extract]; omega
    have hr := tl_size u
    refine inv_put _ h (pieceOk_mk _ _ _ _ (by decide) (by decide) ?_ rfl rfl) (by omega) (by omega)
    unfold textOk
    rw [if_pos rfl, hz]
    rfl
theorem inv_single {t : ByteArray} {ps : List S85} (h : piecesOk 0 ps = true) : InvR t ps (ps.length + 2 * t.size) 1 (pSingle t ps) := by
  unfold pSingle
  split
  · exact inv_one true (by rw [tl_size]; omega) h
  · exact inv_one false (Nat.le_refl _) h
def AltI (alt : ByteArray → List S85 → PR) : Prop := ∀ t ps, t.size ≤ 24 → piecesOk 0 ps = true → InvR t ps (ps.length + 2 * t.size + 1) 0 (alt t ps)
theorem inv_base {alt : ByteArray → List S85 → PR} (H : AltI alt) {t : ByteArray} {ps : List S85} (ht : t.size ≤ 24) (h : piecesOk 0 ps = true) : InvR t ps (ps.length + 2 * t.size) 1 (pBase alt t ps) := by
  have hz := tl_size t
  have put : ∀ op : Int, 1 ≤ op → op ≤ 12 → textOk op 0 = true → kidsNo op = 0 → 0 < t.size → InvR t ps (ps.length + 2 * t.size) 1 (some ((ps.length : Int), tl t, ps ++ [⟨op, eb, []⟩])) := fun op h1 h2 h3 h4 h5 =>
    inv_put _ h (pieceOk_mk _ _ _ _ h1 h2 h3 h4.symm rfl) (by omega) (by omega)
  unfold pBase
  split
  · next c => exact put 10 (by decide) (by decide) rfl rfl (hd_pos c)
  split
  · next c => exact put 11 (by decide) (by decide) rfl rfl (hd_pos c)
  split
  · next c => exact put 2 (by decide) (by decide) rfl rfl (hd_pos c)
  split
  · next c =>
    have hp := hd_pos c
    intro k u qs e
    obtain ⟨a1, a2, a3, a4, a5, a6⟩ := inv_set (t := tl t) (by omega) h k u qs e
    exact ⟨a1, a2, a3, a4, by omega, by omega⟩
  split
  · next c =>
    have hp := hd_pos c
    unfold pGroup
    intro k u qs e
    obtain ⟨⟨k', u', qs'⟩, e1, e2⟩ := Option.bind_eq_some_iff.mp e
    obtain ⟨a1, a2, a3, a4, a5, a6⟩ := H (tl t) ps (by omega) h k' u' qs' e1
    split at e2
    · next c2 =>
      have hp2 := hd_pos c2
      have hz2 := tl_size u'
      have hp2 : 0 < u'.size := hp2
      have e2 : (some (k', tl u', qs') : PR) = some (k, u, qs) := e2
      injection e2 with e2
      injection e2 with b1 e2
      injection e2 with b2 b3
      subst b1 b2 b3
      exact ⟨a1, a2, a3, a4, by omega, by omega⟩
    · cases e2
  · exact inv_single h
theorem inv_star : ∀ (n : Nat) (k : Int) (t : ByteArray) (ps : List S85), piecesOk 0 ps = true → 0 ≤ k → k + 1 ≤ ps.length → InvR t ps (ps.length + 2 * t.size) 0 (pStar n k t ps)
  | 0, _, _, _, _, _, _ => InvR.none
  | n + 1, k, t, ps, h, h0, h1 => by
    have hz := tl_size t
    have go : ∀ op : Int, (op = 7 ∨ op = 8 ∨ op = 9) → 0 < t.size → InvR t ps (ps.length + 2 * t.size) 0 (pStar n ps.length (tl t) (ps ++ [⟨op, eb, [k]⟩])) := fun op hop hp => by
      have hok : piecesOk 0 (ps ++ [(⟨op, eb, [k]⟩ : S85)]) = true := by
        rw [piecesOk_snoc, h, Int.zero_add, pieceOk_mk _ _ _ _ (by omega) (by omega) (by rcases hop with rfl | rfl | rfl <;> rfl) (by rcases hop with rfl | rfl | rfl <;> rfl) (kids1 h0 h1)]
        rfl
      intro k' u qs e
      obtain ⟨a1, a2, a3, a4, a5, a6⟩ := inv_star n ps.length (tl t) (ps ++ [⟨op, eb, [k]⟩]) hok (by omega) (by rw [List.length_append, List.length_singleton]; omega) k' u qs e
      rw [List.length_append, List.length_singleton] at a4 a6
      exact ⟨a1, a2, a3, by omega, by omega, by omega⟩
    unfold pStar
    split
    · next c => exact go 7 (by omega) (hd_pos c)
    split
    · next c => exact go 8 (by omega) (hd_pos c)
    split
    · next c => exact go 9 (by omega) (hd_pos c)
    · intro k' u qs e
      injection e with e
      injection e with b1 e
      injection e with b2 b3
      subst b1 b2 b3
      exact ⟨h, h0, h1, Nat.le_refl _, Nat.le_refl _, by omega⟩
theorem inv_thing {alt : ByteArray → List S85 → PR} (H : AltI alt) {t : ByteArray} {ps : List S85} (ht : t.size ≤ 24) (h : piecesOk 0 ps = true) : InvR t ps (ps.length + 2 * t.size) 1 (pThing alt t ps) := by
  unfold pThing
  intro k u qs e
  obtain ⟨⟨k', u', qs'⟩, e1, e2⟩ := Option.bind_eq_some_iff.mp e
  obtain ⟨a1, a2, a3, a4, a5, a6⟩ := inv_base H ht h k' u' qs' e1
  obtain ⟨b1, b2, b3, b4, b5, b6⟩ := inv_star 50 k' u' qs' a1 a2 a3 k u qs e2
  exact ⟨b1, b2, b3, by omega, by omega, by omega⟩
theorem inv_rowl {alt : ByteArray → List S85 → PR} (H : AltI alt) : ∀ (n : Nat) (k : Int) (t : ByteArray) (ps : List S85), t.size ≤ 24 → piecesOk 0 ps = true → 0 ≤ k → k + 1 ≤ ps.length → InvR t ps (ps.length + 2 * t.size) 0 (pRowL alt n k t ps)
  | 0, _, _, _, _, _, _, _ => InvR.none
  | n + 1, k, t, ps, ht, h, h0, h1 => by
    unfold pRowL
    split
    · intro k' u qs e
      injection e with e
      injection e with b1 e
      injection e with b2 b3
      subst b1 b2 b3
      exact ⟨h, h0, h1, Nat.le_refl _, Nat.le_refl _, by omega⟩
    · intro k' u qs e
      obtain ⟨⟨j, v, rs⟩, e1, e2⟩ := Option.bind_eq_some_iff.mp e
      obtain ⟨a1, a2, a3, a4, a5, a6⟩ := inv_thing H ht h j v rs e1
      have hok : piecesOk 0 (rs ++ [(⟨5, eb, [k, j]⟩ : S85)]) = true := by
        rw [piecesOk_snoc, a1, Int.zero_add, pieceOk_mk _ _ _ _ (by omega) (by omega) rfl rfl (kids2 h0 (by omega) a2 a3)]
        rfl
      obtain ⟨b1, b2, b3, b4, b5, b6⟩ := inv_rowl H n rs.length v (rs ++ [⟨5, eb, [k, j]⟩]) (by omega) hok (by omega) (by rw [List.length_append, List.length_singleton]; omega) k' u qs e2
      rw [List.length_append, List.length_singleton] at b4 b6
      exact ⟨b1, b2, b3, by omega, by omega, by omega⟩
theorem inv_row {alt : ByteArray → List S85 → PR} (H : AltI alt) {t : ByteArray} {ps : List S85} (ht : t.size ≤ 24) (h : piecesOk 0 ps = true) : InvR t ps (ps.length + 2 * t.size + 1) 0 (pRow alt t ps) := by
  unfold pRow
  split
  · exact inv_put _ h (pieceOk_mk _ _ _ _ (by decide) (by decide) rfl rfl rfl) (by omega) (by omega)
  · intro k u qs e
    obtain ⟨⟨j, v, rs⟩, e1, e2⟩ := Option.bind_eq_some_iff.mp e
    obtain ⟨a1, a2, a3, a4, a5, a6⟩ := inv_thing H ht h j v rs e1
    obtain ⟨b1, b2, b3, b4, b5, b6⟩ := inv_rowl H 50 j v rs (by omega) a1 a2 a3 k u qs e2
    exact ⟨b1, b2, b3, by omega, by omega, by omega⟩
theorem inv_altl {alt : ByteArray → List S85 → PR} (H : AltI alt) : ∀ (n : Nat) (k : Int) (t : ByteArray) (ps : List S85), t.size ≤ 24 → piecesOk 0 ps = true → 0 ≤ k → k + 1 ≤ ps.length → InvR t ps (ps.length + 2 * t.size) 0 (pAltL alt n k t ps)
  | 0, _, _, _, _, _, _, _ => InvR.none
  | n + 1, k, t, ps, ht, h, h0, h1 => by
    have hz := tl_size t
    unfold pAltL
    split
    · next c =>
      have hp := hd_pos c
      intro k' u qs e
      obtain ⟨⟨j, v, rs⟩, e1, e2⟩ := Option.bind_eq_some_iff.mp e
      obtain ⟨a1, a2, a3, a4, a5, a6⟩ := inv_row H (t := tl t) (by omega) h j v rs e1
      have hok : piecesOk 0 (rs ++ [(⟨6, eb, [k, j]⟩ : S85)]) = true := by
        rw [piecesOk_snoc, a1, Int.zero_add, pieceOk_mk _ _ _ _ (by omega) (by omega) rfl rfl (kids2 h0 (by omega) a2 a3)]
        rfl
      obtain ⟨b1, b2, b3, b4, b5, b6⟩ := inv_altl H n rs.length v (rs ++ [⟨6, eb, [k, j]⟩]) (by omega) hok (by omega) (by rw [List.length_append, List.length_singleton]; omega) k' u qs e2
      rw [List.length_append, List.length_singleton] at b4 b6
      exact ⟨b1, b2, b3, by omega, by omega, by omega⟩
    · intro k' u qs e
      injection e with e
      injection e with b1 e
      injection e with b2 b3
      subst b1 b2 b3
      exact ⟨h, h0, h1, Nat.le_refl _, Nat.le_refl _, by omega⟩
theorem inv_alt : ∀ d, AltI (pAlt d)
  | 0 => fun _ _ _ _ => InvR.none
  | d + 1 => fun t ps ht h => by
    have H := inv_alt d
    unfold pAlt
    intro k u qs e
    obtain ⟨⟨j, v, rs⟩, e1, e2⟩ := Option.bind_eq_some_iff.mp e
    obtain ⟨a1, a2, a3, a4, a5, a6⟩ := inv_row H ht h j v rs e1
    obtain ⟨b1, b2, b3, b4, b5, b6⟩ := inv_altl H 50 j v rs (by omega) a1 a2 a3 k u qs e2
    exact ⟨b1, b2, b3, by omega, by omega, by omega⟩
theorem pieceOk_kids {at_ : Int} {p : S85} (h : pieceOk at_ p = true) : p.f1.size ≤ 24 ∧ p.f2.length ≤ 2 := by
  unfold pieceOk at h
  simp only [Bool.and_eq_true, decide_eq_true_eq] at h
  obtain ⟨⟨h1, h2⟩, h3, h4, h5⟩ := h
  constructor
  · unfold textOk at h3
    split at h3
    · have := of_decide_eq_true h3; omega
    split at h3
    · simp only [Bool.and_eq_true, decide_eq_true_eq] at h3; omega
    · have := of_decide_eq_true h3; omega
  · unfold kidsNo at h4
    split at h4
    · omega
    split at h4 <;> omega
theorem piecesOk_kids : ∀ (ps : List S85) (i : Int), piecesOk i ps = true → ∀ p ∈ ps, p.f1.size ≤ 24 ∧ p.f2.length ≤ 2
  | [], _, _, p, hp => by cases hp
  | q :: ps, i, h, p, hp => by
    rw [piecesOk, Bool.and_eq_true] at h
    rcases List.mem_cons.1 hp with rfl | hp
    · exact pieceOk_kids h.1
    · exact piecesOk_kids ps (i + 1) h.2 p hp
theorem pRead_ok {s : ByteArray} {qs : List S85} (h : pRead s = some qs) : patOk qs = true ∧ qs.length ≤ 60 ∧ ∀ p ∈ qs, p.f1.size ≤ 24 ∧ p.f2.length ≤ 2 := by
  unfold pRead at h
  split at h
  · next hs =>
    obtain ⟨⟨k, u, rs⟩, e1, e2⟩ := Option.bind_eq_some_iff.mp h
    split at e2
    · next hu =>
      obtain rfl := Option.some.inj e2
      obtain ⟨a1, a2, a3, a4, a5, a6⟩ := inv_alt 50 s [] hs.2 rfl k u rs e1
      simp only [List.length_nil] at a6 hu ⊢
      have h60 : rs.length ≤ 60 := by omega
      refine ⟨?_, h60, piecesOk_kids rs 0 a1⟩
      unfold patOk
      rw [a1, decide_eq_true (by omega), decide_eq_true h60]
      rfl
    · cases e2
  · cases h

theorem FnExactReadPattern : laws_FnExactReadPattern.Pure := by
  intro s _
  refine ⟨3000000, ?_⟩
  unfold laws_FnExactReadPattern.f
  by_cases hs : s.size ≤ 1048576
  · rw [if_pos hs]
    have key : (pRead s = none ∨ impl_PatternOk.f 3000000 ((pRead s).getD []) = some true) ∧ ((pRead s).getD []).length ≤ 60 ∧ ∀ p ∈ (pRead s).getD [], p.f1.size ≤ 24 ∧ p.f2.length ≤ 2 := by
      cases h : pRead s with
      | none => exact ⟨.inl rfl, by simp, fun p hp => by cases hp⟩
      | some qs =>
        obtain ⟨h1, h2, h3⟩ := pRead_ok h
        refine ⟨.inr ?_, h2, h3⟩
        show impl_PatternOk.f 3000000 qs = some true
        rw [impl_PatternOk_k (ps := qs) ⟨by omega, fun p hp => ⟨by have := (h3 p hp).1; omega, by have := (h3 p hp).2; omega⟩⟩ (Nat.le_refl _), h1]
    obtain ⟨h1, h2, h3⟩ := key
    rw [markP_k (by omega) (fun p hp => by have := (h3 p hp).2; omega) (by omega), Option.bind_some]
    simp only []
    rw [if_pos ⟨h1, eqPattern_ok (by omega) (fun p hp => by have := (h3 p hp).2; omega) (by omega), heldPattern_k (by omega) (fun p hp => by have := (h3 p hp).2; omega) (by omega), by have := markX_ge ((pRead s).getD []) 1; omega⟩]
  · rw [if_neg hs]

end Go.Proofs.Ytnjomkadjcjcnaa.Pure
