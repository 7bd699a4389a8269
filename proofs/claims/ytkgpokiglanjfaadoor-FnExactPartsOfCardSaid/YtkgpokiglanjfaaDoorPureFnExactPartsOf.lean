/- The pure statement of FnExactPartsOf: over numbers and lists, what the printed functions come to is what the law wants, for every input. -/
import Derived.Test.YtkgpokiglanjfaaDoorQFnExactPartsOfx3
set_option linter.unusedVariables false
set_option linter.unusedSimpArgs false
namespace Go.Proofs.YtkgpokiglanjfaaDoor.Pure
open Go.RowKit Go.Proofs.YtkgpokiglanjfaaDoor.QFnExactPartsOf Go.Proofs.YtkgpokiglanjfaaDoorW.PrintWords Go.Proofs.YtkgpokiglanjfaaDoorW.PrintLast
/-! Words on strings as lists of numbers. -/
theorem w64 {x : Int} (h0 : -9223372036854775808 ≤ x) (h1 : x ≤ 9223372036854775807) : wrap64 x = x := by
  unfold wrap64
  omega
theorem bx_len (s : ByteArray) : (bytesOf s).length = s.size := bytesOf_length s
theorem bx_byte (s : ByteArray) : ∀ c ∈ bytesOf s, 0 ≤ c ∧ c ≤ 255 := by
  intro c hc
  unfold bytesOf at hc
  obtain ⟨b, _, rfl⟩ := List.mem_map.1 hc
  have := b.toNat_lt
  omega
theorem bx_at {s : ByteArray} {pre ys : List Int} {c : Int} (h : bytesOf s = pre ++ c :: ys) : bt s (pre.length : Int) = c := by
  rw [← rd_bytesOf, h, rd, Int.toNat_natCast, List.getD_eq_getElem?_getD, List.getElem?_append_right (Nat.le_refl _)]
  simp
theorem bx_lt {s : ByteArray} {pre ys : List Int} {c : Int} (h : bytesOf s = pre ++ c :: ys) : (pre.length : Int) < (s.size : Int) := by
  have := congrArg List.length h
  rw [bx_len, List.length_append, List.length_cons] at this
  omega
theorem bx_end {s : ByteArray} {pre : List Int} (h : bytesOf s = pre ++ []) : (s.size : Int) = (pre.length : Int) := by
  have := congrArg List.length h
  rw [bx_len, List.append_nil] at this
  omega
theorem bx_next {s : ByteArray} {pre ys : List Int} {c : Int} (h : bytesOf s = pre ++ c :: ys) : bytesOf s = (pre ++ [c]) ++ ys := by
  rw [h, List.append_assoc]; rfl
theorem len_next (pre : List Int) (c : Int) : ((pre ++ [c]).length : Int) = (pre.length : Int) + 1 := by
  rw [List.length_append, List.length_singleton]; omega
theorem bx_inj {s t : ByteArray} (h : bytesOf s = bytesOf t) : s = t := by
  unfold bytesOf at h
  have h2 : s.data.toList = t.data.toList := by
    refine (List.map_inj_right (f := fun b : UInt8 => (b.toNat : Int)) ?_).1 h
    intro x y hxy
    exact UInt8.toNat_inj.1 (Int.ofNat_inj.1 hxy)
  exact ByteArray.ext (Array.toList_inj.1 h2)
theorem tl_inj {s t : ByteArray} (h : s.toList = t.toList) : s = t := by
  rw [ByteArray.toList_eq, ByteArray.toList_eq] at h
  exact ByteArray.ext (Array.toList_inj.1 h)
theorem tl_iff {s t : ByteArray} : s.toList = t.toList ↔ bytesOf s = bytesOf t := ⟨fun h => by rw [tl_inj h], fun h => by rw [bx_inj h]⟩
theorem bx_app (s t : ByteArray) : bytesOf (s ++ t) = bytesOf s ++ bytesOf t := by
  simp [bytesOf]
theorem bx_cut (s : ByteArray) (a b : Nat) : bytesOf (s.extract a b) = ((bytesOf s).take b).drop a := by
  simp [bytesOf, ByteArray.data_extract, List.map_drop, List.map_take, List.take_drop]
  rw [List.drop_take, List.drop_take]
  congr 1
  omega
theorem bx_str {xs : List Int} (h : ∀ c ∈ xs, 0 ≤ c ∧ c ≤ 255) : bytesOf (strOfNums xs) = xs := by
  unfold bytesOf
  rw [strOfNums_data, List.map_map]
  induction xs with
  | nil => rfl
  | cons c xs ih =>
    rw [List.map_cons, ih (fun d hd => h d (List.mem_cons_of_mem _ hd))]
    have hc := h c (List.mem_cons_self ..)
    congr 1
    have e : (UInt8.ofNat c.toNat).toNat = c.toNat := by
      rw [UInt8.toNat_ofNat']
      omega
    show ((UInt8.ofNat c.toNat).toNat : Int) = c
    rw [e]
    omega
theorem bx_wrap {s : ByteArray} {pre ys : List Int} {c : Int} (h : bytesOf s = pre ++ c :: ys) (hs : s.size ≤ 140737488351232) : wrap64 ((pre.length : Int) + 1) = ((pre ++ [c]).length : Int) := by
  rw [len_next]
  have := bx_lt h
  exact w64 (by omega) (by omega)
theorem bx_in {s : ByteArray} {pre ys : List Int} {c : Int} (h : bytesOf s = pre ++ c :: ys) : 0 ≤ c ∧ c ≤ 255 :=
  bx_byte s c (by rw [h]; exact List.mem_append_right _ (List.mem_cons_self ..))
theorem succ_of {n k : Nat} (h : n < k) : ∃ m, k = m + 1 := ⟨k - 1, by omega⟩
theorem ev2 {α β : Type} {g : Nat → Option α} {f : Nat → Option β} {a : α} {b : β} (h : Ev g a) (h' : Ev f b) : ∃ k, g k = some a ∧ f k = some b := by
  obtain ⟨K, h⟩ := h
  obtain ⟨K', h'⟩ := h'
  exact ⟨K + K', h _ (by omega), h' _ (by omega)⟩

theorem u32_in {x : Int} (h : (Lit.int .u32 x).wf = true) : 0 ≤ x ∧ x < 4294967296 := by
  simp only [Lit.wf, IntKind.min, IntKind.max, IntKind.signed, IntKind.bits, Bool.and_eq_true, decide_eq_true_eq] at h
  simp at h
  omega
theorem i64_in {x : Int} (h : (Lit.int .i64 x).wf = true) : -9223372036854775808 ≤ x ∧ x ≤ 9223372036854775807 := by
  simp only [Lit.wf, IntKind.min, IntKind.max, IntKind.signed, IntKind.bits, Bool.and_eq_true, decide_eq_true_eq] at h
  simp at h
  omega

theorem iIn (a b c : Int) : impl_within.f a b c = some (decide (b ≤ a) && decide (a ≤ c)) := by
  unfold impl_within.f
  by_cases h : a ≥ b
  · rw [if_pos h]; simp [show b ≤ a from h]
  · rw [if_neg h]; simp [show ¬ b ≤ a from h]

theorem getD_at {α : Type} (pre ys : List α) (y d : α) : (pre ++ y :: ys).getD (pre.length : Int).toNat d = y := by
  rw [Int.toNat_natCast, List.getD_eq_getElem?_getD, List.getElem?_append_right (Nat.le_refl _)]
  simp
theorem len_cons {α : Type} (pre ys : List α) (y : α) : (pre.length : Int) < ((pre ++ y :: ys).length : Int) := by
  rw [List.length_append, List.length_cons]; omega
theorem len_nil {α : Type} (pre : List α) : ¬ (pre.length : Int) < ((pre ++ []).length : Int) := by
  rw [List.append_nil]; omega
theorem len_succ {α : Type} (pre ys : List α) (y : α) (h : (pre ++ y :: ys).length ≤ 9223372036854775807) : wrap64 ((pre.length : Int) + 1) = ((pre ++ [y]).length : Int) := by
  rw [List.length_append, List.length_cons] at h
  rw [List.length_append, List.length_singleton, w64 (by omega) (by omega)]
  omega
theorem app_cons {α : Type} (pre ys : List α) (y : α) : pre ++ y :: ys = (pre ++ [y]) ++ ys := by rw [List.append_assoc]; rfl
theorem set_at {α : Type} (pre ys : List α) (y z : α) : (pre ++ y :: ys).set (pre.length : Int).toNat z = pre ++ z :: ys := by
  rw [Int.toNat_natCast, List.set_append_right _ _ (Nat.le_refl _), Nat.sub_self]
  rfl

theorem markText_l : ∀ (d k : Nat) (n : Int) (s : ByteArray), 0 ≤ n → n < 10 ^ d → n ≤ 9223372036854775807 → s.size + d ≤ 1000 → d < k → ∃ t, laws_markText.l0 k n s = some t := by
  intro d
  induction d with
  | zero =>
    intro k n s h0 h1 _ hs hk
    obtain ⟨k, rfl⟩ := succ_of hk
    simp only [laws_markText.l0]
    rw [if_neg (by simp at h1; omega), if_pos (by omega)]
    exact ⟨_, rfl⟩
  | succ d ih =>
    intro k n s h0 h1 hm hs hk
    obtain ⟨k, rfl⟩ := succ_of hk
    simp only [laws_markText.l0]
    by_cases c : n > 0
    · rw [if_pos c, Option.bind_some]
      have hz : (strOfNums [(wrap64 (48 + (Int.tmod n 10))) % 256]).size = 1 := by rw [strOfNums_size]; rfl
      rw [if_pos (by rw [hz]; omega), Int.tdiv_eq_ediv_of_nonneg h0, w64 (by omega) (by omega)]
      exact ih k (n / 10) _ (by omega) (by rw [Int.pow_succ] at h1; omega) (by omega) (by rw [ByteArray.size_append, hz]; omega) (by omega)
    · rw [if_neg c, if_pos (by omega)]
      exact ⟨_, rfl⟩
def MT (n : Int) : ByteArray := ((laws_markText.f 64 n)).getD ⟨#[]⟩
theorem markText_k {n : Int} (h0 : 1 ≤ n) (h1 : n ≤ 1000000000) {k : Nat} (hk : 64 ≤ k) : laws_markText.f k n = some (MT n) := by
  have e : ∃ t, laws_markText.f 64 n = some t := by
    unfold laws_markText.f
    rw [if_neg (by omega)]
    exact markText_l 20 64 n _ (by omega) (by omega) (by omega) (by decide) (by decide)
  obtain ⟨t, e⟩ := e
  have e2 : MT n = t := by unfold MT; rw [e]; rfl
  rw [e2]
  exact at_rounds (g := fun k => laws_markText.f k n) (fun k => laws_markText.mono n k) hk e

theorem eqStringS_l : ∀ (ys pre : List ByteArray) (k : Nat), (pre ++ ys).length ≤ 100000000 → ys.length < k → laws_eqStringS.l0 k (pre ++ ys) (pre ++ ys) (pre.length : Int) = some true := by
  intro ys
  induction ys with
  | nil =>
    intro pre k hl hk
    obtain ⟨k, rfl⟩ := succ_of hk
    simp only [laws_eqStringS.l0]
    rw [if_neg (len_nil pre)]
  | cons y ys ih =>
    intro pre k hl hk
    obtain ⟨k, rfl⟩ := succ_of hk
    rw [List.length_cons] at hk
    simp only [laws_eqStringS.l0]
    rw [if_pos (len_cons pre ys y), if_pos (by omega), if_pos (len_cons pre ys y), if_pos trivial, len_succ pre ys y (by omega), app_cons]
    exact ih (pre ++ [y]) k (by rw [← app_cons]; exact hl) (by omega)
theorem eqStringS_k {l : List ByteArray} (hl : l.length ≤ 100000000) {k : Nat} (hk : l.length < k) : laws_eqStringS.f k l l = some true := by
  unfold laws_eqStringS.f
  rw [if_pos rfl]
  exact eqStringS_l l [] k hl hk
def markS : Int → List ByteArray → List ByteArray
  | _, [] => []
  | m, _ :: ys => MT m :: markS (m + 1) ys
theorem markS_len : ∀ (ys : List ByteArray) (m : Int), (markS m ys).length = ys.length
  | [], _ => rfl
  | _ :: ys, m => by rw [markS, List.length_cons, List.length_cons, markS_len ys]
theorem markStringS_l : ∀ (ys pre : List ByteArray) (k : Nat) (m : Int), 1 ≤ m → m + ys.length ≤ 1000000000 → ys.length + 64 < k → (pre ++ ys).length ≤ 100000000 →
    laws_markStringS.l0 k (pre ++ ys) m (pre.length : Int) = some (m + ys.length, pre ++ markS m ys) := by
  intro ys
  induction ys with
  | nil =>
    intro pre k m h1 h2 hk hl
    obtain ⟨k, rfl⟩ := succ_of hk
    simp only [laws_markStringS.l0]
    rw [if_neg (len_nil pre)]
    simp [markS]
  | cons y ys ih =>
    intro pre k m h1 h2 hk hl
    obtain ⟨k, rfl⟩ := succ_of hk
    rw [List.length_cons] at hk h2
    simp only [laws_markStringS.l0]
    rw [if_pos (len_cons pre ys y), markText_k h1 (by omega) (by omega), Option.bind_some, if_pos (by omega), set_at, w64 (show _ ≤ m + 1 by omega) (by omega), len_succ pre ys y (by omega), app_cons pre ys (MT m)]
    have := ih (pre ++ [MT m]) k (m + 1) (by omega) (by omega) (by omega) (by rw [List.length_append, List.length_append, List.length_singleton]; rw [List.length_append, List.length_cons] at hl; omega)
    rw [List.length_append, List.length_singleton] at this ⊢
    rw [this, markS, ← app_cons, List.length_cons]
    congr 2
    omega
theorem heldStringS_l : ∀ (ys pre : List ByteArray) (k : Nat) (m : Int), 1 ≤ m → m + ys.length ≤ 1000000000 → ys.length + 64 < k → (pre ++ ys).length ≤ 100000000 →
    laws_heldStringS.l0 k (pre ++ markS m ys) m (pre.length : Int) = some (m + ys.length) := by
  intro ys
  induction ys with
  | nil =>
    intro pre k m h1 h2 hk hl
    obtain ⟨k, rfl⟩ := succ_of hk
    rw [show markS m [] = [] from rfl]
    simp only [laws_heldStringS.l0]
    rw [if_neg (len_nil pre)]
    simp
  | cons y ys ih =>
    intro pre k m h1 h2 hk hl
    obtain ⟨k, rfl⟩ := succ_of hk
    rw [List.length_cons] at hk h2
    rw [List.length_append, List.length_cons] at hl
    rw [show markS m (y :: ys) = MT m :: markS (m + 1) ys from rfl]
    simp only [laws_heldStringS.l0]
    have hl2 : (pre ++ MT m :: markS (m + 1) ys).length ≤ 9223372036854775807 := by rw [List.length_append, List.length_cons, markS_len]; omega
    rw [if_pos (len_cons pre _ _), if_pos (by omega), markText_k h1 (by omega) (by omega), Option.bind_some, show rdOf ByteArray.empty (pre ++ MT m :: markS (m + 1) ys) (pre.length : Int) = MT m from getD_at pre _ _ _, if_pos rfl,
      w64 (show _ ≤ m + 1 by omega) (by omega), len_succ pre _ _ hl2, app_cons]
    have := ih (pre ++ [MT m]) k (m + 1) (by omega) (by omega) (by omega) (by rw [List.length_append, List.length_append, List.length_singleton]; omega)
    rw [this, List.length_cons]
    congr 1
    omega
theorem markStringS_k {l : List ByteArray} (hl : l.length ≤ 100000000) {k : Nat} (hk : l.length + 100 < k) : laws_markStringS.f k l 1 = some (1 + (l.length : Int), markS 1 l) := by
  unfold laws_markStringS.f
  exact markStringS_l l [] k 1 (by omega) (by omega) (by omega) hl
theorem heldStringS_k {l : List ByteArray} (hl : l.length ≤ 100000000) {k : Nat} (hk : l.length + 100 < k) : laws_heldStringS.f k (markS 1 l) 1 = some (1 + (l.length : Int)) := by
  unfold laws_heldStringS.f
  exact heldStringS_l l [] k 1 (by omega) (by omega) (by omega) hl

/-! A text cut at each byte of one kind. -/
def splitI (c : Int) : List Int → List Int → List (List Int)
  | cur, [] => [cur]
  | cur, x :: ys => if x = c then cur :: splitI c [] ys else splitI c (cur ++ [x]) ys
theorem splitI_no {c : Int} : ∀ (ys cur : List Int), (∀ x ∈ ys, x ≠ c) → splitI c cur ys = [cur ++ ys] := by
  intro ys
  induction ys with
  | nil => intro cur _; rw [splitI, List.append_nil]
  | cons y ys ih =>
    intro cur h
    rw [splitI, if_neg (h y (List.mem_cons_self ..)), ih _ (fun x hx => h x (List.mem_cons_of_mem _ hx)), List.append_assoc]
    rfl
theorem splitI_hit {c : Int} (ys : List Int) : ∀ (p cur : List Int), (∀ x ∈ p, x ≠ c) → splitI c cur (p ++ c :: ys) = (cur ++ p) :: splitI c [] ys := by
  intro p
  induction p with
  | nil => intro cur _; rw [List.nil_append, splitI, if_pos rfl, List.append_nil]
  | cons y p ih =>
    intro cur h
    rw [List.cons_append, splitI, if_neg (h y (List.mem_cons_self ..)), ih _ (fun x hx => h x (List.mem_cons_of_mem _ hx)), List.append_assoc]
    rfl
theorem split_one (c : UInt8) : ∀ (n : Nat) (s : ByteArray), s.size ≤ n → (Go.Lib.splitB ⟨#[c]⟩ 0 (Go.Lib.countB s ⟨#[c]⟩) s).map bytesOf = splitI (c.toNat : Int) [] (bytesOf s) := by
  intro n
  induction n with
  | zero =>
    intro s hs
    have hz : bytesOf s = [] := List.length_eq_zero_iff.1 (by rw [bx_len]; omega)
    rcases Go.Lib.indexB_cases s ⟨#[c]⟩ with h | ⟨i, h, hi⟩
    · rw [Go.Lib.countB_miss _ _ h, Go.Lib.splitB_zero, List.map_cons, List.map_nil, hz]
      rfl
    · have : (⟨#[c]⟩ : ByteArray).size = 1 := rfl
      omega
  | succ n ih =>
    intro s hs
    have hsz : (⟨#[c]⟩ : ByteArray).size = 1 := rfl
    have hone : Go.Lib.indexB s ⟨#[c]⟩ = Go.Lib.indexByte s.data.toList c := Go.Lib.index_one s.data.toList c
    rcases Go.Lib.indexB_cases s ⟨#[c]⟩ with h | ⟨i, h, hi⟩
    · rw [Go.Lib.countB_miss _ _ h, Go.Lib.splitB_zero, List.map_cons, List.map_nil, splitI_no]
      · rfl
      · intro x hx e
        rw [hone] at h
        unfold bytesOf at hx
        obtain ⟨b, hb, rfl⟩ := List.mem_map.1 hx
        obtain ⟨k, hk, e2⟩ := List.getElem_of_mem hb
        refine Go.Lib.indexByte_none h k ?_
        rw [List.getElem?_eq_getElem hk, e2]
        congr 1
        exact UInt8.toNat_inj.1 (by omega)
    · rw [Go.Lib.countB_hit s ⟨#[c]⟩ i (by omega) h, Nat.add_comm 1, Go.Lib.splitB_hit _ _ _ _ i h, List.map_cons, hsz]
      have hr : (s.extract (i + 1) s.size).size ≤ n := by rw [ByteArray.size_extract]; omega
      rw [ih _ hr, bx_cut, bx_cut]
      rw [hone] at h
      obtain ⟨h1, h2⟩ := Go.Lib.indexByte_some h
      have hb : bytesOf s = (bytesOf s).take i ++ (c.toNat : Int) :: (bytesOf s).drop (i + 1) := by
        have hl : i < (bytesOf s).length := by rw [bx_len]; omega
        have e : (bytesOf s)[i] = (c.toNat : Int) := by
          have : (bytesOf s)[i]? = some (c.toNat : Int) := by
            unfold bytesOf
            rw [List.getElem?_map, h1]
            rfl
          rw [List.getElem?_eq_getElem hl] at this
          exact Option.some.inj this
        rw [← e, ← List.drop_eq_getElem_cons hl, List.take_append_drop]
      have hno : ∀ x ∈ (bytesOf s).take i, x ≠ (c.toNat : Int) := by
        intro x hx e
        obtain ⟨k, hk, e2⟩ := List.getElem_of_mem hx
        have hk2 : k < i := by rw [List.length_take] at hk; omega
        have hk3 : k < s.data.toList.length := by
          rw [List.length_take, bx_len] at hk
          have : s.data.toList.length = s.size := Array.length_toList
          omega
        refine h2 k hk2 ?_
        rw [List.getElem?_eq_getElem hk3]
        congr 1
        apply UInt8.toNat_inj.1
        rw [List.getElem_take] at e2
        have e3 : (bytesOf s)[k]'(by rw [bx_len]; have : s.data.toList.length = s.size := Array.length_toList; omega) = ((s.data.toList[k]).toNat : Int) := by
          unfold bytesOf
          rw [List.getElem_map]
        rw [e3] at e2
        omega
      conv => rhs; rw [hb]
      rw [splitI_hit _ _ _ hno, List.nil_append, List.drop_zero, Nat.add_zero, List.take_of_length_le (show (bytesOf s).length ≤ s.size by rw [bx_len]; omega)]

def okB (c : Int) : Bool := decide (32 ≤ c) && decide (c ≤ 126)
def ne (p : List Int) : Bool := !p.isEmpty
def finP (l : List ByteArray) : List ByteArray × Bool := if (l.length : Int) > 10 then ([], false) else (l, true)
theorem drop_snoc {pre : List Int} {b : Nat} (h : b ≤ pre.length) (c : Int) : (pre ++ [c]).drop b = pre.drop b ++ [c] := by
  rw [List.drop_append, show b - pre.length = 0 by omega, List.drop_zero]
theorem drop_end (pre : List Int) (c : Int) : (pre ++ [c]).drop (pre.length + 1) = [] := by
  rw [List.drop_of_length_le]
  rw [List.length_append, List.length_singleton]
  omega
theorem ext_pre {s : ByteArray} {pre ys : List Int} (h : bytesOf s = pre ++ ys) (b : Nat) : bytesOf (s.extract b pre.length) = pre.drop b := by
  rw [bx_cut, h, List.take_left]
theorem ne_drop {pre : List Int} {b : Nat} (h : b < pre.length) : ne (pre.drop b) = true := by
  unfold ne
  cases hd : pre.drop b with
  | nil =>
    have := congrArg List.length hd
    rw [List.length_drop, List.length_nil] at this
    omega
  | cons x l => rfl
theorem spec_parts_l {s : ByteArray} (hs : s.size ≤ 600) : ∀ (ys pre : List Int) (out : List ByteArray) (b k : Nat), bytesOf s = pre ++ ys → b ≤ pre.length → out.length + ys.length ≤ 700 → 3 * ys.length + 10 < k →
    (ys.all okB = true → ∃ R : List ByteArray, R.map bytesOf = (splitI 32 (pre.drop b) ys).filter ne ∧ spec_PartsOf.l0 k s out (b : Int) (pre.length : Int) = some (finP (out ++ R))) ∧
    (ys.all okB = false → spec_PartsOf.l0 k s out (b : Int) (pre.length : Int) = some ([], false)) := by
  intro ys
  induction ys with
  | nil =>
    intro pre out b k h hb ho hk
    have he := bx_end h
    rw [List.length_nil] at hk
    obtain ⟨k, rfl⟩ : ∃ m, k = m + 4 := ⟨k - 4, by omega⟩
    refine ⟨fun _ => ?_, fun h2 => by cases h2⟩
    simp only [spec_PartsOf.l0, spec_PartsOf.j1, spec_PartsOf.j2]
    rw [if_pos (by omega), if_neg (by omega), if_neg (by decide), if_neg (by omega), if_neg (by decide), w64 (show _ ≤ (pre.length : Int) + 1 by omega) (by omega)]
    have hstop : ¬ (pre.length : Int) + 1 ≤ (s.size : Int) := by omega
    by_cases hlt : (b : Int) < (pre.length : Int)
    · refine ⟨[s.extract b pre.length], ?_, ?_⟩
      · rw [splitI, List.filter_cons, if_pos (ne_drop (by omega)), List.filter_nil, List.map_cons, List.map_nil, ext_pre h]
      · rw [if_pos hlt, if_pos (by omega), if_pos (by omega), if_pos (by omega), if_pos (by omega), if_neg hstop, Int.toNat_natCast, Int.toNat_natCast]
        unfold finP
        split <;> rfl
    · refine ⟨[], ?_, ?_⟩
      · rw [splitI, List.drop_of_length_le (by omega), List.filter_cons, if_neg (by decide)]
        rfl
      · rw [if_neg hlt, if_neg hstop, List.append_nil]
        unfold finP
        split <;> rfl
  | cons c ys ih =>
    intro pre out b k h hb ho hk
    have hlt := bx_lt h
    have hc := bx_in h
    rw [List.length_cons] at hk ho
    obtain ⟨k, rfl⟩ : ∃ m, k = m + 3 := ⟨k - 3, by omega⟩
    simp only [spec_PartsOf.l0, spec_PartsOf.j1, spec_PartsOf.j2]
    rw [if_pos (by omega), if_pos hlt, if_pos (by omega), bx_at h, List.all_cons]
    by_cases h32 : c < 32
    · rw [if_pos h32, if_pos trivial]
      have e : okB c = false := by unfold okB; rw [decide_eq_false (by omega), Bool.false_and]
      rw [e, Bool.false_and]
      exact ⟨fun k => (by cases k), fun _ => rfl⟩
    · rw [if_neg h32]
      by_cases h126 : c > 126
      · rw [decide_eq_true h126, if_pos rfl]
        have e : okB c = false := by unfold okB; rw [decide_eq_false (show ¬ c ≤ 126 by omega), Bool.and_false]
        rw [e, Bool.false_and]
        exact ⟨fun k => (by cases k), fun _ => rfl⟩
      · rw [decide_eq_false h126, if_neg (by decide), if_pos hlt, if_pos (by omega), w64 (show _ ≤ (pre.length : Int) + 1 by omega) (by omega)]
        have e : okB c = true := by unfold okB; rw [decide_eq_true (show 32 ≤ c by omega), decide_eq_true (show c ≤ 126 by omega)]; rfl
        rw [e, Bool.true_and]
        have hl1 : (pre.length : Int) + 1 = ((pre ++ [c]).length : Int) := by rw [List.length_append, List.length_singleton]; omega
        by_cases hsp : c = 32
        · subst hsp
          rw [if_neg (by decide)]
          have hi := fun (o : List ByteArray) (ho2 : o.length ≤ out.length + 1) => ih (pre ++ [32]) o (pre.length + 1) k (bx_next h) (by rw [List.length_append, List.length_singleton]; omega) (by omega) (by omega)
          by_cases hlt2 : (b : Int) < (pre.length : Int)
          · rw [if_pos hlt2, if_pos (by omega), if_pos (by omega), if_pos (by omega), if_pos (by omega), Int.toNat_natCast, Int.toNat_natCast, hl1]
            have hi := hi (out ++ [s.extract b pre.length]) (by rw [List.length_append, List.length_singleton]; omega)
            rw [show ((pre.length + 1 : Nat) : Int) = ((pre ++ [(32 : Int)]).length : Int) by simp] at hi
            refine ⟨fun ha => ?_, hi.2⟩
            obtain ⟨R, hR, e2⟩ := hi.1 ha
            refine ⟨s.extract b pre.length :: R, ?_, by rw [e2, List.append_assoc]; rfl⟩
            rw [drop_end] at hR
            rw [splitI, if_pos rfl, List.filter_cons, if_pos (ne_drop (by omega)), List.map_cons, ext_pre h, hR]
          · rw [if_neg hlt2, hl1]
            have hi := hi out (by omega)
            rw [show ((pre.length + 1 : Nat) : Int) = ((pre ++ [(32 : Int)]).length : Int) by simp] at hi
            refine ⟨fun ha => ?_, hi.2⟩
            obtain ⟨R, hR, e2⟩ := hi.1 ha
            refine ⟨R, ?_, e2⟩
            rw [drop_end] at hR
            rw [splitI, if_pos rfl, List.drop_of_length_le (by omega), List.filter_cons, if_neg (by decide), hR]
        · rw [if_pos (bne_iff_ne.2 hsp), hl1]
          have hi := ih (pre ++ [c]) out b k (bx_next h) (by rw [List.length_append]; omega) (by omega) (by omega)
          rw [drop_snoc hb] at hi
          rw [splitI, if_neg hsp]
          exact hi
theorem impl_parts_l1 (len : Int) : ∀ (ys pre acc : List ByteArray) (k : Nat), ((pre ++ ys).length : Int) = len → (pre ++ ys).length ≤ 100000 → acc.length + ys.length ≤ 100000 → ys.length < k →
    impl_PartsOf.l1 k acc (pre ++ ys) len (pre.length : Int) = some (finP (acc ++ ys.filter (fun p => ne (bytesOf p)))) := by
  intro ys
  induction ys with
  | nil =>
    intro pre acc k hl hm ha hk
    obtain ⟨k, rfl⟩ := succ_of hk
    simp only [impl_PartsOf.l1]
    rw [← hl, if_neg (len_nil pre), List.filter_nil, List.append_nil]
    unfold finP
    split <;> rfl
  | cons y ys ih =>
    intro pre acc k hl hm ha hk
    obtain ⟨k, rfl⟩ := succ_of hk
    rw [List.length_cons] at hk ha
    simp only [impl_PartsOf.l1]
    have hi := fun (a : List ByteArray) (h : a.length ≤ acc.length + 1) => ih (pre ++ [y]) a k (by rw [← app_cons]; exact hl) (by rw [← app_cons]; exact hm) (by omega) (by omega)
    rw [app_cons pre ys y] at hl
    rw [← hl] at hi
    rw [← hl, ← app_cons, if_pos (len_cons pre ys y), if_pos (by omega), if_pos (len_cons pre ys y), show rdOf ByteArray.empty (pre ++ y :: ys) (pre.length : Int) = y from getD_at pre ys y _, len_succ pre ys y (by omega), List.filter_cons, app_cons pre ys y]
    by_cases hy : y.toList = []
    · have e : bytesOf y = [] := by rw [ByteArray.toList_eq] at hy; unfold bytesOf; rw [hy]; rfl
      rw [if_pos hy, hi acc (by omega), e, if_neg (by decide)]
    · have e : ne (bytesOf y) = true := by
        unfold ne
        cases hb : bytesOf y with
        | nil =>
          exfalso
          apply hy
          rw [ByteArray.toList_eq]
          unfold bytesOf at hb
          exact List.map_eq_nil_iff.1 hb
        | cons _ _ => rfl
      rw [if_neg hy, if_pos (by omega), hi (acc ++ [y]) (by rw [List.length_append, List.length_singleton]; omega), e, if_pos rfl, List.append_assoc]
      rfl
theorem impl_parts_l0 {s : ByteArray} (hs : s.size ≤ 600) : ∀ (ys pre : List Int) (k : Nat), bytesOf s = pre ++ ys → ys.length + 1000 < k →
    (ys.all okB = true → impl_PartsOf.l0 k s [] (pre.length : Int) = some (finP ((Go.Lib.splitB ⟨#[32]⟩ 0 (Go.Lib.countB s ⟨#[32]⟩) s).filter (fun p => ne (bytesOf p))))) ∧
    (ys.all okB = false → impl_PartsOf.l0 k s [] (pre.length : Int) = some ([], false)) := by
  intro ys
  induction ys with
  | nil =>
    intro pre k h hk
    obtain ⟨k, rfl⟩ := succ_of hk
    have he := bx_end h
    refine ⟨fun _ => ?_, fun h2 => by cases h2⟩
    simp only [impl_PartsOf.l0]
    have hl := Go.Lib.splitB_all ⟨#[32]⟩ (by decide) 0 _ s rfl
    have hc := Go.Lib.countB_le ⟨#[32]⟩ (by decide) _ s (Nat.le_refl _)
    rw [List.length_nil] at hk
    rw [if_neg (by omega)]
    unfold strings_Split.f
    rw [if_pos ⟨by omega, by decide⟩, Option.bind_some]
    exact impl_parts_l1 _ _ [] [] k rfl (by rw [List.nil_append]; omega) (by rw [List.length_nil]; omega) (by omega)
  | cons c ys ih =>
    intro pre k h hk
    obtain ⟨k, rfl⟩ := succ_of hk
    have hlt := bx_lt h
    have hc := bx_in h
    rw [List.length_cons] at hk
    have hi := ih (pre ++ [c]) k (bx_next h) (by omega)
    simp only [impl_PartsOf.l0]
    rw [if_pos hlt, if_pos (by omega), bx_at h, w64 (x := c) (by omega) (by omega), iIn, Option.bind_some, List.all_cons, bx_wrap h (by omega), show (decide ((32 : Int) ≤ c) && decide (c ≤ 126)) = okB c from rfl]
    cases hok : okB c with
    | true => rw [if_pos rfl, Bool.true_and]; exact hi
    | false => rw [if_neg (by decide), Bool.false_and]; exact ⟨fun k => (by cases k), fun _ => rfl⟩
theorem map_filter_ne (l : List ByteArray) : (l.filter (fun p => ne (bytesOf p))).map bytesOf = (l.map bytesOf).filter ne := by
  rw [List.filter_map]
  rfl
theorem bytes_map_inj {a b : List ByteArray} (h : a.map bytesOf = b.map bytesOf) : a = b := (List.map_inj_right (f := bytesOf) (fun _ _ e => bx_inj e)).1 h
theorem parts_ok (s : ByteArray) : ∃ p : List ByteArray × Bool, p.1.length ≤ 10 ∧ (∀ k, 3000 ≤ k → spec_PartsOf.f k s = some p) ∧ ∀ k, 3000 ≤ k → impl_PartsOf.f k s = some p := by
  unfold spec_PartsOf.f impl_PartsOf.f
  by_cases h : (s.size : Int) > 600
  · exact ⟨([], false), by simp, fun k _ => by rw [Option.bind_some, if_pos h], fun k _ => by rw [if_pos h]⟩
  · have hz : (bytesOf s).length ≤ 600 := by rw [bx_len]; omega
    have hS := fun (k : Nat) (hk : 3000 ≤ k) => spec_parts_l (s := s) (by omega) (bytesOf s) [] [] 0 k rfl (by omega) (by rw [List.length_nil]; omega) (by omega)
    have hI := fun (k : Nat) (hk : 3000 ≤ k) => impl_parts_l0 (s := s) (by omega) (bytesOf s) [] k rfl (by omega)
    cases ha : (bytesOf s).all okB with
    | false =>
      exact ⟨([], false), by simp, fun k hk => by rw [Option.bind_some, if_neg h]; exact (hS k hk).2 ha, fun k hk => by rw [if_neg h]; exact (hI k hk).2 ha⟩
    | true =>
      have hfin : (finP ((Go.Lib.splitB ⟨#[32]⟩ 0 (Go.Lib.countB s ⟨#[32]⟩) s).filter (fun p => ne (bytesOf p)))).1.length ≤ 10 := by
        unfold finP
        split
        · simp
        · dsimp only; omega
      refine ⟨_, hfin, fun k hk => ?_, fun k hk => by rw [if_neg h]; exact (hI k hk).1 ha⟩
      rw [Option.bind_some, if_neg h]
      obtain ⟨R, hR, e⟩ := (hS k hk).1 ha
      rw [List.drop_nil] at hR
      have : R = (Go.Lib.splitB ⟨#[32]⟩ 0 (Go.Lib.countB s ⟨#[32]⟩) s).filter (fun p => ne (bytesOf p)) := by
        apply bytes_map_inj
        rw [map_filter_ne, hR, split_one 32 s.size s (Nat.le_refl _)]
        rfl
      rw [← this]
      exact e
theorem FnExactPartsOf : laws_FnExactPartsOf.Pure := by
  intro s hs
  obtain ⟨⟨l, b⟩, hl, eS, eI⟩ := parts_ok s
  dsimp only at hl
  refine ⟨5000, ?_⟩
  unfold laws_FnExactPartsOf.f
  by_cases hbig : (s.size : Int) > 1048576
  · rw [if_pos hbig]
  · rw [if_neg hbig, eS 5000 (by omega), eI 5000 (by omega), Option.bind_some, Option.bind_some]
    dsimp only
    rw [eqStringS_k (by omega) (by omega), Option.bind_some, if_pos rfl, bne_self_eq_false]
    simp only [laws_FnExactPartsOf.j0]
    rw [if_neg (by decide), markStringS_k (by omega) (by omega), Option.bind_some]
    dsimp only
    rw [heldStringS_k (by omega) (by omega), Option.bind_some, if_neg (by omega), if_pos rfl, eI _ (by omega), Option.bind_some]
    dsimp only
    rw [eqStringS_k (by omega) (by omega), Option.bind_some, if_pos rfl, bne_self_eq_false]
    simp only [laws_FnExactPartsOf.j1]
    rw [if_neg (by decide), heldStringS_k (by omega) (by omega), Option.bind_some, if_neg (by omega), if_pos rfl]

end Go.Proofs.YtkgpokiglanjfaaDoor.Pure
