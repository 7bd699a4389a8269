/- The pure statement of FnExactSameProgram: over numbers and lists, what the printed functions come to is what the law wants, for every input. -/
import Derived.Test.YtjbfppakafkkoaaQFnExactSameProgramx8
set_option linter.unusedVariables false
set_option linter.unusedSimpArgs false
namespace Go.Proofs.Ytjbfppakafkkoaa.Pure
open Go.RowKit Go.Proofs.Ytjbfppakafkkoaa.QFnExactSameProgram Go.Proofs.YtjbfppakafkkoaaW.PrintWords Go.Proofs.YtjbfppakafkkoaaW.PrintLast
/-! Words on strings as lists of numbers. -/
theorem w64 {x : Int} (h0 : -9223372036854775808 ≤ x) (h1 : x ≤ 9223372036854775807) : wrap64 x = x := by
  unfold wrap64
  omega
theorem bx_len (s : ByteArray) : (bytesOf s).length = s.size := bytesOf_length s
theorem bx_byte (s : ByteArray) : ∀ c ∈ bytesOf s, 0 ≤ c ∧ c ≤ 255 := by
  intro c hc
  unfold bytesOf at hc
  obtain ⟨b, _, rfl⟩ := List.mem_map.1 hc
  have := b.toNat_lt
  omega
theorem bx_at {s : ByteArray} {pre ys : List Int} {c : Int} (h : bytesOf s = pre ++ c :: ys) : bt s (pre.length : Int) = c := by
  rw [← rd_bytesOf, h, rd, Int.toNat_natCast, List.getD_eq_getElem?_getD, List.getElem?_append_right (Nat.le_refl _)]
  simp
theorem bx_lt {s : ByteArray} {pre ys : List Int} {c : Int} (h : bytesOf s = pre ++ c :: ys) : (pre.length : Int) < (s.size : Int) := by
  have := congrArg List.length h
  rw [bx_len, List.length_append, List.length_cons] at this
  omega
theorem bx_end {s : ByteArray} {pre : List Int} (h : bytesOf s = pre ++ []) : (s.size : Int) = (pre.length : Int) := by
  have := congrArg List.length h
  rw [bx_len, List.append_nil] at this
  omega
theorem bx_next {s : ByteArray} {pre ys : List Int} {c : Int} (h : bytesOf s = pre ++ c :: ys) : bytesOf s = (pre ++ [c]) ++ ys := by
  rw [h, List.append_assoc]; rfl
theorem len_next (pre : List Int) (c : Int) : ((pre ++ [c]).length : Int) = (pre.length : Int) + 1 := by
  rw [List.length_append, List.length_singleton]; omega
theorem bx_inj {s t : ByteArray} (h : bytesOf s = bytesOf t) : s = t := by
  unfold bytesOf at h
  have h2 : s.data.toList = t.data.toList := by
    refine (List.map_inj_right (f := fun b : UInt8 => (b.toNat : Int)) ?_).1 h
    intro x y hxy
    exact UInt8.toNat_inj.1 (Int.ofNat_inj.1 hxy)
  exact ByteArray.ext (Array.toList_inj.1 h2)
theorem tl_inj {s t : ByteArray} (h : s.toList = t.toList) : s = t := by
  rw [ByteArray.toList_eq, ByteArray.toList_eq] at h
  exact ByteArray.ext (Array.toList_inj.1 h)
theorem tl_iff {s t : ByteArray} : s.toList = t.toList ↔ bytesOf s = bytesOf t := ⟨fun h => by rw [tl_inj h], fun h => by rw [bx_inj h]⟩
theorem bx_app (s t : ByteArray) : bytesOf (s ++ t) = bytesOf s ++ bytesOf t := by
  simp [bytesOf]
theorem bx_cut (s : ByteArray) (a b : Nat) : bytesOf (s.extract a b) = ((bytesOf s).take b).drop a := by
  simp [bytesOf, ByteArray.data_extract, List.map_drop, List.map_take, List.take_drop]
  rw [List.drop_take, List.drop_take]
  congr 1
  omega
theorem bx_str {xs : List Int} (h : ∀ c ∈ xs, 0 ≤ c ∧ c ≤ 255) : bytesOf (strOfNums xs) = xs := by
  unfold bytesOf
  rw [strOfNums_data, List.map_map]
  induction xs with
  | nil => rfl
  | cons c xs ih =>
    rw [List.map_cons, ih (fun d hd => h d (List.mem_cons_of_mem _ hd))]
    have hc := h c (List.mem_cons_self ..)
    congr 1
    have e : (UInt8.ofNat c.toNat).toNat = c.toNat := by
      rw [UInt8.toNat_ofNat']
      omega
    show ((UInt8.ofNat c.toNat).toNat : Int) = c
    rw [e]
    omega
theorem bx_wrap {s : ByteArray} {pre ys : List Int} {c : Int} (h : bytesOf s = pre ++ c :: ys) (hs : s.size ≤ 140737488351232) : wrap64 ((pre.length : Int) + 1) = ((pre ++ [c]).length : Int) := by
  rw [len_next]
  have := bx_lt h
  exact w64 (by omega) (by omega)
theorem bx_in {s : ByteArray} {pre ys : List Int} {c : Int} (h : bytesOf s = pre ++ c :: ys) : 0 ≤ c ∧ c ≤ 255 :=
  bx_byte s c (by rw [h]; exact List.mem_append_right _ (List.mem_cons_self ..))
theorem succ_of {n k : Nat} (h : n < k) : ∃ m, k = m + 1 := ⟨k - 1, by omega⟩
theorem ev2 {α β : Type} {g : Nat → Option α} {f : Nat → Option β} {a : α} {b : β} (h : Ev g a) (h' : Ev f b) : ∃ k, g k = some a ∧ f k = some b := by
  obtain ⟨K, h⟩ := h
  obtain ⟨K', h'⟩ := h'
  exact ⟨K + K', h _ (by omega), h' _ (by omega)⟩

theorem getD_at {α : Type} (pre ys : List α) (y d : α) : (pre ++ y :: ys).getD (pre.length : Int).toNat d = y := by
  rw [Int.toNat_natCast, List.getD_eq_getElem?_getD, List.getElem?_append_right (Nat.le_refl _)]
  simp
theorem len_cons {α : Type} (pre ys : List α) (y : α) : (pre.length : Int) < ((pre ++ y :: ys).length : Int) := by
  rw [List.length_append, List.length_cons]; omega
theorem len_nil {α : Type} (pre : List α) : ¬ (pre.length : Int) < ((pre ++ []).length : Int) := by
  rw [List.append_nil]; omega
theorem len_succ {α : Type} (pre ys : List α) (y : α) (h : (pre ++ y :: ys).length ≤ 9223372036854775807) : wrap64 ((pre.length : Int) + 1) = ((pre ++ [y]).length : Int) := by
  rw [List.length_append, List.length_cons] at h
  rw [List.length_append, List.length_singleton, w64 (by omega) (by omega)]
  omega
theorem app_cons {α : Type} (pre ys : List α) (y : α) : pre ++ y :: ys = (pre ++ [y]) ++ ys := by rw [List.append_assoc]; rfl
theorem set_at {α : Type} (pre ys : List α) (y z : α) : (pre ++ y :: ys).set (pre.length : Int).toNat z = pre ++ z :: ys := by
  rw [Int.toNat_natCast, List.set_append_right _ _ (Nat.le_refl _), Nat.sub_self]
  rfl

/-! What the laws ask of a program's size. -/
def BigProg (ns : List S152) (rs : List S155) : Prop :=
  (ns.length ≤ 9223372036854775807 ∧ ∀ z ∈ ns, (Lit.int .i64 z.f0).wf = true ∧ z.f1.size ≤ 9223372036854775807 ∧ (z.f2.length ≤ 9223372036854775807 ∧ ∀ x ∈ z.f2, (Lit.int .i64 x).wf = true)) ∧ (rs.length ≤ 9223372036854775807 ∧ ∀ z ∈ rs, (Lit.int .i64 z.f0).wf = true ∧ (Lit.int .i64 z.f1).wf = true ∧ (Lit.int .i64 z.f2).wf = true)
def SmallNodes (ns : List S152) : Prop := ns.length ≤ 1048576 ∧ ∀ p ∈ ns, p.f1.size ≤ 1048576 ∧ p.f2.length ≤ 1048576
def SmallProg (ns : List S152) (rs : List S155) : Prop := SmallNodes ns ∧ rs.length ≤ 1048576
theorem szNode_ok (op : Int) (s : ByteArray) (ks : List Int) {left : Int} (h0 : 0 ≤ left) (h1 : left ≤ 1048576) (hs : s.size ≤ 9223372036854775807) (hk : ks.length ≤ 9223372036854775807) :
    ∃ r, laws_szNode.f op s ks left = some r ∧ r ≤ left ∧ (0 ≤ r → (s.size : Int) ≤ left ∧ (ks.length : Int) ≤ left) := by
  unfold laws_szNode.f laws_szIntS.f
  rw [w64 (show _ ≤ left - (s.size : Int) by omega) (by omega)]
  by_cases c : left - (s.size : Int) < 0
  · rw [if_pos c]; exact ⟨-1, rfl, by omega, by omega⟩
  · rw [if_neg c, w64 (show _ ≤ left - (s.size : Int) - (ks.length : Int) by omega) (by omega)]
    by_cases c2 : left - (s.size : Int) - (ks.length : Int) < 0
    · rw [if_pos c2, Option.bind_some, if_pos (by omega)]; exact ⟨-1, rfl, by omega, by omega⟩
    · rw [if_neg c2, Option.bind_some, if_neg c2]; exact ⟨_, rfl, by omega, by omega⟩
theorem szNodeS_l : ∀ (ys pre : List S152) (k : Nat) (left : Int), 0 ≤ left → left ≤ 1048576 → ys.length < k → (pre ++ ys).length ≤ 9223372036854775807 → (∀ y ∈ ys, y.f1.size ≤ 9223372036854775807 ∧ y.f2.length ≤ 9223372036854775807) →
    ∃ r, laws_szNodeS.l0 k (pre ++ ys) left (pre.length : Int) = some r ∧ r ≤ left ∧ (0 ≤ r → ∀ y ∈ ys, (y.f1.size : Int) ≤ left ∧ (y.f2.length : Int) ≤ left) := by
  intro ys
  induction ys with
  | nil =>
    intro pre k left h0 h1 hk hl hy
    obtain ⟨k, rfl⟩ := succ_of hk
    simp only [laws_szNodeS.l0]
    rw [if_neg (len_nil pre)]
    exact ⟨_, rfl, Int.le_refl _, fun _ y hy => by cases hy⟩
  | cons y ys ih =>
    intro pre k left h0 h1 hk hl hy
    obtain ⟨k, rfl⟩ := succ_of hk
    have hy0 := hy y (List.mem_cons_self ..)
    obtain ⟨r, e, hr, hq⟩ := szNode_ok y.f0 y.f1 y.f2 h0 h1 hy0.1 hy0.2
    simp only [laws_szNodeS.l0]
    rw [if_pos (len_cons pre ys y), if_pos (by omega)]
    rw [show rd_T152 (pre ++ y :: ys) (pre.length : Int) = y from getD_at pre ys y _, e, Option.bind_some]
    by_cases c : r < 0
    · rw [if_pos c]; exact ⟨-1, rfl, by omega, by omega⟩
    · rw [if_neg c, len_succ pre ys y hl, app_cons pre ys y]
      obtain ⟨r2, e2, hr2, hq2⟩ := ih (pre ++ [y]) k r (by omega) (by omega) (by simpa using hk) (by rw [← app_cons]; exact hl) (fun z hz => hy z (List.mem_cons_of_mem _ hz))
      refine ⟨r2, e2, by omega, fun h z hz => ?_⟩
      rcases List.mem_cons.1 hz with rfl | hz
      · exact hq (by omega)
      · have := hq2 h z hz
        omega
theorem szNodeS_ok {l : List S152} {left : Int} (h0 : 0 ≤ left) (h1 : left ≤ 1048576) (hl : l.length ≤ 9223372036854775807) (hy : ∀ y ∈ l, y.f1.size ≤ 9223372036854775807 ∧ y.f2.length ≤ 9223372036854775807) :
    ∃ r, Ev (fun k => laws_szNodeS.f k l left) r ∧ r ≤ left ∧ (0 ≤ r → SmallNodes l) := by
  by_cases c : left - (l.length : Int) < 0
  · exact ⟨-1, ⟨0, fun k _ => by dsimp only; unfold laws_szNodeS.f; rw [w64 (by omega) (by omega), if_pos c]⟩, by omega, by omega⟩
  · obtain ⟨r, e, hr, hq⟩ := szNodeS_l l [] (l.length + 1) (left - (l.length : Int)) (by omega) (by omega) (by omega) hl hy
    refine ⟨r, ⟨l.length + 1, fun k hk => ?_⟩, by omega, fun h => ⟨by omega, fun y hy => ?_⟩⟩
    · dsimp only
      unfold laws_szNodeS.f
      rw [w64 (by omega) (by omega), if_neg c]
      exact at_rounds (g := fun k => laws_szNodeS.l0 k l (left - (l.length : Int)) 0) (fun k => laws_szNodeS.mono_l k _ _ _) hk e
    · have := hq h y hy
      omega
theorem szProgram_ok {ns : List S152} {rs : List S155} (hb : BigProg ns rs) {left : Int} (h0 : 0 ≤ left) (h1 : left ≤ 1048576) :
    ∃ r, Ev (fun k => laws_szProgram.f k ns rs left) r ∧ r ≤ left ∧ (0 ≤ r → SmallProg ns rs) := by
  obtain ⟨⟨b1, b2⟩, b3, b4⟩ := hb
  obtain ⟨r, ⟨K, e⟩, hr, hq⟩ := szNodeS_ok h0 h1 b1 (fun y hy => ⟨(b2 y hy).2.1, (b2 y hy).2.2.1⟩)
  by_cases c : r < 0
  · refine ⟨-1, ⟨K, fun k hk => ?_⟩, by omega, by omega⟩
    have e := e k hk
    dsimp only at e ⊢
    unfold laws_szProgram.f
    rw [e, Option.bind_some, if_pos c]
  · by_cases c2 : r - (rs.length : Int) < 0
    · refine ⟨-1, ⟨K, fun k hk => ?_⟩, by omega, by omega⟩
      have e := e k hk
      dsimp only at e ⊢
      unfold laws_szProgram.f laws_szRuleS.f
      rw [e, Option.bind_some, if_neg c, w64 (by omega) (by omega), if_pos c2, Option.bind_some, if_pos (by omega)]
    · refine ⟨r - (rs.length : Int), ⟨K, fun k hk => ?_⟩, by omega, fun _ => ⟨hq (by omega), by omega⟩⟩
      have e := e k hk
      dsimp only at e ⊢
      unfold laws_szProgram.f laws_szRuleS.f
      rw [e, Option.bind_some, if_neg c, w64 (by omega) (by omega), if_neg c2, Option.bind_some, if_neg c2]

def cN (x : S152) : S119 := ⟨x.f0, x.f1, x.f2⟩
def cR (x : S155) : S121 := ⟨x.f0, x.f1, x.f2⟩
theorem toIntS_l : ∀ (ys pre : List Int) (k : Nat), ys.length < k → (pre ++ ys).length ≤ 1048576 → laws_toIntS.l0 k (pre ++ ys) (pre ++ List.replicate ys.length 0) (pre.length : Int) = some (pre ++ ys) := by
  intro ys
  induction ys with
  | nil =>
    intro pre k hk hl
    obtain ⟨k, rfl⟩ := succ_of hk
    simp only [laws_toIntS.l0]
    rw [if_neg (len_nil pre)]
    rfl
  | cons y ys ih =>
    intro pre k hk hl
    obtain ⟨k, rfl⟩ := succ_of hk
    simp only [laws_toIntS.l0]
    have hi := ih (pre ++ [y]) k (by simpa using hk) (by rw [← app_cons]; exact hl)
    have e2 : List.replicate (y :: ys).length (0 : Int) = 0 :: List.replicate ys.length 0 := rfl
    have e3 : pre ++ y :: List.replicate ys.length (0 : Int) = pre ++ [y] ++ List.replicate ys.length 0 := app_cons _ _ _
    rw [if_pos (len_cons pre ys y), if_pos (by omega), e2, if_pos (len_cons pre _ _), show rd (pre ++ y :: ys) (pre.length : Int) = y from getD_at pre ys y _, set_at, len_succ pre ys y (by omega), e3, app_cons pre ys y]
    exact hi
theorem toIntS_k {l : List Int} (hl : l.length ≤ 1048576) {k : Nat} (hk : 1048577 ≤ k) : laws_toIntS.f k l = some l := by
  unfold laws_toIntS.f
  rw [if_pos (by omega), if_pos (by omega), Int.toNat_natCast]
  exact toIntS_l l [] k (by omega) hl
theorem toNodeS_l : ∀ (ys pre : List S152) (k : Nat), ys.length + 1048577 < k → (pre ++ ys).length ≤ 1048576 → (∀ p ∈ ys, p.f2.length ≤ 1048576) →
    laws_toNodeS.l0 k (pre ++ ys) (pre.map cN ++ List.replicate ys.length z119) (pre.length : Int) = some ((pre ++ ys).map cN) := by
  intro ys
  induction ys with
  | nil =>
    intro pre k hk hl hp
    obtain ⟨k, rfl⟩ := succ_of hk
    simp only [laws_toNodeS.l0]
    rw [if_neg (len_nil pre)]
    simp
  | cons y ys ih =>
    intro pre k hk hl hp
    obtain ⟨k, rfl⟩ := succ_of hk
    simp only [laws_toNodeS.l0]
    rw [List.length_cons] at hk
    have h1 : pre.length + (ys.length + 1) ≤ 1048576 := by rw [List.length_append, List.length_cons] at hl; exact hl
    rw [if_pos (len_cons pre ys y), if_pos (by omega), show rd_T152 (pre ++ y :: ys) (pre.length : Int) = y from getD_at pre ys y _]
    unfold laws_toNode.f
    rw [toIntS_k (hp y (List.mem_cons_self ..)) (by omega), Option.bind_some, Option.bind_some]
    have e : (List.map cN pre).length = pre.length := List.length_map _
    have e2 : List.replicate (y :: ys).length z119 = z119 :: List.replicate ys.length z119 := rfl
    rw [if_pos (by rw [List.length_append, List.length_replicate, List.length_cons, e]; omega), e2, ← e, set_at, e, len_succ pre ys y (by omega), app_cons pre ys y]
    have := ih (pre ++ [y]) k (by omega) (by rw [← app_cons]; exact hl) (fun p hq => hp p (List.mem_cons_of_mem _ hq))
    have e3 : List.map cN pre ++ cN y :: List.replicate ys.length z119 = List.map cN (pre ++ [y]) ++ List.replicate ys.length z119 := by
      rw [List.map_append, List.append_assoc]; rfl
    rw [← e3] at this
    exact this
theorem toRuleS_l : ∀ (ys pre : List S155) (k : Nat), ys.length < k → (pre ++ ys).length ≤ 1048576 →
    laws_toRuleS.l0 k (pre ++ ys) (pre.map cR ++ List.replicate ys.length z121) (pre.length : Int) = some ((pre ++ ys).map cR) := by
  intro ys
  induction ys with
  | nil =>
    intro pre k hk hl
    obtain ⟨k, rfl⟩ := succ_of hk
    simp only [laws_toRuleS.l0]
    rw [if_neg (len_nil pre)]
    simp
  | cons y ys ih =>
    intro pre k hk hl
    obtain ⟨k, rfl⟩ := succ_of hk
    simp only [laws_toRuleS.l0]
    rw [List.length_cons] at hk
    have h1 : pre.length + (ys.length + 1) ≤ 1048576 := by rw [List.length_append, List.length_cons] at hl; exact hl
    rw [if_pos (len_cons pre ys y), if_pos (by omega), show rd_T155 (pre ++ y :: ys) (pre.length : Int) = y from getD_at pre ys y _]
    unfold laws_toRule.f
    rw [Option.bind_some]
    have e : (List.map cR pre).length = pre.length := List.length_map _
    have e2 : List.replicate (y :: ys).length z121 = z121 :: List.replicate ys.length z121 := rfl
    rw [if_pos (by rw [List.length_append, List.length_replicate, List.length_cons, e]; omega), e2, ← e, set_at, e, len_succ pre ys y (by omega), app_cons pre ys y]
    have := ih (pre ++ [y]) k (by omega) (by rw [← app_cons]; exact hl)
    have e3 : List.map cR pre ++ cR y :: List.replicate ys.length z121 = List.map cR (pre ++ [y]) ++ List.replicate ys.length z121 := by
      rw [List.map_append, List.append_assoc]; rfl
    rw [← e3] at this
    exact this
theorem toProgram_ok {ns : List S152} {rs : List S155} (h : SmallProg ns rs) {k : Nat} (hk : 3000000 ≤ k) : laws_toProgram.f k ns rs = some (ns.map cN, rs.map cR) := by
  obtain ⟨h1, h2⟩ := h
  unfold laws_toProgram.f laws_toNodeS.f laws_toRuleS.f
  have := h1.1
  rw [if_pos (by omega), if_pos (by omega), Int.toNat_natCast]
  rw [show laws_toNodeS.l0 k ns (List.replicate ns.length z119) 0 = some (ns.map cN) from toNodeS_l ns [] k (by omega) h1.1 (fun p hp => (h1.2 p hp).2), Option.bind_some]
  rw [if_pos (by omega), if_pos (by omega), Int.toNat_natCast]
  rw [show laws_toRuleS.l0 k rs (List.replicate rs.length z121) 0 = some (rs.map cR) from toRuleS_l rs [] k (by omega) h2, Option.bind_some]

theorem eqIntS_l : ∀ (ys pre : List Int) (k : Nat), ys.length < k → (pre ++ ys).length ≤ 9223372036854775807 → laws_eqIntS.l0 k (pre ++ ys) (pre ++ ys) (pre.length : Int) = some true := by
  intro ys
  induction ys with
  | nil =>
    intro pre k hk hl
    obtain ⟨k, rfl⟩ := succ_of hk
    simp only [laws_eqIntS.l0]
    rw [if_neg (len_nil pre)]
  | cons y ys ih =>
    intro pre k hk hl
    obtain ⟨k, rfl⟩ := succ_of hk
    simp only [laws_eqIntS.l0]
    rw [if_pos (len_cons pre ys y), if_pos (by omega), if_pos (len_cons pre ys y), if_pos trivial, len_succ pre ys y hl, app_cons pre ys y]
    exact ih (pre ++ [y]) k (by simpa using hk) (by rw [← app_cons]; exact hl)
theorem eqNode_k (op : Int) (s : ByteArray) (ks : List Int) (hl : ks.length ≤ 1048576) {k : Nat} (hk : 1048577 ≤ k) : laws_eqNode.f k op s ks op s ks = some true := by
  unfold laws_eqNode.f laws_eqIntS.f
  rw [if_pos rfl, if_pos rfl, if_pos rfl, show laws_eqIntS.l0 k ks ks 0 = some true from eqIntS_l ks [] k (by omega) (by simp; omega), Option.bind_some, if_pos rfl]
theorem eqNodeS_l : ∀ (ys pre : List S119) (k : Nat), ys.length + 1048577 < k → (pre ++ ys).length ≤ 1048576 → (∀ p ∈ ys, p.f2.length ≤ 1048576) → laws_eqNodeS.l0 k (pre ++ ys) (pre ++ ys) (pre.length : Int) = some true := by
  intro ys
  induction ys with
  | nil =>
    intro pre k hk hl hp
    obtain ⟨k, rfl⟩ := succ_of hk
    simp only [laws_eqNodeS.l0]
    rw [if_neg (len_nil pre)]
  | cons y ys ih =>
    intro pre k hk hl hp
    obtain ⟨k, rfl⟩ := succ_of hk
    simp only [laws_eqNodeS.l0]
    rw [List.length_cons] at hk
    rw [if_pos (len_cons pre ys y), if_pos (by omega), if_pos (len_cons pre ys y), show rd_T119 (pre ++ y :: ys) (pre.length : Int) = y from getD_at pre ys y _,
      eqNode_k y.f0 y.f1 y.f2 (hp y (List.mem_cons_self ..)) (by omega), Option.bind_some, if_pos rfl, len_succ pre ys y (by omega), app_cons pre ys y]
    exact ih (pre ++ [y]) k (by omega) (by rw [← app_cons]; exact hl) (fun p hq => hp p (List.mem_cons_of_mem _ hq))
theorem eqRuleS_l : ∀ (ys pre : List S121) (k : Nat), ys.length < k → (pre ++ ys).length ≤ 1048576 → laws_eqRuleS.l0 k (pre ++ ys) (pre ++ ys) (pre.length : Int) = some true := by
  intro ys
  induction ys with
  | nil =>
    intro pre k hk hl
    obtain ⟨k, rfl⟩ := succ_of hk
    simp only [laws_eqRuleS.l0]
    rw [if_neg (len_nil pre)]
  | cons y ys ih =>
    intro pre k hk hl
    obtain ⟨k, rfl⟩ := succ_of hk
    simp only [laws_eqRuleS.l0]
    rw [List.length_cons] at hk
    rw [if_pos (len_cons pre ys y), if_pos (by omega), if_pos (len_cons pre ys y), show rd_T121 (pre ++ y :: ys) (pre.length : Int) = y from getD_at pre ys y _]
    unfold laws_eqRule.f
    rw [if_pos rfl, if_pos rfl, if_pos rfl, Option.bind_some, if_pos rfl, len_succ pre ys y (by omega), app_cons pre ys y]
    exact ih (pre ++ [y]) k (by omega) (by rw [← app_cons]; exact hl)
theorem eqProgram_ok {ns : List S119} {rs : List S121} (h1 : ns.length ≤ 1048576) (h2 : ∀ p ∈ ns, p.f2.length ≤ 1048576) (h3 : rs.length ≤ 1048576) {k : Nat} (hk : 3000000 ≤ k) : laws_eqProgram.f k ns rs ns rs = some true := by
  unfold laws_eqProgram.f laws_eqNodeS.f laws_eqRuleS.f
  rw [if_pos rfl, show laws_eqNodeS.l0 k ns ns 0 = some true from eqNodeS_l ns [] k (by omega) (by simpa using h1) h2, Option.bind_some, if_pos rfl]
  rw [if_pos rfl, show laws_eqRuleS.l0 k rs rs 0 = some true from eqRuleS_l rs [] k (by omega) (by simpa using h3), Option.bind_some, if_pos rfl]

def sameL {α : Type} (f : α → α → Bool) : List α → List α → Bool
  | x :: xs, y :: ys => f x y && sameL f xs ys
  | _, _ => true
theorem getD_at2 {α : Type} (pre1 pre2 ys : List α) (y d : α) (h : pre1.length = pre2.length) : (pre2 ++ y :: ys).getD (pre1.length : Int).toNat d = y := by
  rw [h]; exact getD_at pre2 ys y d
theorem len_cons2 {α : Type} (pre1 pre2 ys : List α) (y : α) (h : pre1.length = pre2.length) : (pre1.length : Int) < ((pre2 ++ y :: ys).length : Int) := by
  rw [h]; exact len_cons pre2 ys y
theorem bool_round {b r : Bool} {R : Option Bool} (h : R = some r) : (if (!b) = true then some false else R) = some (b && r) := by
  cases b <;> simp [h]

/-! Two programs are the same: the rule, on lists. -/
def sameN (a b : S119) : Bool := decide (a.f0 = b.f0) && (decide (a.f1.toList = b.f1.toList) && decide (a.f2 = b.f2))
def sameR (a b : S121) : Bool := (a.f0 == b.f0) && ((a.f1 == b.f1) && (a.f2 == b.f2))
theorem spec_kidsEq (i op1 op2 : Int) (s1 s2 : ByteArray) (ns1 ns2 : List S119) (rs1 rs2 : List S121) : ∀ (ys1 ys2 pre1 pre2 : List Int) (k : Nat), ys1.length = ys2.length → pre1.length = pre2.length → ys1.length < k → (pre1 ++ ys1).length ≤ 1048576 →
    (ys1 = ys2 → ∃ k', k = k' + ys1.length + 1 ∧ spec_SameProgram.l1 k i (pre1.length : Int) ns1 rs1 ns2 rs2 op1 s1 (pre1 ++ ys1) op2 s2 (pre2 ++ ys2) = spec_SameProgram.l0 k' (wrap64 (i + 1)) ns1 rs1 ns2 rs2) ∧
    (ys1 ≠ ys2 → spec_SameProgram.l1 k i (pre1.length : Int) ns1 rs1 ns2 rs2 op1 s1 (pre1 ++ ys1) op2 s2 (pre2 ++ ys2) = some false) := by
  intro ys1
  induction ys1 with
  | nil =>
    intro ys2 pre1 pre2 k h1 h2 hk hl
    obtain ⟨k, rfl⟩ := succ_of hk
    have : ys2 = [] := List.length_eq_zero_iff.1 h1.symm
    subst this
    refine ⟨fun _ => ⟨k, rfl, ?_⟩, fun h => absurd rfl h⟩
    simp only [spec_SameProgram.l1]
    rw [if_neg (len_nil pre1)]
  | cons y ys ih =>
    intro ys2 pre1 pre2 k h1 h2 hk hl
    obtain ⟨k, rfl⟩ := succ_of hk
    obtain ⟨y2, zs, rfl⟩ : ∃ a b, ys2 = a :: b := by cases ys2 with
      | nil => simp at h1
      | cons a b => exact ⟨a, b, rfl⟩
    have hi := ih zs (pre1 ++ [y]) (pre2 ++ [y2]) k (by simpa using h1) (by simp [h2]) (by simpa using hk) (by rw [← app_cons]; exact hl)
    have e : spec_SameProgram.l1 (k + 1) i (pre1.length : Int) ns1 rs1 ns2 rs2 op1 s1 (pre1 ++ y :: ys) op2 s2 (pre2 ++ y2 :: zs) = if y = y2 then spec_SameProgram.l1 k i ((pre1 ++ [y]).length : Int) ns1 rs1 ns2 rs2 op1 s1 (pre1 ++ [y] ++ ys) op2 s2 (pre2 ++ [y2] ++ zs) else some false := by
      simp only [spec_SameProgram.l1]
      rw [if_pos (len_cons pre1 ys y), if_pos (by omega), if_pos (len_cons2 pre1 pre2 zs y2 h2), show rd (pre1 ++ y :: ys) (pre1.length : Int) = y from getD_at pre1 ys y _, show rd (pre2 ++ y2 :: zs) (pre1.length : Int) = y2 from getD_at2 pre1 pre2 zs y2 _ h2, len_succ pre1 ys y (by omega), app_cons pre1 ys y, app_cons pre2 zs y2]
    rw [e]
    by_cases c : y = y2
    · subst c
      rw [if_pos rfl]
      refine ⟨fun h => ?_, fun h => hi.2 (fun h3 => h (by rw [h3]))⟩
      obtain ⟨k', h3, h4⟩ := hi.1 (by simpa using h)
      exact ⟨k', by rw [List.length_cons]; omega, h4⟩
    · rw [if_neg c]
      exact ⟨fun h => absurd (by injection h) c, fun _ => rfl⟩
theorem spec_nodeRound {i : Int} (h0 : 0 ≤ i) (ns1 ns2 : List S119) (rs1 rs2 : List S121) (h1 : i < (ns1.length : Int)) (h2 : i < (ns2.length : Int)) (x y : S119) (hx : rd_T119 ns1 i = x) (hy : rd_T119 ns2 i = y) (hl : x.f2.length ≤ 1048576) {k : Nat} (hk : 1048600 ≤ k) :
    (sameN x y = true → ∃ k', k ≤ k' + 1048600 ∧ spec_SameProgram.l0 k i ns1 rs1 ns2 rs2 = spec_SameProgram.l0 k' (wrap64 (i + 1)) ns1 rs1 ns2 rs2) ∧ (sameN x y = false → spec_SameProgram.l0 k i ns1 rs1 ns2 rs2 = some false) := by
  obtain ⟨k, rfl⟩ : ∃ m, k = m + 2 := ⟨k - 2, by omega⟩
  simp only [spec_SameProgram.l0]
  rw [if_pos h1, if_pos h0, if_pos h2, hx, hy]
  unfold sameN
  by_cases c1 : x.f0 = y.f0
  · rw [if_pos c1, decide_eq_true c1, Bool.true_and]
    by_cases c2 : x.f1.toList = y.f1.toList
    · rw [if_pos c2, decide_eq_true c2, Bool.true_and]
      simp only [spec_SameProgram.j2]
      by_cases c3 : x.f2.length = y.f2.length
      · rw [if_neg (by simp [c3])]
        have := spec_kidsEq i x.f0 y.f0 x.f1 y.f1 ns1 ns2 rs1 rs2 x.f2 y.f2 [] [] k c3 rfl (by omega) (by simpa using hl)
        simp only [List.nil_append, List.length_nil] at this
        refine ⟨fun h => ?_, fun h => this.2 (of_decide_eq_false h)⟩
        obtain ⟨k', h3, h4⟩ := this.1 (of_decide_eq_true h)
        exact ⟨k', by omega, h4⟩
      · rw [if_pos (by simp; omega)]
        refine ⟨fun h => absurd (congrArg List.length (of_decide_eq_true h)) c3, fun _ => rfl⟩
    · rw [if_neg c2, decide_eq_false c2]
      simp only [spec_SameProgram.j2]
      exact ⟨fun h => by simp at h, fun _ => rfl⟩
  · rw [if_neg c1, decide_eq_false c1]
    simp only [spec_SameProgram.j2]
    exact ⟨fun h => by simp at h, fun _ => rfl⟩
theorem spec_rules (ns1 ns2 : List S119) : ∀ (ys1 ys2 pre1 pre2 : List S121) (k : Nat), ys1.length = ys2.length → pre1.length = pre2.length → ys1.length < k → (pre1 ++ ys1).length ≤ 1048576 →
    spec_SameProgram.l2 k (pre1.length : Int) ns1 (pre1 ++ ys1) ns2 (pre2 ++ ys2) = some (sameL sameR ys1 ys2) := by
  intro ys1
  induction ys1 with
  | nil =>
    intro ys2 pre1 pre2 k h1 h2 hk hl
    obtain ⟨k, rfl⟩ := succ_of hk
    simp only [spec_SameProgram.l2]
    rw [if_neg (len_nil pre1)]
    rfl
  | cons y ys ih =>
    intro ys2 pre1 pre2 k h1 h2 hk hl
    obtain ⟨k, rfl⟩ := succ_of hk
    obtain ⟨y2, zs, rfl⟩ : ∃ a b, ys2 = a :: b := by cases ys2 with
      | nil => simp at h1
      | cons a b => exact ⟨a, b, rfl⟩
    simp only [spec_SameProgram.l2]
    have hi := ih zs (pre1 ++ [y]) (pre2 ++ [y2]) k (by simpa using h1) (by simp [h2]) (by simpa using hk) (by rw [← app_cons]; exact hl)
    rw [if_pos (len_cons pre1 ys y), if_pos (by omega), if_pos (len_cons2 pre1 pre2 zs y2 h2), show rd_T121 (pre1 ++ y :: ys) (pre1.length : Int) = y from getD_at pre1 ys y _, show rd_T121 (pre2 ++ y2 :: zs) (pre1.length : Int) = y2 from getD_at2 pre1 pre2 zs y2 _ h2, len_succ pre1 ys y (by omega), app_cons pre1 ys y, app_cons pre2 zs y2]
    rw [← Bool.not_and, ← Bool.not_and, sameL]
    exact bool_round hi
theorem impl_rules : ∀ (ys1 ys2 pre1 pre2 : List S121) (k : Nat), ys1.length = ys2.length → pre1.length = pre2.length → ys1.length < k → (pre1 ++ ys1).length ≤ 1048576 →
    impl_Rule.l0 k (pre1 ++ ys1) (pre2 ++ ys2) ((pre1 ++ ys1).length : Int) (pre1.length : Int) = some (sameL sameR ys1 ys2) := by
  intro ys1
  induction ys1 with
  | nil =>
    intro ys2 pre1 pre2 k h1 h2 hk hl
    obtain ⟨k, rfl⟩ := succ_of hk
    simp only [impl_Rule.l0]
    rw [if_neg (len_nil pre1)]
    rfl
  | cons y ys ih =>
    intro ys2 pre1 pre2 k h1 h2 hk hl
    obtain ⟨k, rfl⟩ := succ_of hk
    obtain ⟨y2, zs, rfl⟩ : ∃ a b, ys2 = a :: b := by cases ys2 with
      | nil => simp at h1
      | cons a b => exact ⟨a, b, rfl⟩
    simp only [impl_Rule.l0]
    have hi := ih zs (pre1 ++ [y]) (pre2 ++ [y2]) k (by simpa using h1) (by simp [h2]) (by simpa using hk) (by rw [← app_cons]; exact hl)
    rw [if_pos (len_cons pre1 ys y), if_pos (by omega), if_pos (len_cons pre1 ys y), if_pos (len_cons2 pre1 pre2 zs y2 h2), show rd_T121 (pre1 ++ y :: ys) (pre1.length : Int) = y from getD_at pre1 ys y _, show rd_T121 (pre2 ++ y2 :: zs) (pre1.length : Int) = y2 from getD_at2 pre1 pre2 zs y2 _ h2, len_succ pre1 ys y (by omega), app_cons pre1 ys y, app_cons pre2 zs y2]
    rw [← Bool.not_and, ← Bool.not_and, sameL]
    exact bool_round hi
theorem spec_nodes (rs1 rs2 : List S121) (hr : rs1.length = rs2.length) (hrl : rs1.length ≤ 1048576) : ∀ (ys1 ys2 pre1 pre2 : List S119) (k : Nat), ys1.length = ys2.length → pre1.length = pre2.length → 1048600 * (ys1.length + 2) < k → (pre1 ++ ys1).length ≤ 1048576 → (∀ p ∈ ys1, p.f2.length ≤ 1048576) →
    spec_SameProgram.l0 k (pre1.length : Int) (pre1 ++ ys1) rs1 (pre2 ++ ys2) rs2 = some (sameL sameN ys1 ys2 && sameL sameR rs1 rs2) := by
  intro ys1
  induction ys1 with
  | nil =>
    intro ys2 pre1 pre2 k h1 h2 hk hl hp
    obtain ⟨k, rfl⟩ := succ_of hk
    simp only [spec_SameProgram.l0]
    rw [if_neg (len_nil pre1)]
    have := spec_rules (pre1 ++ []) (pre2 ++ ys2) rs1 rs2 [] [] k hr rfl (by omega) (by simpa using hrl)
    simpa [sameL] using this
  | cons y ys ih =>
    intro ys2 pre1 pre2 k h1 h2 hk hl hp
    rw [List.length_cons] at hk
    obtain ⟨y2, zs, rfl⟩ : ∃ a b, ys2 = a :: b := by cases ys2 with
      | nil => simp at h1
      | cons a b => exact ⟨a, b, rfl⟩
    have hr := spec_nodeRound (i := (pre1.length : Int)) (by omega) (pre1 ++ y :: ys) (pre2 ++ y2 :: zs) rs1 rs2 (len_cons pre1 ys y) (len_cons2 pre1 pre2 zs y2 h2) y y2 (getD_at pre1 ys y _) (getD_at2 pre1 pre2 zs y2 _ h2) (hp y (List.mem_cons_self ..)) (k := k) (by omega)
    rw [sameL]
    cases hb : sameN y y2 with
    | false => rw [hr.2 hb]; simp
    | true =>
      obtain ⟨k', h3, h4⟩ := hr.1 hb
      rw [h4, Bool.true_and, len_succ pre1 ys y (by omega), app_cons pre1 ys y, app_cons pre2 zs y2]
      exact ih zs (pre1 ++ [y]) (pre2 ++ [y2]) k' (by simpa using h1) (by simp [h2]) (by omega) (by rw [← app_cons]; exact hl) (fun p hq => hp p (List.mem_cons_of_mem _ hq))
theorem ints_l : ∀ (ys1 ys2 pre1 pre2 : List Int) (k : Nat), ys1.length = ys2.length → pre1.length = pre2.length → ys1.length < k → (pre1 ++ ys1).length ≤ 1048576 →
    slices_Equal_int_int.l0 k (pre1 ++ ys1) (pre2 ++ ys2) ((pre1 ++ ys1).length : Int) (pre1.length : Int) = some (decide (ys1 = ys2)) := by
  intro ys1
  induction ys1 with
  | nil =>
    intro ys2 pre1 pre2 k h1 h2 hk hl
    obtain ⟨k, rfl⟩ := succ_of hk
    have : ys2 = [] := List.length_eq_zero_iff.1 h1.symm
    subst this
    simp only [slices_Equal_int_int.l0]
    rw [if_neg (len_nil pre1)]
    rfl
  | cons y ys ih =>
    intro ys2 pre1 pre2 k h1 h2 hk hl
    obtain ⟨k, rfl⟩ := succ_of hk
    obtain ⟨y2, zs, rfl⟩ : ∃ a b, ys2 = a :: b := by cases ys2 with
      | nil => simp at h1
      | cons a b => exact ⟨a, b, rfl⟩
    simp only [slices_Equal_int_int.l0]
    have hi := ih zs (pre1 ++ [y]) (pre2 ++ [y2]) k (by simpa using h1) (by simp [h2]) (by simpa using hk) (by rw [← app_cons]; exact hl)
    rw [if_pos (len_cons pre1 ys y), if_pos (by omega), if_pos (len_cons pre1 ys y), if_pos (len_cons2 pre1 pre2 zs y2 h2), show rd (pre1 ++ y :: ys) (pre1.length : Int) = y from getD_at pre1 ys y _, show rd (pre2 ++ y2 :: zs) (pre1.length : Int) = y2 from getD_at2 pre1 pre2 zs y2 _ h2, len_succ pre1 ys y (by omega), app_cons pre1 ys y, app_cons pre2 zs y2, hi]
    by_cases c : y = y2
    · rw [if_pos c]; simp [c]
    · rw [if_neg c]; simp [c]
theorem impl_one (x y : S119) (hl : x.f2.length ≤ 1048576) {k : Nat} (hk : 1048577 ≤ k) : impl_SameProgram_1.f k x.f0 x.f1 x.f2 y.f0 y.f1 y.f2 = some (sameN x y) := by
  unfold impl_SameProgram_1.f slices_Equal_int_int.f sameN
  by_cases c1 : x.f0 = y.f0
  · rw [if_pos c1, decide_eq_true c1, Bool.true_and]
    by_cases c2 : x.f1.toList = y.f1.toList
    · rw [if_pos c2, decide_eq_true c2, Bool.true_and]
      by_cases c3 : (x.f2.length : Int) = (y.f2.length : Int)
      · rw [if_pos c3, show slices_Equal_int_int.l0 k x.f2 y.f2 (x.f2.length : Int) 0 = some (decide (x.f2 = y.f2)) from ints_l x.f2 y.f2 [] [] k (by omega) rfl (by omega) (by simpa using hl), Option.bind_some]
      · rw [if_neg c3, Option.bind_some, decide_eq_false (fun h => c3 (by rw [h]))]
    · rw [if_neg c2, decide_eq_false c2, Bool.false_and]
  · rw [if_neg c1, decide_eq_false c1, Bool.false_and]
theorem impl_nodes : ∀ (ys1 ys2 pre1 pre2 : List S119) (k : Nat), ys1.length = ys2.length → pre1.length = pre2.length → 1048578 + ys1.length < k → (pre1 ++ ys1).length ≤ 1048576 → (∀ p ∈ ys1, p.f2.length ≤ 1048576) →
    impl_Node.l0 k (pre2 ++ ys2) (pre1 ++ ys1) ((pre1 ++ ys1).length : Int) (pre1.length : Int) = some (sameL sameN ys1 ys2) := by
  intro ys1
  induction ys1 with
  | nil =>
    intro ys2 pre1 pre2 k h1 h2 hk hl hp
    obtain ⟨k, rfl⟩ := succ_of hk
    simp only [impl_Node.l0]
    rw [if_neg (len_nil pre1)]
    rfl
  | cons y ys ih =>
    intro ys2 pre1 pre2 k h1 h2 hk hl hp
    obtain ⟨k, rfl⟩ := succ_of hk
    rw [List.length_cons] at hk
    obtain ⟨y2, zs, rfl⟩ : ∃ a b, ys2 = a :: b := by cases ys2 with
      | nil => simp at h1
      | cons a b => exact ⟨a, b, rfl⟩
    simp only [impl_Node.l0]
    have hi := ih zs (pre1 ++ [y]) (pre2 ++ [y2]) k (by simpa using h1) (by simp [h2]) (by omega) (by rw [← app_cons]; exact hl) (fun p hq => hp p (List.mem_cons_of_mem _ hq))
    rw [if_pos (len_cons pre1 ys y), if_pos (by omega), if_pos (len_cons pre1 ys y), if_pos (len_cons2 pre1 pre2 zs y2 h2), show rd_T119 (pre1 ++ y :: ys) (pre1.length : Int) = y from getD_at pre1 ys y _, show rd_T119 (pre2 ++ y2 :: zs) (pre1.length : Int) = y2 from getD_at2 pre1 pre2 zs y2 _ h2, impl_one y y2 (hp y (List.mem_cons_self ..)) (by omega), Option.bind_some, len_succ pre1 ys y (by omega), app_cons pre1 ys y, app_cons pre2 zs y2, hi, sameL]
    cases sameN y y2 <;> simp
theorem sameProgram_ok (ns1 ns2 : List S119) (rs1 rs2 : List S121) (h1 : ns1.length ≤ 1048576) (h2 : ∀ p ∈ ns1, p.f2.length ≤ 1048576) (h3 : rs1.length ≤ 1048576) {k : Nat} (hk : 1048600 * (ns1.length + 3) ≤ k) :
    ∃ r, spec_SameProgram.f k ns1 rs1 ns2 rs2 = some r ∧ impl_SameProgram.f k ns1 rs1 ns2 rs2 = some r := by
  obtain ⟨k, rfl⟩ : ∃ m, k = m + 1 := ⟨k - 1, by omega⟩
  unfold spec_SameProgram.f impl_SameProgram.f impl_Node.f impl_Rule.f
  by_cases c1 : (ns1.length : Int) = (ns2.length : Int)
  · rw [if_pos c1, if_pos c1]
    have hv : ns1.length = ns2.length := by omega
    have e1 : impl_Node.l0 (k + 1) ns2 ns1 (ns1.length : Int) 0 = some (sameL sameN ns1 ns2) := impl_nodes ns1 ns2 [] [] (k + 1) hv rfl (by omega) (by simpa using h1) h2
    rw [e1, Option.bind_some]
    simp only [spec_SameProgram.j0]
    by_cases c2 : (rs1.length : Int) = (rs2.length : Int)
    · have hc : rs1.length = rs2.length := by omega
      have e2 : impl_Rule.l0 (k + 1) rs1 rs2 (rs1.length : Int) 0 = some (sameL sameR rs1 rs2) := impl_rules rs1 rs2 [] [] (k + 1) hc rfl (by omega) (by simpa using h3)
      have e3 : spec_SameProgram.l0 k 0 ns1 rs1 ns2 rs2 = some (sameL sameN ns1 ns2 && sameL sameR rs1 rs2) := spec_nodes rs1 rs2 hc h3 ns1 ns2 [] [] k hv rfl (by omega) (by simpa using h1) h2
      rw [if_neg (by simp [hc]), if_pos c2, e2, e3]
      exact ⟨_, rfl, by cases sameL sameN ns1 ns2 <;> simp⟩
    · rw [if_pos (by simp; omega), if_neg c2]
      exact ⟨false, rfl, by cases sameL sameN ns1 ns2 <;> simp⟩
  · rw [if_neg c1, if_neg c1]
    simp only [spec_SameProgram.j0]
    exact ⟨false, rfl, rfl⟩

theorem FnExactSameProgram : ∀ (ns : List S152) (rs : List S155) (ns2 : List S152) (rs2 : List S155), BigProg ns rs → BigProg ns2 rs2 → ∃ k, laws_FnExactSameProgram.f k ns rs ns2 rs2 = some true := by
  intro ns rs ns2 rs2 hb hb2
  obtain ⟨r, ⟨K, e⟩, hr, hs⟩ := szProgram_ok hb (left := 1048576) (by omega) (by omega)
  by_cases c : r < 0
  · refine ⟨K, ?_⟩
    have e := e K (by omega)
    dsimp only at e
    unfold laws_FnExactSameProgram.f
    rw [e, Option.bind_some, if_pos c]
  · obtain ⟨r2, ⟨K2, e2⟩, hr2, hs2⟩ := szProgram_ok hb2 (left := r) (by omega) (by omega)
    obtain ⟨m, hm⟩ : ∃ m, m = K + K2 + 1048600 * (ns.length + 10) := ⟨_, rfl⟩
    have e := e m (by omega)
    have e2 := e2 m (by omega)
    refine ⟨m, ?_⟩
    dsimp only at e e2
    unfold laws_FnExactSameProgram.f
    rw [e, Option.bind_some, if_neg c, e2, Option.bind_some]
    by_cases c2 : r2 < 0
    · rw [if_pos c2]
    · have hs := hs (by omega)
      have hs2 := hs2 (by omega)
      have h1 : (ns.map cN).length ≤ 1048576 := by rw [List.length_map]; exact hs.1.1
      have h2 : (rs.map cR).length ≤ 1048576 := by rw [List.length_map]; exact hs.2
      have h3 : (ns2.map cN).length ≤ 1048576 := by rw [List.length_map]; exact hs2.1.1
      have h4 : (rs2.map cR).length ≤ 1048576 := by rw [List.length_map]; exact hs2.2
      have g1 : ∀ p ∈ ns.map cN, p.f2.length ≤ 1048576 := fun p hp => by obtain ⟨q, hq, rfl⟩ := List.mem_map.1 hp; exact (hs.1.2 q hq).2
      have g3 : ∀ p ∈ ns2.map cN, p.f2.length ≤ 1048576 := fun p hp => by obtain ⟨q, hq, rfl⟩ := List.mem_map.1 hp; exact (hs2.1.2 q hq).2
      obtain ⟨t, e3, e4⟩ := sameProgram_ok (ns.map cN) (ns2.map cN) (rs.map cR) (rs2.map cR) h1 g1 h2 (k := m) (by rw [List.length_map]; omega)
      rw [if_neg c2, toProgram_ok hs (by omega), Option.bind_some, toProgram_ok hs2 (by omega), Option.bind_some]
      dsimp only
      rw [e3, Option.bind_some, Option.bind_some, Option.bind_some, e4, Option.bind_some, if_neg (by simp), Option.bind_some, eqProgram_ok h1 g1 h2 (by omega), Option.bind_some, if_pos rfl, Option.bind_some, eqProgram_ok h3 g3 h4 (by omega), Option.bind_some, if_pos rfl]

end Go.Proofs.Ytjbfppakafkkoaa.Pure
