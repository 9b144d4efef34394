import Derived.Test.YtdoimfkonaeceaaFnA
import Derived.Test.YtdoimfkonaeceaaFnD
/- Plain laws: the helpers of the laws: sizes, copies, comparisons, marks. -/
namespace Go.Vam
open Go Go.RowKit
set_option linter.unusedSimpArgs false
set_option linter.unusedVariables false

theorem w_in {x : Int} (h1 : -9223372036854775808 ≤ x) (h2 : x ≤ 9223372036854775807) : w64 x = x := wrap_in h1 h2
theorem BIG_val : BIG = 4611686018427387904 := (rfl)
theorem idxk {α : Type} {xs : List α} {k : Nat} (h : k < xs.length) : idx xs (k : Int) = some xs[k] := by rw [idx_nat]; exact List.getElem?_eq_getElem h
theorem idx0 {α : Type} {xs : List α} (h : 0 < xs.length) : idx xs 0 = some xs[0] := by rw [idx_zero]; exact List.getElem?_eq_getElem h
theorem natneg (n : Nat) : ((n : Int) < 0) = False := by simp
theorem some_bind {α β : Type} (a : α) (f : α → Option β) : (some a).bind f = f a := (rfl)
theorem chk_bind {p : Prop} [Decidable p] {β : Type} (h : p) (f : Unit → Option β) : (chk p).bind f = f () := by rw [chk_ok h]; rfl

/-- What is left of a size. -/
def szv (n : Nat) (left : Int) : Int := if (n : Int) ≤ left then left - n else -1
def rowsum (m : List (List Int)) : Nat := (m.map List.length).sum
theorem rowsum_cons (r : List Int) (m : List (List Int)) : rowsum (r :: m) = r.length + rowsum m := by simp [rowsum]
theorem rowsum_mem {m : List (List Int)} {r : List Int} (h : r ∈ m) : r.length ≤ rowsum m := by
  induction m with
  | nil => cases h
  | cons a m ih =>
    rw [rowsum_cons]
    rcases List.mem_cons.1 h with rfl | h
    · omega
    · have := ih h; omega
theorem rowsum_take {m : List (List Int)} {k : Nat} (h : k < m.length) : rowsum (m.take (k + 1)) = rowsum (m.take k) + m[k].length := by
  simp only [rowsum, List.take_succ_eq_append_getElem h, List.map_append, List.sum_append, List.map_cons, List.map_nil, List.sum_cons, List.sum_nil]
  omega
theorem rowsum_le (m : List (List Int)) (k : Nat) : rowsum (m.take k) ≤ rowsum m := by
  induction m generalizing k with
  | nil => simp [rowsum]
  | cons r m ih =>
    cases k with
    | zero => simp [rowsum]
    | succ k => have := ih k; simp only [List.take_succ_cons, rowsum_cons]; omega

/-- What the types say of an argument. -/
abbrev lenI (xs : List Int) : Prop := xs.length ≤ 9223372036854775807
abbrev lenM (m : List (List Int)) : Prop := m.length ≤ 9223372036854775807 ∧ ∀ r ∈ m, r.length ≤ 9223372036854775807

theorem szI_eq {xs : List Int} {left : Int} (hl : lenI xs) (h0 : 0 ≤ left) (h1 : left ≤ 1048576) : l_szInt64S xs left = some (szv xs.length left) := by
  unfold l_szInt64S szv
  rw [w_in (by simp only [lenI] at hl; omega) (by omega)]
  by_cases h : (xs.length : Int) ≤ left
  · rw [if_neg (by omega), if_pos h]
  · rw [if_pos (by omega), if_neg h]

theorem szM_eq {m : List (List Int)} {left : Int} (hl : lenM m) (h0 : 0 ≤ left) (h1 : left ≤ 1048576) : l_szInt64SS m left = some (szv (m.length + rowsum m) left) := by
  obtain ⟨hl, hr⟩ := hl
  unfold l_szInt64SS
  rw [w_in (by omega) (by omega)]
  by_cases h : left - (m.length : Int) < 0
  · rw [if_pos h, szv, if_neg (by omega)]
  · rw [if_neg h]
    have step : ∀ k, k < m.length → (rowsum (m.take k) : Int) ≤ left - m.length → l_szInt64SS_L0 m (left - m.length - rowsum (m.take k), (k : Int)) =
        if (rowsum (m.take (k + 1)) : Int) ≤ left - m.length then some (.inl (left - m.length - rowsum (m.take (k + 1)), ((k + 1 : Nat) : Int))) else some (.inr (.inr (-1))) := by
      intro k hk hle
      unfold l_szInt64SS_L0
      have h2 := rowsum_take hk
      have h3 := hr m[k] (List.getElem_mem hk)
      simp only [show (k : Int) < m.length by omega, if_true, idxk hk, some_bind]
      rw [szI_eq h3 (by omega) (by omega)]
      simp only [some_bind, szv]
      by_cases h4 : (rowsum (m.take (k + 1)) : Int) ≤ left - m.length
      · rw [if_pos (by omega : ((m[k].length : Nat) : Int) ≤ left - m.length - rowsum (m.take k)), if_neg (by omega), if_pos h4, w_in (by omega) (by omega)]
        congr 3
        omega
      · rw [if_neg (by omega : ¬ ((m[k].length : Nat) : Int) ≤ left - m.length - rowsum (m.take k)), if_pos (by omega), if_neg h4]
    have key : ∃ b, loop (l_szInt64SS_L0 m) BIG (left - m.length, 0) = some b ∧ b = (if ((m.length + rowsum m : Nat) : Int) ≤ left then .inl (left - m.length - rowsum m) else .inr (-1)) := by
      refine loop_inv (fun s => ∃ k, k ≤ m.length ∧ (rowsum (m.take k) : Int) ≤ left - m.length ∧ s = (left - m.length - rowsum (m.take k), (k : Int))) (fun s => m.length - s.2.toNat) _ ⟨0, by omega, by simp [rowsum]; omega, by simp [rowsum]⟩ (by rw [BIG_val]; simp only []; omega) ?_
      rintro s ⟨k, hk, hle, rfl⟩
      by_cases hkm : k < m.length
      · rw [step k hkm hle]
        by_cases h4 : (rowsum (m.take (k + 1)) : Int) ≤ left - m.length
        · rw [if_pos h4]
          exact .inl ⟨_, rfl, ⟨k + 1, by omega, h4, rfl⟩, by simp only [Int.toNat_natCast]; omega⟩
        · rw [if_neg h4]
          refine .inr ⟨_, rfl, ?_⟩
          have := rowsum_le m (k + 1)
          rw [if_neg (by omega)]
      · right
        have hkk : k = m.length := by omega
        subst hkk
        unfold l_szInt64SS_L0
        simp only [show ¬ ((m.length : Int) < m.length) by omega, if_false]
        refine ⟨_, rfl, ?_⟩
        rw [List.take_length] at hle ⊢
        rw [if_pos (by omega)]
    obtain ⟨b, h1, h2⟩ := key
    rw [h1, some_bind, h2]
    unfold szv
    by_cases h5 : ((m.length + rowsum m : Nat) : Int) ≤ left
    · rw [if_pos h5, if_pos h5]; simp only []; congr 1; omega
    · rw [if_neg h5, if_neg h5]

/-- A list, filled up to a place. -/
def fillA {α : Type} (z : α) (xs : List α) (k : Nat) : List α := xs.take k ++ List.replicate (xs.length - k) z
theorem fillA_len {α : Type} (z : α) (xs : List α) (k : Nat) (h : k ≤ xs.length) : (fillA z xs k).length = xs.length := by simp [fillA]; omega
theorem fillA_set {α : Type} (z : α) (xs : List α) (k : Nat) (h : k < xs.length) : (fillA z xs k).set k xs[k] = fillA z xs (k + 1) := by
  unfold fillA
  have e : k - (xs.take k).length = 0 := by simp; omega
  rw [List.set_append_right _ _ (by simp; omega), List.take_succ_eq_append_getElem h, e]
  have : xs.length - k = (xs.length - (k + 1)) + 1 := by omega
  rw [this, List.replicate_succ, List.set_cons_zero, List.append_assoc]
  rfl
theorem fillA_full {α : Type} (z : α) (xs : List α) : fillA z xs xs.length = xs := by simp [fillA]
theorem fillA_zero {α : Type} (z : α) (xs : List α) : fillA z xs 0 = List.replicate xs.length z := by simp [fillA]

theorem toI_eq {xs : List Int} (h : xs.length ≤ 1048576) : l_toInt64S xs = some xs := by
  unfold l_toInt64S
  rw [chk_bind (by omega), loop_for (b := xs) (fun k => (fillA 0 xs k, (k : Int))) xs.length (by rw [BIG_val]; omega) (by simp [fillA_zero])]
  · rfl
  · intro k hk
    unfold l_toInt64S_L0
    simp only [show (k : Int) < xs.length by omega, if_true, idxk hk, some_bind]
    rw [idxk (by rw [fillA_len _ _ _ (by omega)]; exact hk), some_bind, Int.toNat_natCast, fillA_set _ _ _ hk, w_in (by omega) (by omega)]
    rfl
  · unfold l_toInt64S_L0
    simp [fillA_full]
theorem toM_eq {m : List (List Int)} (h : m.length ≤ 1048576) (hr : ∀ r ∈ m, r.length ≤ 1048576) : l_toInt64SS m = some m := by
  unfold l_toInt64SS
  rw [chk_bind (by omega), loop_for (b := m) (fun k => (fillA [] m k, (k : Int))) m.length (by rw [BIG_val]; omega) (by simp [fillA_zero])]
  · rfl
  · intro k hk
    unfold l_toInt64SS_L0
    simp only [show (k : Int) < m.length by omega, if_true, idxk hk, some_bind]
    rw [toI_eq (hr _ (List.getElem_mem hk)), some_bind, idxk (by rw [fillA_len _ _ _ (by omega)]; exact hk), some_bind, Int.toNat_natCast, fillA_set _ _ _ hk, w_in (by omega) (by omega)]
    rfl
  · unfold l_toInt64SS_L0
    simp [fillA_full]

theorem take_ext {α : Type} {a b : List α} (hl : a.length = b.length) (k : Nat) (hk : k < a.length) (h : a.take k = b.take k) : a.take (k + 1) = b.take (k + 1) ↔ a[k] = b[k]'(hl ▸ hk) := by
  rw [List.take_succ_eq_append_getElem hk, List.take_succ_eq_append_getElem (hl ▸ hk), h, List.append_right_inj]
  simp only [List.cons.injEq, and_true]

/-- A comparison of lists, place by place. -/
theorem cmp_loop {α : Type} (a b : List α) (hl : a.length = b.length) (hb : a.length ≤ 9223372036854775806) (step : Int → Option (Int ⊕ (Unit ⊕ Bool)))
    (hs : ∀ k (h : k < a.length), a[k] = b[k]'(hl ▸ h) → step (k : Int) = some (.inl ((k + 1 : Nat) : Int))) (hd : ∀ k (h : k < a.length), a[k] ≠ b[k]'(hl ▸ h) → step (k : Int) = some (.inr (.inr false)))
    (he : step (a.length : Int) = some (.inr (.inl ()))) (hbig : a.length < BIG) :
    ∃ r, loop step BIG 0 = some r ∧ ((r = .inl () ∧ a = b) ∨ (r = .inr false ∧ a ≠ b)) := by
  refine loop_inv (fun s => ∃ k : Nat, k ≤ a.length ∧ s = (k : Int) ∧ a.take k = b.take k) (fun s => a.length - s.toNat) _ ⟨0, by omega, rfl, rfl⟩ (by show a.length - 0 < BIG; omega) ?_
  rintro s ⟨k, hk, rfl, ht⟩
  by_cases hka : k < a.length
  · by_cases he : a[k] = b[k]'(hl ▸ hka)
    · rw [hs k hka he]
      exact .inl ⟨_, rfl, ⟨k + 1, by omega, rfl, (take_ext hl k hka ht).2 he⟩, by simp only [Int.toNat_natCast]; omega⟩
    · rw [hd k hka he]
      refine .inr ⟨_, rfl, .inr ⟨rfl, fun hab => he ?_⟩⟩
      subst hab; rfl
  · have hkk : k = a.length := by omega
    subst hkk
    rw [he]
    refine .inr ⟨_, rfl, .inl ⟨rfl, ?_⟩⟩
    rwa [List.take_length, hl, List.take_length] at ht

theorem eqI_eq (a b : List Int) (h : a.length ≤ 1048576) : l_eqInt64S a b = some (decide (a = b)) := by
  unfold l_eqInt64S
  by_cases hl : a.length = b.length
  · rw [if_neg (by omega)]
    obtain ⟨r, h1, h2⟩ := cmp_loop a b hl (by omega) (l_eqInt64S_L0 a b) (fun k hk he => by
        unfold l_eqInt64S_L0
        simp only [show (k : Int) < a.length by omega, if_true, idxk hk, idxk (hl ▸ hk), some_bind, he, not_true_eq_false, if_false]
        rw [w_in (by omega) (by omega)]; rfl) (fun k hk he => by
        unfold l_eqInt64S_L0
        simp only [show (k : Int) < a.length by omega, if_true, idxk hk, idxk (hl ▸ hk), some_bind, he, not_false_eq_true]) (by
        unfold l_eqInt64S_L0
        simp) (by rw [BIG_val]; omega)
    rw [h1, some_bind]
    rcases h2 with ⟨rfl, rfl⟩ | ⟨rfl, h3⟩
    · simp
    · simp [h3]
  · rw [if_pos (by omega)]
    have : a ≠ b := fun e => hl (by rw [e])
    simp [this]
theorem eqM_eq (a b : List (List Int)) (h : a.length ≤ 1048576) (hr : ∀ r ∈ a, r.length ≤ 1048576) : l_eqInt64SS a b = some (decide (a = b)) := by
  unfold l_eqInt64SS
  by_cases hl : a.length = b.length
  · rw [if_neg (by omega)]
    obtain ⟨r, h1, h2⟩ := cmp_loop a b hl (by omega) (l_eqInt64SS_L0 a b) (fun k hk he => by
        unfold l_eqInt64SS_L0
        simp only [show (k : Int) < a.length by omega, if_true, idxk hk, idxk (hl ▸ hk), some_bind]
        rw [eqI_eq _ _ (hr _ (List.getElem_mem hk))]
        simp only [he, some_bind, decide_true, Bool.true_eq_false, if_false]
        rw [w_in (by omega) (by omega)]; rfl) (fun k hk he => by
        unfold l_eqInt64SS_L0
        simp only [show (k : Int) < a.length by omega, if_true, idxk hk, idxk (hl ▸ hk), some_bind]
        rw [eqI_eq _ _ (hr _ (List.getElem_mem hk))]
        simp only [he, some_bind, decide_false, if_true]) (by
        unfold l_eqInt64SS_L0
        simp) (by rw [BIG_val]; omega)
    rw [h1, some_bind]
    rcases h2 with ⟨rfl, rfl⟩ | ⟨rfl, h3⟩
    · simp
    · simp [h3]
  · rw [if_pos (by omega)]
    have : a ≠ b := fun e => hl (by rw [e])
    simp [this]

/-! ### Marks -/
/-- A row whose first j numbers are marked, from k on. -/
def mkI (k : Nat) (xs : List Int) (j : Nat) : List Int := (List.range j).map (fun (i : Nat) => ((k + i : Nat) : Int)) ++ xs.drop j
theorem mkI_zero (k : Nat) (xs : List Int) : mkI k xs 0 = xs := by simp [mkI]
theorem mkI_len (k : Nat) (xs : List Int) (j : Nat) (h : j ≤ xs.length) : (mkI k xs j).length = xs.length := by simp [mkI]; omega
theorem mkI_set (k : Nat) (xs : List Int) (j : Nat) (h : j < xs.length) : (mkI k xs j).set j ((k + j : Nat) : Int) = mkI k xs (j + 1) := by
  unfold mkI
  rw [List.set_append_right _ _ (by simp), List.range_succ, List.map_append, List.append_assoc]
  congr 1
  simp only [List.length_map, List.length_range, Nat.sub_self, List.map_cons, List.map_nil]
  rw [List.drop_eq_getElem_cons h]
  rfl
/-- The marked row. -/
def mrkI (k : Nat) (xs : List Int) : List Int := mkI k xs xs.length
theorem mrkI_eq (k : Nat) (xs : List Int) : mrkI k xs = (List.range xs.length).map (fun (i : Nat) => ((k + i : Nat) : Int)) := by simp [mrkI, mkI]
theorem mrkI_len (k : Nat) (xs : List Int) : (mrkI k xs).length = xs.length := by simp [mrkI_eq]
theorem mrkI_get (k : Nat) (xs : List Int) (j : Nat) (h : j < (mrkI k xs).length) : (mrkI k xs)[j] = ((k + j : Nat) : Int) := by simp [mrkI_eq]

theorem markI_eq {xs : List Int} {k : Nat} (h : k + xs.length ≤ 1073741824) : l_markInt64S xs (k : Int) = some (((k + xs.length : Nat) : Int), mrkI k xs) := by
  unfold l_markInt64S
  rw [loop_for (b := (mrkI k xs, ((k + xs.length : Nat) : Int))) (fun j => (mkI k xs j, ((k + j : Nat) : Int), (j : Int))) xs.length (by rw [BIG_val]; omega) (by simp [mkI_zero])]
  · rfl
  · intro j hj
    unfold l_markInt64S_L0
    have hl := mkI_len k xs j (by omega)
    simp only [show (j : Int) < (mkI k xs j).length by omega, if_true]
    rw [idxk (by omega), some_bind, Int.toNat_natCast, mkI_set k xs j hj, w_in (by omega) (by omega), w_in (by omega) (by omega)]
    rfl
  · unfold l_markInt64S_L0
    have hl := mkI_len k xs xs.length (Nat.le_refl _)
    simp [hl, mrkI]
theorem heldI_eq {xs : List Int} {k : Nat} (h : k + xs.length ≤ 1073741824) : l_heldInt64S (mrkI k xs) (k : Int) = some ((k + xs.length : Nat) : Int) := by
  unfold l_heldInt64S
  have hl := mrkI_len k xs
  rw [loop_for (b := .inl ((k + xs.length : Nat) : Int)) (fun j => (((k + j : Nat) : Int), (j : Int))) xs.length (by rw [BIG_val]; omega) (by simp)]
  · rfl
  · intro j hj
    unfold l_heldInt64S_L0
    simp only [show (j : Int) < (mrkI k xs).length by omega, if_true]
    rw [idxk (by omega), some_bind, mrkI_get, if_neg (by simp), w_in (by omega) (by omega), w_in (by omega) (by omega)]
    rfl
  · unfold l_heldInt64S_L0
    simp [hl]

/-- A table whose first j rows are marked: where the count stands; what it holds. -/
def mkC (k : Nat) (m : List (List Int)) (j : Nat) : Nat := k + rowsum (m.take j)
def mkM (k : Nat) (m : List (List Int)) (j : Nat) : List (List Int) := (List.range j).map (fun i => mrkI (mkC k m i) (m.getD i [])) ++ m.drop j
theorem mkM_zero (k : Nat) (m : List (List Int)) : mkM k m 0 = m := by simp [mkM]
theorem mkM_len (k : Nat) (m : List (List Int)) (j : Nat) (h : j ≤ m.length) : (mkM k m j).length = m.length := by simp [mkM]; omega
theorem mkM_at (k : Nat) (m : List (List Int)) (j : Nat) (h : j < m.length) (h' : j < (mkM k m j).length) : (mkM k m j)[j] = m[j] := by
  have e : (mkM k m j)[j]? = m[j]? := by
    unfold mkM; rw [List.getElem?_append_right (by simp)]; simp
  rw [List.getElem?_eq_getElem h', List.getElem?_eq_getElem h] at e
  exact Option.some.inj e
theorem mkM_set (k : Nat) (m : List (List Int)) (j : Nat) (h : j < m.length) : (mkM k m j).set j (mrkI (mkC k m j) m[j]) = mkM k m (j + 1) := by
  unfold mkM
  rw [List.set_append_right _ _ (by simp), List.range_succ, List.map_append, List.append_assoc]
  congr 1
  simp only [List.length_map, List.length_range, Nat.sub_self, List.map_cons, List.map_nil]
  rw [List.drop_eq_getElem_cons h, List.set_cons_zero]
  simp [h]
theorem mkC_succ (k : Nat) (m : List (List Int)) (j : Nat) (h : j < m.length) : mkC k m (j + 1) = mkC k m j + m[j].length := by
  unfold mkC; rw [rowsum_take h]; omega
theorem mkC_le (k : Nat) (m : List (List Int)) (j : Nat) : mkC k m j ≤ k + rowsum m := by
  unfold mkC; have := rowsum_le m j; omega
/-- The marked table. -/
def mrkM (k : Nat) (m : List (List Int)) : List (List Int) := mkM k m m.length
theorem mrkM_len (k : Nat) (m : List (List Int)) : (mrkM k m).length = m.length := mkM_len _ _ _ (Nat.le_refl _)
theorem mrkM_get (k : Nat) (m : List (List Int)) (j : Nat) (h : j < m.length) (h' : j < (mrkM k m).length) : (mrkM k m)[j] = mrkI (mkC k m j) m[j] := by
  simp [mrkM, mkM, h]

theorem markM_eq {m : List (List Int)} {k : Nat} (hm : m.length ≤ 1073741824) (h : k + rowsum m ≤ 1073741824) : l_markInt64SS m (k : Int) = some (((k + rowsum m : Nat) : Int), mrkM k m) := by
  unfold l_markInt64SS
  rw [loop_for (b := (mrkM k m, ((k + rowsum m : Nat) : Int))) (fun j => (mkM k m j, ((mkC k m j : Nat) : Int), (j : Int))) m.length (by rw [BIG_val]; omega) (by simp [mkM_zero, mkC, rowsum])]
  · rfl
  · intro j hj
    unfold l_markInt64SS_L0
    have hl := mkM_len k m j (by omega)
    have hc := mkC_succ k m j hj
    have hc2 := mkC_le k m (j + 1)
    simp only [show (j : Int) < (mkM k m j).length by omega, if_true]
    rw [idxk (by omega), some_bind, mkM_at k m j hj, markI_eq (by omega), some_bind, Int.toNat_natCast, mkM_set k m j hj, w_in (by omega) (by omega), hc]
    rfl
  · unfold l_markInt64SS_L0
    have hl := mkM_len k m m.length (Nat.le_refl _)
    simp [hl, mrkM, mkC]
theorem heldM_eq {m : List (List Int)} {k : Nat} (hm : m.length ≤ 1073741824) (h : k + rowsum m ≤ 1073741824) : l_heldInt64SS (mrkM k m) (k : Int) = some ((k + rowsum m : Nat) : Int) := by
  unfold l_heldInt64SS
  have hl := mrkM_len k m
  rw [loop_for (b := .inl ((k + rowsum m : Nat) : Int)) (fun j => (((mkC k m j : Nat) : Int), (j : Int))) m.length (by rw [BIG_val]; omega) (by simp [mkC, rowsum])]
  · rfl
  · intro j hj
    unfold l_heldInt64SS_L0
    have hc := mkC_succ k m j hj
    have hc2 := mkC_le k m (j + 1)
    simp only [show (j : Int) < (mrkM k m).length by omega, if_true]
    rw [idxk (by omega), some_bind, mrkM_get k m j hj, heldI_eq (by omega), some_bind, if_neg (by omega), w_in (by omega) (by omega), hc]
    rfl
  · unfold l_heldInt64SS_L0
    simp [hl, mkC]
theorem markI_1 {xs : List Int} (h : xs.length ≤ 1048576) : l_markInt64S xs 1 = some (((1 + xs.length : Nat) : Int), mrkI 1 xs) := markI_eq (k := 1) (by omega)
theorem heldI_1 {xs : List Int} (h : xs.length ≤ 1048576) : l_heldInt64S (mrkI 1 xs) 1 = some ((1 + xs.length : Nat) : Int) := heldI_eq (k := 1) (by omega)
theorem markM_1 {m : List (List Int)} (hm : m.length ≤ 1048576) (h : rowsum m ≤ 1048576) : l_markInt64SS m 1 = some (((1 + rowsum m : Nat) : Int), mrkM 1 m) := markM_eq (k := 1) (by omega) (by omega)
theorem heldM_1 {m : List (List Int)} (hm : m.length ≤ 1048576) (h : rowsum m ≤ 1048576) : l_heldInt64SS (mrkM 1 m) 1 = some ((1 + rowsum m : Nat) : Int) := heldM_eq (k := 1) (by omega) (by omega)
theorem ieq_self (a : Int) : ieq a a = true := by simp [ieq]
end Go.Vam

/- Plain laws: loops that map, test, add; numbers and tables over a prime. -/
namespace Go.Vam
open Go Go.RowKit
set_option linter.unusedSimpArgs false
set_option linter.unusedVariables false

/-! ### Loops -/
/-- A vector by its numbers. -/
def vecN {α : Type} (n : Nat) (f : Nat → α) : List α := (List.range n).map f
@[simp] theorem vecN_len {α : Type} (n : Nat) (f : Nat → α) : (vecN n f).length = n := by simp [vecN]
theorem vecN_succ {α : Type} (n : Nat) (f : Nat → α) : vecN (n + 1) f = vecN n f ++ [f n] := by simp [vecN, List.range_succ]
theorem vecN_getD {α : Type} (n : Nat) (f : Nat → α) (k : Nat) (z : α) (h : k < n) : (vecN n f).getD k z = f k := by simp [vecN, h]
theorem vecN_get {α : Type} (n : Nat) (f : Nat → α) (k : Nat) (h : k < (vecN n f).length) : (vecN n f)[k] = f k := by simp [vecN]
theorem vecN_congr {α : Type} {n : Nat} {f g : Nat → α} (h : ∀ k, k < n → f k = g k) : vecN n f = vecN n g := by
  unfold vecN
  exact List.map_congr_left fun k hk => h k (List.mem_range.1 hk)
theorem vecN_ext {α : Type} {xs : List α} {n : Nat} {f : Nat → α} (z : α) (hl : xs.length = n) (h : ∀ k, k < n → xs.getD k z = f k) : xs = vecN n f := by
  apply List.ext_getElem
  · simp [hl]
  · intro k h1 h2
    have := h k (by omega)
    rw [vecN_get, ← this, List.getD_eq_getElem?_getD, List.getElem?_eq_getElem h1]; rfl
theorem mem_vecN {α : Type} {n : Nat} {f : Nat → α} {x : α} : x ∈ vecN n f ↔ ∃ k, k < n ∧ f k = x := by simp [vecN]
theorem getD_get {α : Type} {xs : List α} {k : Nat} (h : k < xs.length) (z : α) : xs[k] = xs.getD k z := by
  rw [List.getD_eq_getElem?_getD, List.getElem?_eq_getElem h]; rfl
theorem idxD {α : Type} {xs : List α} {k : Nat} (h : k < xs.length) (z : α) : idx xs (k : Int) = some (xs.getD k z) := by rw [idxk h, getD_get h z]
theorem idxD0 {α : Type} {xs : List α} (h : 0 < xs.length) (z : α) : idx xs 0 = some (xs.getD 0 z) := idxD (k := 0) h z

/-- A list's number, a table's row. -/
def gI (v : List Int) (k : Nat) : Int := v.getD k 0
def gR (m : List (List Int)) (k : Nat) : List Int := m.getD k []
theorem idxI {v : List Int} {k : Nat} (h : k < v.length) : idx v (k : Int) = some (gI v k) := idxD h 0
theorem idxI0 {v : List Int} (h : 0 < v.length) : idx v 0 = some (gI v 0) := idxD0 h 0
theorem idxR {m : List (List Int)} {k : Nat} (h : k < m.length) : idx m (k : Int) = some (gR m k) := idxD h []
theorem idxR0 {m : List (List Int)} (h : 0 < m.length) : idx m 0 = some (gR m 0) := idxD0 h []
theorem gI_get {v : List Int} {k : Nat} (h : k < v.length) : v[k] = gI v k := getD_get h 0
theorem gR_get {m : List (List Int)} {k : Nat} (h : k < m.length) : m[k] = gR m k := getD_get h []
theorem gI_vecN {n k : Nat} (f : Nat → Int) (h : k < n) : gI (vecN n f) k = f k := vecN_getD n f k 0 h
theorem gR_vecN {n k : Nat} (f : Nat → List Int) (h : k < n) : gR (vecN n f) k = f k := vecN_getD n f k [] h
theorem extI {v : List Int} {n : Nat} {f : Nat → Int} (hl : v.length = n) (h : ∀ k, k < n → gI v k = f k) : v = vecN n f := vecN_ext 0 hl h
theorem extR {m : List (List Int)} {n : Nat} {f : Nat → List Int} (hl : m.length = n) (h : ∀ k, k < n → gR m k = f k) : m = vecN n f := vecN_ext [] hl h
theorem gI_out {v : List Int} {k : Nat} (h : v.length ≤ k) : gI v k = 0 := by unfold gI; rw [List.getD_eq_getElem?_getD, List.getElem?_eq_none h]; rfl
theorem gR_out {m : List (List Int)} {k : Nat} (h : m.length ≤ k) : gR m k = [] := by unfold gR; rw [List.getD_eq_getElem?_getD, List.getElem?_eq_none h]; rfl

theorem map_loop {α : Type} (step : List α × Int → Option ((List α × Int) ⊕ List α)) (n : Nat) (f : Nat → α) (hn : n < BIG)
    (hs : ∀ k, k < n → ∀ out, out.length = k → step (out, (k : Int)) = some (.inl (out ++ [f k], ((k + 1 : Nat) : Int)))) (he : ∀ out, out.length = n → step (out, (n : Int)) = some (.inr out)) :
    loop step BIG ([], 0) = some (vecN n f) :=
  loop_for (fun k => (vecN k f, (k : Int))) n hn rfl (fun k hk => by rw [hs k hk _ (vecN_len k f), vecN_succ]) (he _ (vecN_len n f))

theorem all_loop {B : Type} (step : Int → Option (Int ⊕ (Unit ⊕ B))) (n : Nat) (f : Nat → Bool) (r : B) (hn : n < BIG)
    (hs : ∀ k, k < n → f k = true → step (k : Int) = some (.inl ((k + 1 : Nat) : Int))) (hb : ∀ k, k < n → f k = false → step (k : Int) = some (.inr (.inr r))) (he : step (n : Int) = some (.inr (.inl ()))) :
    loop step BIG 0 = some (if (List.range n).all f then .inl () else .inr r) := by
  obtain ⟨b, h1, h2⟩ := loop_inv (step := step) (fun s => ∃ k : Nat, k ≤ n ∧ s = (k : Int) ∧ ∀ j, j < k → f j = true) (fun s => n - s.toNat)
    (fun b => b = if (List.range n).all f then .inl () else .inr r) (s := 0) ⟨0, by omega, rfl, fun j hj => by omega⟩ (by show n - 0 < BIG; omega) (by
      rintro s ⟨k, hk, rfl, ha⟩
      by_cases hkn : k < n
      · cases hf : f k with
        | true =>
          refine .inl ⟨_, hs k hkn hf, ⟨k + 1, by omega, rfl, fun j hj => ?_⟩, by simp only [Int.toNat_natCast]; omega⟩
          rcases Nat.lt_succ_iff_lt_or_eq.1 hj with h | rfl
          · exact ha j h
          · exact hf
        | false =>
          refine .inr ⟨_, hb k hkn hf, ?_⟩
          rw [if_neg]
          intro h
          have := List.all_eq_true.1 h k (List.mem_range.2 hkn)
          rw [hf] at this; cases this
      · have hkk : k = n := by omega
        subst hkk
        refine .inr ⟨_, he, ?_⟩
        rw [if_pos]
        exact List.all_eq_true.2 fun j hj => ha j (List.mem_range.1 hj))
  rw [h1, h2]
theorem all_range {α : Type} (xs : List α) (g : α → Bool) (z : α) : ((List.range xs.length).all fun k => g (xs.getD k z)) = xs.all g := by
  rw [Bool.eq_iff_iff, List.all_eq_true, List.all_eq_true]
  constructor
  · intro h x hx
    obtain ⟨k, hk, rfl⟩ := List.getElem_of_mem hx
    have := h k (List.mem_range.2 hk)
    rwa [← getD_get hk z] at this
  · intro h k hk
    rw [← getD_get (List.mem_range.1 hk) z]
    exact h _ (List.getElem_mem _)

theorem all_rangeI (xs : List Int) (g : Int → Bool) : ((List.range xs.length).all fun k => g (gI xs k)) = xs.all g := all_range xs g 0
theorem all_rangeR (m : List (List Int)) (g : List Int → Bool) : ((List.range m.length).all fun k => g (gR m k)) = m.all g := all_range m g []
/-- A state, turned n times. -/
def foldN {σ : Type} (g : Nat → σ → σ) (z : σ) : Nat → σ
  | 0 => z
  | k + 1 => g k (foldN g z k)
theorem fold_loop {σ B : Type} (step : σ × Int → Option ((σ × Int) ⊕ B)) (n : Nat) (g : Nat → σ → σ) (z : σ) (I : Nat → σ → Prop) (out : σ → B) (hn : n < BIG) (h0 : I 0 z)
    (hI : ∀ k s, k < n → I k s → I (k + 1) (g k s)) (hs : ∀ k s, k < n → I k s → step (s, (k : Int)) = some (.inl (g k s, ((k + 1 : Nat) : Int)))) (he : ∀ s, I n s → step (s, (n : Int)) = some (.inr (out s))) :
    loop step BIG (z, 0) = some (out (foldN g z n)) ∧ I n (foldN g z n) := by
  have hI' : ∀ k, k ≤ n → I k (foldN g z k) := by
    intro k
    induction k with
    | zero => intro _; exact h0
    | succ k ih => intro hk; exact hI k _ (by omega) (ih (by omega))
  exact ⟨loop_for (fun k => (foldN g z k, (k : Int))) n hn rfl (fun k hk => hs k _ hk (hI' k (by omega))) (he _ (hI' n (Nat.le_refl _))), hI' n (Nat.le_refl _)⟩

/-- A sum. -/
def sumN (f : Nat → Int) : Nat → Int
  | 0 => 0
  | k + 1 => sumN f k + f k
theorem sumN_congr {f g : Nat → Int} : ∀ {n : Nat}, (∀ k, k < n → f k = g k) → sumN f n = sumN g n
  | 0, _ => rfl
  | n + 1, h => by simp only [sumN, sumN_congr (n := n) fun k hk => h k (by omega), h n (by omega)]
theorem sumN_bound {f : Nat → Int} {b : Int} : ∀ {n : Nat}, (∀ k, k < n → 0 ≤ f k ∧ f k ≤ b) → 0 ≤ sumN f n ∧ sumN f n ≤ b * n
  | 0, _ => by simp [sumN]
  | n + 1, h => by
    have h1 := sumN_bound (n := n) fun k hk => h k (by omega)
    have h2 := h n (by omega)
    simp only [sumN, Int.natCast_add, Int.mul_add]
    have : b * ((1 : Nat) : Int) = b := by simp
    omega

/-! ### Numbers -/
def isP (p : Int) : Bool := decide (p = 3) || decide (p = 5) || decide (p = 7) || decide (p = 11) || decide (p = 13)
theorem isP_cases {p : Int} (h : isP p = true) : p = 3 ∨ p = 5 ∨ p = 7 ∨ p = 11 ∨ p = 13 := by
  simp only [isP, Bool.or_eq_true, decide_eq_true_eq] at h; omega
theorem isP_le {p : Int} (h : isP p = true) : 3 ≤ p ∧ p ≤ 13 := by have := isP_cases h; omega
def isNum (p x : Int) : Bool := decide (0 ≤ x) && decide (x ≤ p - 1)
def nums (p : Int) (xs : List Int) : Bool := xs.all (isNum p)
theorem isNum_iff {p x : Int} : isNum p x = true ↔ 0 ≤ x ∧ x < p := by simp [isNum]; omega
theorem nums_iff {p : Int} {xs : List Int} : nums p xs = true ↔ ∀ x ∈ xs, 0 ≤ x ∧ x < p := by simp only [nums, List.all_eq_true, isNum_iff]

theorem s_l01Prime_eq (p : Int) : s_l01Prime p = some (isP p) := by
  unfold s_l01Prime isP
  by_cases h1 : p = 3
  · simp [h1]
  by_cases h2 : p = 5
  · simp [h2]
  by_cases h3 : p = 7
  · simp [h3]
  by_cases h4 : p = 11
  · simp [h4]
  simp [h1, h2, h3, h4, ieq]
theorem i_IsPrime_eq (p : Int) : i_IsPrime p = some (isP p) := by
  unfold i_IsPrime isP
  by_cases h1 : p = 3
  · simp [h1, ieq]
  by_cases h2 : p = 5
  · simp [h2, ieq]
  by_cases h3 : p = 7
  · simp [h3, ieq]
  by_cases h4 : p = 11
  · simp [h4, ieq]
  by_cases h5 : p = 13
  · simp [h5, ieq]
  simp [h1, h2, h3, h4, h5, ieq]
theorem s_l01In_eq (n lo hi : Int) : s_l01In n lo hi = some (decide (lo ≤ n) && decide (n ≤ hi)) := by
  unfold s_l01In
  by_cases h : lo ≤ n <;> simp [h, ile]
theorem i_inRange_eq (n lo hi : Int) : i_inRange n lo hi = some (decide (lo ≤ n) && decide (n ≤ hi)) := by
  unfold i_inRange
  by_cases h : lo ≤ n <;> simp [h, ile]
theorem s_l01Numbers_eq {p : Int} {xs : List Int} (hp : 0 ≤ p) (hp2 : p ≤ 1048576) (hl : xs.length ≤ 1048576) : s_l01Numbers p xs = some (nums p xs) := by
  unfold s_l01Numbers
  rw [all_loop _ xs.length (fun k => isNum p (gI xs k)) false (by rw [BIG_val]; omega)]
  · rw [all_rangeI xs (isNum p)]
    unfold nums
    cases xs.all (isNum p) <;> rfl
  · intro k hk hf
    unfold s_l01Numbers_L0
    simp only [show (k : Int) < xs.length by omega, if_true, idxI hk, some_bind, s_l01In_eq]
    rw [w_in (by omega) (by omega), w_in (by omega) (by omega)]
    unfold isNum at hf
    simp [hf]
  · intro k hk hf
    unfold s_l01Numbers_L0
    simp only [show (k : Int) < xs.length by omega, if_true, idxI hk, some_bind, s_l01In_eq]
    rw [w_in (by omega) (by omega)]
    unfold isNum at hf
    simp [hf]
  · unfold s_l01Numbers_L0
    simp
theorem i_field_is_eq {p : Int} {xs : List Int} (hp : 0 ≤ p) (hp2 : p ≤ 1048576) (hl : xs.length ≤ 1048576) : i_field_is p xs = some (nums p xs) := by
  unfold i_field_is
  rw [all_loop _ xs.length (fun k => isNum p (gI xs k)) false (by rw [BIG_val]; omega)]
  · rw [all_rangeI xs (isNum p)]
    unfold nums
    cases xs.all (isNum p) <;> rfl
  · intro k hk hf
    unfold i_field_is_L0
    simp only [show (k : Int) < xs.length by omega, if_true, idxI hk, some_bind, i_inRange_eq]
    rw [w_in (by omega) (by omega), w_in (by omega) (by omega)]
    unfold isNum at hf
    simp [hf]
  · intro k hk hf
    unfold i_field_is_L0
    simp only [show (k : Int) < xs.length by omega, if_true, idxI hk, some_bind, i_inRange_eq]
    rw [w_in (by omega) (by omega)]
    unfold isNum at hf
    simp [hf]
  · unfold i_field_is_L0
    simp

/-! ### Tables -/
/-- The first row's length. -/
def wid (m : List (List Int)) : Nat := (gR m 0).length
def okRow (p : Int) (n : Nat) (r : List Int) : Bool := decide (r.length = n) && nums p r
def isMat (p : Int) (m : List (List Int)) : Bool :=
  isP p && decide (1 ≤ m.length) && decide (m.length ≤ 16) && decide (1 ≤ wid m) && decide (wid m ≤ 16) && m.all (okRow p (wid m))

/-- A vector of n numbers; a table of r rows and c columns. -/
def Vec (p : Int) (n : Nat) (v : List Int) : Prop := v.length = n ∧ ∀ k, k < n → 0 ≤ gI v k ∧ gI v k < p
def Mat (p : Int) (r c : Nat) (m : List (List Int)) : Prop := m.length = r ∧ ∀ i, i < r → Vec p c (gR m i)
theorem Vec.of {p : Int} {v : List Int} (h : nums p v = true) : Vec p v.length v := by
  refine ⟨rfl, fun k hk => ?_⟩
  rw [← gI_get hk]
  exact nums_iff.1 h _ (List.getElem_mem _)
theorem Vec.nums {p : Int} {n : Nat} {v : List Int} (h : Vec p n v) : nums p v = true := by
  rw [nums_iff]
  intro x hx
  obtain ⟨k, hk, rfl⟩ := List.getElem_of_mem hx
  rw [gI_get hk]
  exact h.2 k (h.1 ▸ hk)

theorem isMat_iff {p : Int} {m : List (List Int)} : isMat p m = true ↔ isP p = true ∧ 1 ≤ m.length ∧ m.length ≤ 16 ∧ 1 ≤ wid m ∧ wid m ≤ 16 ∧ Mat p m.length (wid m) m := by
  simp only [isMat, Bool.and_eq_true, decide_eq_true_eq, and_assoc]
  refine and_congr_right fun _ => and_congr_right fun _ => and_congr_right fun _ => and_congr_right fun _ => and_congr_right fun _ => ?_
  rw [List.all_eq_true]
  constructor
  · intro h
    refine ⟨rfl, fun i hi => ?_⟩
    have := h _ (List.getElem_mem hi)
    simp only [okRow, Bool.and_eq_true, decide_eq_true_eq] at this
    rw [← gR_get hi]
    have h2 := Vec.of this.2
    rwa [this.1] at h2
  · rintro ⟨_, h⟩ r hr
    obtain ⟨k, hk, rfl⟩ := List.getElem_of_mem hr
    have := h k hk
    rw [← gR_get hk] at this
    simp only [okRow, Bool.and_eq_true, decide_eq_true_eq]
    exact ⟨this.1, this.nums⟩

abbrev szM (m : List (List Int)) : Prop := m.length ≤ 1048576 ∧ ∀ r ∈ m, r.length ≤ 1048576
theorem szM.row {m : List (List Int)} (h : szM m) {k : Nat} (hk : k < m.length) : (gR m k).length ≤ 1048576 := by
  rw [← gR_get hk]; exact h.2 _ (List.getElem_mem _)

theorem s_l02Is_eq {p : Int} {m : List (List Int)} (h : szM m) : s_l02Is p m = some (isMat p m) := by
  unfold s_l02Is
  rw [s_l01Prime_eq, some_bind]
  cases hP : isP p with
  | false => simp [isMat, hP]
  | true =>
    have hp := isP_le hP
    simp only [Bool.true_eq_false, if_false]
    by_cases h1 : m.length = 0
    · simp [isMat, h1]
    by_cases h2 : 16 < m.length
    · rw [if_neg (by omega), if_pos (by omega), some_bind, if_pos rfl]
      simp [isMat, show ¬ m.length ≤ 16 by omega]
    rw [if_neg (by omega), if_neg (by omega), idxR0 (by omega), some_bind]
    by_cases h3 : (gR m 0).length = 0
    · rw [if_pos (by omega), some_bind, if_pos rfl]
      have : ¬ 1 ≤ wid m := by unfold wid; omega
      simp [isMat, this]
    by_cases h4 : 16 < (gR m 0).length
    · rw [if_neg (by omega), some_bind]
      simp only [ilt, show (16 : Int) < (gR m 0).length by omega, decide_true, if_true]
      have : ¬ wid m ≤ 16 := by unfold wid; omega
      simp [isMat, this]
    rw [if_neg (by omega), some_bind]
    simp only [ilt, show ¬ (16 : Int) < (gR m 0).length by omega, decide_false, Bool.false_eq_true, if_false]
    rw [all_loop _ m.length (fun k => okRow p (wid m) (gR m k)) false (by rw [BIG_val]; omega)]
    · rw [some_bind, all_rangeR m (okRow p (wid m))]
      have : isMat p m = m.all (okRow p (wid m)) := by
        simp only [isMat, hP, wid, show 1 ≤ m.length by omega, show m.length ≤ 16 by omega, show 1 ≤ (gR m 0).length by omega, show (gR m 0).length ≤ 16 by omega, decide_true, Bool.and_self, Bool.true_and]
      rw [this]
      cases m.all (okRow p (wid m)) <;> rfl
    · intro k hk hf
      unfold s_l02Is_L0
      simp only [okRow, Bool.and_eq_true, decide_eq_true_eq] at hf
      have hw : (gR m k).length = (gR m 0).length := hf.1
      simp only [show (k : Int) < m.length by omega, if_true, idxR hk, idxR0 (show 0 < m.length by omega), some_bind, hw, not_true_eq_false, if_false]
      rw [s_l01Numbers_eq (by omega) (by omega) (h.row hk), some_bind, hf.2, some_bind, w_in (by omega) (by omega)]
      rfl
    · intro k hk hf
      unfold s_l02Is_L0
      simp only [show (k : Int) < m.length by omega, if_true, idxR hk, idxR0 (show 0 < m.length by omega), some_bind]
      simp only [okRow, Bool.and_eq_false_iff, decide_eq_false_iff_not] at hf
      have hw : wid m = (gR m 0).length := rfl
      rw [hw] at hf
      by_cases he : (gR m k).length = (gR m 0).length
      · rw [if_neg (by omega), s_l01Numbers_eq (by omega) (by omega) (h.row hk), some_bind]
        rcases hf with hf | hf
        · exact absurd he hf
        · rw [hf]; rfl
      · rw [if_pos (by omega)]; rfl
    · unfold s_l02Is_L0
      simp

/-- The implementation's test. -/
def tabRow (p : Int) (n : Nat) (r : List Int) : Bool := decide (r.length = n) && decide (1 ≤ r.length) && decide (r.length ≤ 16) && nums p r
def isTab (p : Int) (m : List (List Int)) : Bool := decide (m.length ≤ 16) && m.all (tabRow p (wid m))
theorem isMat_tab (p : Int) (m : List (List Int)) : isMat p m = (isP p && (decide (0 < m.length) && isTab p m)) := by
  cases m with
  | nil => simp [isMat]
  | cons r m =>
    have e : wid (r :: m) = r.length := (rfl)
    rw [Bool.eq_iff_iff]
    simp only [isMat, isTab, e, List.all_eq_true, Bool.and_eq_true, decide_eq_true_eq, okRow, tabRow]
    constructor
    · rintro ⟨⟨⟨⟨⟨h1, h2⟩, h3⟩, h4⟩, h5⟩, h6⟩
      exact ⟨h1, h2, h3, fun x hx => by obtain ⟨a, b⟩ := h6 x hx; exact ⟨⟨⟨a, by omega⟩, by omega⟩, b⟩⟩
    · rintro ⟨h1, h2, h3, h6⟩
      obtain ⟨⟨⟨a, b⟩, c⟩, d⟩ := h6 r (by simp)
      exact ⟨⟨⟨⟨⟨h1, h2⟩, h3⟩, b⟩, c⟩, fun x hx => ⟨(h6 x hx).1.1.1, (h6 x hx).2⟩⟩

theorem i_field_isTable_eq {p : Int} {m : List (List Int)} (hp : 0 ≤ p) (hp2 : p ≤ 1048576) (h : szM m) : i_field_isTable p m = some (isTab p m) := by
  unfold i_field_isTable
  by_cases h1 : 16 < m.length
  · rw [if_pos (by omega)]
    simp [isTab, show ¬ m.length ≤ 16 by omega]
  rw [if_neg (by omega), all_loop _ m.length (fun k => tabRow p (wid m) (gR m k)) false (by rw [BIG_val]; omega)]
  · rw [some_bind, all_rangeR m (tabRow p (wid m))]
    have : isTab p m = m.all (tabRow p (wid m)) := by simp only [isTab, show m.length ≤ 16 by omega, decide_true, Bool.true_and]
    rw [this]
    cases m.all (tabRow p (wid m)) <;> rfl
  · intro k hk hf
    unfold i_field_isTable_L0
    simp only [tabRow, Bool.and_eq_true, decide_eq_true_eq] at hf
    have hw : (gR m k).length = (gR m 0).length := hf.1.1.1
    simp only [show (k : Int) < m.length by omega, if_true, idxR hk, idxR0 (show 0 < m.length by omega), some_bind, hw, not_true_eq_false, if_false]
    rw [if_neg (by omega), if_neg (by omega), i_field_is_eq hp hp2 (h.row hk), some_bind, hf.2, some_bind, w_in (by omega) (by omega)]
    rfl
  · intro k hk hf
    unfold i_field_isTable_L0
    simp only [show (k : Int) < m.length by omega, if_true, idxR hk, idxR0 (show 0 < m.length by omega), some_bind]
    simp only [tabRow, Bool.and_eq_false_iff, decide_eq_false_iff_not] at hf
    have hw : wid m = (gR m 0).length := rfl
    rw [hw] at hf
    by_cases he : (gR m k).length = (gR m 0).length
    · rw [if_neg (by omega)]
      by_cases h2 : 1 ≤ (gR m k).length
      · rw [if_neg (by omega)]
        by_cases h3 : (gR m k).length ≤ 16
        · rw [if_neg (by omega), i_field_is_eq hp hp2 (h.row hk), some_bind]
          have : nums p (gR m k) = false := by
            rcases hf with ((hf | hf) | hf) | hf
            · exact absurd he hf
            · exact absurd h2 hf
            · exact absurd h3 hf
            · exact hf
          rw [this]; rfl
        · rw [if_pos (by omega)]; rfl
      · rw [if_pos (by omega)]; rfl
    · rw [if_pos (by omega)]; rfl
  · unfold i_field_isTable_L0
    simp
theorem i_field_isMatrix_eq {p : Int} {m : List (List Int)} (hP : isP p = true) (h : szM m) : i_field_isMatrix p m = some (isMat p m) := by
  have hp := isP_le hP
  unfold i_field_isMatrix
  rw [isMat_tab, hP]
  by_cases h1 : 0 < m.length
  · rw [if_pos (by omega), i_field_isTable_eq (by omega) (by omega) h]
    simp [h1]
  · rw [if_neg (by omega)]
    simp [h1]
end Go.Vam

/- Plain laws: arithmetic of rows and tables: products, sums, multiples. -/
namespace Go.Vam
open Go Go.RowKit
set_option linter.unusedSimpArgs false
set_option linter.unusedVariables false

theorem mul_abs {a b : Int} {A B : Nat} (ha : a.natAbs ≤ A) (hb : b.natAbs ≤ B) : (a * b).natAbs ≤ A * B := by
  rw [Int.natAbs_mul]; exact Nat.mul_le_mul ha hb
theorem tmod_nn {a b : Int} (h : 0 ≤ a) : a.tmod b = a % b := Int.tmod_eq_emod_of_nonneg h
theorem mod_num {a p : Int} (h : 0 < p) : 0 ≤ a % p ∧ a % p < p := ⟨Int.emod_nonneg _ (by omega), Int.emod_lt_of_pos _ h⟩
theorem tmod_bounds (n : Int) {p : Int} (h : 0 < p) : -p < n.tmod p ∧ n.tmod p < p := by
  by_cases hn : 0 ≤ n
  · rw [tmod_nn hn]; have := mod_num (a := n) h; omega
  · have e : n.tmod p = -((-n).tmod p) := by rw [Int.neg_tmod, Int.neg_neg]
    rw [e, tmod_nn (by omega)]
    have := mod_num (a := -n) h; omega
/-- Go's way to a remainder that is not negative. -/
theorem num_mod (n : Int) {p : Int} (h : 0 < p) : (n.tmod p + p).tmod p = n % p := by
  have hb := tmod_bounds n h
  rw [tmod_nn (by omega), Int.add_emod_right]
  by_cases hn : 0 ≤ n
  · rw [tmod_nn hn, Int.emod_emod_of_dvd _ (Int.dvd_refl p)]
  · have e : n.tmod p = n - p * (n.tdiv p) := by have := Int.mul_tdiv_add_tmod n p; omega
    rw [e, Int.sub_mul_emod_self_left]
theorem mod_small {a p : Int} (h0 : 0 ≤ a) (h1 : a < p) : a % p = a := Int.emod_eq_of_lt h0 h1

theorem i_field_num_eq {p n : Int} (hp : 0 < p) (hp2 : p ≤ 1048576) (h1 : -9223372036854775808 ≤ n) (h2 : n ≤ 9223372036854775807) : i_field_num p n = some (n % p) := by
  unfold i_field_num
  have hb := tmod_bounds n hp
  rw [chk_bind (by omega), chk_bind (by omega), w_in (by omega) (by omega), num_mod n hp]

/-! ### Rows -/
/-- The product of rows of n numbers. -/
def dotp (p : Int) (n : Nat) (a b : List Int) : Int := sumN (fun k => gI a k * gI b k) n % p
/-- A row and a multiple of another one. -/
def plusv (p : Int) (n : Nat) (a b : List Int) (k : Int) : List Int := vecN n fun i => (gI a i + k * gI b i) % p
def scalev (p : Int) (n : Nat) (a : List Int) (k : Int) : List Int := vecN n fun i => (gI a i * k) % p

theorem Vec.get {p : Int} {n : Nat} {v : List Int} (h : Vec p n v) {k : Nat} (hk : k < n) : 0 ≤ gI v k ∧ gI v k < p := h.2 k hk
theorem Vec.mk' {p : Int} {n : Nat} {f : Nat → Int} (h : ∀ k, k < n → 0 ≤ f k ∧ f k < p) : Vec p n (vecN n f) := ⟨vecN_len n f, fun k hk => by rw [gI_vecN f hk]; exact h k hk⟩
theorem Mat.row {p : Int} {r c : Nat} {m : List (List Int)} (h : Mat p r c m) {i : Nat} (hi : i < r) : Vec p c (gR m i) := h.2 i hi
theorem Mat.mk' {p : Int} {r c : Nat} {f : Nat → List Int} (h : ∀ i, i < r → Vec p c (f i)) : Mat p r c (vecN r f) := ⟨vecN_len r f, fun i hi => by rw [gR_vecN f hi]; exact h i hi⟩
theorem plusv_vec {p : Int} (hp : 0 < p) (n : Nat) (a b : List Int) (k : Int) : Vec p n (plusv p n a b k) := Vec.mk' fun i _ => mod_num hp
theorem scalev_vec {p : Int} (hp : 0 < p) (n : Nat) (a : List Int) (k : Int) : Vec p n (scalev p n a k) := Vec.mk' fun i _ => mod_num hp
theorem dotp_num {p : Int} (hp : 0 < p) (n : Nat) (a b : List Int) : 0 ≤ dotp p n a b ∧ dotp p n a b < p := mod_num hp

section
variable {p : Int} {n : Nat} {a b : List Int} (hp : 0 < p) (hp2 : p ≤ 13) (hn : n ≤ 1048576)

theorem sum_bound (ha : Vec p n a) (hb : Vec p n b) (hp2 : p ≤ 13) (k : Nat) (hk : k ≤ n) : 0 ≤ sumN (fun k => gI a k * gI b k) k ∧ sumN (fun k => gI a k * gI b k) k ≤ 144 * k :=
  sumN_bound fun j hj => by
    have h1 := ha.get (k := j) (by omega)
    have h2 := hb.get (k := j) (by omega)
    have h3 := mul_abs (a := gI a j) (b := gI b j) (A := 12) (B := 12) (by omega) (by omega)
    have h4 := Int.mul_nonneg h1.1 h2.1
    omega

include hp hp2 hn
theorem s_l01Dot_eq (ha : Vec p n a) (hb : Vec p n b) : s_l01Dot p a b = some (dotp p n a b) := by
  unfold s_l01Dot
  obtain ⟨h1, h2⟩ := fold_loop (s_l01Dot_L0 p a b) n (fun k s => (s + gI a k * gI b k) % p) 0 (fun _ s => 0 ≤ s ∧ s < p) id (by rw [BIG_val]; omega) (by omega) (fun k s hk _ => mod_num hp)
    (fun k s hk hs => by
      unfold s_l01Dot_L0
      have e1 := ha.1; have e2 := hb.1
      have h1 := ha.get hk; have h2 := hb.get hk
      have h3 := mul_abs (a := gI a k) (b := gI b k) (A := 12) (B := 12) (by omega) (by omega)
      have h4 := Int.mul_nonneg h1.1 h2.1
      simp only [show (k : Int) < a.length by omega, if_true, idxI (show k < a.length by omega), idxI (show k < b.length by omega), some_bind]
      rw [chk_bind (by omega), w_in (x := gI a k * gI b k) (by omega) (by omega), w_in (by omega) (by omega), w_in (by omega) (by omega), tmod_nn (by omega)]
      rfl) (fun s hs => by
      unfold s_l01Dot_L0
      have e1 := ha.1
      simp [e1])
  rw [h1, some_bind]
  have key : ∀ k, foldN (fun k s => (s + gI a k * gI b k) % p) 0 k = sumN (fun k => gI a k * gI b k) k % p := by
    intro k
    induction k with
    | zero => simp [foldN, sumN]
    | succ k ih => simp only [foldN, sumN, ih, Int.emod_add_emod]
  simp only [id, key]; rfl
theorem i_field_dot_eq (ha : Vec p n a) (hb : Vec p n b) : i_field_dot p a b = some (dotp p n a b) := by
  unfold i_field_dot
  rw [loop_for (b := sumN (fun k => gI a k * gI b k) n) (fun k => (sumN (fun k => gI a k * gI b k) k, (k : Int))) n (by rw [BIG_val]; omega) (by simp [sumN])]
  · have := sum_bound ha hb hp2 n (Nat.le_refl _)
    rw [some_bind, i_field_num_eq hp (by omega) (by omega) (by omega)]; rfl
  · intro k hk
    unfold i_field_dot_L0
    have e1 := ha.1; have e2 := hb.1
    have h1 := ha.get hk; have h2 := hb.get hk
    have h3 := mul_abs (a := gI a k) (b := gI b k) (A := 12) (B := 12) (by omega) (by omega)
    have h4 := sum_bound ha hb hp2 k (by omega)
    simp only [show (k : Int) < a.length by omega, if_true, idxI (show k < a.length by omega), idxI (show k < b.length by omega), some_bind]
    rw [w_in (x := gI a k * gI b k) (by omega) (by omega), w_in (by omega) (by omega), w_in (by omega) (by omega)]
    rfl
  · unfold i_field_dot_L0
    have e1 := ha.1
    simp [e1]

theorem i_field_plus_eq {k : Int} (hk : k.natAbs ≤ 1000) (ha : Vec p n a) (hb : Vec p n b) : i_field_plus p a b k = some (plusv p n a b k) := by
  unfold i_field_plus
  rw [map_loop _ n (fun i => (gI a i + k * gI b i) % p) (by rw [BIG_val]; omega)]
  · rfl
  · intro i hi out ho
    unfold i_field_plus_L0
    have e1 := ha.1; have e2 := hb.1
    have h1 := ha.get hi; have h2 := hb.get hi
    have h3 := mul_abs (a := k) (b := gI b i) (A := 1000) (B := 12) hk (by omega)
    simp only [show (i : Int) < a.length by omega, if_true, idxI (show i < a.length by omega), idxI (show i < b.length by omega), some_bind]
    rw [w_in (x := k * gI b i) (by omega) (by omega), w_in (x := gI a i + k * gI b i) (by omega) (by omega), i_field_num_eq hp (by omega) (by omega) (by omega), some_bind,
      chk_bind (by simp only [List.length_cons, List.length_nil]; omega), w_in (by omega) (by omega)]
    rfl
  · intro out ho
    unfold i_field_plus_L0
    have e1 := ha.1
    simp [e1]
theorem s_l02Plus_eq {k : Int} (hk : 0 ≤ k) (hk2 : k ≤ 1000) (ha : Vec p n a) (hb : Vec p n b) : s_l02Plus p a b k = some (plusv p n a b k) := by
  unfold s_l02Plus
  rw [map_loop _ n (fun i => (gI a i + k * gI b i) % p) (by rw [BIG_val]; omega)]
  · rfl
  · intro i hi out ho
    unfold s_l02Plus_L0
    have e1 := ha.1; have e2 := hb.1
    have h1 := ha.get hi; have h2 := hb.get hi
    have h3 := mul_abs (a := k) (b := gI b i) (A := 1000) (B := 12) (by omega) (by omega)
    have h4 := Int.mul_nonneg hk h2.1
    simp only [show (i : Int) < a.length by omega, if_true, idxI (show i < a.length by omega), idxI (show i < b.length by omega), some_bind]
    rw [chk_bind (by omega), w_in (x := k * gI b i) (by omega) (by omega), w_in (x := gI a i + k * gI b i) (by omega) (by omega),
      chk_bind (by simp only [List.length_cons, List.length_nil]; omega), w_in (by omega) (by omega), tmod_nn (by omega)]
    rfl
  · intro out ho
    unfold s_l02Plus_L0
    have e1 := ha.1
    simp [e1]
theorem i_field_scaled_eq {k : Int} (hk : k.natAbs ≤ 1000) (ha : Vec p n a) : i_field_scaled p a k = some (scalev p n a k) := by
  unfold i_field_scaled
  rw [map_loop _ n (fun i => (gI a i * k) % p) (by rw [BIG_val]; omega)]
  · rfl
  · intro i hi out ho
    unfold i_field_scaled_L0
    have e1 := ha.1
    have h1 := ha.get hi
    have h3 := mul_abs (a := gI a i) (b := k) (A := 12) (B := 1000) (by omega) hk
    simp only [show (i : Int) < a.length by omega, if_true, idxI (show i < a.length by omega), some_bind]
    rw [w_in (x := gI a i * k) (by omega) (by omega), i_field_num_eq hp (by omega) (by omega) (by omega), some_bind,
      chk_bind (by simp only [List.length_cons, List.length_nil]; omega), w_in (by omega) (by omega)]
    rfl
  · intro out ho
    unfold i_field_scaled_L0
    have e1 := ha.1
    simp [e1]
theorem s_l02Scale_eq {k : Int} (hk : 0 ≤ k) (hk2 : k ≤ 1000) (ha : Vec p n a) : s_l02Scale p a k = some (scalev p n a k) := by
  unfold s_l02Scale
  rw [map_loop _ n (fun i => (gI a i * k) % p) (by rw [BIG_val]; omega)]
  · rfl
  · intro i hi out ho
    unfold s_l02Scale_L0
    have e1 := ha.1
    have h1 := ha.get hi
    have h3 := mul_abs (a := gI a i) (b := k) (A := 12) (B := 1000) (by omega) (by omega)
    have h4 := Int.mul_nonneg h1.1 hk
    simp only [show (i : Int) < a.length by omega, if_true, idxI (show i < a.length by omega), some_bind]
    rw [chk_bind (by omega), w_in (x := gI a i * k) (by omega) (by omega), chk_bind (by simp only [List.length_cons, List.length_nil]; omega), w_in (by omega) (by omega), tmod_nn (by omega)]
    rfl
  · intro out ho
    unfold s_l02Scale_L0
    have e1 := ha.1
    simp [e1]
end

/-! ### Tables -/
def applyv (p : Int) (r c : Nat) (m : List (List Int)) (v : List Int) : List Int := vecN r fun i => dotp p c (gR m i) v
theorem applyv_vec {p : Int} (hp : 0 < p) (r c : Nat) (m : List (List Int)) (v : List Int) : Vec p r (applyv p r c m v) := Vec.mk' fun i _ => dotp_num hp ..
section
variable {p : Int} {r c : Nat} {m : List (List Int)} {v : List Int} (hp : 0 < p) (hp2 : p ≤ 13) (hr : r ≤ 1048576) (hc : c ≤ 1048576)
include hp hp2 hr hc
theorem s_l02Apply_eq (hm : Mat p r c m) (hv : Vec p c v) : s_l02Apply p m v = some (applyv p r c m v) := by
  unfold s_l02Apply
  rw [map_loop _ r (fun i => dotp p c (gR m i) v) (by rw [BIG_val]; omega)]
  · rfl
  · intro i hi out ho
    unfold s_l02Apply_L0
    have e1 := hm.1
    simp only [show (i : Int) < m.length by omega, if_true, idxR (show i < m.length by omega), some_bind]
    rw [s_l01Dot_eq hp hp2 hc (hm.row hi) hv, some_bind, chk_bind (by simp only [List.length_cons, List.length_nil]; omega), w_in (by omega) (by omega)]
    rfl
  · intro out ho
    unfold s_l02Apply_L0
    have e1 := hm.1
    simp [e1]
theorem i_field_apply_eq (hm : Mat p r c m) (hv : Vec p c v) : i_field_apply p m v = some (applyv p r c m v) := by
  unfold i_field_apply
  rw [map_loop _ r (fun i => dotp p c (gR m i) v) (by rw [BIG_val]; omega)]
  · rfl
  · intro i hi out ho
    unfold i_field_apply_L0
    have e1 := hm.1
    simp only [show (i : Int) < m.length by omega, if_true, idxR (show i < m.length by omega), some_bind]
    rw [i_field_dot_eq hp hp2 hc (hm.row hi) hv, some_bind, chk_bind (by simp only [List.length_cons, List.length_nil]; omega), w_in (by omega) (by omega)]
    rfl
  · intro out ho
    unfold i_field_apply_L0
    have e1 := hm.1
    simp [e1]
end

/-! ### The codes ahead -/
theorem any_loop {B : Type} (step : Int → Option (Int ⊕ (Unit ⊕ B))) (n : Nat) (f : Nat → Bool) (r : Nat → B) (hn : n < BIG)
    (hs : ∀ k, k < n → f k = false → step (k : Int) = some (.inl ((k + 1 : Nat) : Int))) (hb : ∀ k, k < n → f k = true → step (k : Int) = some (.inr (.inr (r k)))) (he : step (n : Int) = some (.inr (.inl ()))) :
    ∃ b, loop step BIG 0 = some b ∧ ((b = .inl () ∧ (List.range n).any f = false) ∨ (∃ k, k < n ∧ b = .inr (r k) ∧ f k = true ∧ (List.range n).any f = true ∧ ∀ j, j < k → f j = false)) := by
  refine loop_inv (step := step) (fun s => ∃ k : Nat, k ≤ n ∧ s = (k : Int) ∧ ∀ j, j < k → f j = false) (fun s => n - s.toNat) _ (s := 0) ⟨0, by omega, rfl, fun j hj => by omega⟩ (by show n - 0 < BIG; omega) ?_
  rintro s ⟨k, hk, rfl, ha⟩
  by_cases hkn : k < n
  · cases hf : f k with
    | false =>
      refine .inl ⟨_, hs k hkn hf, ⟨k + 1, by omega, rfl, fun j hj => ?_⟩, by simp only [Int.toNat_natCast]; omega⟩
      rcases Nat.lt_succ_iff_lt_or_eq.1 hj with h | rfl
      · exact ha j h
      · exact hf
    | true => exact .inr ⟨_, hb k hkn hf, .inr ⟨k, hkn, rfl, hf, List.any_eq_true.2 ⟨k, List.mem_range.2 hkn, hf⟩, ha⟩⟩
  · have hkk : k = n := by omega
    subst hkk
    refine .inr ⟨_, he, .inl ⟨rfl, ?_⟩⟩
    rw [List.any_eq_false]
    intro j hj
    rw [ha j (List.mem_range.1 hj)]
    simp
theorem any_range {α : Type} (xs : List α) (g : α → Bool) (z : α) : ((List.range xs.length).any fun k => g (xs.getD k z)) = xs.any g := by
  rw [Bool.eq_iff_iff, List.any_eq_true, List.any_eq_true]
  constructor
  · rintro ⟨k, hk, h⟩
    exact ⟨_, List.getElem_mem (List.mem_range.1 hk), by rwa [getD_get (List.mem_range.1 hk) z]⟩
  · rintro ⟨x, hx, h⟩
    obtain ⟨k, hk, rfl⟩ := List.getElem_of_mem hx
    exact ⟨k, List.mem_range.2 hk, by rwa [← getD_get hk z]⟩
theorem not_all {α : Type} (l : List α) (f : α → Bool) : (!l.all f) = l.any fun x => !f x := by
  induction l with
  | nil => rfl
  | cons x l ih => simp only [List.all_cons, List.any_cons, Bool.not_and, ih]

theorem i_checkMatrices_c1_eq {p : Int} {m : List (List Int)} (hP : isP p = true) (h : szM m) : i_checkMatrices_c1 m p = some (!isMat p m) := by
  unfold i_checkMatrices_c1
  rw [i_field_isMatrix_eq hP h, some_bind]
theorem containsM_eq {p : Int} {c : List (List (List Int))} (hP : isP p = true) (hc : c.length ≤ 1048576) (h : ∀ m ∈ c, szM m) :
    g_slices_ContainsFunc_LLLI_LLI_of_i_checkMatrices_c1 c p = some (!c.all (isMat p)) := by
  unfold g_slices_ContainsFunc_LLLI_LLI_of_i_checkMatrices_c1 g_slices_IndexFunc_LLLI_LLI_of_i_checkMatrices_c1
  have hget : ∀ k, k < c.length → szM (c.getD k []) := fun k hk => by rw [← getD_get hk []]; exact h _ (List.getElem_mem _)
  obtain ⟨b, h1, h2⟩ := any_loop (g_slices_IndexFunc_LLLI_LLI_of_i_checkMatrices_c1_L0 c p) c.length (fun k => !isMat p (c.getD k [])) (fun k => (k : Int)) (by rw [BIG_val]; omega)
    (fun k hk hf => by
      unfold g_slices_IndexFunc_LLLI_LLI_of_i_checkMatrices_c1_L0
      simp only [show (k : Int) < c.length by omega, if_true, idxD hk [], some_bind, i_checkMatrices_c1_eq hP (hget k hk)]
      rw [hf, w_in (by omega) (by omega)]; rfl) (fun k hk hf => by
      unfold g_slices_IndexFunc_LLLI_LLI_of_i_checkMatrices_c1_L0
      simp only [show (k : Int) < c.length by omega, if_true, idxD hk [], some_bind, i_checkMatrices_c1_eq hP (hget k hk)]
      rw [hf]; rfl) (by
      unfold g_slices_IndexFunc_LLLI_LLI_of_i_checkMatrices_c1_L0
      simp)
  rw [h1, some_bind]
  have e : (!c.all (isMat p)) = (List.range c.length).any fun k => !isMat p (c.getD k []) := by
    rw [any_range c (fun m => !isMat p m) [], not_all]
  rw [e]
  rcases h2 with ⟨rfl, h3⟩ | ⟨k, hk, rfl, hf, h3, _⟩
  · rw [h3]; rfl
  · rw [h3]
    simp [ile]
/-- The code of a check for tables. -/
theorem i_checkMatrices_eq {p : Int} {c : List (List (List Int))} (hc : c.length ≤ 1048576) (h : ∀ m ∈ c, szM m) : i_checkMatrices p c = some (if isP p && c.all (isMat p) then 0 else 1) := by
  unfold i_checkMatrices
  rw [i_IsPrime_eq, some_bind]
  cases hP : isP p with
  | false => simp
  | true =>
    simp only [Bool.true_eq_false, if_false]
    rw [containsM_eq hP hc h, some_bind, some_bind]
    cases c.all (isMat p) <;> rfl
theorem checkM1 {p : Int} {m : List (List Int)} (h : szM m) : i_checkMatrices p [m] = some (if isMat p m then 0 else 1) := by
  rw [i_checkMatrices_eq (by simp) (by simpa using h)]
  congr 2
  simp only [List.all_cons, List.all_nil, Bool.and_true]
  cases hm : isMat p m with
  | false => simp
  | true => simp [(isMat_iff.1 hm).1]
theorem checkM2 {p : Int} {a b : List (List Int)} (ha : szM a) (hb : szM b) : i_checkMatrices p [a, b] = some (if isMat p a && isMat p b then 0 else 1) := by
  rw [i_checkMatrices_eq (by simp) (by simpa using ⟨ha, hb⟩)]
  congr 2
  simp only [List.all_cons, List.all_nil, Bool.and_true]
  cases hm : isMat p a with
  | false => simp
  | true => simp [(isMat_iff.1 hm).1]
end Go.Vam

/- Plain laws: the laws of applying, adding, scaling tables. -/
namespace Go.Vam
open Go Go.RowKit
set_option linter.unusedSimpArgs false
set_option linter.unusedVariables false

theorem isMat_sz {p : Int} {m : List (List Int)} (h : isMat p m = true) : m.length ≤ 16 ∧ wid m ≤ 16 ∧ Mat p m.length (wid m) m ∧ isP p = true ∧ 1 ≤ m.length ∧ 1 ≤ wid m := by
  obtain ⟨a, b, c, d, e, f⟩ := isMat_iff.1 h
  exact ⟨c, e, f, a, b, d⟩

/-! ### Results' sizes -/
theorem vec_sz {p : Int} {n : Nat} {v : List Int} (h : Vec p n v) : v.length = n := h.1
theorem rowsum_vecN (r c : Nat) (f : Nat → List Int) (h : ∀ i, i < r → (f i).length = c) : rowsum (vecN r f) = r * c := by
  unfold rowsum
  have : (vecN r f).map List.length = List.replicate r c := by
    apply List.ext_getElem
    · simp
    · intro k h1 h2
      simp only [List.getElem_map, List.getElem_replicate]
      rw [vecN_get]
      exact h k (by simpa using h1)
  rw [this]; simp
theorem mat_rowsum {p : Int} {r c : Nat} {m : List (List Int)} (h : Mat p r c m) : rowsum m = r * c := by
  have e : m = vecN r (gR m) := extR h.1 fun k hk => rfl
  rw [e]; exact rowsum_vecN r c _ fun i hi => (h.row hi).1

/-! ### Applying -/
def apV (p : Int) (m : List (List Int)) (v : List Int) : List Int := if isMat p m then (if v.length = wid m ∧ nums p v = true then applyv p m.length (wid m) m v else []) else []
def apC (p : Int) (m : List (List Int)) (v : List Int) : Int := if isMat p m then (if v.length = wid m ∧ nums p v = true then 0 else 2) else 1
theorem s_ApplyMatrix_eq {p : Int} {m : List (List Int)} {v : List Int} (h : szM m) (hv : v.length ≤ 1048576) : s_ApplyMatrix p m v = some (apV p m v, apC p m v) := by
  unfold s_ApplyMatrix apV apC
  rw [s_l02Is_eq h, some_bind]
  cases hm : isMat p m with
  | false => simp
  | true =>
    obtain ⟨h1, h2, h3, hP, h4, h5⟩ := isMat_sz hm
    have hp := isP_le hP
    simp only [Bool.true_eq_false, if_false, if_true]
    rw [idxR0 (by omega), some_bind]
    have hw : (gR m 0).length = wid m := rfl
    by_cases hl : v.length = wid m
    · rw [if_neg (by omega), s_l01Numbers_eq (by omega) (by omega) hv, some_bind, some_bind]
      cases hn : nums p v with
      | false => simp [hl]
      | true =>
        have hvv : Vec p (wid m) v := hl ▸ Vec.of hn
        simp only [Bool.not_true, Bool.false_eq_true, if_false, hl, and_self, if_true]
        rw [s_l02Apply_eq (by omega) (by omega) (by omega) (by omega) h3 hvv, some_bind]
    · rw [if_pos (by omega), some_bind]
      simp [hl]
theorem i_ApplyMatrix_eq {p : Int} {m : List (List Int)} {v : List Int} (h : szM m) (hv : v.length ≤ 1048576) : i_ApplyMatrix p m v = some (apV p m v, apC p m v) := by
  unfold i_ApplyMatrix apV apC
  rw [checkM1 h, some_bind]
  cases hm : isMat p m with
  | false => simp
  | true =>
    obtain ⟨h1, h2, h3, hP, h4, h5⟩ := isMat_sz hm
    have hp := isP_le hP
    simp only [if_true, not_true_eq_false, if_false]
    rw [idxR0 (by omega), some_bind]
    have hw : (gR m 0).length = wid m := rfl
    by_cases hl : v.length = wid m
    · rw [if_neg (by omega), i_field_is_eq (by omega) (by omega) hv, some_bind, some_bind]
      cases hn : nums p v with
      | false => simp [hl]
      | true =>
        have hvv : Vec p (wid m) v := hl ▸ Vec.of hn
        simp only [Bool.not_true, Bool.false_eq_true, if_false, hl, and_self, if_true]
        rw [i_field_apply_eq (by omega) (by omega) (by omega) (by omega) h3 hvv, some_bind]
    · rw [if_pos (by omega), some_bind]
      simp [hl]
theorem apV_sz (p : Int) (m : List (List Int)) (v : List Int) : (apV p m v).length ≤ 16 := by
  unfold apV
  split
  · rename_i h
    split
    · simp [applyv, (isMat_sz h).1]
    · simp
  · simp

theorem LawApply {p : Int} {m : List (List Int)} {v : List Int} (hm : lenM m) (hv : lenI v) : l_FnExactApplyMatrix p m v = some true := by
  unfold l_FnExactApplyMatrix
  by_cases h1 : 1048576 < (v.length : Int)
  · rw [if_pos h1]
  rw [if_neg h1, szM_eq hm (by omega) (by omega), some_bind]
  by_cases h2 : ((m.length + rowsum m : Nat) : Int) ≤ 1048576
  · have hs : szv (m.length + rowsum m) 1048576 = 1048576 - ((m.length + rowsum m : Nat) : Int) := by unfold szv; rw [if_pos h2]
    rw [hs, if_neg (by omega)]
    have hsz : szM m := ⟨by omega, fun r hr => by have := rowsum_mem hr; omega⟩
    have hr := apV_sz p m v
    have e1 := toM_eq hsz.1 hsz.2
    have e2 : l_toInt64S v = some v := toI_eq (by omega)
    have e3 := s_ApplyMatrix_eq (p := p) hsz (v := v) (by omega)
    have e4 := i_ApplyMatrix_eq (p := p) hsz (v := v) (by omega)
    have e5 : l_eqInt64S (apV p m v) (apV p m v) = some true := by rw [eqI_eq _ _ (by omega)]; simp
    have e6 : l_eqInt64SS m m = some true := by rw [eqM_eq _ _ hsz.1 hsz.2]; simp
    have e7 : l_eqInt64S v v = some true := by rw [eqI_eq _ _ (by omega)]; simp
    have e8 := markM_1 hsz.1 (m := m) (by omega)
    have e9 : l_markInt64S v ((1 + rowsum m : Nat) : Int) = some (((1 + rowsum m + v.length : Nat) : Int), mrkI (1 + rowsum m) v) := markI_eq (by omega)
    have e10 := markI_1 (xs := apV p m v) (by omega)
    have e11 := heldI_1 (xs := apV p m v) (by omega)
    simp only [e1, e2, e3, e4, e5, e6, e7, e8, e9, e10, e11, some_bind, Bool.true_eq_false, Bool.false_eq_true, if_false, if_true, ieq_self, Bool.not_true, natneg, not_true_eq_false]
  · have hs : szv (m.length + rowsum m) 1048576 = -1 := by unfold szv; rw [if_neg h2]
    rw [hs, if_pos (by omega)]

/-! ### Adding -/
def addm (p : Int) (r c : Nat) (a b : List (List Int)) : List (List Int) := vecN r fun i => plusv p c (gR a i) (gR b i) 1
theorem addm_mat {p : Int} (hp : 0 < p) (r c : Nat) (a b : List (List Int)) : Mat p r c (addm p r c a b) := Mat.mk' fun i _ => plusv_vec hp ..
def adV (p : Int) (a b : List (List Int)) : List (List Int) := if isMat p a && isMat p b then (if a.length = b.length ∧ wid a = wid b then addm p a.length (wid a) a b else []) else []
def adC (p : Int) (a b : List (List Int)) : Int := if isMat p a && isMat p b then (if a.length = b.length ∧ wid a = wid b then 0 else 2) else 1
section
variable {p : Int} {r c : Nat} {a b : List (List Int)} (hp : 0 < p) (hp2 : p ≤ 13) (hr : r ≤ 1048576) (hc : c ≤ 1048576) (ha : Mat p r c a) (hb : Mat p r c b)
include hp hp2 hr hc ha hb
theorem s_add_loop : loop (s_AddMatrices_L0 p a b) BIG ([], 0) = some (addm p r c a b) := by
  rw [map_loop _ r (fun i => plusv p c (gR a i) (gR b i) 1) (by rw [BIG_val]; omega)]
  · rfl
  · intro i hi out ho
    unfold s_AddMatrices_L0
    have e1 := ha.1; have e2 := hb.1
    simp only [show (i : Int) < a.length by omega, if_true, idxR (show i < a.length by omega), idxR (show i < b.length by omega), some_bind]
    rw [s_l02Plus_eq hp hp2 hc (by omega) (by omega) (ha.row hi) (hb.row hi), some_bind, chk_bind (by simp only [List.length_cons, List.length_nil]; omega), w_in (by omega) (by omega)]
    rfl
  · intro out ho
    unfold s_AddMatrices_L0
    have e1 := ha.1
    simp [e1]
theorem i_add_loop : loop (i_AddMatrices_L0 p a b) BIG ([], 0) = some (addm p r c a b) := by
  rw [map_loop _ r (fun i => plusv p c (gR a i) (gR b i) 1) (by rw [BIG_val]; omega)]
  · rfl
  · intro i hi out ho
    unfold i_AddMatrices_L0
    have e1 := ha.1; have e2 := hb.1
    simp only [show (i : Int) < a.length by omega, if_true, idxR (show i < a.length by omega), idxR (show i < b.length by omega), some_bind]
    rw [i_field_plus_eq hp hp2 hc (by omega) (ha.row hi) (hb.row hi), some_bind, chk_bind (by simp only [List.length_cons, List.length_nil]; omega), w_in (by omega) (by omega)]
    rfl
  · intro out ho
    unfold i_AddMatrices_L0
    have e1 := ha.1
    simp [e1]
end
theorem s_AddMatrices_eq {p : Int} {a b : List (List Int)} (ha : szM a) (hb : szM b) : s_AddMatrices p a b = some (adV p a b, adC p a b) := by
  unfold s_AddMatrices adV adC
  rw [s_l02Is_eq ha, some_bind]
  cases hma : isMat p a with
  | false => simp
  | true =>
    simp only [Bool.true_eq_false, if_false, Bool.true_and]
    rw [s_l02Is_eq hb, some_bind, some_bind]
    cases hmb : isMat p b with
    | false => simp
    | true =>
      obtain ⟨h1, h2, h3, hP, h4, h5⟩ := isMat_sz hma
      obtain ⟨g1, g2, g3, _, g4, g5⟩ := isMat_sz hmb
      have hp := isP_le hP
      simp only [Bool.not_true, Bool.false_eq_true, if_false, if_true]
      have hw : (gR a 0).length = wid a := rfl
      have hw' : (gR b 0).length = wid b := rfl
      by_cases hl : a.length = b.length
      · rw [if_neg (by omega), idxR0 (by omega), some_bind, idxR0 (by omega), some_bind, some_bind, hw, hw']
        by_cases hc : wid a = wid b
        · have e : ieq (wid a : Int) (wid b : Int) = true := by simp [ieq, hc]
          rw [e]
          simp only [Bool.not_true, Bool.false_eq_true, if_false]
          rw [s_add_loop (by omega) (by omega) (by omega) (by omega) h3 (hl ▸ hc ▸ g3), some_bind]
          simp [hl, hc]
        · have e : ieq (wid a : Int) (wid b : Int) = false := by simp [ieq]; omega
          rw [e]
          simp [hc]
      · rw [if_pos (by omega), some_bind]
        simp [hl]
theorem i_AddMatrices_eq {p : Int} {a b : List (List Int)} (ha : szM a) (hb : szM b) : i_AddMatrices p a b = some (adV p a b, adC p a b) := by
  unfold i_AddMatrices adV adC
  rw [checkM2 ha hb, some_bind]
  cases hma : isMat p a with
  | false => simp
  | true =>
    simp only [Bool.true_and]
    cases hmb : isMat p b with
    | false => simp
    | true =>
      obtain ⟨h1, h2, h3, hP, h4, h5⟩ := isMat_sz hma
      obtain ⟨g1, g2, g3, _, g4, g5⟩ := isMat_sz hmb
      have hp := isP_le hP
      simp only [if_true, not_true_eq_false, if_false]
      have hw : (gR a 0).length = wid a := rfl
      have hw' : (gR b 0).length = wid b := rfl
      by_cases hl : a.length = b.length
      · rw [if_neg (by omega), idxR0 (by omega), some_bind, idxR0 (by omega), some_bind, some_bind, hw, hw']
        by_cases hc : wid a = wid b
        · have e : ieq (wid a : Int) (wid b : Int) = true := by simp [ieq, hc]
          rw [e]
          simp only [Bool.not_true, Bool.false_eq_true, if_false]
          rw [i_add_loop (by omega) (by omega) (by omega) (by omega) h3 (hl ▸ hc ▸ g3), some_bind]
          simp [hl, hc]
        · have e : ieq (wid a : Int) (wid b : Int) = false := by simp [ieq]; omega
          rw [e]
          simp [hc]
      · rw [if_pos (by omega), some_bind]
        simp [hl]

/-- A table that is small. -/
def smallM (m : List (List Int)) : Prop := m.length ≤ 1048576 ∧ (∀ r ∈ m, r.length ≤ 1048576) ∧ rowsum m ≤ 1048576
theorem smallM.nil : smallM [] := ⟨by simp, by simp, by simp [rowsum]⟩
theorem smallM.of {p : Int} {r c : Nat} {m : List (List Int)} (h : Mat p r c m) (hr : r ≤ 1024) (hc : c ≤ 1024) : smallM m := by
  refine ⟨by have := h.1; omega, fun x hx => ?_, ?_⟩
  · obtain ⟨k, hk, rfl⟩ := List.getElem_of_mem hx
    have h1 := h.1
    rw [gR_get hk]
    have := (h.row (i := k) (by omega)).1
    omega
  · rw [mat_rowsum h]
    exact Nat.le_trans (Nat.mul_le_mul hr hc) (by decide)
theorem adV_sz (p : Int) (a b : List (List Int)) : smallM (adV p a b) := by
  unfold adV
  split
  · rename_i h
    simp only [Bool.and_eq_true] at h
    obtain ⟨h1, h2, h3, hP, h4, h5⟩ := isMat_sz h.1
    have hp := isP_le hP
    split
    · exact smallM.of (addm_mat (by omega) ..) (by omega) (by omega)
    · exact smallM.nil
  · exact smallM.nil

/-- What is known of an argument that passed the law's size check. -/
theorem sz_split {m : List (List Int)} {left : Int} (hl : left ≤ 1048576) (h : ((m.length + rowsum m : Nat) : Int) ≤ left) : szM m ∧ rowsum m ≤ 1048576 := by
  exact ⟨⟨by omega, fun r hr => by have := rowsum_mem hr; omega⟩, by omega⟩
theorem eqM_self {m : List (List Int)} (h : szM m) : l_eqInt64SS m m = some true := by rw [eqM_eq _ _ h.1 h.2]; simp
theorem eqI_self {v : List Int} (h : v.length ≤ 1048576) : l_eqInt64S v v = some true := by rw [eqI_eq _ _ h]; simp

theorem LawAdd {p : Int} {a b : List (List Int)} (ha : lenM a) (hb : lenM b) : l_FnExactAddMatrices p a b = some true := by
  unfold l_FnExactAddMatrices
  rw [szM_eq ha (by omega) (by omega), some_bind]
  by_cases h1 : ((a.length + rowsum a : Nat) : Int) ≤ 1048576
  · have hs : szv (a.length + rowsum a) 1048576 = 1048576 - ((a.length + rowsum a : Nat) : Int) := by unfold szv; rw [if_pos h1]
    rw [hs, if_neg (by omega), szM_eq hb (by omega) (by omega), some_bind]
    by_cases h2 : ((b.length + rowsum b : Nat) : Int) ≤ 1048576 - ((a.length + rowsum a : Nat) : Int)
    · have hs2 : szv (b.length + rowsum b) (1048576 - ((a.length + rowsum a : Nat) : Int)) = 1048576 - ((a.length + rowsum a : Nat) : Int) - ((b.length + rowsum b : Nat) : Int) := by unfold szv; rw [if_pos h2]
      rw [hs2, if_neg (by omega)]
      obtain ⟨za, ra⟩ := sz_split (m := a) (by omega) h1
      obtain ⟨zb, rb⟩ := sz_split (m := b) (by omega) h2
      obtain ⟨z1, z2, z3⟩ := adV_sz p a b
      have e1 := toM_eq za.1 za.2
      have e2 := toM_eq zb.1 zb.2
      have e3 := s_AddMatrices_eq (p := p) za zb
      have e4 := i_AddMatrices_eq (p := p) za zb
      have e5 := eqM_self ⟨z1, z2⟩
      have e6 := eqM_self za
      have e7 := eqM_self zb
      have e8 := markM_1 za.1 ra
      have e9 : l_markInt64SS b ((1 + rowsum a : Nat) : Int) = some (((1 + rowsum a + rowsum b : Nat) : Int), mrkM (1 + rowsum a) b) := markM_eq (by have := zb.1; omega) (by omega)
      have e10 := markM_1 z1 z3
      have e11 := heldM_1 z1 z3
      simp only [e1, e2, e3, e4, e5, e6, e7, e8, e9, e10, e11, some_bind, Bool.true_eq_false, Bool.false_eq_true, if_false, if_true, ieq_self, Bool.not_true, natneg, not_true_eq_false]
    · have hs2 : szv (b.length + rowsum b) (1048576 - ((a.length + rowsum a : Nat) : Int)) = -1 := by unfold szv; rw [if_neg h2]
      rw [hs2, if_pos (by omega)]
  · have hs : szv (a.length + rowsum a) 1048576 = -1 := by unfold szv; rw [if_neg h1]
    rw [hs, if_pos (by omega)]

/-! ### Scaling -/
def scalem (p : Int) (r c : Nat) (a : List (List Int)) (k : Int) : List (List Int) := vecN r fun i => scalev p c (gR a i) k
def scV (p : Int) (a : List (List Int)) (k : Int) : List (List Int) := if isMat p a then (if isNum p k then scalem p a.length (wid a) a k else []) else []
def scC (p : Int) (a : List (List Int)) (k : Int) : Int := if isMat p a then (if isNum p k then 0 else 2) else 1
theorem scV_sz (p : Int) (a : List (List Int)) (k : Int) : smallM (scV p a k) := by
  unfold scV
  split
  · rename_i h
    obtain ⟨h1, h2, h3, hP, h4, h5⟩ := isMat_sz h
    have hp := isP_le hP
    split
    · exact smallM.of (Mat.mk' fun i _ => scalev_vec (p := p) (by omega) ..) (r := a.length) (c := wid a) (by omega) (by omega)
    · exact smallM.nil
  · exact smallM.nil
theorem s_ScaleMatrix_eq {p k : Int} {a : List (List Int)} (ha : szM a) : s_ScaleMatrix p a k = some (scV p a k, scC p a k) := by
  unfold s_ScaleMatrix scV scC
  rw [s_l02Is_eq ha, some_bind]
  cases hma : isMat p a with
  | false => simp
  | true =>
    obtain ⟨h1, h2, h3, hP, h4, h5⟩ := isMat_sz hma
    have hp := isP_le hP
    simp only [Bool.true_eq_false, if_false, if_true]
    rw [w_in (by omega) (by omega), s_l01In_eq, some_bind]
    have e : (decide (0 ≤ k) && decide (k ≤ p - 1)) = isNum p k := rfl
    rw [e]
    cases hk : isNum p k with
    | false => simp
    | true =>
      have hk' := isNum_iff.1 hk
      simp only [Bool.true_eq_false, if_false, if_true]
      rw [map_loop _ a.length (fun i => scalev p (wid a) (gR a i) k) (by rw [BIG_val]; omega)]
      · rfl
      · intro i hi out ho
        unfold s_ScaleMatrix_L0
        simp only [show (i : Int) < a.length by omega, if_true, idxR hi, some_bind]
        rw [s_l02Scale_eq (by omega) (by omega) (by omega) (by omega) (by omega) (h3.row hi), some_bind, chk_bind (by simp only [List.length_cons, List.length_nil]; omega), w_in (by omega) (by omega)]
        rfl
      · intro out ho
        unfold s_ScaleMatrix_L0
        simp
theorem i_ScaleMatrix_eq {p k : Int} {a : List (List Int)} (ha : szM a) : i_ScaleMatrix p a k = some (scV p a k, scC p a k) := by
  unfold i_ScaleMatrix scV scC
  rw [checkM1 ha, some_bind]
  cases hma : isMat p a with
  | false => simp
  | true =>
    obtain ⟨h1, h2, h3, hP, h4, h5⟩ := isMat_sz hma
    have hp := isP_le hP
    simp only [if_true, not_true_eq_false, if_false]
    rw [i_field_is_eq (by omega) (by omega) (by simp), some_bind]
    have e : nums p [k] = isNum p k := by simp [nums]
    rw [e]
    cases hk : isNum p k with
    | false => simp
    | true =>
      have hk' := isNum_iff.1 hk
      simp only [Bool.true_eq_false, if_false, if_true]
      rw [map_loop _ a.length (fun i => scalev p (wid a) (gR a i) k) (by rw [BIG_val]; omega)]
      · rfl
      · intro i hi out ho
        unfold i_ScaleMatrix_L0
        simp only [show (i : Int) < a.length by omega, if_true, idxR hi, some_bind]
        rw [i_field_scaled_eq (by omega) (by omega) (by omega) (by omega) (h3.row hi), some_bind, chk_bind (by simp only [List.length_cons, List.length_nil]; omega), w_in (by omega) (by omega)]
        rfl
      · intro out ho
        unfold i_ScaleMatrix_L0
        simp
theorem LawScale {p k : Int} {a : List (List Int)} (ha : lenM a) : l_FnExactScaleMatrix p a k = some true := by
  unfold l_FnExactScaleMatrix
  rw [szM_eq ha (by omega) (by omega), some_bind]
  by_cases h1 : ((a.length + rowsum a : Nat) : Int) ≤ 1048576
  · have hs : szv (a.length + rowsum a) 1048576 = 1048576 - ((a.length + rowsum a : Nat) : Int) := by unfold szv; rw [if_pos h1]
    rw [hs, if_neg (by omega)]
    obtain ⟨za, ra⟩ := sz_split (m := a) (by omega) h1
    obtain ⟨z1, z2, z3⟩ := scV_sz p a k
    have e1 := toM_eq za.1 za.2
    have e3 := s_ScaleMatrix_eq (p := p) (k := k) za
    have e4 := i_ScaleMatrix_eq (p := p) (k := k) za
    have e5 := eqM_self ⟨z1, z2⟩
    have e6 := eqM_self za
    have e8 := markM_1 za.1 ra
    have e10 := markM_1 z1 z3
    have e11 := heldM_1 z1 z3
    simp only [e1, e3, e4, e5, e6, e8, e10, e11, some_bind, Bool.true_eq_false, Bool.false_eq_true, if_false, if_true, ieq_self, Bool.not_true, natneg, not_true_eq_false]
  · have hs : szv (a.length + rowsum a) 1048576 = -1 := by unfold szv; rw [if_neg h1]
    rw [hs, if_pos (by omega)]
end Go.Vam

/- Plain laws: copies, turned tables, products of tables, powers, inverses of numbers. -/
namespace Go.Vam
open Go Go.RowKit
set_option linter.unusedSimpArgs false
set_option linter.unusedVariables false

/-! ### Copies -/
theorem clone_eq {v : List Int} (h : v.length ≤ 1048576) : g_slices_Clone_LI_I v = some v := by
  unfold g_slices_Clone_LI_I
  rw [chk_bind (by omega)]
theorem s_l01Own_eq {v : List Int} (h : v.length ≤ 1048576) : s_l01Own v = some v := by
  unfold s_l01Own
  rw [chk_bind (by simp only [List.length_nil]; omega)]
  rfl
theorem vecN_self (m : List (List Int)) : vecN m.length (gR m) = m := (extR rfl fun k _ => rfl).symm
theorem i_cloneRows_eq {m : List (List Int)} (h : szM m) : i_cloneRows m = some m := by
  unfold i_cloneRows
  rw [map_loop _ m.length (gR m) (by have := h.1; rw [BIG_val]; omega)]
  · rw [vecN_self]; rfl
  · intro i hi out ho
    unfold i_cloneRows_L0
    have := h.1
    simp only [show (i : Int) < m.length by omega, if_true, idxR hi, some_bind]
    rw [clone_eq (h.row hi), some_bind, chk_bind (by simp only [List.length_cons, List.length_nil]; omega), w_in (by omega) (by omega)]
    rfl
  · intro out ho
    unfold i_cloneRows_L0
    simp
theorem s_l01Own2_eq {m : List (List Int)} (h : szM m) : s_l01Own2 m = some m := by
  unfold s_l01Own2
  rw [map_loop _ m.length (gR m) (by have := h.1; rw [BIG_val]; omega)]
  · rw [vecN_self]; rfl
  · intro i hi out ho
    unfold s_l01Own2_L0
    have := h.1
    simp only [show (i : Int) < m.length by omega, if_true, idxR hi, some_bind]
    rw [s_l01Own_eq (h.row hi), some_bind, chk_bind (by simp only [List.length_cons, List.length_nil]; omega), w_in (by omega) (by omega)]
    rfl
  · intro out ho
    unfold s_l01Own2_L0
    simp
theorem Mat.sz {p : Int} {r c : Nat} {m : List (List Int)} (h : Mat p r c m) (hr : r ≤ 1048576) (hc : c ≤ 1048576) : szM m := by
  refine ⟨by have := h.1; omega, fun x hx => ?_⟩
  obtain ⟨k, hk, rfl⟩ := List.getElem_of_mem hx
  have h1 := h.1
  rw [gR_get hk, (h.row (i := k) (by omega)).1]
  exact hc

/-! ### Turned tables -/
def turnm (r c : Nat) (m : List (List Int)) : List (List Int) := vecN c fun k => vecN r fun i => gI (gR m i) k
theorem turnm_mat {p : Int} {r c : Nat} {m : List (List Int)} (h : Mat p r c m) : Mat p c r (turnm r c m) :=
  Mat.mk' fun k hk => Vec.mk' fun i hi => (h.row hi).get hk
theorem turnm_at {r c : Nat} {m : List (List Int)} {i k : Nat} (hi : i < r) (hk : k < c) : gI (gR (turnm r c m) k) i = gI (gR m i) k := by
  unfold turnm; rw [gR_vecN _ hk, gI_vecN _ hi]
section
variable {p : Int} {r c : Nat} {m : List (List Int)} (hr0 : 0 < r) (hr : r ≤ 1048576) (hc : c ≤ 1048576) (hm : Mat p r c m)
include hr0 hr hc hm
theorem i_transpose_eq : i_transpose m = some (turnm r c m) := by
  unfold i_transpose
  have e1 := hm.1
  have e2 := (hm.row (i := 0) hr0).1
  rw [idxR0 (by omega), some_bind, map_loop _ c (fun k => vecN r fun i => gI (gR m i) k) (by rw [BIG_val]; omega)]
  · rfl
  · intro k hk out ho
    unfold i_transpose_L0
    simp only [show (k : Int) < (gR m 0).length by omega, if_true]
    rw [map_loop _ r (fun i => gI (gR m i) k) (by rw [BIG_val]; omega)]
    · rw [some_bind, chk_bind (by simp only [List.length_cons, List.length_nil]; omega), w_in (by omega) (by omega)]; rfl
    · intro i hi o2 ho2
      unfold i_transpose_L1
      have e3 := (hm.row hi).1
      simp only [show (i : Int) < m.length by omega, if_true, idxR (show i < m.length by omega), idxI (show k < (gR m i).length by omega), some_bind]
      rw [chk_bind (by simp only [List.length_cons, List.length_nil]; omega), w_in (by omega) (by omega)]; rfl
    · intro o2 ho2
      unfold i_transpose_L1
      simp [e1]
  · intro out ho
    unfold i_transpose_L0
    simp [e2]
theorem s_l02Turn_eq : s_l02Turn m = some (turnm r c m) := by
  unfold s_l02Turn
  have e1 := hm.1
  have e2 := (hm.row (i := 0) hr0).1
  rw [map_loop _ c (fun k => vecN r fun i => gI (gR m i) k) (by rw [BIG_val]; omega)]
  · rfl
  · intro k hk out ho
    unfold s_l02Turn_L0
    simp only [idxR0 (show 0 < m.length by omega), some_bind, show (k : Int) < (gR m 0).length by omega, if_true]
    rw [map_loop _ r (fun i => gI (gR m i) k) (by rw [BIG_val]; omega)]
    · rw [some_bind, chk_bind (by simp only [List.length_cons, List.length_nil]; omega), w_in (by omega) (by omega)]; rfl
    · intro i hi o2 ho2
      unfold s_l02Turn_L1
      have e3 := (hm.row hi).1
      simp only [show (i : Int) < m.length by omega, if_true, idxR (show i < m.length by omega), idxI (show k < (gR m i).length by omega), some_bind]
      rw [chk_bind (by simp only [List.length_cons, List.length_nil]; omega), w_in (by omega) (by omega)]; rfl
    · intro o2 ho2
      unfold s_l02Turn_L1
      simp [e1]
  · intro out ho
    unfold s_l02Turn_L0
    simp only [idxR0 (show 0 < m.length by omega), some_bind]
    simp [e2]
end

/-! ### Products -/
def timesm (p : Int) (r n c : Nat) (a b : List (List Int)) : List (List Int) := vecN r fun i => vecN c fun k => sumN (fun j => gI (gR a i) j * gI (gR b j) k) n % p
theorem timesm_mat {p : Int} (hp : 0 < p) (r n c : Nat) (a b : List (List Int)) : Mat p r c (timesm p r n c a b) := Mat.mk' fun i _ => Vec.mk' fun k _ => mod_num hp
section
variable {p : Int} {r n c : Nat} {a b : List (List Int)} (hp : 0 < p) (hp2 : p ≤ 13) (hr : r ≤ 1048576) (hn0 : 0 < n) (hn : n ≤ 1048576) (hc : c ≤ 1048576) (ha : Mat p r n a) (hb : Mat p n c b)
include hp hp2 hr hn0 hn hc ha hb
theorem i_field_times_eq : i_field_times p a b = some (timesm p r n c a b) := by
  unfold i_field_times
  rw [i_transpose_eq hn0 hn hc hb, some_bind]
  have e1 := ha.1
  have ht := turnm_mat hb
  rw [map_loop _ r (fun i => applyv p c n (turnm n c b) (gR a i)) (by rw [BIG_val]; omega)]
  · rw [some_bind]
    congr 1
    unfold timesm
    refine vecN_congr fun i hi => ?_
    unfold applyv
    refine vecN_congr fun k hk => ?_
    unfold dotp
    congr 1
    refine sumN_congr fun j hj => ?_
    rw [turnm_at hj hk, Int.mul_comm]
  · intro i hi out ho
    unfold i_field_times_L0
    simp only [show (i : Int) < a.length by omega, if_true, idxR (show i < a.length by omega), some_bind]
    rw [i_field_apply_eq hp hp2 hc hn ht (ha.row hi), some_bind, chk_bind (by simp only [List.length_cons, List.length_nil]; omega), w_in (by omega) (by omega)]
    rfl
  · intro out ho
    unfold i_field_times_L0
    simp [e1]
theorem s_l02Times_eq : s_l02Times p a b = some (timesm p r n c a b) := by
  unfold s_l02Times
  have e1 := ha.1
  have e2 := hb.1
  have e4 := (hb.row (i := 0) hn0).1
  rw [map_loop _ r (fun i => vecN c fun k => sumN (fun j => gI (gR a i) j * gI (gR b j) k) n % p) (by rw [BIG_val]; omega)]
  · rfl
  · intro i hi out ho
    unfold s_l02Times_L0
    simp only [show (i : Int) < a.length by omega, if_true]
    rw [map_loop _ c (fun k => sumN (fun j => gI (gR a i) j * gI (gR b j) k) n % p) (by rw [BIG_val]; omega)]
    · rw [some_bind, chk_bind (by simp only [List.length_cons, List.length_nil]; omega), w_in (by omega) (by omega)]; rfl
    · intro k hk o2 ho2
      unfold s_l02Times_L1
      simp only [idxR0 (show 0 < b.length by omega), some_bind, show (k : Int) < (gR b 0).length by omega, if_true]
      rw [loop_for (b := sumN (fun j => gI (gR a i) j * gI (gR b j) k) n % p) (fun j => (sumN (fun j => gI (gR a i) j * gI (gR b j) k) j % p, (j : Int))) n (by rw [BIG_val]; omega) (by simp [sumN])]
      · rw [some_bind, chk_bind (by simp only [List.length_cons, List.length_nil]; omega), w_in (by omega) (by omega)]; rfl
      · intro j hj
        unfold s_l02Times_L2
        have e5 := (ha.row hi).1
        have e6 := (hb.row hj).1
        have h1 := (ha.row hi).get hj
        have h2 := (hb.row hj).get hk
        have h3 := mul_abs (a := gI (gR a i) j) (b := gI (gR b j) k) (A := 12) (B := 12) (by omega) (by omega)
        have h4 := Int.mul_nonneg h1.1 h2.1
        have h5 := mod_num (a := sumN (fun j => gI (gR a i) j * gI (gR b j) k) j) hp
        simp only [show (j : Int) < b.length by omega, if_true, idxR (show i < a.length by omega), idxR (show j < b.length by omega), idxI (show j < (gR a i).length by omega), idxI (show k < (gR b j).length by omega), some_bind]
        rw [chk_bind (by omega), w_in (x := gI (gR a i) j * gI (gR b j) k) (by omega) (by omega), w_in (by omega) (by omega), w_in (by omega) (by omega), tmod_nn (by omega), Int.emod_add_emod]
        rfl
      · unfold s_l02Times_L2
        simp [e2]
    · intro o2 ho2
      unfold s_l02Times_L1
      simp only [idxR0 (show 0 < b.length by omega), some_bind]
      simp [e4]
  · intro out ho
    unfold s_l02Times_L0
    simp [e1]
end

def muV (p : Int) (a b : List (List Int)) : List (List Int) := if isMat p a && isMat p b then (if wid a = b.length then timesm p a.length b.length (wid b) a b else []) else []
def muC (p : Int) (a b : List (List Int)) : Int := if isMat p a && isMat p b then (if wid a = b.length then 0 else 2) else 1
theorem s_MultiplyMatrices_eq {p : Int} {a b : List (List Int)} (ha : szM a) (hb : szM b) : s_MultiplyMatrices p a b = some (muV p a b, muC p a b) := by
  unfold s_MultiplyMatrices muV muC
  rw [s_l02Is_eq ha, some_bind]
  cases hma : isMat p a with
  | false => simp
  | true =>
    simp only [Bool.true_eq_false, if_false, Bool.true_and]
    rw [s_l02Is_eq hb, some_bind, some_bind]
    cases hmb : isMat p b with
    | false => simp
    | true =>
      obtain ⟨h1, h2, h3, hP, h4, h5⟩ := isMat_sz hma
      obtain ⟨g1, g2, g3, _, g4, g5⟩ := isMat_sz hmb
      have hp := isP_le hP
      simp only [Bool.not_true, Bool.false_eq_true, if_false, if_true]
      have hw : (gR a 0).length = wid a := rfl
      rw [idxR0 (by omega), some_bind, hw]
      by_cases hl : wid a = b.length
      · rw [if_neg (by omega), s_l02Times_eq (by omega) (by omega) (by omega) (by omega) (by omega) (by omega) (hl ▸ h3) g3, some_bind]
        simp [hl]
      · rw [if_pos (by omega)]
        simp [hl]
theorem i_MultiplyMatrices_eq {p : Int} {a b : List (List Int)} (ha : szM a) (hb : szM b) : i_MultiplyMatrices p a b = some (muV p a b, muC p a b) := by
  unfold i_MultiplyMatrices muV muC
  rw [checkM2 ha hb, some_bind]
  cases hma : isMat p a with
  | false => simp
  | true =>
    simp only [Bool.true_and]
    cases hmb : isMat p b with
    | false => simp
    | true =>
      obtain ⟨h1, h2, h3, hP, h4, h5⟩ := isMat_sz hma
      obtain ⟨g1, g2, g3, _, g4, g5⟩ := isMat_sz hmb
      have hp := isP_le hP
      simp only [if_true, not_true_eq_false, if_false]
      have hw : (gR a 0).length = wid a := rfl
      rw [idxR0 (by omega), some_bind, hw]
      by_cases hl : wid a = b.length
      · rw [if_neg (by omega), i_field_times_eq (by omega) (by omega) (by omega) (by omega) (by omega) (by omega) (hl ▸ h3) g3, some_bind]
        simp [hl]
      · rw [if_pos (by omega)]
        simp [hl]
theorem muV_sz (p : Int) (a b : List (List Int)) : smallM (muV p a b) := by
  unfold muV
  split
  · rename_i h
    simp only [Bool.and_eq_true] at h
    obtain ⟨h1, h2, h3, hP, h4, h5⟩ := isMat_sz h.1
    obtain ⟨g1, g2, g3, _, g4, g5⟩ := isMat_sz h.2
    have hp := isP_le hP
    split
    · exact smallM.of (timesm_mat (p := p) (by omega) ..) (r := a.length) (c := wid b) (by omega) (by omega)
    · exact smallM.nil
  · exact smallM.nil

theorem LawMultiply {p : Int} {a b : List (List Int)} (ha : lenM a) (hb : lenM b) : l_FnExactMultiplyMatrices p a b = some true := by
  unfold l_FnExactMultiplyMatrices
  rw [szM_eq ha (by omega) (by omega), some_bind]
  by_cases h1 : ((a.length + rowsum a : Nat) : Int) ≤ 1048576
  · have hs : szv (a.length + rowsum a) 1048576 = 1048576 - ((a.length + rowsum a : Nat) : Int) := by unfold szv; rw [if_pos h1]
    rw [hs, if_neg (by omega), szM_eq hb (by omega) (by omega), some_bind]
    by_cases h2 : ((b.length + rowsum b : Nat) : Int) ≤ 1048576 - ((a.length + rowsum a : Nat) : Int)
    · have hs2 : szv (b.length + rowsum b) (1048576 - ((a.length + rowsum a : Nat) : Int)) = 1048576 - ((a.length + rowsum a : Nat) : Int) - ((b.length + rowsum b : Nat) : Int) := by unfold szv; rw [if_pos h2]
      rw [hs2, if_neg (by omega)]
      obtain ⟨za, ra⟩ := sz_split (m := a) (by omega) h1
      obtain ⟨zb, rb⟩ := sz_split (m := b) (by omega) h2
      obtain ⟨z1, z2, z3⟩ := muV_sz p a b
      have e1 := toM_eq za.1 za.2
      have e2 := toM_eq zb.1 zb.2
      have e3 := s_MultiplyMatrices_eq (p := p) za zb
      have e4 := i_MultiplyMatrices_eq (p := p) za zb
      have e5 := eqM_self ⟨z1, z2⟩
      have e6 := eqM_self za
      have e7 := eqM_self zb
      have e8 := markM_1 za.1 ra
      have e9 : l_markInt64SS b ((1 + rowsum a : Nat) : Int) = some (((1 + rowsum a + rowsum b : Nat) : Int), mrkM (1 + rowsum a) b) := markM_eq (by have := zb.1; omega) (by omega)
      have e10 := markM_1 z1 z3
      have e11 := heldM_1 z1 z3
      simp only [e1, e2, e3, e4, e5, e6, e7, e8, e9, e10, e11, some_bind, Bool.true_eq_false, Bool.false_eq_true, if_false, if_true, ieq_self, Bool.not_true, natneg, not_true_eq_false]
    · have hs2 : szv (b.length + rowsum b) (1048576 - ((a.length + rowsum a : Nat) : Int)) = -1 := by unfold szv; rw [if_neg h2]
      rw [hs2, if_pos (by omega)]
  · have hs : szv (a.length + rowsum a) 1048576 = -1 := by unfold szv; rw [if_neg h1]
    rw [hs, if_pos (by omega)]
end Go.Vam

/- Plain laws: two loops side by side, square tables, powers of tables. -/
namespace Go.Vam
open Go Go.RowKit
set_option linter.unusedSimpArgs false
set_option linter.unusedVariables false

/-- Two loops that take the same steps. -/
theorem loop_two {S B : Type} {f g : S → Option (S ⊕ B)} (I : S → Prop) (μ : S → Nat) (Q : B → Prop) {s : S} (h0 : I s) (hm : μ s < BIG)
    (hr : ∀ s, I s → (∃ s', f s = some (.inl s') ∧ g s = some (.inl s') ∧ I s' ∧ μ s' < μ s) ∨ (∃ b, f s = some (.inr b) ∧ g s = some (.inr b) ∧ Q b)) :
    ∃ b, loop f BIG s = some b ∧ loop g BIG s = some b ∧ Q b := by
  have key : ∀ (n : Nat) (s : S), I s → μ s < n → ∃ b, loop f n s = some b ∧ loop g n s = some b ∧ Q b := by
    intro n
    induction n with
    | zero => intro s _ h; omega
    | succ n ih =>
      intro s hI hn
      rcases hr s hI with ⟨s', h1, h2, h3, h4⟩ | ⟨b, h1, h2, h3⟩
      · rw [loop_succ, loop_succ, h1, h2]
        exact ih s' h3 (by omega)
      · rw [loop_succ, loop_succ, h1, h2]
        exact ⟨b, rfl, rfl, h3⟩
  exact key BIG s h0 hm

/-! ### Square tables -/
def sqC (p : Int) (m : List (List Int)) : Int := if isMat p m then (if m.length = wid m then 0 else 2) else 1
theorem sqC_zero {p : Int} {m : List (List Int)} (h : sqC p m = 0) : isMat p m = true ∧ m.length = wid m := by
  unfold sqC at h
  split at h
  · split at h
    · exact ⟨by assumption, by assumption⟩
    · omega
  · omega
theorem s_l02Square_eq {p : Int} {m : List (List Int)} (h : szM m) : s_l02Square p m = some (sqC p m) := by
  unfold s_l02Square sqC
  rw [s_l02Is_eq h, some_bind]
  cases hm : isMat p m with
  | false => simp
  | true =>
    obtain ⟨h1, h2, h3, hP, h4, h5⟩ := isMat_sz hm
    have hw : (gR m 0).length = wid m := rfl
    simp only [Bool.true_eq_false, if_false, if_true]
    rw [idxR0 (by omega), some_bind, hw]
    by_cases hl : m.length = wid m
    · rw [if_neg (by omega), if_pos hl]
    · rw [if_pos (by omega), if_neg hl]
theorem i_checkSquare_eq {p : Int} {m : List (List Int)} (h : szM m) : i_checkSquare p m = some (sqC p m) := by
  unfold i_checkSquare sqC
  rw [checkM1 h, some_bind]
  cases hm : isMat p m with
  | false => simp
  | true =>
    obtain ⟨h1, h2, h3, hP, h4, h5⟩ := isMat_sz hm
    have hw : (gR m 0).length = wid m := rfl
    simp only [if_true, not_true_eq_false, if_false]
    rw [idxR0 (by omega), some_bind, hw]
    by_cases hl : m.length = wid m
    · rw [if_neg (by omega), if_pos hl]
    · rw [if_pos (by omega), if_neg hl]

/-! ### The unit -/
def unitm (n : Nat) : List (List Int) := vecN n fun i => (List.replicate n (0 : Int)).set i 1
theorem unitm_mat {p : Int} (hp : 1 < p) (n : Nat) : Mat p n n (unitm n) := Mat.mk' fun i hi => by
  refine ⟨by simp, fun k hk => ?_⟩
  rw [← gI_get (by simpa using hk), List.getElem_set]
  split
  · omega
  · simp; omega
theorem s_l02Unit_eq {n : Nat} (hn : n ≤ 1048576) : s_l02Unit (n : Int) = some (unitm n) := by
  unfold s_l02Unit
  rw [map_loop _ n (fun i => (List.replicate n (0 : Int)).set i 1) (by rw [BIG_val]; omega)]
  · rfl
  · intro i hi out ho
    unfold s_l02Unit_L0
    simp only [show (i : Int) < n by omega, if_true]
    rw [chk_bind (by omega), some_bind, Int.toNat_natCast, idxI (by simpa using hi), some_bind, chk_bind (by simp only [List.length_cons, List.length_nil]; omega), w_in (by omega) (by omega)]
    rfl
  · intro out ho
    unfold s_l02Unit_L0
    simp
theorem i_unit_eq {n : Nat} (hn : n ≤ 1048576) : i_unit (n : Int) = some (unitm n) := by
  unfold i_unit
  rw [map_loop _ n (fun i => (List.replicate n (0 : Int)).set i 1) (by rw [BIG_val]; omega)]
  · rfl
  · intro i hi out ho
    unfold i_unit_L0
    simp only [show (i : Int) < n by omega, if_true]
    rw [chk_bind (by omega), some_bind, Int.toNat_natCast, idxI (by simpa using hi), some_bind, chk_bind (by simp only [List.length_cons, List.length_nil]; omega), w_in (by omega) (by omega)]
    rfl
  · intro out ho
    unfold i_unit_L0
    simp

/-! ### Powers -/
theorem pow_two {p : Int} {n : Nat} {a : List (List Int)} {k : Int} (hp : 1 < p) (hp2 : p ≤ 13) (hn0 : 0 < n) (hn : n ≤ 16) (ha : Mat p n n a) (hk : 0 ≤ k) (hk2 : k ≤ 1000) :
    ∃ x, loop (s_PowerMatrix_L0 p) BIG (k, unitm n, a) = some x ∧ loop (i_PowerMatrix_L0 p) BIG (k, unitm n, a) = some x ∧ Mat p n n x := by
  refine loop_two (fun s => 0 ≤ s.1 ∧ s.1 ≤ 1000 ∧ Mat p n n s.2.1 ∧ Mat p n n s.2.2) (fun s => s.1.toNat) (Mat p n n) ⟨hk, hk2, unitm_mat hp n, ha⟩ (by rw [BIG_val]; simp only []; omega) ?_
  rintro ⟨k, x, y⟩ ⟨h1, h2, hx, hy⟩
  simp only [] at h1 h2 hx hy
  have exy1 := s_l02Times_eq (p := p) (r := n) (n := n) (c := n) (by omega) hp2 (by omega) hn0 (by omega) (by omega) hx hy
  have exy2 := i_field_times_eq (p := p) (r := n) (n := n) (c := n) (by omega) hp2 (by omega) hn0 (by omega) (by omega) hx hy
  have eyy1 := s_l02Times_eq (p := p) (r := n) (n := n) (c := n) (by omega) hp2 (by omega) hn0 (by omega) (by omega) hy hy
  have eyy2 := i_field_times_eq (p := p) (r := n) (n := n) (c := n) (by omega) hp2 (by omega) hn0 (by omega) (by omega) hy hy
  have mxy := timesm_mat (p := p) (by omega) n n n x y
  have myy := timesm_mat (p := p) (by omega) n n n y y
  unfold s_PowerMatrix_L0 i_PowerMatrix_L0
  simp only []
  by_cases hk0 : 0 < k
  · have hd : k.tdiv 2 = k / 2 := Int.tdiv_eq_ediv_of_nonneg (by omega)
    refine .inl ?_
    simp only [hk0, if_true, hd]
    by_cases ho : k.tmod 2 = 1
    · simp only [ho, if_true, exy1, exy2, eyy1, eyy2, some_bind]
      refine ⟨_, rfl, rfl, ?_, ?_⟩
      · rw [w_in (by omega) (by omega)]
        exact ⟨by simp only []; omega, by simp only []; omega, mxy, myy⟩
      · rw [w_in (by omega) (by omega)]; simp only []; omega
    · simp only [ho, if_false, eyy1, eyy2, some_bind]
      refine ⟨_, rfl, rfl, ?_, ?_⟩
      · rw [w_in (by omega) (by omega)]
        exact ⟨by simp only []; omega, by simp only []; omega, hx, myy⟩
      · rw [w_in (by omega) (by omega)]; simp only []; omega
  · refine .inr ?_
    simp only [hk0, if_false]
    exact ⟨_, rfl, rfl, hx⟩

theorem PowerMatrix_eq {p k : Int} {m : List (List Int)} (h : szM m) : ∃ V C, s_PowerMatrix p m k = some (V, C) ∧ i_PowerMatrix p m k = some (V, C) ∧ smallM V := by
  unfold s_PowerMatrix i_PowerMatrix
  rw [s_l02Square_eq h, i_checkSquare_eq h, some_bind, some_bind, s_l01In_eq, i_inRange_eq, some_bind]
  by_cases h0 : sqC p m = 0
  · obtain ⟨hm, hl⟩ := sqC_zero h0
    obtain ⟨h1, h2, h3, hP, h4, h5⟩ := isMat_sz hm
    have hp := isP_le hP
    rw [h0]
    simp only [if_true, not_true_eq_false, if_false, some_bind]
    by_cases hk : 0 ≤ k ∧ k ≤ 1000
    · simp only [hk.1, hk.2, decide_true, Bool.and_self, Bool.not_true, Bool.false_eq_true, Bool.true_eq_false, if_false, some_bind, not_true_eq_false]
      rw [s_l02Unit_eq h.1, i_unit_eq h.1, some_bind, some_bind, s_l01Own2_eq h, i_cloneRows_eq h, some_bind, some_bind]
      obtain ⟨x, e1, e2, hx⟩ := pow_two (p := p) (n := m.length) (a := m) (k := k) (by omega) (by omega) (by omega) (by omega) (hl ▸ h3) hk.1 hk.2
      rw [e1, e2]
      exact ⟨x, 0, rfl, rfl, smallM.of hx (by omega) (by omega)⟩
    · have hkd : (decide (0 ≤ k) && decide (k ≤ 1000)) = false := by
        simp only [Bool.and_eq_false_iff, decide_eq_false_iff_not]; omega
      rw [hkd]
      exact ⟨[], 2, by simp, by simp, smallM.nil⟩
  · simp only [h0, if_false, if_true, not_false_eq_true, some_bind, Bool.false_eq_true]
    exact ⟨[], sqC p m, rfl, rfl, smallM.nil⟩

theorem LawPower {p k : Int} {m : List (List Int)} (hm : lenM m) : l_FnExactPowerMatrix p m k = some true := by
  unfold l_FnExactPowerMatrix
  rw [szM_eq hm (by omega) (by omega), some_bind]
  by_cases h1 : ((m.length + rowsum m : Nat) : Int) ≤ 1048576
  · have hs : szv (m.length + rowsum m) 1048576 = 1048576 - ((m.length + rowsum m : Nat) : Int) := by unfold szv; rw [if_pos h1]
    rw [hs, if_neg (by omega)]
    obtain ⟨za, ra⟩ := sz_split (m := m) (by omega) h1
    obtain ⟨V, C, e3, e4, z1, z2, z3⟩ := PowerMatrix_eq (p := p) (k := k) za
    have e1 := toM_eq za.1 za.2
    have e5 := eqM_self ⟨z1, z2⟩
    have e6 := eqM_self za
    have e8 := markM_1 za.1 ra
    have e10 := markM_1 z1 z3
    have e11 := heldM_1 z1 z3
    simp only [e1, e3, e4, e5, e6, e8, e10, e11, some_bind, Bool.true_eq_false, Bool.false_eq_true, if_false, if_true, ieq_self, Bool.not_true, natneg, not_true_eq_false]
  · have hs : szv (m.length + rowsum m) 1048576 = -1 := by unfold szv; rw [if_neg h1]
    rw [hs, if_pos (by omega)]
end Go.Vam
