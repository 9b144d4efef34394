/- Plain laws: the helpers of the laws: sizes, copies, comparisons, marks. -/
import Derived.Test.YtdoimfkonaeceaaFnA
namespace Go.Vam
open Go Go.RowKit
set_option linter.unusedSimpArgs false
set_option linter.unusedVariables false

theorem w_in {x : Int} (h1 : -9223372036854775808 ≤ x) (h2 : x ≤ 9223372036854775807) : w64 x = x := wrap_in h1 h2
theorem BIG_val : BIG = 4611686018427387904 := (rfl)
theorem idxk {α : Type} {xs : List α} {k : Nat} (h : k < xs.length) : idx xs (k : Int) = some xs[k] := by rw [idx_nat]; exact List.getElem?_eq_getElem h
theorem idx0 {α : Type} {xs : List α} (h : 0 < xs.length) : idx xs 0 = some xs[0] := by rw [idx_zero]; exact List.getElem?_eq_getElem h
theorem natneg (n : Nat) : ((n : Int) < 0) = False := by simp
theorem some_bind {α β : Type} (a : α) (f : α → Option β) : (some a).bind f = f a := (rfl)
theorem chk_bind {p : Prop} [Decidable p] {β : Type} (h : p) (f : Unit → Option β) : (chk p).bind f = f () := by rw [chk_ok h]; rfl

/-- What is left of a size. -/
def szv (n : Nat) (left : Int) : Int := if (n : Int) ≤ left then left - n else -1
def rowsum (m : List (List Int)) : Nat := (m.map List.length).sum
theorem rowsum_cons (r : List Int) (m : List (List Int)) : rowsum (r :: m) = r.length + rowsum m := by simp [rowsum]
theorem rowsum_mem {m : List (List Int)} {r : List Int} (h : r ∈ m) : r.length ≤ rowsum m := by
  induction m with
  | nil => cases h
  | cons a m ih =>
    rw [rowsum_cons]
    rcases List.mem_cons.1 h with rfl | h
    · omega
    · have := ih h; omega
theorem rowsum_take {m : List (List Int)} {k : Nat} (h : k < m.length) : rowsum (m.take (k + 1)) = rowsum (m.take k) + m[k].length := by
  simp only [rowsum, List.take_succ_eq_append_getElem h, List.map_append, List.sum_append, List.map_cons, List.map_nil, List.sum_cons, List.sum_nil]
  omega
theorem rowsum_le (m : List (List Int)) (k : Nat) : rowsum (m.take k) ≤ rowsum m := by
  induction m generalizing k with
  | nil => simp [rowsum]
  | cons r m ih =>
    cases k with
    | zero => simp [rowsum]
    | succ k => have := ih k; simp only [List.take_succ_cons, rowsum_cons]; omega

/-- What the types say of an argument. -/
abbrev lenI (xs : List Int) : Prop := xs.length ≤ 9223372036854775807
abbrev lenM (m : List (List Int)) : Prop := m.length ≤ 9223372036854775807 ∧ ∀ r ∈ m, r.length ≤ 9223372036854775807

theorem szI_eq {xs : List Int} {left : Int} (hl : lenI xs) (h0 : 0 ≤ left) (h1 : left ≤ 1048576) : l_szInt64S xs left = some (szv xs.length left) := by
  unfold l_szInt64S szv
  rw [w_in (by simp only [lenI] at hl; omega) (by omega)]
  by_cases h : (xs.length : Int) ≤ left
  · rw [if_neg (by omega), if_pos h]
  · rw [if_pos (by omega), if_neg h]

theorem szM_eq {m : List (List Int)} {left : Int} (hl : lenM m) (h0 : 0 ≤ left) (h1 : left ≤ 1048576) : l_szInt64SS m left = some (szv (m.length + rowsum m) left) := by
  obtain ⟨hl, hr⟩ := hl
  unfold l_szInt64SS
  rw [w_in (by omega) (by omega)]
  by_cases h : left - (m.length : Int) < 0
  · rw [if_pos h, szv, if_neg (by omega)]
  · rw [if_neg h]
    have step : ∀ k, k < m.length → (rowsum (m.take k) : Int) ≤ left - m.length → l_szInt64SS_L0 m (left - m.length - rowsum (m.take k), (k : Int)) =
        if (rowsum (m.take (k + 1)) : Int) ≤ left - m.length then some (.inl (left - m.length - rowsum (m.take (k + 1)), ((k + 1 : Nat) : Int))) else some (.inr (.inr (-1))) := by
      intro k hk hle
      unfold l_szInt64SS_L0
      have h2 := rowsum_take hk
      have h3 := hr m[k] (List.getElem_mem hk)
      simp only [show (k : Int) < m.length by omega, if_true, idxk hk, some_bind]
      rw [szI_eq h3 (by omega) (by omega)]
      simp only [some_bind, szv]
      by_cases h4 : (rowsum (m.take (k + 1)) : Int) ≤ left - m.length
      · rw [if_pos (by omega : ((m[k].length : Nat) : Int) ≤ left - m.length - rowsum (m.take k)), if_neg (by omega), if_pos h4, w_in (by omega) (by omega)]
        congr 3
        omega
      · rw [if_neg (by omega : ¬ ((m[k].length : Nat) : Int) ≤ left - m.length - rowsum (m.take k)), if_pos (by omega), if_neg h4]
    have key : ∃ b, loop (l_szInt64SS_L0 m) BIG (left - m.length, 0) = some b ∧ b = (if ((m.length + rowsum m : Nat) : Int) ≤ left then .inl (left - m.length - rowsum m) else .inr (-1)) := by
      refine loop_inv (fun s => ∃ k, k ≤ m.length ∧ (rowsum (m.take k) : Int) ≤ left - m.length ∧ s = (left - m.length - rowsum (m.take k), (k : Int))) (fun s => m.length - s.2.toNat) _ ⟨0, by omega, by simp [rowsum]; omega, by simp [rowsum]⟩ (by rw [BIG_val]; simp only []; omega) ?_
      rintro s ⟨k, hk, hle, rfl⟩
      by_cases hkm : k < m.length
      · rw [step k hkm hle]
        by_cases h4 : (rowsum (m.take (k + 1)) : Int) ≤ left - m.length
        · rw [if_pos h4]
          exact .inl ⟨_, rfl, ⟨k + 1, by omega, h4, rfl⟩, by simp only [Int.toNat_natCast]; omega⟩
        · rw [if_neg h4]
          refine .inr ⟨_, rfl, ?_⟩
          have := rowsum_le m (k + 1)
          rw [if_neg (by omega)]
      · right
        have hkk : k = m.length := by omega
        subst hkk
        unfold l_szInt64SS_L0
        simp only [show ¬ ((m.length : Int) < m.length) by omega, if_false]
        refine ⟨_, rfl, ?_⟩
        rw [List.take_length] at hle ⊢
        rw [if_pos (by omega)]
    obtain ⟨b, h1, h2⟩ := key
    rw [h1, some_bind, h2]
    unfold szv
    by_cases h5 : ((m.length + rowsum m : Nat) : Int) ≤ left
    · rw [if_pos h5, if_pos h5]; simp only []; congr 1; omega
    · rw [if_neg h5, if_neg h5]

/-- A list, filled up to a place. -/
def fillA {α : Type} (z : α) (xs : List α) (k : Nat) : List α := xs.take k ++ List.replicate (xs.length - k) z
theorem fillA_len {α : Type} (z : α) (xs : List α) (k : Nat) (h : k ≤ xs.length) : (fillA z xs k).length = xs.length := by simp [fillA]; omega
theorem fillA_set {α : Type} (z : α) (xs : List α) (k : Nat) (h : k < xs.length) : (fillA z xs k).set k xs[k] = fillA z xs (k + 1) := by
  unfold fillA
  have e : k - (xs.take k).length = 0 := by simp; omega
  rw [List.set_append_right _ _ (by simp; omega), List.take_succ_eq_append_getElem h, e]
  have : xs.length - k = (xs.length - (k + 1)) + 1 := by omega
  rw [this, List.replicate_succ, List.set_cons_zero, List.append_assoc]
  rfl
theorem fillA_full {α : Type} (z : α) (xs : List α) : fillA z xs xs.length = xs := by simp [fillA]
theorem fillA_zero {α : Type} (z : α) (xs : List α) : fillA z xs 0 = List.replicate xs.length z := by simp [fillA]

theorem toI_eq {xs : List Int} (h : xs.length ≤ 1048576) : l_toInt64S xs = some xs := by
  unfold l_toInt64S
  rw [chk_bind (by omega), loop_for (b := xs) (fun k => (fillA 0 xs k, (k : Int))) xs.length (by rw [BIG_val]; omega) (by simp [fillA_zero])]
  · rfl
  · intro k hk
    unfold l_toInt64S_L0
    simp only [show (k : Int) < xs.length by omega, if_true, idxk hk, some_bind]
    rw [idxk (by rw [fillA_len _ _ _ (by omega)]; exact hk), some_bind, Int.toNat_natCast, fillA_set _ _ _ hk, w_in (by omega) (by omega)]
    rfl
  · unfold l_toInt64S_L0
    simp [fillA_full]
theorem toM_eq {m : List (List Int)} (h : m.length ≤ 1048576) (hr : ∀ r ∈ m, r.length ≤ 1048576) : l_toInt64SS m = some m := by
  unfold l_toInt64SS
  rw [chk_bind (by omega), loop_for (b := m) (fun k => (fillA [] m k, (k : Int))) m.length (by rw [BIG_val]; omega) (by simp [fillA_zero])]
  · rfl
  · intro k hk
    unfold l_toInt64SS_L0
    simp only [show (k : Int) < m.length by omega, if_true, idxk hk, some_bind]
    rw [toI_eq (hr _ (List.getElem_mem hk)), some_bind, idxk (by rw [fillA_len _ _ _ (by omega)]; exact hk), some_bind, Int.toNat_natCast, fillA_set _ _ _ hk, w_in (by omega) (by omega)]
    rfl
  · unfold l_toInt64SS_L0
    simp [fillA_full]

theorem take_ext {α : Type} {a b : List α} (hl : a.length = b.length) (k : Nat) (hk : k < a.length) (h : a.take k = b.take k) : a.take (k + 1) = b.take (k + 1) ↔ a[k] = b[k]'(hl ▸ hk) := by
  rw [List.take_succ_eq_append_getElem hk, List.take_succ_eq_append_getElem (hl ▸ hk), h, List.append_right_inj]
  simp only [List.cons.injEq, and_true]

/-- A comparison of lists, place by place. -/
theorem cmp_loop {α : Type} (a b : List α) (hl : a.length = b.length) (hb : a.length ≤ 9223372036854775806) (step : Int → Option (Int ⊕ (Unit ⊕ Bool)))
    (hs : ∀ k (h : k < a.length), a[k] = b[k]'(hl ▸ h) → step (k : Int) = some (.inl ((k + 1 : Nat) : Int))) (hd : ∀ k (h : k < a.length), a[k] ≠ b[k]'(hl ▸ h) → step (k : Int) = some (.inr (.inr false)))
    (he : step (a.length : Int) = some (.inr (.inl ()))) (hbig : a.length < BIG) :
    ∃ r, loop step BIG 0 = some r ∧ ((r = .inl () ∧ a = b) ∨ (r = .inr false ∧ a ≠ b)) := by
  refine loop_inv (fun s => ∃ k : Nat, k ≤ a.length ∧ s = (k : Int) ∧ a.take k = b.take k) (fun s => a.length - s.toNat) _ ⟨0, by omega, rfl, rfl⟩ (by show a.length - 0 < BIG; omega) ?_
  rintro s ⟨k, hk, rfl, ht⟩
  by_cases hka : k < a.length
  · by_cases he : a[k] = b[k]'(hl ▸ hka)
    · rw [hs k hka he]
      exact .inl ⟨_, rfl, ⟨k + 1, by omega, rfl, (take_ext hl k hka ht).2 he⟩, by simp only [Int.toNat_natCast]; omega⟩
    · rw [hd k hka he]
      refine .inr ⟨_, rfl, .inr ⟨rfl, fun hab => he ?_⟩⟩
      subst hab; rfl
  · have hkk : k = a.length := by omega
    subst hkk
    rw [he]
    refine .inr ⟨_, rfl, .inl ⟨rfl, ?_⟩⟩
    rwa [List.take_length, hl, List.take_length] at ht

theorem eqI_eq (a b : List Int) (h : a.length ≤ 1048576) : l_eqInt64S a b = some (decide (a = b)) := by
  unfold l_eqInt64S
  by_cases hl : a.length = b.length
  · rw [if_neg (by omega)]
    obtain ⟨r, h1, h2⟩ := cmp_loop a b hl (by omega) (l_eqInt64S_L0 a b) (fun k hk he => by
        unfold l_eqInt64S_L0
        simp only [show (k : Int) < a.length by omega, if_true, idxk hk, idxk (hl ▸ hk), some_bind, he, not_true_eq_false, if_false]
        rw [w_in (by omega) (by omega)]; rfl) (fun k hk he => by
        unfold l_eqInt64S_L0
        simp only [show (k : Int) < a.length by omega, if_true, idxk hk, idxk (hl ▸ hk), some_bind, he, not_false_eq_true]) (by
        unfold l_eqInt64S_L0
        simp) (by rw [BIG_val]; omega)
    rw [h1, some_bind]
    rcases h2 with ⟨rfl, rfl⟩ | ⟨rfl, h3⟩
    · simp
    · simp [h3]
  · rw [if_pos (by omega)]
    have : a ≠ b := fun e => hl (by rw [e])
    simp [this]
theorem eqM_eq (a b : List (List Int)) (h : a.length ≤ 1048576) (hr : ∀ r ∈ a, r.length ≤ 1048576) : l_eqInt64SS a b = some (decide (a = b)) := by
  unfold l_eqInt64SS
  by_cases hl : a.length = b.length
  · rw [if_neg (by omega)]
    obtain ⟨r, h1, h2⟩ := cmp_loop a b hl (by omega) (l_eqInt64SS_L0 a b) (fun k hk he => by
        unfold l_eqInt64SS_L0
        simp only [show (k : Int) < a.length by omega, if_true, idxk hk, idxk (hl ▸ hk), some_bind]
        rw [eqI_eq _ _ (hr _ (List.getElem_mem hk))]
        simp only [he, some_bind, decide_true, Bool.true_eq_false, if_false]
        rw [w_in (by omega) (by omega)]; rfl) (fun k hk he => by
        unfold l_eqInt64SS_L0
        simp only [show (k : Int) < a.length by omega, if_true, idxk hk, idxk (hl ▸ hk), some_bind]
        rw [eqI_eq _ _ (hr _ (List.getElem_mem hk))]
        simp only [he, some_bind, decide_false, if_true]) (by
        unfold l_eqInt64SS_L0
        simp) (by rw [BIG_val]; omega)
    rw [h1, some_bind]
    rcases h2 with ⟨rfl, rfl⟩ | ⟨rfl, h3⟩
    · simp
    · simp [h3]
  · rw [if_pos (by omega)]
    have : a ≠ b := fun e => hl (by rw [e])
    simp [this]

/-! ### Marks -/
/-- A row whose first j numbers are marked, from k on. -/
def mkI (k : Nat) (xs : List Int) (j : Nat) : List Int := (List.range j).map (fun (i : Nat) => ((k + i : Nat) : Int)) ++ xs.drop j
theorem mkI_zero (k : Nat) (xs : List Int) : mkI k xs 0 = xs := by simp [mkI]
theorem mkI_len (k : Nat) (xs : List Int) (j : Nat) (h : j ≤ xs.length) : (mkI k xs j).length = xs.length := by simp [mkI]; omega
theorem mkI_set (k : Nat) (xs : List Int) (j : Nat) (h : j < xs.length) : (mkI k xs j).set j ((k + j : Nat) : Int) = mkI k xs (j + 1) := by
  unfold mkI
  rw [List.set_append_right _ _ (by simp), List.range_succ, List.map_append, List.append_assoc]
  congr 1
  simp only [List.length_map, List.length_range, Nat.sub_self, List.map_cons, List.map_nil]
  rw [List.drop_eq_getElem_cons h]
  rfl
/-- The marked row. -/
def mrkI (k : Nat) (xs : List Int) : List Int := mkI k xs xs.length
theorem mrkI_eq (k : Nat) (xs : List Int) : mrkI k xs = (List.range xs.length).map (fun (i : Nat) => ((k + i : Nat) : Int)) := by simp [mrkI, mkI]
theorem mrkI_len (k : Nat) (xs : List Int) : (mrkI k xs).length = xs.length := by simp [mrkI_eq]
theorem mrkI_get (k : Nat) (xs : List Int) (j : Nat) (h : j < (mrkI k xs).length) : (mrkI k xs)[j] = ((k + j : Nat) : Int) := by simp [mrkI_eq]

theorem markI_eq {xs : List Int} {k : Nat} (h : k + xs.length ≤ 1073741824) : l_markInt64S xs (k : Int) = some (((k + xs.length : Nat) : Int), mrkI k xs) := by
  unfold l_markInt64S
  rw [loop_for (b := (mrkI k xs, ((k + xs.length : Nat) : Int))) (fun j => (mkI k xs j, ((k + j : Nat) : Int), (j : Int))) xs.length (by rw [BIG_val]; omega) (by simp [mkI_zero])]
  · rfl
  · intro j hj
    unfold l_markInt64S_L0
    have hl := mkI_len k xs j (by omega)
    simp only [show (j : Int) < (mkI k xs j).length by omega, if_true]
    rw [idxk (by omega), some_bind, Int.toNat_natCast, mkI_set k xs j hj, w_in (by omega) (by omega), w_in (by omega) (by omega)]
    rfl
  · unfold l_markInt64S_L0
    have hl := mkI_len k xs xs.length (Nat.le_refl _)
    simp [hl, mrkI]
theorem heldI_eq {xs : List Int} {k : Nat} (h : k + xs.length ≤ 1073741824) : l_heldInt64S (mrkI k xs) (k : Int) = some ((k + xs.length : Nat) : Int) := by
  unfold l_heldInt64S
  have hl := mrkI_len k xs
  rw [loop_for (b := .inl ((k + xs.length : Nat) : Int)) (fun j => (((k + j : Nat) : Int), (j : Int))) xs.length (by rw [BIG_val]; omega) (by simp)]
  · rfl
  · intro j hj
    unfold l_heldInt64S_L0
    simp only [show (j : Int) < (mrkI k xs).length by omega, if_true]
    rw [idxk (by omega), some_bind, mrkI_get, if_neg (by simp), w_in (by omega) (by omega), w_in (by omega) (by omega)]
    rfl
  · unfold l_heldInt64S_L0
    simp [hl]

/-- A table whose first j rows are marked: where the count stands; what it holds. -/
def mkC (k : Nat) (m : List (List Int)) (j : Nat) : Nat := k + rowsum (m.take j)
def mkM (k : Nat) (m : List (List Int)) (j : Nat) : List (List Int) := (List.range j).map (fun i => mrkI (mkC k m i) (m.getD i [])) ++ m.drop j
theorem mkM_zero (k : Nat) (m : List (List Int)) : mkM k m 0 = m := by simp [mkM]
theorem mkM_len (k : Nat) (m : List (List Int)) (j : Nat) (h : j ≤ m.length) : (mkM k m j).length = m.length := by simp [mkM]; omega
theorem mkM_at (k : Nat) (m : List (List Int)) (j : Nat) (h : j < m.length) (h' : j < (mkM k m j).length) : (mkM k m j)[j] = m[j] := by
  have e : (mkM k m j)[j]? = m[j]? := by
    unfold mkM; rw [List.getElem?_append_right (by simp)]; simp
  rw [List.getElem?_eq_getElem h', List.getElem?_eq_getElem h] at e
  exact Option.some.inj e
theorem mkM_set (k : Nat) (m : List (List Int)) (j : Nat) (h : j < m.length) : (mkM k m j).set j (mrkI (mkC k m j) m[j]) = mkM k m (j + 1) := by
  unfold mkM
  rw [List.set_append_right _ _ (by simp), List.range_succ, List.map_append, List.append_assoc]
  congr 1
  simp only [List.length_map, List.length_range, Nat.sub_self, List.map_cons, List.map_nil]
  rw [List.drop_eq_getElem_cons h, List.set_cons_zero]
  simp [h]
theorem mkC_succ (k : Nat) (m : List (List Int)) (j : Nat) (h : j < m.length) : mkC k m (j + 1) = mkC k m j + m[j].length := by
  unfold mkC; rw [rowsum_take h]; omega
theorem mkC_le (k : Nat) (m : List (List Int)) (j : Nat) : mkC k m j ≤ k + rowsum m := by
  unfold mkC; have := rowsum_le m j; omega
/-- The marked table. -/
def mrkM (k : Nat) (m : List (List Int)) : List (List Int) := mkM k m m.length
theorem mrkM_len (k : Nat) (m : List (List Int)) : (mrkM k m).length = m.length := mkM_len _ _ _ (Nat.le_refl _)
theorem mrkM_get (k : Nat) (m : List (List Int)) (j : Nat) (h : j < m.length) (h' : j < (mrkM k m).length) : (mrkM k m)[j] = mrkI (mkC k m j) m[j] := by
  simp [mrkM, mkM, h]

theorem markM_eq {m : List (List Int)} {k : Nat} (hm : m.length ≤ 1073741824) (h : k + rowsum m ≤ 1073741824) : l_markInt64SS m (k : Int) = some (((k + rowsum m : Nat) : Int), mrkM k m) := by
  unfold l_markInt64SS
  rw [loop_for (b := (mrkM k m, ((k + rowsum m : Nat) : Int))) (fun j => (mkM k m j, ((mkC k m j : Nat) : Int), (j : Int))) m.length (by rw [BIG_val]; omega) (by simp [mkM_zero, mkC, rowsum])]
  · rfl
  · intro j hj
    unfold l_markInt64SS_L0
    have hl := mkM_len k m j (by omega)
    have hc := mkC_succ k m j hj
    have hc2 := mkC_le k m (j + 1)
    simp only [show (j : Int) < (mkM k m j).length by omega, if_true]
    rw [idxk (by omega), some_bind, mkM_at k m j hj, markI_eq (by omega), some_bind, Int.toNat_natCast, mkM_set k m j hj, w_in (by omega) (by omega), hc]
    rfl
  · unfold l_markInt64SS_L0
    have hl := mkM_len k m m.length (Nat.le_refl _)
    simp [hl, mrkM, mkC]
theorem heldM_eq {m : List (List Int)} {k : Nat} (hm : m.length ≤ 1073741824) (h : k + rowsum m ≤ 1073741824) : l_heldInt64SS (mrkM k m) (k : Int) = some ((k + rowsum m : Nat) : Int) := by
  unfold l_heldInt64SS
  have hl := mrkM_len k m
  rw [loop_for (b := .inl ((k + rowsum m : Nat) : Int)) (fun j => (((mkC k m j : Nat) : Int), (j : Int))) m.length (by rw [BIG_val]; omega) (by simp [mkC, rowsum])]
  · rfl
  · intro j hj
    unfold l_heldInt64SS_L0
    have hc := mkC_succ k m j hj
    have hc2 := mkC_le k m (j + 1)
    simp only [show (j : Int) < (mrkM k m).length by omega, if_true]
    rw [idxk (by omega), some_bind, mrkM_get k m j hj, heldI_eq (by omega), some_bind, if_neg (by omega), w_in (by omega) (by omega), hc]
    rfl
  · unfold l_heldInt64SS_L0
    simp [hl, mkC]
theorem markI_1 {xs : List Int} (h : xs.length ≤ 1048576) : l_markInt64S xs 1 = some (((1 + xs.length : Nat) : Int), mrkI 1 xs) := markI_eq (k := 1) (by omega)
theorem heldI_1 {xs : List Int} (h : xs.length ≤ 1048576) : l_heldInt64S (mrkI 1 xs) 1 = some ((1 + xs.length : Nat) : Int) := heldI_eq (k := 1) (by omega)
theorem markM_1 {m : List (List Int)} (hm : m.length ≤ 1048576) (h : rowsum m ≤ 1048576) : l_markInt64SS m 1 = some (((1 + rowsum m : Nat) : Int), mrkM 1 m) := markM_eq (k := 1) (by omega) (by omega)
theorem heldM_1 {m : List (List Int)} (hm : m.length ≤ 1048576) (h : rowsum m ≤ 1048576) : l_heldInt64SS (mrkM 1 m) 1 = some ((1 + rowsum m : Nat) : Int) := heldM_eq (k := 1) (by omega) (by omega)
theorem ieq_self (a : Int) : ieq a a = true := by simp [ieq]
end Go.Vam
