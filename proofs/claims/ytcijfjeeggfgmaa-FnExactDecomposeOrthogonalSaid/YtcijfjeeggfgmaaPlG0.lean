import Derived.Test.YtcijfjeeggfgmaaFmG0
/- Plain laws: the helpers of the laws: sizes, copies, comparisons, marks. -/
namespace Go.Vam
open Go Go.RowKit
set_option linter.unusedSimpArgs false
set_option linter.unusedVariables false

theorem w_in {x : Int} (h1 : -9223372036854775808 ≤ x) (h2 : x ≤ 9223372036854775807) : w64 x = x := wrap_in h1 h2
theorem BIG_val : BIG = 4611686018427387904 := (rfl)
theorem idxk {α : Type} {xs : List α} {k : Nat} (h : k < xs.length) : idx xs (k : Int) = some xs[k] := by rw [idx_nat]; exact List.getElem?_eq_getElem h
theorem natneg (n : Nat) : ((n : Int) < 0) = False := by simp
theorem some_bind {α β : Type} (a : α) (f : α → Option β) : (some a).bind f = f a := (rfl)
theorem chk_bind {p : Prop} [Decidable p] {β : Type} (h : p) (f : Unit → Option β) : (chk p).bind f = f () := by rw [chk_ok h]; rfl

/-- What is left of a size. -/
def szv (n : Nat) (left : Int) : Int := if (n : Int) ≤ left then left - n else -1
def rowsum (m : List (List Int)) : Nat := (m.map List.length).sum
theorem rowsum_cons (r : List Int) (m : List (List Int)) : rowsum (r :: m) = r.length + rowsum m := by simp [rowsum]
theorem rowsum_mem {m : List (List Int)} {r : List Int} (h : r ∈ m) : r.length ≤ rowsum m := by
  induction m with
  | nil => cases h
  | cons a m ih =>
    rw [rowsum_cons]
    rcases List.mem_cons.1 h with rfl | h
    · omega
    · have := ih h; omega
theorem rowsum_take {m : List (List Int)} {k : Nat} (h : k < m.length) : rowsum (m.take (k + 1)) = rowsum (m.take k) + m[k].length := by
  simp only [rowsum, List.take_succ_eq_append_getElem h, List.map_append, List.sum_append, List.map_cons, List.map_nil, List.sum_cons, List.sum_nil]
  omega
theorem rowsum_le (m : List (List Int)) (k : Nat) : rowsum (m.take k) ≤ rowsum m := by
  induction m generalizing k with
  | nil => simp [rowsum]
  | cons r m ih =>
    cases k with
    | zero => simp [rowsum]
    | succ k => have := ih k; simp only [List.take_succ_cons, rowsum_cons]; omega

/-- What the types say of an argument. -/
abbrev lenI (xs : List Int) : Prop := xs.length ≤ 9223372036854775807
abbrev lenM (m : List (List Int)) : Prop := m.length ≤ 9223372036854775807 ∧ ∀ r ∈ m, r.length ≤ 9223372036854775807

theorem szI_eq {xs : List Int} {left : Int} (hl : lenI xs) (h0 : 0 ≤ left) (h1 : left ≤ 1048576) : l_szInt64S xs left = some (szv xs.length left) := by
  unfold l_szInt64S szv
  rw [w_in (by simp only [lenI] at hl; omega) (by omega)]
  by_cases h : (xs.length : Int) ≤ left
  · rw [if_neg (by omega), if_pos h]
  · rw [if_pos (by omega), if_neg h]

theorem szM_eq {m : List (List Int)} {left : Int} (hl : lenM m) (h0 : 0 ≤ left) (h1 : left ≤ 1048576) : l_szInt64SS m left = some (szv (m.length + rowsum m) left) := by
  obtain ⟨hl, hr⟩ := hl
  unfold l_szInt64SS
  rw [w_in (by omega) (by omega)]
  by_cases h : left - (m.length : Int) < 0
  · rw [if_pos h, szv, if_neg (by omega)]
  · rw [if_neg h]
    have step : ∀ k, k < m.length → (rowsum (m.take k) : Int) ≤ left - m.length → l_szInt64SS_L0 m (left - m.length - rowsum (m.take k), (k : Int)) =
        if (rowsum (m.take (k + 1)) : Int) ≤ left - m.length then some (.inl (left - m.length - rowsum (m.take (k + 1)), ((k + 1 : Nat) : Int))) else some (.inr (.inr (-1))) := by
      intro k hk hle
      unfold l_szInt64SS_L0
      have h2 := rowsum_take hk
      have h3 := hr m[k] (List.getElem_mem hk)
      simp only [show (k : Int) < m.length by omega, if_true, idxk hk, some_bind]
      rw [szI_eq h3 (by omega) (by omega)]
      simp only [some_bind, szv]
      by_cases h4 : (rowsum (m.take (k + 1)) : Int) ≤ left - m.length
      · rw [if_pos (by omega : ((m[k].length : Nat) : Int) ≤ left - m.length - rowsum (m.take k)), if_neg (by omega), if_pos h4, w_in (by omega) (by omega)]
        congr 3
        omega
      · rw [if_neg (by omega : ¬ ((m[k].length : Nat) : Int) ≤ left - m.length - rowsum (m.take k)), if_pos (by omega), if_neg h4]
    have key : ∃ b, loop (l_szInt64SS_L0 m) BIG (left - m.length, 0) = some b ∧ b = (if ((m.length + rowsum m : Nat) : Int) ≤ left then .inl (left - m.length - rowsum m) else .inr (-1)) := by
      refine loop_inv (fun s => ∃ k, k ≤ m.length ∧ (rowsum (m.take k) : Int) ≤ left - m.length ∧ s = (left - m.length - rowsum (m.take k), (k : Int))) (fun s => m.length - s.2.toNat) _ ⟨0, by omega, by simp [rowsum]; omega, by simp [rowsum]⟩ (by rw [BIG_val]; simp only []; omega) ?_
      rintro s ⟨k, hk, hle, rfl⟩
      by_cases hkm : k < m.length
      · rw [step k hkm hle]
        by_cases h4 : (rowsum (m.take (k + 1)) : Int) ≤ left - m.length
        · rw [if_pos h4]
          exact .inl ⟨_, rfl, ⟨k + 1, by omega, h4, rfl⟩, by simp only [Int.toNat_natCast]; omega⟩
        · rw [if_neg h4]
          refine .inr ⟨_, rfl, ?_⟩
          have := rowsum_le m (k + 1)
          rw [if_neg (by omega)]
      · right
        have hkk : k = m.length := by omega
        subst hkk
        unfold l_szInt64SS_L0
        simp only [show ¬ ((m.length : Int) < m.length) by omega, if_false]
        refine ⟨_, rfl, ?_⟩
        rw [List.take_length] at hle ⊢
        rw [if_pos (by omega)]
    obtain ⟨b, h1, h2⟩ := key
    rw [h1, some_bind, h2]
    unfold szv
    by_cases h5 : ((m.length + rowsum m : Nat) : Int) ≤ left
    · rw [if_pos h5, if_pos h5]; simp only []; congr 1; omega
    · rw [if_neg h5, if_neg h5]

/-- A list, filled up to a place. -/
def fillA {α : Type} (z : α) (xs : List α) (k : Nat) : List α := xs.take k ++ List.replicate (xs.length - k) z
theorem fillA_len {α : Type} (z : α) (xs : List α) (k : Nat) (h : k ≤ xs.length) : (fillA z xs k).length = xs.length := by simp [fillA]; omega
theorem fillA_set {α : Type} (z : α) (xs : List α) (k : Nat) (h : k < xs.length) : (fillA z xs k).set k xs[k] = fillA z xs (k + 1) := by
  unfold fillA
  have e : k - (xs.take k).length = 0 := by simp; omega
  rw [List.set_append_right _ _ (by simp; omega), List.take_succ_eq_append_getElem h, e]
  have : xs.length - k = (xs.length - (k + 1)) + 1 := by omega
  rw [this, List.replicate_succ, List.set_cons_zero, List.append_assoc]
  rfl
theorem fillA_full {α : Type} (z : α) (xs : List α) : fillA z xs xs.length = xs := by simp [fillA]
theorem fillA_zero {α : Type} (z : α) (xs : List α) : fillA z xs 0 = List.replicate xs.length z := by simp [fillA]

theorem toI_eq {xs : List Int} (h : xs.length ≤ 1048576) : l_toInt64S xs = some xs := by
  unfold l_toInt64S
  rw [chk_bind (by omega), loop_for (b := xs) (fun k => (fillA 0 xs k, (k : Int))) xs.length (by rw [BIG_val]; omega) (by simp [fillA_zero])]
  · rfl
  · intro k hk
    unfold l_toInt64S_L0
    simp only [show (k : Int) < xs.length by omega, if_true, idxk hk, some_bind]
    rw [idxk (by rw [fillA_len _ _ _ (by omega)]; exact hk), some_bind, Int.toNat_natCast, fillA_set _ _ _ hk, w_in (by omega) (by omega)]
    rfl
  · unfold l_toInt64S_L0
    simp [fillA_full]
theorem toM_eq {m : List (List Int)} (h : m.length ≤ 1048576) (hr : ∀ r ∈ m, r.length ≤ 1048576) : l_toInt64SS m = some m := by
  unfold l_toInt64SS
  rw [chk_bind (by omega), loop_for (b := m) (fun k => (fillA [] m k, (k : Int))) m.length (by rw [BIG_val]; omega) (by simp [fillA_zero])]
  · rfl
  · intro k hk
    unfold l_toInt64SS_L0
    simp only [show (k : Int) < m.length by omega, if_true, idxk hk, some_bind]
    rw [toI_eq (hr _ (List.getElem_mem hk)), some_bind, idxk (by rw [fillA_len _ _ _ (by omega)]; exact hk), some_bind, Int.toNat_natCast, fillA_set _ _ _ hk, w_in (by omega) (by omega)]
    rfl
  · unfold l_toInt64SS_L0
    simp [fillA_full]

theorem take_ext {α : Type} {a b : List α} (hl : a.length = b.length) (k : Nat) (hk : k < a.length) (h : a.take k = b.take k) : a.take (k + 1) = b.take (k + 1) ↔ a[k] = b[k]'(hl ▸ hk) := by
  rw [List.take_succ_eq_append_getElem hk, List.take_succ_eq_append_getElem (hl ▸ hk), h, List.append_right_inj]
  simp only [List.cons.injEq, and_true]

/-- A comparison of lists, place by place. -/
theorem cmp_loop {α : Type} (a b : List α) (hl : a.length = b.length) (hb : a.length ≤ 9223372036854775806) (step : Int → Option (Int ⊕ (Unit ⊕ Bool)))
    (hs : ∀ k (h : k < a.length), a[k] = b[k]'(hl ▸ h) → step (k : Int) = some (.inl ((k + 1 : Nat) : Int))) (hd : ∀ k (h : k < a.length), a[k] ≠ b[k]'(hl ▸ h) → step (k : Int) = some (.inr (.inr false)))
    (he : step (a.length : Int) = some (.inr (.inl ()))) (hbig : a.length < BIG) :
    ∃ r, loop step BIG 0 = some r ∧ ((r = .inl () ∧ a = b) ∨ (r = .inr false ∧ a ≠ b)) := by
  refine loop_inv (fun s => ∃ k : Nat, k ≤ a.length ∧ s = (k : Int) ∧ a.take k = b.take k) (fun s => a.length - s.toNat) _ ⟨0, by omega, rfl, rfl⟩ (by show a.length - 0 < BIG; omega) ?_
  rintro s ⟨k, hk, rfl, ht⟩
  by_cases hka : k < a.length
  · by_cases he : a[k] = b[k]'(hl ▸ hka)
    · rw [hs k hka he]
      exact .inl ⟨_, rfl, ⟨k + 1, by omega, rfl, (take_ext hl k hka ht).2 he⟩, by simp only [Int.toNat_natCast]; omega⟩
    · rw [hd k hka he]
      refine .inr ⟨_, rfl, .inr ⟨rfl, fun hab => he ?_⟩⟩
      subst hab; rfl
  · have hkk : k = a.length := by omega
    subst hkk
    rw [he]
    refine .inr ⟨_, rfl, .inl ⟨rfl, ?_⟩⟩
    rwa [List.take_length, hl, List.take_length] at ht

theorem eqI_eq (a b : List Int) (h : a.length ≤ 1048576) : l_eqInt64S a b = some (decide (a = b)) := by
  unfold l_eqInt64S
  by_cases hl : a.length = b.length
  · rw [if_neg (by omega)]
    obtain ⟨r, h1, h2⟩ := cmp_loop a b hl (by omega) (l_eqInt64S_L0 a b) (fun k hk he => by
        unfold l_eqInt64S_L0
        simp only [show (k : Int) < a.length by omega, if_true, idxk hk, idxk (hl ▸ hk), some_bind, he, not_true_eq_false, if_false]
        rw [w_in (by omega) (by omega)]; rfl) (fun k hk he => by
        unfold l_eqInt64S_L0
        simp only [show (k : Int) < a.length by omega, if_true, idxk hk, idxk (hl ▸ hk), some_bind, he, not_false_eq_true]) (by
        unfold l_eqInt64S_L0
        simp) (by rw [BIG_val]; omega)
    rw [h1, some_bind]
    rcases h2 with ⟨rfl, rfl⟩ | ⟨rfl, h3⟩
    · simp
    · simp [h3]
  · rw [if_pos (by omega)]
    have : a ≠ b := fun e => hl (by rw [e])
    simp [this]
theorem eqM_eq (a b : List (List Int)) (h : a.length ≤ 1048576) (hr : ∀ r ∈ a, r.length ≤ 1048576) : l_eqInt64SS a b = some (decide (a = b)) := by
  unfold l_eqInt64SS
  by_cases hl : a.length = b.length
  · rw [if_neg (by omega)]
    obtain ⟨r, h1, h2⟩ := cmp_loop a b hl (by omega) (l_eqInt64SS_L0 a b) (fun k hk he => by
        unfold l_eqInt64SS_L0
        simp only [show (k : Int) < a.length by omega, if_true, idxk hk, idxk (hl ▸ hk), some_bind]
        rw [eqI_eq _ _ (hr _ (List.getElem_mem hk))]
        simp only [he, some_bind, decide_true, Bool.true_eq_false, if_false]
        rw [w_in (by omega) (by omega)]; rfl) (fun k hk he => by
        unfold l_eqInt64SS_L0
        simp only [show (k : Int) < a.length by omega, if_true, idxk hk, idxk (hl ▸ hk), some_bind]
        rw [eqI_eq _ _ (hr _ (List.getElem_mem hk))]
        simp only [he, some_bind, decide_false, if_true]) (by
        unfold l_eqInt64SS_L0
        simp) (by rw [BIG_val]; omega)
    rw [h1, some_bind]
    rcases h2 with ⟨rfl, rfl⟩ | ⟨rfl, h3⟩
    · simp
    · simp [h3]
  · rw [if_pos (by omega)]
    have : a ≠ b := fun e => hl (by rw [e])
    simp [this]

/-! ### Marks -/
/-- A row whose first j numbers are marked, from k on. -/
def mkI (k : Nat) (xs : List Int) (j : Nat) : List Int := (List.range j).map (fun (i : Nat) => ((k + i : Nat) : Int)) ++ xs.drop j
theorem mkI_zero (k : Nat) (xs : List Int) : mkI k xs 0 = xs := by simp [mkI]
theorem mkI_len (k : Nat) (xs : List Int) (j : Nat) (h : j ≤ xs.length) : (mkI k xs j).length = xs.length := by simp [mkI]; omega
theorem mkI_set (k : Nat) (xs : List Int) (j : Nat) (h : j < xs.length) : (mkI k xs j).set j ((k + j : Nat) : Int) = mkI k xs (j + 1) := by
  unfold mkI
  rw [List.set_append_right _ _ (by simp), List.range_succ, List.map_append, List.append_assoc]
  congr 1
  simp only [List.length_map, List.length_range, Nat.sub_self, List.map_cons, List.map_nil]
  rw [List.drop_eq_getElem_cons h]
  rfl
/-- The marked row. -/
def mrkI (k : Nat) (xs : List Int) : List Int := mkI k xs xs.length
theorem mrkI_eq (k : Nat) (xs : List Int) : mrkI k xs = (List.range xs.length).map (fun (i : Nat) => ((k + i : Nat) : Int)) := by simp [mrkI, mkI]
theorem mrkI_len (k : Nat) (xs : List Int) : (mrkI k xs).length = xs.length := by simp [mrkI_eq]
theorem mrkI_get (k : Nat) (xs : List Int) (j : Nat) (h : j < (mrkI k xs).length) : (mrkI k xs)[j] = ((k + j : Nat) : Int) := by simp [mrkI_eq]

theorem markI_eq {xs : List Int} {k : Nat} (h : k + xs.length ≤ 1073741824) : l_markInt64S xs (k : Int) = some (((k + xs.length : Nat) : Int), mrkI k xs) := by
  unfold l_markInt64S
  rw [loop_for (b := (mrkI k xs, ((k + xs.length : Nat) : Int))) (fun j => (mkI k xs j, ((k + j : Nat) : Int), (j : Int))) xs.length (by rw [BIG_val]; omega) (by simp [mkI_zero])]
  · rfl
  · intro j hj
    unfold l_markInt64S_L0
    have hl := mkI_len k xs j (by omega)
    simp only [show (j : Int) < (mkI k xs j).length by omega, if_true]
    rw [idxk (by omega), some_bind, Int.toNat_natCast, mkI_set k xs j hj, w_in (by omega) (by omega), w_in (by omega) (by omega)]
    rfl
  · unfold l_markInt64S_L0
    have hl := mkI_len k xs xs.length (Nat.le_refl _)
    simp [hl, mrkI]
theorem heldI_eq {xs : List Int} {k : Nat} (h : k + xs.length ≤ 1073741824) : l_heldInt64S (mrkI k xs) (k : Int) = some ((k + xs.length : Nat) : Int) := by
  unfold l_heldInt64S
  have hl := mrkI_len k xs
  rw [loop_for (b := .inl ((k + xs.length : Nat) : Int)) (fun j => (((k + j : Nat) : Int), (j : Int))) xs.length (by rw [BIG_val]; omega) (by simp)]
  · rfl
  · intro j hj
    unfold l_heldInt64S_L0
    simp only [show (j : Int) < (mrkI k xs).length by omega, if_true]
    rw [idxk (by omega), some_bind, mrkI_get, if_neg (by simp), w_in (by omega) (by omega), w_in (by omega) (by omega)]
    rfl
  · unfold l_heldInt64S_L0
    simp [hl]

/-- A table whose first j rows are marked: where the count stands; what it holds. -/
def mkC (k : Nat) (m : List (List Int)) (j : Nat) : Nat := k + rowsum (m.take j)
def mkM (k : Nat) (m : List (List Int)) (j : Nat) : List (List Int) := (List.range j).map (fun i => mrkI (mkC k m i) (m.getD i [])) ++ m.drop j
theorem mkM_zero (k : Nat) (m : List (List Int)) : mkM k m 0 = m := by simp [mkM]
theorem mkM_len (k : Nat) (m : List (List Int)) (j : Nat) (h : j ≤ m.length) : (mkM k m j).length = m.length := by simp [mkM]; omega
theorem mkM_at (k : Nat) (m : List (List Int)) (j : Nat) (h : j < m.length) (h' : j < (mkM k m j).length) : (mkM k m j)[j] = m[j] := by
  have e : (mkM k m j)[j]? = m[j]? := by
    unfold mkM; rw [List.getElem?_append_right (by simp)]; simp
  rw [List.getElem?_eq_getElem h', List.getElem?_eq_getElem h] at e
  exact Option.some.inj e
theorem mkM_set (k : Nat) (m : List (List Int)) (j : Nat) (h : j < m.length) : (mkM k m j).set j (mrkI (mkC k m j) m[j]) = mkM k m (j + 1) := by
  unfold mkM
  rw [List.set_append_right _ _ (by simp), List.range_succ, List.map_append, List.append_assoc]
  congr 1
  simp only [List.length_map, List.length_range, Nat.sub_self, List.map_cons, List.map_nil]
  rw [List.drop_eq_getElem_cons h, List.set_cons_zero]
  simp [h]
theorem mkC_succ (k : Nat) (m : List (List Int)) (j : Nat) (h : j < m.length) : mkC k m (j + 1) = mkC k m j + m[j].length := by
  unfold mkC; rw [rowsum_take h]; omega
theorem mkC_le (k : Nat) (m : List (List Int)) (j : Nat) : mkC k m j ≤ k + rowsum m := by
  unfold mkC; have := rowsum_le m j; omega
/-- The marked table. -/
def mrkM (k : Nat) (m : List (List Int)) : List (List Int) := mkM k m m.length
theorem mrkM_len (k : Nat) (m : List (List Int)) : (mrkM k m).length = m.length := mkM_len _ _ _ (Nat.le_refl _)
theorem mrkM_get (k : Nat) (m : List (List Int)) (j : Nat) (h : j < m.length) (h' : j < (mrkM k m).length) : (mrkM k m)[j] = mrkI (mkC k m j) m[j] := by
  simp [mrkM, mkM, h]

theorem markM_eq {m : List (List Int)} {k : Nat} (hm : m.length ≤ 1073741824) (h : k + rowsum m ≤ 1073741824) : l_markInt64SS m (k : Int) = some (((k + rowsum m : Nat) : Int), mrkM k m) := by
  unfold l_markInt64SS
  rw [loop_for (b := (mrkM k m, ((k + rowsum m : Nat) : Int))) (fun j => (mkM k m j, ((mkC k m j : Nat) : Int), (j : Int))) m.length (by rw [BIG_val]; omega) (by simp [mkM_zero, mkC, rowsum])]
  · rfl
  · intro j hj
    unfold l_markInt64SS_L0
    have hl := mkM_len k m j (by omega)
    have hc := mkC_succ k m j hj
    have hc2 := mkC_le k m (j + 1)
    simp only [show (j : Int) < (mkM k m j).length by omega, if_true]
    rw [idxk (by omega), some_bind, mkM_at k m j hj, markI_eq (by omega), some_bind, Int.toNat_natCast, mkM_set k m j hj, w_in (by omega) (by omega), hc]
    rfl
  · unfold l_markInt64SS_L0
    have hl := mkM_len k m m.length (Nat.le_refl _)
    simp [hl, mrkM, mkC]
theorem heldM_eq {m : List (List Int)} {k : Nat} (hm : m.length ≤ 1073741824) (h : k + rowsum m ≤ 1073741824) : l_heldInt64SS (mrkM k m) (k : Int) = some ((k + rowsum m : Nat) : Int) := by
  unfold l_heldInt64SS
  have hl := mrkM_len k m
  rw [loop_for (b := .inl ((k + rowsum m : Nat) : Int)) (fun j => (((mkC k m j : Nat) : Int), (j : Int))) m.length (by rw [BIG_val]; omega) (by simp [mkC, rowsum])]
  · rfl
  · intro j hj
    unfold l_heldInt64SS_L0
    have hc := mkC_succ k m j hj
    have hc2 := mkC_le k m (j + 1)
    simp only [show (j : Int) < (mrkM k m).length by omega, if_true]
    rw [idxk (by omega), some_bind, mrkM_get k m j hj, heldI_eq (by omega), some_bind, if_neg (by omega), w_in (by omega) (by omega), hc]
    rfl
  · unfold l_heldInt64SS_L0
    simp [hl, mkC]
theorem markI_1 {xs : List Int} (h : xs.length ≤ 1048576) : l_markInt64S xs 1 = some (((1 + xs.length : Nat) : Int), mrkI 1 xs) := markI_eq (k := 1) (by omega)
theorem markM_1 {m : List (List Int)} (hm : m.length ≤ 1048576) (h : rowsum m ≤ 1048576) : l_markInt64SS m 1 = some (((1 + rowsum m : Nat) : Int), mrkM 1 m) := markM_eq (k := 1) (by omega) (by omega)
theorem heldM_1 {m : List (List Int)} (hm : m.length ≤ 1048576) (h : rowsum m ≤ 1048576) : l_heldInt64SS (mrkM 1 m) 1 = some ((1 + rowsum m : Nat) : Int) := heldM_eq (k := 1) (by omega) (by omega)
theorem ieq_self (a : Int) : ieq a a = true := by simp [ieq]
end Go.Vam

/- Plain laws: loops that map, test, add; numbers and tables over a prime. -/
namespace Go.Vam
open Go Go.RowKit
set_option linter.unusedSimpArgs false
set_option linter.unusedVariables false

/-! ### Loops -/
/-- A vector by its numbers. -/
def vecN {α : Type} (n : Nat) (f : Nat → α) : List α := (List.range n).map f
@[simp] theorem vecN_len {α : Type} (n : Nat) (f : Nat → α) : (vecN n f).length = n := by simp [vecN]
theorem vecN_succ {α : Type} (n : Nat) (f : Nat → α) : vecN (n + 1) f = vecN n f ++ [f n] := by simp [vecN, List.range_succ]
theorem vecN_getD {α : Type} (n : Nat) (f : Nat → α) (k : Nat) (z : α) (h : k < n) : (vecN n f).getD k z = f k := by simp [vecN, h]
theorem vecN_get {α : Type} (n : Nat) (f : Nat → α) (k : Nat) (h : k < (vecN n f).length) : (vecN n f)[k] = f k := by simp [vecN]
theorem vecN_congr {α : Type} {n : Nat} {f g : Nat → α} (h : ∀ k, k < n → f k = g k) : vecN n f = vecN n g := by
  unfold vecN
  exact List.map_congr_left fun k hk => h k (List.mem_range.1 hk)
theorem vecN_ext {α : Type} {xs : List α} {n : Nat} {f : Nat → α} (z : α) (hl : xs.length = n) (h : ∀ k, k < n → xs.getD k z = f k) : xs = vecN n f := by
  apply List.ext_getElem
  · simp [hl]
  · intro k h1 h2
    have := h k (by omega)
    rw [vecN_get, ← this, List.getD_eq_getElem?_getD, List.getElem?_eq_getElem h1]; rfl
theorem getD_get {α : Type} {xs : List α} {k : Nat} (h : k < xs.length) (z : α) : xs[k] = xs.getD k z := by
  rw [List.getD_eq_getElem?_getD, List.getElem?_eq_getElem h]; rfl
theorem idxD {α : Type} {xs : List α} {k : Nat} (h : k < xs.length) (z : α) : idx xs (k : Int) = some (xs.getD k z) := by rw [idxk h, getD_get h z]
theorem idxD0 {α : Type} {xs : List α} (h : 0 < xs.length) (z : α) : idx xs 0 = some (xs.getD 0 z) := idxD (k := 0) h z

/-- A list's number, a table's row. -/
def gI (v : List Int) (k : Nat) : Int := v.getD k 0
def gR (m : List (List Int)) (k : Nat) : List Int := m.getD k []
theorem idxI {v : List Int} {k : Nat} (h : k < v.length) : idx v (k : Int) = some (gI v k) := idxD h 0
theorem idxR {m : List (List Int)} {k : Nat} (h : k < m.length) : idx m (k : Int) = some (gR m k) := idxD h []
theorem idxR0 {m : List (List Int)} (h : 0 < m.length) : idx m 0 = some (gR m 0) := idxD0 h []
theorem gI_get {v : List Int} {k : Nat} (h : k < v.length) : v[k] = gI v k := getD_get h 0
theorem gR_get {m : List (List Int)} {k : Nat} (h : k < m.length) : m[k] = gR m k := getD_get h []
theorem gI_vecN {n k : Nat} (f : Nat → Int) (h : k < n) : gI (vecN n f) k = f k := vecN_getD n f k 0 h
theorem gR_vecN {n k : Nat} (f : Nat → List Int) (h : k < n) : gR (vecN n f) k = f k := vecN_getD n f k [] h
theorem extI {v : List Int} {n : Nat} {f : Nat → Int} (hl : v.length = n) (h : ∀ k, k < n → gI v k = f k) : v = vecN n f := vecN_ext 0 hl h
theorem extR {m : List (List Int)} {n : Nat} {f : Nat → List Int} (hl : m.length = n) (h : ∀ k, k < n → gR m k = f k) : m = vecN n f := vecN_ext [] hl h
theorem map_loop {α : Type} (step : List α × Int → Option ((List α × Int) ⊕ List α)) (n : Nat) (f : Nat → α) (hn : n < BIG)
    (hs : ∀ k, k < n → ∀ out, out.length = k → step (out, (k : Int)) = some (.inl (out ++ [f k], ((k + 1 : Nat) : Int)))) (he : ∀ out, out.length = n → step (out, (n : Int)) = some (.inr out)) :
    loop step BIG ([], 0) = some (vecN n f) :=
  loop_for (fun k => (vecN k f, (k : Int))) n hn rfl (fun k hk => by rw [hs k hk _ (vecN_len k f), vecN_succ]) (he _ (vecN_len n f))

theorem all_loop {B : Type} (step : Int → Option (Int ⊕ (Unit ⊕ B))) (n : Nat) (f : Nat → Bool) (r : B) (hn : n < BIG)
    (hs : ∀ k, k < n → f k = true → step (k : Int) = some (.inl ((k + 1 : Nat) : Int))) (hb : ∀ k, k < n → f k = false → step (k : Int) = some (.inr (.inr r))) (he : step (n : Int) = some (.inr (.inl ()))) :
    loop step BIG 0 = some (if (List.range n).all f then .inl () else .inr r) := by
  obtain ⟨b, h1, h2⟩ := loop_inv (step := step) (fun s => ∃ k : Nat, k ≤ n ∧ s = (k : Int) ∧ ∀ j, j < k → f j = true) (fun s => n - s.toNat)
    (fun b => b = if (List.range n).all f then .inl () else .inr r) (s := 0) ⟨0, by omega, rfl, fun j hj => by omega⟩ (by show n - 0 < BIG; omega) (by
      rintro s ⟨k, hk, rfl, ha⟩
      by_cases hkn : k < n
      · cases hf : f k with
        | true =>
          refine .inl ⟨_, hs k hkn hf, ⟨k + 1, by omega, rfl, fun j hj => ?_⟩, by simp only [Int.toNat_natCast]; omega⟩
          rcases Nat.lt_succ_iff_lt_or_eq.1 hj with h | rfl
          · exact ha j h
          · exact hf
        | false =>
          refine .inr ⟨_, hb k hkn hf, ?_⟩
          rw [if_neg]
          intro h
          have := List.all_eq_true.1 h k (List.mem_range.2 hkn)
          rw [hf] at this; cases this
      · have hkk : k = n := by omega
        subst hkk
        refine .inr ⟨_, he, ?_⟩
        rw [if_pos]
        exact List.all_eq_true.2 fun j hj => ha j (List.mem_range.1 hj))
  rw [h1, h2]
theorem all_range {α : Type} (xs : List α) (g : α → Bool) (z : α) : ((List.range xs.length).all fun k => g (xs.getD k z)) = xs.all g := by
  rw [Bool.eq_iff_iff, List.all_eq_true, List.all_eq_true]
  constructor
  · intro h x hx
    obtain ⟨k, hk, rfl⟩ := List.getElem_of_mem hx
    have := h k (List.mem_range.2 hk)
    rwa [← getD_get hk z] at this
  · intro h k hk
    rw [← getD_get (List.mem_range.1 hk) z]
    exact h _ (List.getElem_mem _)

theorem all_rangeI (xs : List Int) (g : Int → Bool) : ((List.range xs.length).all fun k => g (gI xs k)) = xs.all g := all_range xs g 0
theorem all_rangeR (m : List (List Int)) (g : List Int → Bool) : ((List.range m.length).all fun k => g (gR m k)) = m.all g := all_range m g []
/-- A state, turned n times. -/
def foldN {σ : Type} (g : Nat → σ → σ) (z : σ) : Nat → σ
  | 0 => z
  | k + 1 => g k (foldN g z k)
theorem fold_loop {σ B : Type} (step : σ × Int → Option ((σ × Int) ⊕ B)) (n : Nat) (g : Nat → σ → σ) (z : σ) (I : Nat → σ → Prop) (out : σ → B) (hn : n < BIG) (h0 : I 0 z)
    (hI : ∀ k s, k < n → I k s → I (k + 1) (g k s)) (hs : ∀ k s, k < n → I k s → step (s, (k : Int)) = some (.inl (g k s, ((k + 1 : Nat) : Int)))) (he : ∀ s, I n s → step (s, (n : Int)) = some (.inr (out s))) :
    loop step BIG (z, 0) = some (out (foldN g z n)) ∧ I n (foldN g z n) := by
  have hI' : ∀ k, k ≤ n → I k (foldN g z k) := by
    intro k
    induction k with
    | zero => intro _; exact h0
    | succ k ih => intro hk; exact hI k _ (by omega) (ih (by omega))
  exact ⟨loop_for (fun k => (foldN g z k, (k : Int))) n hn rfl (fun k hk => hs k _ hk (hI' k (by omega))) (he _ (hI' n (Nat.le_refl _))), hI' n (Nat.le_refl _)⟩

/-- A sum. -/
def sumN (f : Nat → Int) : Nat → Int
  | 0 => 0
  | k + 1 => sumN f k + f k
theorem sumN_congr {f g : Nat → Int} : ∀ {n : Nat}, (∀ k, k < n → f k = g k) → sumN f n = sumN g n
  | 0, _ => rfl
  | n + 1, h => by simp only [sumN, sumN_congr (n := n) fun k hk => h k (by omega), h n (by omega)]
theorem sumN_bound {f : Nat → Int} {b : Int} : ∀ {n : Nat}, (∀ k, k < n → 0 ≤ f k ∧ f k ≤ b) → 0 ≤ sumN f n ∧ sumN f n ≤ b * n
  | 0, _ => by simp [sumN]
  | n + 1, h => by
    have h1 := sumN_bound (n := n) fun k hk => h k (by omega)
    have h2 := h n (by omega)
    simp only [sumN, Int.natCast_add, Int.mul_add]
    have : b * ((1 : Nat) : Int) = b := by simp
    omega

/-! ### Numbers -/
def isP (p : Int) : Bool := decide (p = 3) || decide (p = 5) || decide (p = 7) || decide (p = 11) || decide (p = 13)
theorem isP_cases {p : Int} (h : isP p = true) : p = 3 ∨ p = 5 ∨ p = 7 ∨ p = 11 ∨ p = 13 := by
  simp only [isP, Bool.or_eq_true, decide_eq_true_eq] at h; omega
theorem isP_le {p : Int} (h : isP p = true) : 3 ≤ p ∧ p ≤ 13 := by have := isP_cases h; omega
def isNum (p x : Int) : Bool := decide (0 ≤ x) && decide (x ≤ p - 1)
def nums (p : Int) (xs : List Int) : Bool := xs.all (isNum p)
theorem isNum_iff {p x : Int} : isNum p x = true ↔ 0 ≤ x ∧ x < p := by simp [isNum]; omega
theorem nums_iff {p : Int} {xs : List Int} : nums p xs = true ↔ ∀ x ∈ xs, 0 ≤ x ∧ x < p := by simp only [nums, List.all_eq_true, isNum_iff]

theorem s_l01Prime_eq (p : Int) : s_l01Prime p = some (isP p) := by
  unfold s_l01Prime isP
  by_cases h1 : p = 3
  · simp [h1]
  by_cases h2 : p = 5
  · simp [h2]
  by_cases h3 : p = 7
  · simp [h3]
  by_cases h4 : p = 11
  · simp [h4]
  simp [h1, h2, h3, h4, ieq]
theorem i_IsPrime_eq (p : Int) : i_IsPrime p = some (isP p) := by
  unfold i_IsPrime isP
  by_cases h1 : p = 3
  · simp [h1, ieq]
  by_cases h2 : p = 5
  · simp [h2, ieq]
  by_cases h3 : p = 7
  · simp [h3, ieq]
  by_cases h4 : p = 11
  · simp [h4, ieq]
  by_cases h5 : p = 13
  · simp [h5, ieq]
  simp [h1, h2, h3, h4, h5, ieq]
theorem s_l01In_eq (n lo hi : Int) : s_l01In n lo hi = some (decide (lo ≤ n) && decide (n ≤ hi)) := by
  unfold s_l01In
  by_cases h : lo ≤ n <;> simp [h, ile]
theorem i_inRange_eq (n lo hi : Int) : i_inRange n lo hi = some (decide (lo ≤ n) && decide (n ≤ hi)) := by
  unfold i_inRange
  by_cases h : lo ≤ n <;> simp [h, ile]
theorem s_l01Numbers_eq {p : Int} {xs : List Int} (hp : 0 ≤ p) (hp2 : p ≤ 1048576) (hl : xs.length ≤ 1048576) : s_l01Numbers p xs = some (nums p xs) := by
  unfold s_l01Numbers
  rw [all_loop _ xs.length (fun k => isNum p (gI xs k)) false (by rw [BIG_val]; omega)]
  · rw [all_rangeI xs (isNum p)]
    unfold nums
    cases xs.all (isNum p) <;> rfl
  · intro k hk hf
    unfold s_l01Numbers_L0
    simp only [show (k : Int) < xs.length by omega, if_true, idxI hk, some_bind, s_l01In_eq]
    rw [w_in (by omega) (by omega), w_in (by omega) (by omega)]
    unfold isNum at hf
    simp [hf]
  · intro k hk hf
    unfold s_l01Numbers_L0
    simp only [show (k : Int) < xs.length by omega, if_true, idxI hk, some_bind, s_l01In_eq]
    rw [w_in (by omega) (by omega)]
    unfold isNum at hf
    simp [hf]
  · unfold s_l01Numbers_L0
    simp
theorem i_field_is_eq {p : Int} {xs : List Int} (hp : 0 ≤ p) (hp2 : p ≤ 1048576) (hl : xs.length ≤ 1048576) : i_field_is p xs = some (nums p xs) := by
  unfold i_field_is
  rw [all_loop _ xs.length (fun k => isNum p (gI xs k)) false (by rw [BIG_val]; omega)]
  · rw [all_rangeI xs (isNum p)]
    unfold nums
    cases xs.all (isNum p) <;> rfl
  · intro k hk hf
    unfold i_field_is_L0
    simp only [show (k : Int) < xs.length by omega, if_true, idxI hk, some_bind, i_inRange_eq]
    rw [w_in (by omega) (by omega), w_in (by omega) (by omega)]
    unfold isNum at hf
    simp [hf]
  · intro k hk hf
    unfold i_field_is_L0
    simp only [show (k : Int) < xs.length by omega, if_true, idxI hk, some_bind, i_inRange_eq]
    rw [w_in (by omega) (by omega)]
    unfold isNum at hf
    simp [hf]
  · unfold i_field_is_L0
    simp

/-! ### Tables -/
/-- The first row's length. -/
def wid (m : List (List Int)) : Nat := (gR m 0).length
def okRow (p : Int) (n : Nat) (r : List Int) : Bool := decide (r.length = n) && nums p r
def isMat (p : Int) (m : List (List Int)) : Bool :=
  isP p && decide (1 ≤ m.length) && decide (m.length ≤ 16) && decide (1 ≤ wid m) && decide (wid m ≤ 16) && m.all (okRow p (wid m))

/-- A vector of n numbers; a table of r rows and c columns. -/
def Vec (p : Int) (n : Nat) (v : List Int) : Prop := v.length = n ∧ ∀ k, k < n → 0 ≤ gI v k ∧ gI v k < p
def Mat (p : Int) (r c : Nat) (m : List (List Int)) : Prop := m.length = r ∧ ∀ i, i < r → Vec p c (gR m i)
theorem Vec.of {p : Int} {v : List Int} (h : nums p v = true) : Vec p v.length v := by
  refine ⟨rfl, fun k hk => ?_⟩
  rw [← gI_get hk]
  exact nums_iff.1 h _ (List.getElem_mem _)
theorem Vec.nums {p : Int} {n : Nat} {v : List Int} (h : Vec p n v) : nums p v = true := by
  rw [nums_iff]
  intro x hx
  obtain ⟨k, hk, rfl⟩ := List.getElem_of_mem hx
  rw [gI_get hk]
  exact h.2 k (h.1 ▸ hk)

theorem isMat_iff {p : Int} {m : List (List Int)} : isMat p m = true ↔ isP p = true ∧ 1 ≤ m.length ∧ m.length ≤ 16 ∧ 1 ≤ wid m ∧ wid m ≤ 16 ∧ Mat p m.length (wid m) m := by
  simp only [isMat, Bool.and_eq_true, decide_eq_true_eq, and_assoc]
  refine and_congr_right fun _ => and_congr_right fun _ => and_congr_right fun _ => and_congr_right fun _ => and_congr_right fun _ => ?_
  rw [List.all_eq_true]
  constructor
  · intro h
    refine ⟨rfl, fun i hi => ?_⟩
    have := h _ (List.getElem_mem hi)
    simp only [okRow, Bool.and_eq_true, decide_eq_true_eq] at this
    rw [← gR_get hi]
    have h2 := Vec.of this.2
    rwa [this.1] at h2
  · rintro ⟨_, h⟩ r hr
    obtain ⟨k, hk, rfl⟩ := List.getElem_of_mem hr
    have := h k hk
    rw [← gR_get hk] at this
    simp only [okRow, Bool.and_eq_true, decide_eq_true_eq]
    exact ⟨this.1, this.nums⟩

abbrev szM (m : List (List Int)) : Prop := m.length ≤ 1048576 ∧ ∀ r ∈ m, r.length ≤ 1048576
theorem szM.row {m : List (List Int)} (h : szM m) {k : Nat} (hk : k < m.length) : (gR m k).length ≤ 1048576 := by
  rw [← gR_get hk]; exact h.2 _ (List.getElem_mem _)

theorem s_l02Is_eq {p : Int} {m : List (List Int)} (h : szM m) : s_l02Is p m = some (isMat p m) := by
  unfold s_l02Is
  rw [s_l01Prime_eq, some_bind]
  cases hP : isP p with
  | false => simp [isMat, hP]
  | true =>
    have hp := isP_le hP
    simp only [Bool.true_eq_false, if_false]
    by_cases h1 : m.length = 0
    · simp [isMat, h1]
    by_cases h2 : 16 < m.length
    · rw [if_neg (by omega), if_pos (by omega), some_bind, if_pos rfl]
      simp [isMat, show ¬ m.length ≤ 16 by omega]
    rw [if_neg (by omega), if_neg (by omega), idxR0 (by omega), some_bind]
    by_cases h3 : (gR m 0).length = 0
    · rw [if_pos (by omega), some_bind, if_pos rfl]
      have : ¬ 1 ≤ wid m := by unfold wid; omega
      simp [isMat, this]
    by_cases h4 : 16 < (gR m 0).length
    · rw [if_neg (by omega), some_bind]
      simp only [ilt, show (16 : Int) < (gR m 0).length by omega, decide_true, if_true]
      have : ¬ wid m ≤ 16 := by unfold wid; omega
      simp [isMat, this]
    rw [if_neg (by omega), some_bind]
    simp only [ilt, show ¬ (16 : Int) < (gR m 0).length by omega, decide_false, Bool.false_eq_true, if_false]
    rw [all_loop _ m.length (fun k => okRow p (wid m) (gR m k)) false (by rw [BIG_val]; omega)]
    · rw [some_bind, all_rangeR m (okRow p (wid m))]
      have : isMat p m = m.all (okRow p (wid m)) := by
        simp only [isMat, hP, wid, show 1 ≤ m.length by omega, show m.length ≤ 16 by omega, show 1 ≤ (gR m 0).length by omega, show (gR m 0).length ≤ 16 by omega, decide_true, Bool.and_self, Bool.true_and]
      rw [this]
      cases m.all (okRow p (wid m)) <;> rfl
    · intro k hk hf
      unfold s_l02Is_L0
      simp only [okRow, Bool.and_eq_true, decide_eq_true_eq] at hf
      have hw : (gR m k).length = (gR m 0).length := hf.1
      simp only [show (k : Int) < m.length by omega, if_true, idxR hk, idxR0 (show 0 < m.length by omega), some_bind, hw, not_true_eq_false, if_false]
      rw [s_l01Numbers_eq (by omega) (by omega) (h.row hk), some_bind, hf.2, some_bind, w_in (by omega) (by omega)]
      rfl
    · intro k hk hf
      unfold s_l02Is_L0
      simp only [show (k : Int) < m.length by omega, if_true, idxR hk, idxR0 (show 0 < m.length by omega), some_bind]
      simp only [okRow, Bool.and_eq_false_iff, decide_eq_false_iff_not] at hf
      have hw : wid m = (gR m 0).length := rfl
      rw [hw] at hf
      by_cases he : (gR m k).length = (gR m 0).length
      · rw [if_neg (by omega), s_l01Numbers_eq (by omega) (by omega) (h.row hk), some_bind]
        rcases hf with hf | hf
        · exact absurd he hf
        · rw [hf]; rfl
      · rw [if_pos (by omega)]; rfl
    · unfold s_l02Is_L0
      simp

/-- The implementation's test. -/
def tabRow (p : Int) (n : Nat) (r : List Int) : Bool := decide (r.length = n) && decide (1 ≤ r.length) && decide (r.length ≤ 16) && nums p r
def isTab (p : Int) (m : List (List Int)) : Bool := decide (m.length ≤ 16) && m.all (tabRow p (wid m))
theorem isMat_tab (p : Int) (m : List (List Int)) : isMat p m = (isP p && (decide (0 < m.length) && isTab p m)) := by
  cases m with
  | nil => simp [isMat]
  | cons r m =>
    have e : wid (r :: m) = r.length := (rfl)
    rw [Bool.eq_iff_iff]
    simp only [isMat, isTab, e, List.all_eq_true, Bool.and_eq_true, decide_eq_true_eq, okRow, tabRow]
    constructor
    · rintro ⟨⟨⟨⟨⟨h1, h2⟩, h3⟩, h4⟩, h5⟩, h6⟩
      exact ⟨h1, h2, h3, fun x hx => by obtain ⟨a, b⟩ := h6 x hx; exact ⟨⟨⟨a, by omega⟩, by omega⟩, b⟩⟩
    · rintro ⟨h1, h2, h3, h6⟩
      obtain ⟨⟨⟨a, b⟩, c⟩, d⟩ := h6 r (by simp)
      exact ⟨⟨⟨⟨⟨h1, h2⟩, h3⟩, b⟩, c⟩, fun x hx => ⟨(h6 x hx).1.1.1, (h6 x hx).2⟩⟩

theorem i_field_isTable_eq {p : Int} {m : List (List Int)} (hp : 0 ≤ p) (hp2 : p ≤ 1048576) (h : szM m) : i_field_isTable p m = some (isTab p m) := by
  unfold i_field_isTable
  by_cases h1 : 16 < m.length
  · rw [if_pos (by omega)]
    simp [isTab, show ¬ m.length ≤ 16 by omega]
  rw [if_neg (by omega), all_loop _ m.length (fun k => tabRow p (wid m) (gR m k)) false (by rw [BIG_val]; omega)]
  · rw [some_bind, all_rangeR m (tabRow p (wid m))]
    have : isTab p m = m.all (tabRow p (wid m)) := by simp only [isTab, show m.length ≤ 16 by omega, decide_true, Bool.true_and]
    rw [this]
    cases m.all (tabRow p (wid m)) <;> rfl
  · intro k hk hf
    unfold i_field_isTable_L0
    simp only [tabRow, Bool.and_eq_true, decide_eq_true_eq] at hf
    have hw : (gR m k).length = (gR m 0).length := hf.1.1.1
    simp only [show (k : Int) < m.length by omega, if_true, idxR hk, idxR0 (show 0 < m.length by omega), some_bind, hw, not_true_eq_false, if_false]
    rw [if_neg (by omega), if_neg (by omega), i_field_is_eq hp hp2 (h.row hk), some_bind, hf.2, some_bind, w_in (by omega) (by omega)]
    rfl
  · intro k hk hf
    unfold i_field_isTable_L0
    simp only [show (k : Int) < m.length by omega, if_true, idxR hk, idxR0 (show 0 < m.length by omega), some_bind]
    simp only [tabRow, Bool.and_eq_false_iff, decide_eq_false_iff_not] at hf
    have hw : wid m = (gR m 0).length := rfl
    rw [hw] at hf
    by_cases he : (gR m k).length = (gR m 0).length
    · rw [if_neg (by omega)]
      by_cases h2 : 1 ≤ (gR m k).length
      · rw [if_neg (by omega)]
        by_cases h3 : (gR m k).length ≤ 16
        · rw [if_neg (by omega), i_field_is_eq hp hp2 (h.row hk), some_bind]
          have : nums p (gR m k) = false := by
            rcases hf with ((hf | hf) | hf) | hf
            · exact absurd he hf
            · exact absurd h2 hf
            · exact absurd h3 hf
            · exact hf
          rw [this]; rfl
        · rw [if_pos (by omega)]; rfl
      · rw [if_pos (by omega)]; rfl
    · rw [if_pos (by omega)]; rfl
  · unfold i_field_isTable_L0
    simp
theorem i_field_isMatrix_eq {p : Int} {m : List (List Int)} (hP : isP p = true) (h : szM m) : i_field_isMatrix p m = some (isMat p m) := by
  have hp := isP_le hP
  unfold i_field_isMatrix
  rw [isMat_tab, hP]
  by_cases h1 : 0 < m.length
  · rw [if_pos (by omega), i_field_isTable_eq (by omega) (by omega) h]
    simp [h1]
  · rw [if_neg (by omega)]
    simp [h1]
end Go.Vam

/- Plain laws: arithmetic of rows and tables: products, sums, multiples. -/
namespace Go.Vam
open Go Go.RowKit
set_option linter.unusedSimpArgs false
set_option linter.unusedVariables false

theorem mul_abs {a b : Int} {A B : Nat} (ha : a.natAbs ≤ A) (hb : b.natAbs ≤ B) : (a * b).natAbs ≤ A * B := by
  rw [Int.natAbs_mul]; exact Nat.mul_le_mul ha hb
theorem tmod_nn {a b : Int} (h : 0 ≤ a) : a.tmod b = a % b := Int.tmod_eq_emod_of_nonneg h
theorem mod_num {a p : Int} (h : 0 < p) : 0 ≤ a % p ∧ a % p < p := ⟨Int.emod_nonneg _ (by omega), Int.emod_lt_of_pos _ h⟩
theorem tmod_bounds (n : Int) {p : Int} (h : 0 < p) : -p < n.tmod p ∧ n.tmod p < p := by
  by_cases hn : 0 ≤ n
  · rw [tmod_nn hn]; have := mod_num (a := n) h; omega
  · have e : n.tmod p = -((-n).tmod p) := by rw [Int.neg_tmod, Int.neg_neg]
    rw [e, tmod_nn (by omega)]
    have := mod_num (a := -n) h; omega
/-- Go's way to a remainder that is not negative. -/
theorem num_mod (n : Int) {p : Int} (h : 0 < p) : (n.tmod p + p).tmod p = n % p := by
  have hb := tmod_bounds n h
  rw [tmod_nn (by omega), Int.add_emod_right]
  by_cases hn : 0 ≤ n
  · rw [tmod_nn hn, Int.emod_emod_of_dvd _ (Int.dvd_refl p)]
  · have e : n.tmod p = n - p * (n.tdiv p) := by have := Int.mul_tdiv_add_tmod n p; omega
    rw [e, Int.sub_mul_emod_self_left]
theorem mod_small {a p : Int} (h0 : 0 ≤ a) (h1 : a < p) : a % p = a := Int.emod_eq_of_lt h0 h1

theorem i_field_num_eq {p n : Int} (hp : 0 < p) (hp2 : p ≤ 1048576) (h1 : -9223372036854775808 ≤ n) (h2 : n ≤ 9223372036854775807) : i_field_num p n = some (n % p) := by
  unfold i_field_num
  have hb := tmod_bounds n hp
  rw [chk_bind (by omega), chk_bind (by omega), w_in (by omega) (by omega), num_mod n hp]

/-! ### Rows -/
/-- The product of rows of n numbers. -/
def dotp (p : Int) (n : Nat) (a b : List Int) : Int := sumN (fun k => gI a k * gI b k) n % p
/-- A row and a multiple of another one. -/
def plusv (p : Int) (n : Nat) (a b : List Int) (k : Int) : List Int := vecN n fun i => (gI a i + k * gI b i) % p
def scalev (p : Int) (n : Nat) (a : List Int) (k : Int) : List Int := vecN n fun i => (gI a i * k) % p

theorem Vec.get {p : Int} {n : Nat} {v : List Int} (h : Vec p n v) {k : Nat} (hk : k < n) : 0 ≤ gI v k ∧ gI v k < p := h.2 k hk
theorem Vec.mk' {p : Int} {n : Nat} {f : Nat → Int} (h : ∀ k, k < n → 0 ≤ f k ∧ f k < p) : Vec p n (vecN n f) := ⟨vecN_len n f, fun k hk => by rw [gI_vecN f hk]; exact h k hk⟩
theorem Mat.row {p : Int} {r c : Nat} {m : List (List Int)} (h : Mat p r c m) {i : Nat} (hi : i < r) : Vec p c (gR m i) := h.2 i hi
theorem Mat.mk' {p : Int} {r c : Nat} {f : Nat → List Int} (h : ∀ i, i < r → Vec p c (f i)) : Mat p r c (vecN r f) := ⟨vecN_len r f, fun i hi => by rw [gR_vecN f hi]; exact h i hi⟩
theorem plusv_vec {p : Int} (hp : 0 < p) (n : Nat) (a b : List Int) (k : Int) : Vec p n (plusv p n a b k) := Vec.mk' fun i _ => mod_num hp
section
variable {p : Int} {n : Nat} {a b : List Int} (hp : 0 < p) (hp2 : p ≤ 13) (hn : n ≤ 1048576)

theorem sum_bound (ha : Vec p n a) (hb : Vec p n b) (hp2 : p ≤ 13) (k : Nat) (hk : k ≤ n) : 0 ≤ sumN (fun k => gI a k * gI b k) k ∧ sumN (fun k => gI a k * gI b k) k ≤ 144 * k :=
  sumN_bound fun j hj => by
    have h1 := ha.get (k := j) (by omega)
    have h2 := hb.get (k := j) (by omega)
    have h3 := mul_abs (a := gI a j) (b := gI b j) (A := 12) (B := 12) (by omega) (by omega)
    have h4 := Int.mul_nonneg h1.1 h2.1
    omega

include hp hp2 hn
theorem i_field_dot_eq (ha : Vec p n a) (hb : Vec p n b) : i_field_dot p a b = some (dotp p n a b) := by
  unfold i_field_dot
  rw [loop_for (b := sumN (fun k => gI a k * gI b k) n) (fun k => (sumN (fun k => gI a k * gI b k) k, (k : Int))) n (by rw [BIG_val]; omega) (by simp [sumN])]
  · have := sum_bound ha hb hp2 n (Nat.le_refl _)
    rw [some_bind, i_field_num_eq hp (by omega) (by omega) (by omega)]; rfl
  · intro k hk
    unfold i_field_dot_L0
    have e1 := ha.1; have e2 := hb.1
    have h1 := ha.get hk; have h2 := hb.get hk
    have h3 := mul_abs (a := gI a k) (b := gI b k) (A := 12) (B := 12) (by omega) (by omega)
    have h4 := sum_bound ha hb hp2 k (by omega)
    simp only [show (k : Int) < a.length by omega, if_true, idxI (show k < a.length by omega), idxI (show k < b.length by omega), some_bind]
    rw [w_in (x := gI a k * gI b k) (by omega) (by omega), w_in (by omega) (by omega), w_in (by omega) (by omega)]
    rfl
  · unfold i_field_dot_L0
    have e1 := ha.1
    simp [e1]

theorem i_field_plus_eq {k : Int} (hk : k.natAbs ≤ 1000) (ha : Vec p n a) (hb : Vec p n b) : i_field_plus p a b k = some (plusv p n a b k) := by
  unfold i_field_plus
  rw [map_loop _ n (fun i => (gI a i + k * gI b i) % p) (by rw [BIG_val]; omega)]
  · rfl
  · intro i hi out ho
    unfold i_field_plus_L0
    have e1 := ha.1; have e2 := hb.1
    have h1 := ha.get hi; have h2 := hb.get hi
    have h3 := mul_abs (a := k) (b := gI b i) (A := 1000) (B := 12) hk (by omega)
    simp only [show (i : Int) < a.length by omega, if_true, idxI (show i < a.length by omega), idxI (show i < b.length by omega), some_bind]
    rw [w_in (x := k * gI b i) (by omega) (by omega), w_in (x := gI a i + k * gI b i) (by omega) (by omega), i_field_num_eq hp (by omega) (by omega) (by omega), some_bind,
      chk_bind (by simp only [List.length_cons, List.length_nil]; omega), w_in (by omega) (by omega)]
    rfl
  · intro out ho
    unfold i_field_plus_L0
    have e1 := ha.1
    simp [e1]
theorem s_l02Plus_eq {k : Int} (hk : 0 ≤ k) (hk2 : k ≤ 1000) (ha : Vec p n a) (hb : Vec p n b) : s_l02Plus p a b k = some (plusv p n a b k) := by
  unfold s_l02Plus
  rw [map_loop _ n (fun i => (gI a i + k * gI b i) % p) (by rw [BIG_val]; omega)]
  · rfl
  · intro i hi out ho
    unfold s_l02Plus_L0
    have e1 := ha.1; have e2 := hb.1
    have h1 := ha.get hi; have h2 := hb.get hi
    have h3 := mul_abs (a := k) (b := gI b i) (A := 1000) (B := 12) (by omega) (by omega)
    have h4 := Int.mul_nonneg hk h2.1
    simp only [show (i : Int) < a.length by omega, if_true, idxI (show i < a.length by omega), idxI (show i < b.length by omega), some_bind]
    rw [chk_bind (by omega), w_in (x := k * gI b i) (by omega) (by omega), w_in (x := gI a i + k * gI b i) (by omega) (by omega),
      chk_bind (by simp only [List.length_cons, List.length_nil]; omega), w_in (by omega) (by omega), tmod_nn (by omega)]
    rfl
  · intro out ho
    unfold s_l02Plus_L0
    have e1 := ha.1
    simp [e1]
end

/-! ### Tables -/
def applyv (p : Int) (r c : Nat) (m : List (List Int)) (v : List Int) : List Int := vecN r fun i => dotp p c (gR m i) v
section
variable {p : Int} {r c : Nat} {m : List (List Int)} {v : List Int} (hp : 0 < p) (hp2 : p ≤ 13) (hr : r ≤ 1048576) (hc : c ≤ 1048576)
include hp hp2 hr hc
theorem i_field_apply_eq (hm : Mat p r c m) (hv : Vec p c v) : i_field_apply p m v = some (applyv p r c m v) := by
  unfold i_field_apply
  rw [map_loop _ r (fun i => dotp p c (gR m i) v) (by rw [BIG_val]; omega)]
  · rfl
  · intro i hi out ho
    unfold i_field_apply_L0
    have e1 := hm.1
    simp only [show (i : Int) < m.length by omega, if_true, idxR (show i < m.length by omega), some_bind]
    rw [i_field_dot_eq hp hp2 hc (hm.row hi) hv, some_bind, chk_bind (by simp only [List.length_cons, List.length_nil]; omega), w_in (by omega) (by omega)]
    rfl
  · intro out ho
    unfold i_field_apply_L0
    have e1 := hm.1
    simp [e1]
end

/-! ### The codes ahead -/
theorem any_loop {B : Type} (step : Int → Option (Int ⊕ (Unit ⊕ B))) (n : Nat) (f : Nat → Bool) (r : Nat → B) (hn : n < BIG)
    (hs : ∀ k, k < n → f k = false → step (k : Int) = some (.inl ((k + 1 : Nat) : Int))) (hb : ∀ k, k < n → f k = true → step (k : Int) = some (.inr (.inr (r k)))) (he : step (n : Int) = some (.inr (.inl ()))) :
    ∃ b, loop step BIG 0 = some b ∧ ((b = .inl () ∧ (List.range n).any f = false) ∨ (∃ k, k < n ∧ b = .inr (r k) ∧ f k = true ∧ (List.range n).any f = true ∧ ∀ j, j < k → f j = false)) := by
  refine loop_inv (step := step) (fun s => ∃ k : Nat, k ≤ n ∧ s = (k : Int) ∧ ∀ j, j < k → f j = false) (fun s => n - s.toNat) _ (s := 0) ⟨0, by omega, rfl, fun j hj => by omega⟩ (by show n - 0 < BIG; omega) ?_
  rintro s ⟨k, hk, rfl, ha⟩
  by_cases hkn : k < n
  · cases hf : f k with
    | false =>
      refine .inl ⟨_, hs k hkn hf, ⟨k + 1, by omega, rfl, fun j hj => ?_⟩, by simp only [Int.toNat_natCast]; omega⟩
      rcases Nat.lt_succ_iff_lt_or_eq.1 hj with h | rfl
      · exact ha j h
      · exact hf
    | true => exact .inr ⟨_, hb k hkn hf, .inr ⟨k, hkn, rfl, hf, List.any_eq_true.2 ⟨k, List.mem_range.2 hkn, hf⟩, ha⟩⟩
  · have hkk : k = n := by omega
    subst hkk
    refine .inr ⟨_, he, .inl ⟨rfl, ?_⟩⟩
    rw [List.any_eq_false]
    intro j hj
    rw [ha j (List.mem_range.1 hj)]
    simp
theorem any_range {α : Type} (xs : List α) (g : α → Bool) (z : α) : ((List.range xs.length).any fun k => g (xs.getD k z)) = xs.any g := by
  rw [Bool.eq_iff_iff, List.any_eq_true, List.any_eq_true]
  constructor
  · rintro ⟨k, hk, h⟩
    exact ⟨_, List.getElem_mem (List.mem_range.1 hk), by rwa [getD_get (List.mem_range.1 hk) z]⟩
  · rintro ⟨x, hx, h⟩
    obtain ⟨k, hk, rfl⟩ := List.getElem_of_mem hx
    exact ⟨k, List.mem_range.2 hk, by rwa [← getD_get hk z]⟩
end Go.Vam

/- Plain laws: the laws of applying, adding, scaling tables. -/
namespace Go.Vam
open Go Go.RowKit
set_option linter.unusedSimpArgs false
set_option linter.unusedVariables false

theorem isMat_sz {p : Int} {m : List (List Int)} (h : isMat p m = true) : m.length ≤ 16 ∧ wid m ≤ 16 ∧ Mat p m.length (wid m) m ∧ isP p = true ∧ 1 ≤ m.length ∧ 1 ≤ wid m := by
  obtain ⟨a, b, c, d, e, f⟩ := isMat_iff.1 h
  exact ⟨c, e, f, a, b, d⟩

theorem rowsum_vecN (r c : Nat) (f : Nat → List Int) (h : ∀ i, i < r → (f i).length = c) : rowsum (vecN r f) = r * c := by
  unfold rowsum
  have : (vecN r f).map List.length = List.replicate r c := by
    apply List.ext_getElem
    · simp
    · intro k h1 h2
      simp only [List.getElem_map, List.getElem_replicate]
      rw [vecN_get]
      exact h k (by simpa using h1)
  rw [this]; simp
theorem mat_rowsum {p : Int} {r c : Nat} {m : List (List Int)} (h : Mat p r c m) : rowsum m = r * c := by
  have e : m = vecN r (gR m) := extR h.1 fun k hk => rfl
  rw [e]; exact rowsum_vecN r c _ fun i hi => (h.row hi).1

section
variable {p : Int} {r c : Nat} {a b : List (List Int)} (hp : 0 < p) (hp2 : p ≤ 13) (hr : r ≤ 1048576) (hc : c ≤ 1048576) (ha : Mat p r c a) (hb : Mat p r c b)
include hp hp2 hr hc ha hb
end
/-- A table that is small. -/
def smallM (m : List (List Int)) : Prop := m.length ≤ 1048576 ∧ (∀ r ∈ m, r.length ≤ 1048576) ∧ rowsum m ≤ 1048576
theorem smallM.nil : smallM [] := ⟨by simp, by simp, by simp [rowsum]⟩
theorem smallM.of {p : Int} {r c : Nat} {m : List (List Int)} (h : Mat p r c m) (hr : r ≤ 1024) (hc : c ≤ 1024) : smallM m := by
  refine ⟨by have := h.1; omega, fun x hx => ?_, ?_⟩
  · obtain ⟨k, hk, rfl⟩ := List.getElem_of_mem hx
    have h1 := h.1
    rw [gR_get hk]
    have := (h.row (i := k) (by omega)).1
    omega
  · rw [mat_rowsum h]
    exact Nat.le_trans (Nat.mul_le_mul hr hc) (by decide)
/-- What is known of an argument that passed the law's size check. -/
theorem sz_split {m : List (List Int)} {left : Int} (hl : left ≤ 1048576) (h : ((m.length + rowsum m : Nat) : Int) ≤ left) : szM m ∧ rowsum m ≤ 1048576 := by
  exact ⟨⟨by omega, fun r hr => by have := rowsum_mem hr; omega⟩, by omega⟩
theorem eqM_self {m : List (List Int)} (h : szM m) : l_eqInt64SS m m = some true := by rw [eqM_eq _ _ h.1 h.2]; simp
theorem eqI_self {v : List Int} (h : v.length ≤ 1048576) : l_eqInt64S v v = some true := by rw [eqI_eq _ _ h]; simp

end Go.Vam

/- Plain laws: copies, turned tables, products of tables, powers, inverses of numbers. -/
namespace Go.Vam
open Go Go.RowKit
set_option linter.unusedSimpArgs false
set_option linter.unusedVariables false

/-! ### Copies -/
theorem clone_eq {v : List Int} (h : v.length ≤ 1048576) : g_slices_Clone_LI_I v = some v := by
  unfold g_slices_Clone_LI_I
  rw [chk_bind (by omega)]
theorem s_l01Own_eq {v : List Int} (h : v.length ≤ 1048576) : s_l01Own v = some v := by
  unfold s_l01Own
  rw [chk_bind (by simp only [List.length_nil]; omega)]
  rfl
theorem vecN_self (m : List (List Int)) : vecN m.length (gR m) = m := (extR rfl fun k _ => rfl).symm
theorem i_cloneRows_eq {m : List (List Int)} (h : szM m) : i_cloneRows m = some m := by
  unfold i_cloneRows
  rw [map_loop _ m.length (gR m) (by have := h.1; rw [BIG_val]; omega)]
  · rw [vecN_self]; rfl
  · intro i hi out ho
    unfold i_cloneRows_L0
    have := h.1
    simp only [show (i : Int) < m.length by omega, if_true, idxR hi, some_bind]
    rw [clone_eq (h.row hi), some_bind, chk_bind (by simp only [List.length_cons, List.length_nil]; omega), w_in (by omega) (by omega)]
    rfl
  · intro out ho
    unfold i_cloneRows_L0
    simp
theorem s_l01Own2_eq {m : List (List Int)} (h : szM m) : s_l01Own2 m = some m := by
  unfold s_l01Own2
  rw [map_loop _ m.length (gR m) (by have := h.1; rw [BIG_val]; omega)]
  · rw [vecN_self]; rfl
  · intro i hi out ho
    unfold s_l01Own2_L0
    have := h.1
    simp only [show (i : Int) < m.length by omega, if_true, idxR hi, some_bind]
    rw [s_l01Own_eq (h.row hi), some_bind, chk_bind (by simp only [List.length_cons, List.length_nil]; omega), w_in (by omega) (by omega)]
    rfl
  · intro out ho
    unfold s_l01Own2_L0
    simp
theorem Mat.sz {p : Int} {r c : Nat} {m : List (List Int)} (h : Mat p r c m) (hr : r ≤ 1048576) (hc : c ≤ 1048576) : szM m := by
  refine ⟨by have := h.1; omega, fun x hx => ?_⟩
  obtain ⟨k, hk, rfl⟩ := List.getElem_of_mem hx
  have h1 := h.1
  rw [gR_get hk, (h.row (i := k) (by omega)).1]
  exact hc

/-! ### Turned tables -/
def turnm (r c : Nat) (m : List (List Int)) : List (List Int) := vecN c fun k => vecN r fun i => gI (gR m i) k
theorem turnm_mat {p : Int} {r c : Nat} {m : List (List Int)} (h : Mat p r c m) : Mat p c r (turnm r c m) :=
  Mat.mk' fun k hk => Vec.mk' fun i hi => (h.row hi).get hk
theorem turnm_at {r c : Nat} {m : List (List Int)} {i k : Nat} (hi : i < r) (hk : k < c) : gI (gR (turnm r c m) k) i = gI (gR m i) k := by
  unfold turnm; rw [gR_vecN _ hk, gI_vecN _ hi]
section
variable {p : Int} {r c : Nat} {m : List (List Int)} (hr0 : 0 < r) (hr : r ≤ 1048576) (hc : c ≤ 1048576) (hm : Mat p r c m)
include hr0 hr hc hm
theorem i_transpose_eq : i_transpose m = some (turnm r c m) := by
  unfold i_transpose
  have e1 := hm.1
  have e2 := (hm.row (i := 0) hr0).1
  rw [idxR0 (by omega), some_bind, map_loop _ c (fun k => vecN r fun i => gI (gR m i) k) (by rw [BIG_val]; omega)]
  · rfl
  · intro k hk out ho
    unfold i_transpose_L0
    simp only [show (k : Int) < (gR m 0).length by omega, if_true]
    rw [map_loop _ r (fun i => gI (gR m i) k) (by rw [BIG_val]; omega)]
    · rw [some_bind, chk_bind (by simp only [List.length_cons, List.length_nil]; omega), w_in (by omega) (by omega)]; rfl
    · intro i hi o2 ho2
      unfold i_transpose_L1
      have e3 := (hm.row hi).1
      simp only [show (i : Int) < m.length by omega, if_true, idxR (show i < m.length by omega), idxI (show k < (gR m i).length by omega), some_bind]
      rw [chk_bind (by simp only [List.length_cons, List.length_nil]; omega), w_in (by omega) (by omega)]; rfl
    · intro o2 ho2
      unfold i_transpose_L1
      simp [e1]
  · intro out ho
    unfold i_transpose_L0
    simp [e2]
theorem s_l02Turn_eq : s_l02Turn m = some (turnm r c m) := by
  unfold s_l02Turn
  have e1 := hm.1
  have e2 := (hm.row (i := 0) hr0).1
  rw [map_loop _ c (fun k => vecN r fun i => gI (gR m i) k) (by rw [BIG_val]; omega)]
  · rfl
  · intro k hk out ho
    unfold s_l02Turn_L0
    simp only [idxR0 (show 0 < m.length by omega), some_bind, show (k : Int) < (gR m 0).length by omega, if_true]
    rw [map_loop _ r (fun i => gI (gR m i) k) (by rw [BIG_val]; omega)]
    · rw [some_bind, chk_bind (by simp only [List.length_cons, List.length_nil]; omega), w_in (by omega) (by omega)]; rfl
    · intro i hi o2 ho2
      unfold s_l02Turn_L1
      have e3 := (hm.row hi).1
      simp only [show (i : Int) < m.length by omega, if_true, idxR (show i < m.length by omega), idxI (show k < (gR m i).length by omega), some_bind]
      rw [chk_bind (by simp only [List.length_cons, List.length_nil]; omega), w_in (by omega) (by omega)]; rfl
    · intro o2 ho2
      unfold s_l02Turn_L1
      simp [e1]
  · intro out ho
    unfold s_l02Turn_L0
    simp only [idxR0 (show 0 < m.length by omega), some_bind]
    simp [e2]
end

/-! ### Products -/
def timesm (p : Int) (r n c : Nat) (a b : List (List Int)) : List (List Int) := vecN r fun i => vecN c fun k => sumN (fun j => gI (gR a i) j * gI (gR b j) k) n % p
theorem timesm_mat {p : Int} (hp : 0 < p) (r n c : Nat) (a b : List (List Int)) : Mat p r c (timesm p r n c a b) := Mat.mk' fun i _ => Vec.mk' fun k _ => mod_num hp
section
variable {p : Int} {r n c : Nat} {a b : List (List Int)} (hp : 0 < p) (hp2 : p ≤ 13) (hr : r ≤ 1048576) (hn0 : 0 < n) (hn : n ≤ 1048576) (hc : c ≤ 1048576) (ha : Mat p r n a) (hb : Mat p n c b)
include hp hp2 hr hn0 hn hc ha hb
theorem i_field_times_eq : i_field_times p a b = some (timesm p r n c a b) := by
  unfold i_field_times
  rw [i_transpose_eq hn0 hn hc hb, some_bind]
  have e1 := ha.1
  have ht := turnm_mat hb
  rw [map_loop _ r (fun i => applyv p c n (turnm n c b) (gR a i)) (by rw [BIG_val]; omega)]
  · rw [some_bind]
    congr 1
    unfold timesm
    refine vecN_congr fun i hi => ?_
    unfold applyv
    refine vecN_congr fun k hk => ?_
    unfold dotp
    congr 1
    refine sumN_congr fun j hj => ?_
    rw [turnm_at hj hk, Int.mul_comm]
  · intro i hi out ho
    unfold i_field_times_L0
    simp only [show (i : Int) < a.length by omega, if_true, idxR (show i < a.length by omega), some_bind]
    rw [i_field_apply_eq hp hp2 hc hn ht (ha.row hi), some_bind, chk_bind (by simp only [List.length_cons, List.length_nil]; omega), w_in (by omega) (by omega)]
    rfl
  · intro out ho
    unfold i_field_times_L0
    simp [e1]
theorem s_l02Times_eq : s_l02Times p a b = some (timesm p r n c a b) := by
  unfold s_l02Times
  have e1 := ha.1
  have e2 := hb.1
  have e4 := (hb.row (i := 0) hn0).1
  rw [map_loop _ r (fun i => vecN c fun k => sumN (fun j => gI (gR a i) j * gI (gR b j) k) n % p) (by rw [BIG_val]; omega)]
  · rfl
  · intro i hi out ho
    unfold s_l02Times_L0
    simp only [show (i : Int) < a.length by omega, if_true]
    rw [map_loop _ c (fun k => sumN (fun j => gI (gR a i) j * gI (gR b j) k) n % p) (by rw [BIG_val]; omega)]
    · rw [some_bind, chk_bind (by simp only [List.length_cons, List.length_nil]; omega), w_in (by omega) (by omega)]; rfl
    · intro k hk o2 ho2
      unfold s_l02Times_L1
      simp only [idxR0 (show 0 < b.length by omega), some_bind, show (k : Int) < (gR b 0).length by omega, if_true]
      rw [loop_for (b := sumN (fun j => gI (gR a i) j * gI (gR b j) k) n % p) (fun j => (sumN (fun j => gI (gR a i) j * gI (gR b j) k) j % p, (j : Int))) n (by rw [BIG_val]; omega) (by simp [sumN])]
      · rw [some_bind, chk_bind (by simp only [List.length_cons, List.length_nil]; omega), w_in (by omega) (by omega)]; rfl
      · intro j hj
        unfold s_l02Times_L2
        have e5 := (ha.row hi).1
        have e6 := (hb.row hj).1
        have h1 := (ha.row hi).get hj
        have h2 := (hb.row hj).get hk
        have h3 := mul_abs (a := gI (gR a i) j) (b := gI (gR b j) k) (A := 12) (B := 12) (by omega) (by omega)
        have h4 := Int.mul_nonneg h1.1 h2.1
        have h5 := mod_num (a := sumN (fun j => gI (gR a i) j * gI (gR b j) k) j) hp
        simp only [show (j : Int) < b.length by omega, if_true, idxR (show i < a.length by omega), idxR (show j < b.length by omega), idxI (show j < (gR a i).length by omega), idxI (show k < (gR b j).length by omega), some_bind]
        rw [chk_bind (by omega), w_in (x := gI (gR a i) j * gI (gR b j) k) (by omega) (by omega), w_in (by omega) (by omega), w_in (by omega) (by omega), tmod_nn (by omega), Int.emod_add_emod]
        rfl
      · unfold s_l02Times_L2
        simp [e2]
    · intro o2 ho2
      unfold s_l02Times_L1
      simp only [idxR0 (show 0 < b.length by omega), some_bind]
      simp [e4]
  · intro out ho
    unfold s_l02Times_L0
    simp [e1]
end

end Go.Vam

/- Plain laws: two loops side by side, square tables, powers of tables. -/
namespace Go.Vam
open Go Go.RowKit
set_option linter.unusedSimpArgs false
set_option linter.unusedVariables false

/-- Two loops that take the same steps. -/
theorem loop_two {S B : Type} {f g : S → Option (S ⊕ B)} (I : S → Prop) (μ : S → Nat) (Q : B → Prop) {s : S} (h0 : I s) (hm : μ s < BIG)
    (hr : ∀ s, I s → (∃ s', f s = some (.inl s') ∧ g s = some (.inl s') ∧ I s' ∧ μ s' < μ s) ∨ (∃ b, f s = some (.inr b) ∧ g s = some (.inr b) ∧ Q b)) :
    ∃ b, loop f BIG s = some b ∧ loop g BIG s = some b ∧ Q b := by
  have key : ∀ (n : Nat) (s : S), I s → μ s < n → ∃ b, loop f n s = some b ∧ loop g n s = some b ∧ Q b := by
    intro n
    induction n with
    | zero => intro s _ h; omega
    | succ n ih =>
      intro s hI hn
      rcases hr s hI with ⟨s', h1, h2, h3, h4⟩ | ⟨b, h1, h2, h3⟩
      · rw [loop_succ, loop_succ, h1, h2]
        exact ih s' h3 (by omega)
      · rw [loop_succ, loop_succ, h1, h2]
        exact ⟨b, rfl, rfl, h3⟩
  exact key BIG s h0 hm

/-! ### The unit -/
def unitm (n : Nat) : List (List Int) := vecN n fun i => (List.replicate n (0 : Int)).set i 1
theorem unitm_mat {p : Int} (hp : 1 < p) (n : Nat) : Mat p n n (unitm n) := Mat.mk' fun i hi => by
  refine ⟨by simp, fun k hk => ?_⟩
  rw [← gI_get (by simpa using hk), List.getElem_set]
  split
  · omega
  · simp; omega
theorem i_unit_eq {n : Nat} (hn : n ≤ 1048576) : i_unit (n : Int) = some (unitm n) := by
  unfold i_unit
  rw [map_loop _ n (fun i => (List.replicate n (0 : Int)).set i 1) (by rw [BIG_val]; omega)]
  · rfl
  · intro i hi out ho
    unfold i_unit_L0
    simp only [show (i : Int) < n by omega, if_true]
    rw [chk_bind (by omega), some_bind, Int.toNat_natCast, idxI (by simpa using hi), some_bind, chk_bind (by simp only [List.length_cons, List.length_nil]; omega), w_in (by omega) (by omega)]
    rfl
  · intro out ho
    unfold i_unit_L0
    simp

end Go.Vam

/- Plain laws: inverses of numbers, elimination: bases and determinants. -/
namespace Go.Vam
open Go Go.RowKit
set_option linter.unusedSimpArgs false
set_option linter.unusedVariables false

/-! ### Inverses -/
theorem inv_nat {P A : Nat} (hP : P = 3 ∨ P = 5 ∨ P = 7 ∨ P = 11 ∨ P = 13) (h0 : 0 < A) (h1 : A < P) :
    A ^ (P - 2) % P < P ∧ 0 < A ^ (P - 2) % P ∧ (A * (A ^ (P - 2) % P)) % P = 1 ∧ ∀ j, j < A ^ (P - 2) % P → (A * j) % P ≠ 1 := by
  have k3 : ∀ a, a < 3 → 0 < a → a ^ (3 - 2) % 3 < 3 ∧ 0 < a ^ (3 - 2) % 3 ∧ (a * (a ^ (3 - 2) % 3)) % 3 = 1 ∧ ∀ j, j < a ^ (3 - 2) % 3 → (a * j) % 3 ≠ 1 := by decide
  have k5 : ∀ a, a < 5 → 0 < a → a ^ (5 - 2) % 5 < 5 ∧ 0 < a ^ (5 - 2) % 5 ∧ (a * (a ^ (5 - 2) % 5)) % 5 = 1 ∧ ∀ j, j < a ^ (5 - 2) % 5 → (a * j) % 5 ≠ 1 := by decide
  have k7 : ∀ a, a < 7 → 0 < a → a ^ (7 - 2) % 7 < 7 ∧ 0 < a ^ (7 - 2) % 7 ∧ (a * (a ^ (7 - 2) % 7)) % 7 = 1 ∧ ∀ j, j < a ^ (7 - 2) % 7 → (a * j) % 7 ≠ 1 := by decide
  have k11 : ∀ a, a < 11 → 0 < a → a ^ (11 - 2) % 11 < 11 ∧ 0 < a ^ (11 - 2) % 11 ∧ (a * (a ^ (11 - 2) % 11)) % 11 = 1 ∧ ∀ j, j < a ^ (11 - 2) % 11 → (a * j) % 11 ≠ 1 := by decide
  have k13 : ∀ a, a < 13 → 0 < a → a ^ (13 - 2) % 13 < 13 ∧ 0 < a ^ (13 - 2) % 13 ∧ (a * (a ^ (13 - 2) % 13)) % 13 = 1 ∧ ∀ j, j < a ^ (13 - 2) % 13 → (a * j) % 13 ≠ 1 := by decide
  rcases hP with rfl | rfl | rfl | rfl | rfl
  · exact k3 A h1 h0
  · exact k5 A h1 h0
  · exact k7 A h1 h0
  · exact k11 A h1 h0
  · exact k13 A h1 h0
def invp (p a : Int) : Int := ((a.toNat ^ (p.toNat - 2) % p.toNat : Nat) : Int)
theorem inv_facts {p a : Int} (hP : isP p = true) (h0 : 0 < a) (h1 : a < p) : 0 < invp p a ∧ invp p a < p ∧ a * invp p a % p = 1 := by
  have hp := isP_cases hP
  obtain ⟨g1, g2, g3, g4⟩ := inv_nat (P := p.toNat) (A := a.toNat) (by omega) (by omega) (by omega)
  unfold invp
  refine ⟨by omega, by omega, ?_⟩
  have ea : a = (a.toNat : Int) := by omega
  have ep : p = (p.toNat : Int) := by omega
  generalize hv : a.toNat ^ (p.toNat - 2) % p.toNat = v at g3
  rw [ea, ep, ← Int.natCast_mul, ← Int.natCast_emod, g3]; rfl
theorem s_l01Inv_eq {p a : Int} (hP : isP p = true) (h0 : 0 < a) (h1 : a < p) : s_l01Inv p a = some (invp p a) := by
  have hp := isP_cases hP
  obtain ⟨g1, g2, g3, g4⟩ := inv_nat (P := p.toNat) (A := a.toNat) (by omega) (by omega) (by omega)
  unfold s_l01Inv invp
  generalize hv : a.toNat ^ (p.toNat - 2) % p.toNat = v at g1 g2 g3 g4
  have ea : a = (a.toNat : Int) := by omega
  have ep : p = (p.toNat : Int) := by omega
  have hm : ∀ j : Nat, j < 14 → (w64 (a * (j : Int))).tmod p = ((a.toNat * j % p.toNat : Nat) : Int) := by
    intro j hj
    have h3 := mul_abs (a := a) (b := (j : Int)) (A := 13) (B := 13) (by omega) (by omega)
    have h4 := Int.mul_nonneg (a := a) (b := (j : Int)) (by omega) (by omega)
    rw [w_in (by omega) (by omega), tmod_nn (by omega)]
    rw [Int.natCast_emod, Int.natCast_mul, ← ea, ← ep]
  rw [loop_for (b := (v : Int)) (s := 1) (fun k => ((k + 1 : Nat) : Int)) (v - 1) (by rw [BIG_val]; omega) rfl]
  · rfl
  · intro k hk
    unfold s_l01Inv_L0
    have := g4 (k + 1) (by omega)
    rw [chk_bind (by omega), hm (k + 1) (by omega), if_pos (by omega), w_in (by omega) (by omega)]
    rfl
  · unfold s_l01Inv_L0
    have e : v - 1 + 1 = v := by omega
    rw [chk_bind (by omega)]
    simp only [e]
    rw [hm v (by omega), g3, if_neg (by simp)]
theorem i_field_inv_eq {p a : Int} (hP : isP p = true) (h0 : 0 < a) (h1 : a < p) : i_field_inv p a = some (invp p a) := by
  have hp := isP_cases hP
  unfold i_field_inv i_field_pow invp
  have ea : a = (a.toNat : Int) := by omega
  have ep : p = (p.toNat : Int) := by omega
  rw [w_in (by omega) (by omega), loop_for (b := ((a.toNat ^ (p.toNat - 2) % p.toNat : Nat) : Int)) (fun k => (((a.toNat ^ k % p.toNat : Nat) : Int), (k : Int))) (p.toNat - 2) (by rw [BIG_val]; omega)]
  · rfl
  · have : 1 % p.toNat = 1 := Nat.mod_eq_of_lt (by omega)
    simp [this]
  · intro k hk
    unfold i_field_pow_L0
    have hl : a.toNat ^ k % p.toNat < p.toNat := Nat.mod_lt _ (by omega)
    have h3 := mul_abs (a := ((a.toNat ^ k % p.toNat : Nat) : Int)) (b := a) (A := 13) (B := 13) (by omega) (by omega)
    simp only []
    rw [if_pos (by omega), w_in (by omega) (by omega), i_field_num_eq (by omega) (by omega) (by omega) (by omega), some_bind, w_in (by omega) (by omega)]
    have : ((a.toNat ^ k % p.toNat : Nat) : Int) * a % p = ((a.toNat ^ (k + 1) % p.toNat : Nat) : Int) := by
      rw [Nat.pow_succ]
      generalize a.toNat ^ k = q
      rw [Int.natCast_emod, Int.natCast_emod, Int.natCast_mul, ← ea, ← ep, Int.mul_emod, Int.emod_emod_of_dvd _ (Int.dvd_refl p), ← Int.mul_emod]
    rw [this]; rfl
  · unfold i_field_pow_L0
    simp only []
    rw [if_neg (by omega)]

/-! ### Rows put into a table -/
theorem gR_set {m : List (List Int)} {i j : Nat} {v : List Int} (hi : i < m.length) : gR (m.set i v) j = if i = j then v else gR m j := by
  unfold gR
  simp only [List.getD_eq_getElem?_getD, List.getElem?_set]
  by_cases h : i = j
  · subst h; simp [hi]
  · simp [h]
theorem Mat.set {p : Int} {r c : Nat} {m : List (List Int)} {i : Nat} {v : List Int} (hm : Mat p r c m) (hi : i < r) (hv : Vec p c v) : Mat p r c (m.set i v) := by
  refine ⟨by rw [List.length_set, hm.1], fun j hj => ?_⟩
  rw [gR_set (by rw [hm.1]; exact hi)]
  split
  · exact hv
  · exact hm.2 j hj
theorem plusv_congr {p : Int} {n : Nat} {a b : List Int} {k l : Int} (h : k % p = l % p) : plusv p n a b k = plusv p n a b l := by
  unfold plusv
  refine vecN_congr fun i _ => ?_
  rw [Int.add_emod, Int.mul_emod, h, ← Int.mul_emod, ← Int.add_emod]
/-! ### The first row with something in a column -/
def findStep (m : List (List Int)) (k : Int) (s : Int) : Option (Int ⊕ Int) :=
  ((if s < (m.length : Int) then
    (idx m s).bind fun v19 =>
    (idx v19 k).bind fun v20 =>
    some (ieq v20 0)
  else
    some false) : Option Bool).bind fun x21 =>
  (if x21 = true then
    some (.inl (w64 (s + 1)))
  else
    some (.inr s))
theorem find_eq {p : Int} {r c : Nat} {m : List (List Int)} (hm : Mat p r c m) {k s : Nat} (hr : r ≤ 1048576) (hk : k < c) (hs : s ≤ r) :
    ∃ b, loop (findStep m (k : Int)) BIG (s : Int) = some b ∧ ∃ x : Nat, b = (x : Int) ∧ s ≤ x ∧ x ≤ r ∧ (x < r → gI (gR m x) k ≠ 0) := by
  refine loop_inv (fun t => ∃ x : Nat, t = (x : Int) ∧ s ≤ x ∧ x ≤ r) (fun t => r - t.toNat) _ ⟨s, rfl, by omega, hs⟩ (by rw [BIG_val]; omega) ?_
  rintro t ⟨x, rfl, h1, h2⟩
  unfold findStep
  have e1 := hm.1
  by_cases hx : x < r
  · have e2 := (hm.row hx).1
    rw [if_pos (by omega), idxR (by omega), some_bind, idxI (by omega), some_bind, some_bind]
    by_cases hz : gI (gR m x) k = 0
    · simp only [hz, ieq_self, if_true]
      refine .inl ⟨_, rfl, ⟨x + 1, ?_, by omega, by omega⟩, ?_⟩
      · rw [w_in (by omega) (by omega)]; rfl
      · rw [w_in (by omega) (by omega)]; omega
    · have : ieq (gI (gR m x) k) 0 = false := by simp [ieq, hz]
      rw [this]
      exact .inr ⟨_, rfl, x, rfl, h1, h2, fun _ => hz⟩
  · rw [if_neg (by omega), some_bind]
    exact .inr ⟨_, rfl, x, rfl, h1, h2, fun h => absurd h hx⟩

/-- A row less the multiple of R that clears column k. -/
def clr (p : Int) (c k : Nat) (R v : List Int) : List Int := plusv p c v R ((p - gI v k) % p)
def clrm (p : Int) (r c k d : Nat) (R : List Int) (m : List (List Int)) : List (List Int) := vecN r fun j => if j = d then R else clr p c k R (gR m j)
/-- The rows ahead of d have ones at places of their own. -/
def Red (r c : Nat) (m : List (List Int)) (d : Nat) (piv : Nat → Nat) : Prop :=
  ∀ j, j < d → piv j < c ∧ gI (gR m j) (piv j) = 1 ∧ ∀ i, i < r → i ≠ j → gI (gR m i) (piv j) = 0
theorem Red.step {p : Int} {r c k d x : Nat} {m : List (List Int)} {piv : Nat → Nat} {R : List Int} (hP : isP p = true) (hm : Mat p r c m) (h : Red r c m d piv) (hk : k < c) (hd : d < r) (hdx : d ≤ x) (hx : x < r)
    (hne : gI (gR m x) k ≠ 0) (hRe : R = scalev p c (gR m x) (invp p (gI (gR m x) k))) :
    Red r c (clrm p r c k d R ((m.set x (gR m d)).set d R)) (d + 1) (fun j => if j = d then k else piv j) := by
  have hp := isP_le hP
  have e4 := (hm.row hx).get hk
  obtain ⟨i1, i2, i3⟩ := inv_facts (a := gI (gR m x) k) hP (by omega) e4.2
  have hRk : gI R k = 1 := by rw [hRe]; unfold scalev; rw [gI_vecN _ hk, i3]
  have hR0 : ∀ q, q < c → gI (gR m x) q = 0 → gI R q = 0 := fun q hq h0 => by rw [hRe]; unfold scalev; rw [gI_vecN _ hq, h0]; simp
  have hrow : ∀ i, i < r → i ≠ d → gR ((m.set x (gR m d)).set d R) i = if i = x then gR m d else gR m i := by
    intro i hi hid
    have e1 := hm.1
    rw [gR_set (by rw [List.length_set]; omega), if_neg (by omega), gR_set (by omega)]
    by_cases hix : i = x
    · rw [if_pos hix.symm, if_pos hix]
    · rw [if_neg (fun e => hix e.symm), if_neg hix]
  have hent : ∀ i, i < r → i ≠ d → ∀ q, q < c → gI (gR (clrm p r c k d R ((m.set x (gR m d)).set d R)) i) q = (gI (if i = x then gR m d else gR m i) q + (p - gI (if i = x then gR m d else gR m i) k) % p * gI R q) % p := by
    intro i hi hid q hq
    unfold clrm
    rw [gR_vecN _ hi, if_neg hid, hrow i hi hid]
    unfold clr plusv
    rw [gI_vecN _ hq]
  have hdd : gR (clrm p r c k d R ((m.set x (gR m d)).set d R)) d = R := by
    unfold clrm; rw [gR_vecN _ hd, if_pos rfl]
  intro j hj
  by_cases hjd : j = d
  · subst hjd
    simp only [if_true]
    refine ⟨hk, by rw [hdd]; exact hRk, fun i hi hij => ?_⟩
    rw [hent i hi hij k hk, hRk, Int.mul_one]
    generalize gI (if i = x then gR m j else gR m i) k = e
    rw [Int.add_emod, Int.emod_emod_of_dvd _ (Int.dvd_refl p), ← Int.add_emod]
    have : e + (p - e) = p := by omega
    rw [this, Int.emod_self]
  · have hjd' : j < d := by omega
    obtain ⟨h1, h2, h3⟩ := h j hjd'
    simp only [hjd, if_false]
    have hRq : gI R (piv j) = 0 := hR0 _ h1 (h3 x hx (by omega))
    refine ⟨h1, ?_, fun i hi hij => ?_⟩
    · rw [hent j (by omega) hjd _ h1, if_neg (by omega), h2, hRq, Int.mul_zero]
      exact mod_small (by omega) (by omega)
    · by_cases hid : i = d
      · rw [hid, hdd]; exact hRq
      · rw [hent i hi hid _ h1, hRq, Int.mul_zero]
        have : gI (if i = x then gR m d else gR m i) (piv j) = 0 := by
          split
          · exact h3 d hd (by omega)
          · exact h3 i hi hij
        rw [this]; simp

section
variable {p : Int} {r c : Nat} (hP : isP p = true) (hr0 : 0 < r) (hr : r ≤ 1048576) (hc : c ≤ 1048576)
include hP hr0 hr hc
end

end Go.Vam

/- Plain laws: determinants. -/
namespace Go.Vam
open Go Go.RowKit
set_option linter.unusedSimpArgs false
set_option linter.unusedVariables false
set_option linter.unusedSectionVars false

section
variable {p : Int} {r : Nat} (hP : isP p = true) (hr : r ≤ 1048576)
include hP hr
theorem det_clear {m m0 : List (List Int)} {R : List Int} {k : Nat} {d0 : Int} (hk : k < r) (hm : Mat p r r m) (hmk : gR m k = R) (hR : gI R k ≠ 0) :
    ∃ x, loop (s_l02Det_L2 p (m0, d0, (k : Int)) (invp p (gI R k))) BIG (m, ((k + 1 : Nat) : Int)) = some x ∧ loop (i_field_determinant_L2 p (m0, d0, (k : Int))) BIG (m, ((k + 1 : Nat) : Int)) = some x ∧ Mat p r r x := by
  have hp := isP_le hP
  have hRk := (hmk ▸ hm.row hk : Vec p r R)
  have e4 := hRk.get hk
  have e5 := hRk.1
  obtain ⟨i1, i2, i3⟩ := inv_facts (a := gI R k) hP (by omega) e4.2
  have v2 := i_field_inv_eq (a := gI R k) hP (by omega) e4.2
  generalize invp p (gI R k) = iv at i1 i2 i3 v2
  refine loop_two (fun s => Mat p r r s.1 ∧ gR s.1 k = R ∧ ∃ i : Nat, s.2 = (i : Int) ∧ i ≤ r ∧ k < i) (fun s => r - s.2.toNat) (Mat p r r) ⟨hm, hmk, k + 1, rfl, by omega, by omega⟩ (by rw [BIG_val]; simp only []; omega) ?_
  rintro ⟨m, t⟩ ⟨hm, hmk, i, rfl, hi, hki⟩
  simp only [] at hm hmk
  unfold s_l02Det_L2 i_field_determinant_L2
  have e1 := hm.1
  by_cases hir : i < r
  · have e2 := (hm.row hir).1
    have e3 := (hm.row hir).get hk
    refine .inl ?_
    have w1 : w64 (p - gI (gR m i) k) = p - gI (gR m i) k := w_in (by omega) (by omega)
    have w2 : w64 (0 - gI (gR m i) k) = 0 - gI (gR m i) k := w_in (by omega) (by omega)
    have q1 := mul_abs (a := p - gI (gR m i) k) (b := iv) (A := 13) (B := 13) (by omega) (by omega)
    have q2 := mul_abs (a := 0 - gI (gR m i) k) (b := iv) (A := 13) (B := 13) (by omega) (by omega)
    have q3 := Int.mul_nonneg (a := p - gI (gR m i) k) (b := iv) (by omega) (by omega)
    have w3 : w64 ((p - gI (gR m i) k) * iv) = (p - gI (gR m i) k) * iv := w_in (by omega) (by omega)
    have w4 : w64 ((0 - gI (gR m i) k) * iv) = (0 - gI (gR m i) k) * iv := w_in (by omega) (by omega)
    have w5 : ((p - gI (gR m i) k) * iv).tmod p = (p - gI (gR m i) k) * iv % p := tmod_nn (by omega)
    have hn := mod_num (a := (p - gI (gR m i) k) * iv) (p := p) (by omega)
    have f1 := s_l02Plus_eq (p := p) (n := r) (a := gR m i) (b := R) (k := (p - gI (gR m i) k) * iv % p) (by omega) (by omega) hr hn.1 (by omega) (hm.row hir) hRk
    have f2 := i_field_plus_eq (p := p) (n := r) (a := gR m i) (b := R) (k := (0 - gI (gR m i) k) * iv) (by omega) (by omega) hr (by omega) (hm.row hir) hRk
    have f3 : plusv p r (gR m i) R ((0 - gI (gR m i) k) * iv) = plusv p r (gR m i) R ((p - gI (gR m i) k) * iv % p) := by
      refine plusv_congr ?_
      rw [Int.emod_emod_of_dvd _ (Int.dvd_refl p)]
      have : (p - gI (gR m i) k) * iv = (0 - gI (gR m i) k) * iv + p * iv := by rw [← Int.add_mul]; congr 1; omega
      rw [this, Int.add_mul_emod_self_left]
    simp only [show (i : Int) < (m.length : Int) by omega, if_true, idxR (show i < m.length by omega), idxR (show k < m.length by omega), idxI (show k < (gR m i).length by omega), some_bind, hmk, idxI (show k < R.length by omega), chk_bind (show ¬ p = 0 by omega), v2, w1, w2, w3, w4, w5, f1, f2, f3, Int.toNat_natCast]
    refine ⟨_, rfl, rfl, ⟨hm.set hir (plusv_vec (by omega) ..), ?_, i + 1, ?_, by omega, by omega⟩, ?_⟩
    · rw [gR_set (by omega), if_neg (by omega)]; exact hmk
    · rw [w_in (by omega) (by omega)]; rfl
    · rw [w_in (by omega) (by omega)]; simp only []; omega
  · refine .inr ?_
    simp only [show ¬ (i : Int) < (m.length : Int) by omega, if_false]
    exact ⟨_, rfl, rfl, hm⟩

theorem det_two {m v1 : List (List Int)} (hm : Mat p r r m) (hv : v1.length = r) :
    ∃ b, loop (s_l02Det_L0 p) BIG (m, 1, 0) = some b ∧ loop (i_field_determinant_L0 p v1) BIG (m, 1, 0) = some b ∧ True := by
  have hp := isP_le hP
  refine loop_two (fun s => Mat p r r s.1 ∧ 0 ≤ s.2.1 ∧ s.2.1 < p ∧ ∃ k : Nat, s.2.2 = (k : Int) ∧ k ≤ r) (fun s => r - s.2.2.toNat) _ ⟨hm, (by decide : (0 : Int) ≤ 1), (show (1 : Int) < p by omega), 0, rfl, by omega⟩ (by rw [BIG_val]; simp only []; omega) ?_
  rintro ⟨m, d, t⟩ ⟨hm, hd0, hd1, k, rfl, hk⟩
  simp only [] at hm hd0 hd1
  have e1 := hm.1
  unfold s_l02Det_L0 i_field_determinant_L0
  by_cases hkr : k < r
  · obtain ⟨b, h1, x, rfl, h2, h3, h4⟩ := find_eq hm (k := k) (s := k) hr hkr hk
    have l1 : s_l02Det_L1 (m, d, (k : Int)) = findStep m (k : Int) := rfl
    have l2 : i_field_determinant_L1 (m, d, (k : Int)) = findStep m (k : Int) := rfl
    have c1 : (k : Int) < (m.length : Int) := by omega
    have c2 : (k : Int) < (v1.length : Int) := by omega
    by_cases hx : x = r
    · refine .inr ?_
      have hx' : (x : Int) = (m.length : Int) := by omega
      simp only [c1, c2, if_true, l1, l2, h1, some_bind, hx']
      exact ⟨_, rfl, rfl, trivial⟩
    refine .inl ?_
    have hx' : ¬ (x : Int) = (m.length : Int) := by omega
    have hxr : x < r := by omega
    have hne := h4 hxr
    have e3 := (hm.row hxr).1
    have e4 := (hm.row hxr).get hkr
    obtain ⟨i1, i2, i3⟩ := inv_facts (a := gI (gR m x) k) hP (by omega) e4.2
    have f1 := s_l01Inv_eq (a := gI (gR m x) k) hP (by omega) e4.2
    by_cases hxk : x = k
    · have c3 : ¬ (k : Int) < (x : Int) := by omega
      have c4 : (x : Int) = (k : Int) := by omega
      have hM : Mat p r r m := hm
      have hMk : gR m k = gR m x := by rw [hxk]
      have e5 := hM.1
      obtain ⟨y, y1, y2, y3⟩ := det_clear (p := p) (r := r) (m := m) (m0 := m) (R := gR m x) (k := k) (d0 := d) hP hr hkr hM hMk hne
      have q := mul_abs (a := d) (b := gI (gR m x) k) (A := 13) (B := 13) (by omega) (by omega)
      have q0 := Int.mul_nonneg (a := d) (b := gI (gR m x) k) (by omega) (by omega)
      have w3 : w64 (d * gI (gR m x) k) = d * gI (gR m x) k := w_in (by omega) (by omega)
      have w4 : (d * gI (gR m x) k).tmod p = d * gI (gR m x) k % p := tmod_nn (by omega)
      have w5 := i_field_num_eq (p := p) (n := d * gI (gR m x) k) (by omega) (by omega) (by omega) (by omega)
      have w6 : w64 ((k : Int) + 1) = ((k + 1 : Nat) : Int) := by rw [w_in (by omega) (by omega)]; rfl
      have hn := mod_num (a := d * gI (gR m x) k) (p := p) (by omega)
      simp only [c1, c2, if_true, l1, l2, h1, some_bind, hx', if_false, c3, not_true_eq_false, show ((x : Int) = (k : Int)) = True from eq_true c4, idxR (show k < m.length by omega), hMk, idxI (show k < (gR m x).length by omega), chk_bind (show ¬ p = 0 by omega), f1, w3, w4, w5, w6, y1, y2]
      exact ⟨_, rfl, rfl, ⟨y3, hn.1, hn.2, k + 1, rfl, by omega⟩, by simp only [Int.toNat_natCast]; omega⟩
    · have c3 : (k : Int) < (x : Int) := by omega
      have c4 : ¬ (x : Int) = (k : Int) := by omega
      have g2 : (m.set k (gR m x)).set x (gR m k) = (m.set x (gR m k)).set k (gR m x) := List.set_comm _ _ (fun h => hxk h.symm)
      have hn0 := mod_num (a := p - d) (p := p) (by omega)
      have w7 : w64 (p - d) = p - d := w_in (by omega) (by omega)
      have w8 : w64 (0 - d) = 0 - d := w_in (by omega) (by omega)
      have w9 : (p - d).tmod p = (p - d) % p := tmod_nn (by omega)
      have w10 : i_field_num p (0 - d) = some ((p - d) % p) := by
        rw [i_field_num_eq (by omega) (by omega) (by omega) (by omega)]
        have : p - d = 0 - d + p := by omega
        rw [this, Int.add_emod_right]
      have hM : Mat p r r ((m.set x (gR m k)).set k (gR m x)) := (hm.set hxr (hm.row hkr)).set hkr (hm.row hxr)
      have hMk : gR ((m.set x (gR m k)).set k (gR m x)) k = gR m x := by rw [gR_set (by rw [List.length_set]; omega), if_pos rfl]
      have e5 := hM.1
      obtain ⟨y, y1, y2, y3⟩ := det_clear (p := p) (r := r) (m := ((m.set x (gR m k)).set k (gR m x))) (m0 := m) (R := gR m x) (k := k) (d0 := d) hP hr hkr hM hMk hne
      have q := mul_abs (a := ((p - d) % p)) (b := gI (gR m x) k) (A := 13) (B := 13) (by omega) (by omega)
      have q0 := Int.mul_nonneg (a := ((p - d) % p)) (b := gI (gR m x) k) (by omega) (by omega)
      have w3 : w64 (((p - d) % p) * gI (gR m x) k) = ((p - d) % p) * gI (gR m x) k := w_in (by omega) (by omega)
      have w4 : (((p - d) % p) * gI (gR m x) k).tmod p = ((p - d) % p) * gI (gR m x) k % p := tmod_nn (by omega)
      have w5 := i_field_num_eq (p := p) (n := ((p - d) % p) * gI (gR m x) k) (by omega) (by omega) (by omega) (by omega)
      have w6 : w64 ((k : Int) + 1) = ((k + 1 : Nat) : Int) := by rw [w_in (by omega) (by omega)]; rfl
      have hn := mod_num (a := ((p - d) % p) * gI (gR m x) k) (p := p) (by omega)
      simp only [c1, c2, if_true, l1, l2, h1, some_bind, hx', if_false, c3, c4, not_false_eq_true, idxR (show x < m.length by omega), idxR (show k < m.length by omega), idxR (show x < (m.set k (gR m x)).length by rw [List.length_set]; omega), idxR (show k < (m.set x (gR m k)).length by rw [List.length_set]; omega), Int.toNat_natCast, g2, w7, w8, w9, w10, idxR (show k < ((m.set x (gR m k)).set k (gR m x)).length by omega), hMk, idxI (show k < (gR m x).length by omega), chk_bind (show ¬ p = 0 by omega), f1, w3, w4, w5, w6, y1, y2]
      exact ⟨_, rfl, rfl, ⟨y3, hn.1, hn.2, k + 1, rfl, by omega⟩, by simp only [Int.toNat_natCast]; omega⟩
  · refine .inr ?_
    simp only [show ¬ (k : Int) < (m.length : Int) by omega, show ¬ (k : Int) < (v1.length : Int) by omega, if_false]
    exact ⟨_, rfl, rfl, trivial⟩
theorem Det_eq {m : List (List Int)} (hm : Mat p r r m) : ∃ d, s_l02Det p m = some d ∧ i_field_determinant p m = some d := by
  obtain ⟨b, h1, h2, _⟩ := det_two hP hr hm hm.1
  have hz := hm.sz hr hr
  unfold s_l02Det i_field_determinant
  rw [s_l01Own2_eq hz, i_cloneRows_eq hz, some_bind, some_bind, h1, h2, some_bind]
  cases b with
  | inl d => exact ⟨d, rfl, rfl⟩
  | inr d => exact ⟨d, rfl, rfl⟩
end

end Go.Vam

/- Plain laws: spaces: frames, skew tables, isometries. -/
namespace Go.Vam
open Go Go.RowKit
set_option linter.unusedSimpArgs false
set_option linter.unusedVariables false
set_option linter.unusedSectionVars false

/-! ### Helpers of the laws -/
theorem szSp_eq {p : Int} {w : List Int} {left : Int} (hl : lenI w) (h0 : 0 ≤ left) (h1 : left ≤ 1048576) : l_szSpace p w left = some (szv w.length left) := by
  unfold l_szSpace
  rw [szI_eq hl h0 h1, some_bind]
  unfold szv
  split
  · rw [if_neg (by omega)]
  · rw [if_pos (by omega)]
theorem toSp_eq {p : Int} {w : List Int} (h : w.length ≤ 1048576) : l_toSpace p w = some (p, w) := by
  unfold l_toSpace; rw [toI_eq h, some_bind]
theorem eqSp_self {p : Int} {w : List Int} (h : w.length ≤ 1048576) : l_eqSpace p w p w = some true := by
  unfold l_eqSpace; rw [if_neg (by simp), eqI_self h, some_bind, if_neg (by simp)]

/-! ### Spaces -/
def isSp (p : Int) (w : List Int) : Bool := isP p && (decide (1 ≤ (w.length : Int)) && decide ((w.length : Int) ≤ 6)) && nums p w
def hasZ (w : List Int) : Bool := w.any fun x => decide ((0 : Int) = x)
theorem isSp_iff {p : Int} {w : List Int} (h : isSp p w = true) : isP p = true ∧ 1 ≤ w.length ∧ w.length ≤ 6 ∧ Vec p w.length w := by
  simp only [isSp, Bool.and_eq_true, decide_eq_true_eq] at h
  exact ⟨h.1.1, by omega, by omega, Vec.of h.2⟩
theorem s_l03Is_eq {p : Int} {w : List Int} (hw : w.length ≤ 1048576) : s_l03Is p w = some (isSp p w) := by
  unfold s_l03Is isSp
  rw [s_l01Prime_eq, some_bind]
  cases hP : isP p with
  | false => simp
  | true =>
    have hp := isP_le hP
    simp only [if_true, s_l01In_eq, some_bind, Bool.true_and]
    cases (decide (1 ≤ (w.length : Int)) && decide ((w.length : Int) ≤ 6)) with
    | false => simp
    | true => simp only [if_true, Bool.true_and, s_l01Numbers_eq (show 0 ≤ p by omega) (show p ≤ 1048576 by omega) hw, some_bind]
theorem i_IsSpace_eq {p : Int} {w : List Int} (hw : w.length ≤ 1048576) : i_IsSpace p w = some (isSp p w) := by
  unfold i_IsSpace isSp i_length_I i_Space_field
  rw [i_IsPrime_eq, some_bind]
  cases hP : isP p with
  | false => simp
  | true =>
    have hp := isP_le hP
    simp only [if_true, i_inRange_eq, some_bind, Bool.true_and]
    cases (decide (1 ≤ (w.length : Int)) && decide ((w.length : Int) ≤ 6)) with
    | false => simp
    | true => simp only [if_true, Bool.true_and, i_field_is_eq (show 0 ≤ p by omega) (show p ≤ 1048576 by omega) hw, some_bind]
theorem contains_eq {xs : List Int} {a : Int} (h : xs.length ≤ 1048576) : g_slices_Contains_LI_I xs a = some (xs.any fun x => decide (a = x)) := by
  unfold g_slices_Contains_LI_I g_slices_Index_LI_I
  obtain ⟨b, h1, h2⟩ := any_loop (g_slices_Index_LI_I_L0 xs a) xs.length (fun k => decide (a = gI xs k)) (fun k => (k : Int)) (by rw [BIG_val]; omega)
    (fun k hk hf => by
      unfold g_slices_Index_LI_I_L0
      have : ¬ a = gI xs k := by simpa using hf
      simp only [show (k : Int) < (xs.length : Int) by omega, if_true, idxI hk, some_bind, this, if_false]
      rw [w_in (by omega) (by omega)]; rfl) (fun k hk hf => by
      unfold g_slices_Index_LI_I_L0
      have : a = gI xs k := by simpa using hf
      simp only [show (k : Int) < (xs.length : Int) by omega, if_true, idxI hk, some_bind, ← this]) (by
      unfold g_slices_Index_LI_I_L0
      simp)
  have e : (xs.any fun x => decide (a = x)) = (List.range xs.length).any fun k => decide (a = gI xs k) := (any_range xs (fun x => decide (a = x)) 0).symm
  rw [e, h1]
  rcases h2 with ⟨rfl, h3⟩ | ⟨k, hk, rfl, hf, h3, _⟩
  · rw [h3]; simp [ile]
  · rw [h3]; simp [ile]
theorem i_Space_regular_eq {p : Int} {w : List Int} (h : w.length ≤ 1048576) : i_Space_regular p w = some (!hasZ w) := by
  unfold i_Space_regular hasZ
  rw [contains_eq h, some_bind]
theorem mul_zero_mod {p a b : Int} (hP : isP p = true) (ha : 0 ≤ a ∧ a < p) (hb : 0 ≤ b ∧ b < p) : a * b % p = 0 ↔ a = 0 ∨ b = 0 := by
  constructor
  · intro h
    have key : ∀ P, P = 3 ∨ P = 5 ∨ P = 7 ∨ P = 11 ∨ P = 13 → ∀ A, A < P → ∀ B, B < P → (A * B) % P = 0 → A = 0 ∨ B = 0 := by
      intro P hP
      rcases hP with rfl | rfl | rfl | rfl | rfl <;> decide
    have hp := isP_cases hP
    have e1 : a = (a.toNat : Int) := by omega
    have e2 : b = (b.toNat : Int) := by omega
    have e3 : p = (p.toNat : Int) := by omega
    have := key p.toNat (by omega) a.toNat (by omega) b.toNat (by omega) (by
      rw [e1, e2, e3, ← Int.natCast_mul, ← Int.natCast_emod] at h
      exact_mod_cast h)
    omega
  · rintro (rfl | rfl) <;> simp
theorem s_l03Disc_eq {p : Int} {w : List Int} (hP : isP p = true) (hw : Vec p w.length w) (h : w.length ≤ 1048576) : ∃ d, s_l03Disc p w = some d ∧ (d = 0 ↔ hasZ w = true) := by
  have hp := isP_le hP
  unfold s_l03Disc
  obtain ⟨h1, h2⟩ := fold_loop (s_l03Disc_L0 p w) w.length (fun k s => (s * gI w k) % p) 1 (fun k s => 0 ≤ s ∧ s < p ∧ (s = 0 ↔ ∃ j, j < k ∧ gI w j = 0)) id (by rw [BIG_val]; omega)
    ⟨by omega, by omega, fun h => by omega, fun ⟨j, hj, _⟩ => by omega⟩
    (fun k s hk hs => by
      have := mod_num (a := s * gI w k) (p := p) (by omega)
      refine ⟨this.1, this.2, ?_⟩
      rw [mul_zero_mod hP ⟨hs.1, hs.2.1⟩ (hw.get hk), hs.2.2]
      constructor
      · rintro (⟨j, hj, hz⟩ | hz)
        · exact ⟨j, by omega, hz⟩
        · exact ⟨k, by omega, hz⟩
      · rintro ⟨j, hj, hz⟩
        rcases Nat.lt_succ_iff_lt_or_eq.1 hj with h | rfl
        · exact .inl ⟨j, h, hz⟩
        · exact .inr hz)
    (fun k s hk hs => by
      unfold s_l03Disc_L0
      have h1 := hw.get hk
      have h3 := mul_abs (a := s) (b := gI w k) (A := 13) (B := 13) (by omega) (by omega)
      have h4 := Int.mul_nonneg hs.1 h1.1
      simp only [show (k : Int) < w.length by omega, if_true, idxI hk, some_bind]
      rw [chk_bind (by omega), w_in (x := s * gI w k) (by omega) (by omega), w_in (by omega) (by omega), tmod_nn (by omega)]
      rfl) (fun s hs => by
      unfold s_l03Disc_L0
      simp)
  rw [h1, some_bind]
  refine ⟨_, rfl, ?_⟩
  simp only [id]
  rw [h2.2.2]
  unfold hasZ
  rw [List.any_eq_true]
  constructor
  · rintro ⟨j, hj, hz⟩
    exact ⟨w[j], List.getElem_mem hj, by rw [gI_get hj, hz]; rfl⟩
  · rintro ⟨x, hx, hz⟩
    obtain ⟨j, hj, rfl⟩ := List.getElem_of_mem hx
    refine ⟨j, hj, ?_⟩
    rw [gI_get hj] at hz
    exact (of_decide_eq_true hz).symm

/-! ### Frames -/
def fr (p : Int) (w : List Int) (m : List (List Int)) : Bool := isMat p m && (decide (m.length = w.length) && decide (wid m = w.length))
theorem fr_iff {p : Int} {w : List Int} {m : List (List Int)} (h : fr p w m = true) : isMat p m = true ∧ m.length = w.length ∧ Mat p w.length w.length m := by
  simp only [fr, Bool.and_eq_true, decide_eq_true_eq] at h
  obtain ⟨h1, h2, h3, hP, h4, h5⟩ := isMat_sz h.1
  refine ⟨h.1, h.2.1, ?_⟩
  rw [h.2.1, h.2.2] at h3
  exact h3
section
variable {p : Int} {w : List Int} {m : List (List Int)} (hP : isP p = true) (hn : w.length ≤ 1048576) (hw : Vec p w.length w) (hm : Mat p w.length w.length m)
include hP hn hw hm
end
end Go.Vam

/- Plain laws: the bivector of a skew table. -/
namespace Go.Vam
open Go Go.RowKit
set_option linter.unusedSimpArgs false
set_option linter.unusedVariables false
set_option linter.unusedSectionVars false

theorem hasZ_ne {w : List Int} (h : hasZ w = false) {k : Nat} (hk : k < w.length) : gI w k ≠ 0 := by
  intro h0
  have : hasZ w = true := by
    unfold hasZ
    rw [List.any_eq_true]
    exact ⟨w[k], List.getElem_mem hk, by rw [gI_get hk, h0]; rfl⟩
  rw [h] at this; cases this

section
variable {p : Int} {w : List Int} {m : List (List Int)} (hP : isP p = true) (hn : w.length ≤ 6) (hw : Vec p w.length w) (hz : hasZ w = false) (hm : Mat p w.length w.length m)
include hP hn hw hz hm
end
end Go.Vam

/- Plain laws: doublings: their elements, tables and products. -/
namespace Go.Vam
open Go Go.RowKit
set_option linter.unusedSimpArgs false
set_option linter.unusedVariables false
set_option linter.unusedSectionVars false

theorem ieq_nat (a b : Nat) : ieq (a : Int) (b : Int) = decide (a = b) := by
  simp only [ieq]
  exact decide_eq_decide.2 ⟨Int.ofNat.inj, congrArg _⟩
section
variable {p : Int} {w : List Int} (hP : isP p = true) (hl : w.length ≤ 4)
include hP hl
end

section
variable {p : Int} {w : List Int} (hw : w.length ≤ 1048576)
include hw
end

/-! ### A table's image -/
section
variable {p : Int} {n : Nat} {m : List (List Int)} {v : List Int} (hp : 0 < p) (hp2 : p ≤ 13) (hn : n ≤ 1048576) (hm : Mat p n n m) (hv : Vec p n v)
include hp hp2 hn hm hv
end
end Go.Vam

/- Plain laws: the product of a doubling. -/
namespace Go.Vam
open Go Go.RowKit
set_option linter.unusedSimpArgs false
set_option linter.unusedVariables false
set_option linter.unusedSectionVars false

theorem gI_take {x : List Int} {h k : Nat} (hk : k < h) : gI (x.take h) k = gI x k := by
  unfold gI; rw [List.getD_eq_getElem?_getD, List.getD_eq_getElem?_getD, List.getElem?_take_of_lt hk]
theorem gI_drop {x : List Int} {h k : Nat} : gI (x.drop h) k = gI x (h + k) := by
  unfold gI; rw [List.getD_eq_getElem?_getD, List.getD_eq_getElem?_getD, List.getElem?_drop]
theorem gI_append {x y : List Int} {k : Nat} : gI (x ++ y) k = if k < x.length then gI x k else gI y (k - x.length) := by
  unfold gI; rw [List.getD_eq_getElem?_getD, List.getElem?_append]
  split <;> rw [List.getD_eq_getElem?_getD]
theorem gI_set {x : List Int} {i j : Nat} {a : Int} (hi : i < x.length) : gI (x.set i a) j = if i = j then a else gI x j := by
  unfold gI
  simp only [List.getD_eq_getElem?_getD, List.getElem?_set]
  by_cases h : i = j
  · subst h; simp [hi]
  · simp [h]
theorem Vec.take {p : Int} {a b : Nat} {x : List Int} (h : Vec p (a + b) x) : Vec p a (x.take a) :=
  ⟨by rw [List.length_take, h.1]; omega, fun k hk => by rw [gI_take hk]; exact h.2 k (by omega)⟩
theorem Vec.drop {p : Int} {a b : Nat} {x : List Int} (h : Vec p (a + b) x) : Vec p b (x.drop a) :=
  ⟨by rw [List.length_drop, h.1]; omega, fun k hk => by rw [gI_drop]; exact h.2 _ (by omega)⟩
theorem Vec.append {p : Int} {a b : Nat} {x y : List Int} (hx : Vec p a x) (hy : Vec p b y) : Vec p (a + b) (x ++ y) :=
  ⟨by rw [List.length_append, hx.1, hy.1], fun k hk => by
    rw [gI_append, hx.1]
    split
    · exact hx.2 k (by assumption)
    · exact hy.2 _ (by omega)⟩
theorem Vec.set {p : Int} {n i : Nat} {x : List Int} {a : Int} (hx : Vec p n x) (hi : i < n) (ha : 0 ≤ a ∧ a < p) : Vec p n (x.set i a) :=
  ⟨by rw [List.length_set, hx.1], fun k hk => by
    rw [gI_set (by rw [hx.1]; exact hi)]
    split
    · exact ha
    · exact hx.2 k hk⟩
section
variable {p : Int} {n : Nat} {a b : List Int} (hp : 3 ≤ p) (hp2 : p ≤ 13) (hn : n ≤ 1048576) (hn0 : 0 < n) (ha : Vec p n a) (hb : Vec p n b)
include hp hp2 hn
include hn0
end
section
variable {p : Int} {w x y : List Int} (hP : isP p = true) (hl : w.length ≤ 4) (hw : Vec p w.length w) (hx : Vec p (2 ^ w.length) x) (hy : Vec p (2 ^ w.length) y)
include hP hl hw hx hy
end
end Go.Vam

/- Plain laws: commutators, associators, inner derivations. -/
namespace Go.Vam
open Go Go.RowKit
set_option linter.unusedSimpArgs false
set_option linter.unusedVariables false
set_option linter.unusedSectionVars false

theorem neg_one_mod {p : Int} : (p - 1) % p = (-1) % p := by
  have : p - 1 = -1 + p := by omega
  rw [this, Int.add_emod_right]
section
variable {p : Int} {w a b c : List Int} (hP : isP p = true) (hl : w.length ≤ 4) (hw : Vec p w.length w) (ha : Vec p (2 ^ w.length) a) (hb : Vec p (2 ^ w.length) b) (hc : Vec p (2 ^ w.length) c)
include hP hl hw ha hb
include hc
end
/-- An axis. -/
def axis (n k : Nat) : List Int := (List.replicate n (0 : Int)).set k 1
theorem axis_vec {p : Int} (hp : 1 < p) {n k : Nat} (hk : k < n) : Vec p n (axis n k) := by
  have := (unitm_mat hp n).row hk
  unfold unitm at this
  rw [gR_vecN _ hk] at this
  exact this
theorem gR_unitm {n k : Nat} (hk : k < n) : gR (unitm n) k = axis n k := by unfold unitm; rw [gR_vecN _ hk]; rfl
section
variable {p : Int} {n : Nat} {m : List (List Int)} (hn : n ≤ 1048576) (hm : Mat p n n m)
include hn hm
end
section
variable {p : Int} {w a b : List Int} (hP : isP p = true) (hl : w.length ≤ 4) (hw : Vec p w.length w) (ha : Vec p (2 ^ w.length) a) (hb : Vec p (2 ^ w.length) b)
include hP hl hw ha hb
end
end Go.Vam

/- Plain laws: the signed basis of a doubling. -/
namespace Go.Vam
open Go Go.RowKit
set_option linter.unusedSimpArgs false
set_option linter.unusedVariables false
set_option linter.unusedSectionVars false

theorem lt_cast {a b : Nat} (h : a < b) : ((a : Int) < (b : Int)) = True := eq_true (Int.ofNat_lt.2 h)
theorem lt_cast_self (a : Nat) : ((a : Int) < (a : Int)) = False := eq_false (by omega)
section
variable {p : Int} {w : List Int} (hP : isP p = true) (hl : w.length ≤ 4) (hw : Vec p w.length w)
include hP hl hw
end

section
variable {p : Int} {w : List Int} {T : List (List Int)} (hl : w.length ≤ 4) (hT : Mat p (2 ^ w.length) (2 ^ w.length) T)
include hl hT
end
end Go.Vam

/- Plain laws: systems of equations. -/
namespace Go.Vam
open Go Go.RowKit
set_option linter.unusedSimpArgs false
set_option linter.unusedVariables false
set_option linter.unusedSectionVars false

theorem first_two {v : List Int} {q : Nat} (hv : v.length ≤ 1048576) (hq : q < v.length) (h : gI v q ≠ 0) : ∃ f : Nat, f ≤ q ∧ s_l02First v = some (f : Int) ∧ i_lead v = some (f : Int) ∧ gI v f ≠ 0 ∧ ∀ j, j < f → gI v j = 0 := by
  obtain ⟨b, h1, h2⟩ := any_loop (s_l02First_L0 v) v.length (fun k => !decide (gI v k = 0)) (fun k => (k : Int)) (by rw [BIG_val]; omega)
    (fun k hk hf => by
      unfold s_l02First_L0
      have : gI v k = 0 := by simpa using hf
      simp only [show (k : Int) < (v.length : Int) by omega, if_true, idxI hk, some_bind, this, not_true_eq_false, if_false]
      rw [w_in (by omega) (by omega)]; rfl) (fun k hk hf => by
      unfold s_l02First_L0
      have : ¬ gI v k = 0 := by simpa using hf
      simp only [show (k : Int) < (v.length : Int) by omega, if_true, idxI hk, some_bind, this, not_false_eq_true]) (by
      unfold s_l02First_L0
      simp)
  rcases h2 with ⟨rfl, h3⟩ | ⟨f, hf, rfl, h4, h5, h6⟩
  · rw [List.any_eq_false] at h3
    have := h3 q (List.mem_range.2 hq)
    simp [h] at this
  · have h4' : gI v f ≠ 0 := by simpa using h4
    have h6' : ∀ j, j < f → gI v j = 0 := fun j hj => by simpa using h6 j hj
    refine ⟨f, ?_, ?_, ?_, h4', h6'⟩
    · rcases Nat.lt_or_ge q f with hqf | hqf
      · exact absurd (h6' q hqf) h
      · exact hqf
    · unfold s_l02First
      rw [h1]; rfl
    · unfold i_lead
      rw [loop_for (b := (f : Int)) (s := 0) (fun k => (k : Int)) f (by rw [BIG_val]; omega) rfl]
      · rfl
      · intro k hk
        unfold i_lead_L0
        simp only [show (k : Int) < (v.length : Int) by omega, if_true, idxI (show k < v.length by omega), some_bind, h6' k hk, ieq_self]
        rw [w_in (by omega) (by omega)]; rfl
      · unfold i_lead_L0
        have : ieq (gI v f) 0 = false := by simp [ieq, h4']
        simp only [show (f : Int) < (v.length : Int) by omega, if_true, idxI hf, some_bind, this, Bool.false_eq_true, if_false]

section
variable {p : Int} {r c : Nat} {m : List (List Int)} {v : List Int} (hP : isP p = true) (hr0 : 0 < r) (hr : r ≤ 1048000) (hc0 : 0 < c) (hc : c ≤ 1048000) (hm : Mat p r c m) (hv : Vec p r v)
include hP hr0 hr hc0 hc hm hv
end
end Go.Vam

/- Plain laws: isometries, orthogonal tables, their orders. -/
namespace Go.Vam
open Go Go.RowKit
set_option linter.unusedSimpArgs false
set_option linter.unusedVariables false
set_option linter.unusedSectionVars false

theorem sumN_mod {f g : Nat → Int} {p : Int} : ∀ {n : Nat}, (∀ k, k < n → f k % p = g k % p) → sumN f n % p = sumN g n % p
  | 0, _ => rfl
  | n + 1, h => by
    simp only [sumN]
    rw [Int.add_emod, sumN_mod (n := n) fun k hk => h k (by omega), h n (by omega), ← Int.add_emod]
/-- The pairing of a space. -/
def pairp (p : Int) (n : Nat) (w x y : List Int) : Int := sumN (fun k => gI x k * gI y k * gI w k) n % p
theorem pairp_comm (p : Int) (n : Nat) (w x y : List Int) : pairp p n w x y = pairp p n w y x := by
  unfold pairp
  congr 1
  exact sumN_congr fun k _ => by rw [Int.mul_comm (gI x k)]
section
variable {p : Int} {n : Nat} {w x y : List Int} (hP : isP p = true) (hn : n ≤ 1048576) (hw : Vec p n w) (hx : Vec p n x) (hy : Vec p n y)
include hP hn hw hx hy
theorem s_l03Pair_eq : s_l03Pair p w x y = some (pairp p n w x y) := by
  have hp := isP_le hP
  unfold s_l03Pair
  have e1 := hx.1; have e2 := hy.1; have e3 := hw.1
  obtain ⟨h1, h2⟩ := fold_loop (s_l03Pair_L0 p w x y) n (fun k s => (s + gI x k * gI y k % p * gI w k) % p) 0 (fun _ s => 0 ≤ s ∧ s < p) id (by rw [BIG_val]; omega) (by omega) (fun k s hk _ => mod_num (by omega))
    (fun k s hk hs => by
      unfold s_l03Pair_L0
      have h1 := hx.get hk; have h2 := hy.get hk; have h3 := hw.get hk
      have h4 := mul_abs (a := gI x k) (b := gI y k) (A := 13) (B := 13) (by omega) (by omega)
      have h5 := Int.mul_nonneg h1.1 h2.1
      have h6 := mod_num (a := gI x k * gI y k) (p := p) (by omega)
      have h7 := mul_abs (a := gI x k * gI y k % p) (b := gI w k) (A := 13) (B := 13) (by omega) (by omega)
      have h8 := Int.mul_nonneg h6.1 h3.1
      simp only [show (k : Int) < x.length by omega, if_true, idxI (show k < x.length by omega), idxI (show k < y.length by omega), idxI (show k < w.length by omega), some_bind]
      rw [chk_bind (by omega), chk_bind (by omega), w_in (x := gI x k * gI y k) (by omega) (by omega), tmod_nn h5, w_in (x := gI x k * gI y k % p * gI w k) (by omega) (by omega), w_in (x := s + gI x k * gI y k % p * gI w k) (by omega) (by omega), tmod_nn (a := s + gI x k * gI y k % p * gI w k) (by omega), w_in (x := (k : Int) + 1) (by omega) (by omega)]
      rfl) (fun s hs => by
      unfold s_l03Pair_L0
      simp [e1])
  rw [h1, some_bind]
  have key : ∀ k, foldN (fun k s => (s + gI x k * gI y k % p * gI w k) % p) 0 k = sumN (fun k => gI x k * gI y k * gI w k) k % p := by
    intro k
    induction k with
    | zero => simp [foldN, sumN]
    | succ k ih =>
      simp only [foldN, sumN, ih]
      rw [Int.add_emod, Int.emod_emod_of_dvd _ (Int.dvd_refl p), Int.mul_emod (gI x k * gI y k % p), Int.emod_emod_of_dvd _ (Int.dvd_refl p), ← Int.mul_emod, ← Int.add_emod]
  simp only [id, key]; rfl
theorem i_Space_pair_eq : i_Space_pair p w x y = some (pairp p n w x y) := by
  have hp := isP_le hP
  have e1 := hx.1; have e2 := hy.1; have e3 := hw.1
  have hwt : i_Space_weighted p w x = some (vecN n fun k => gI x k * gI w k % p) := by
    unfold i_Space_weighted
    rw [map_loop _ n (fun k => gI x k * gI w k % p) (by rw [BIG_val]; omega)]
    · rfl
    · intro i hi out ho
      unfold i_Space_weighted_L0 i_Space_field
      have h1 := hx.get hi; have h3 := hw.get hi
      have h4 := mul_abs (a := gI x i) (b := gI w i) (A := 13) (B := 13) (by omega) (by omega)
      simp only [show (i : Int) < x.length by omega, if_true, idxI (show i < x.length by omega), idxI (show i < w.length by omega), some_bind]
      rw [w_in (x := gI x i * gI w i) (by omega) (by omega), i_field_num_eq (by omega) (by omega) (by omega) (by omega), some_bind, chk_bind (by simp only [List.length_cons, List.length_nil]; omega), w_in (by omega) (by omega)]
      rfl
    · intro out ho
      unfold i_Space_weighted_L0
      simp [e1]
  have hv : Vec p n (vecN n fun k => gI x k * gI w k % p) := Vec.mk' fun k hk => mod_num (by omega)
  unfold i_Space_pair i_Space_field
  rw [some_bind, hwt, some_bind, i_field_dot_eq (by omega) (by omega) hn hv hy, some_bind]
  congr 1
  unfold dotp pairp
  refine sumN_mod fun k hk => ?_
  rw [gI_vecN _ hk, Int.mul_emod, Int.emod_emod_of_dvd _ (Int.dvd_refl p), ← Int.mul_emod, Int.mul_assoc, Int.mul_comm (gI w k), ← Int.mul_assoc]
end

/-- The rows of T pair as the space's own axes do. -/
def isoB (p : Int) (w : List Int) (T : List (List Int)) (i j : Nat) : Bool := decide (pairp p w.length w (gR T i) (gR T j) = if i = j then gI w i else 0)
theorem isoB_comm (p : Int) (w : List Int) (T : List (List Int)) (i j : Nat) : isoB p w T i j = isoB p w T j i := by
  unfold isoB
  rw [pairp_comm]
  by_cases h : i = j
  · subst h; rfl
  · rw [if_neg h, if_neg (fun e => h e.symm)]
theorem all_tri {n : Nat} {f : Nat → Nat → Bool} (hc : ∀ i j, f i j = f j i) : ((List.range n).all fun i => (List.range (i + 1)).all (f i)) = (List.range n).all fun i => (List.range n).all (f i) := by
  rw [Bool.eq_iff_iff]
  simp only [List.all_eq_true, List.mem_range]
  constructor
  · intro h i hi j hj
    rcases Nat.lt_or_ge i j with hij | hij
    · rw [hc]; exact h j hj i (by omega)
    · exact h i hi j (by omega)
  · intro h i hi j hj
    exact h i hi j (by omega)
section
variable {p : Int} {w : List Int} {T : List (List Int)} (hP : isP p = true) (hn : w.length ≤ 1048576) (hw : Vec p w.length w) (hT : Mat p w.length w.length T)
include hP hn hw hT
theorem s_iso_loop : loop (s_l03Isometry_L0 w p w T) BIG 0 = some (if (List.range w.length).all fun i => (List.range w.length).all (isoB p w T i) then .inl () else .inr false) := by
  rw [← all_tri (isoB_comm p w T)]
  have e1 := hT.1
  have inner : ∀ i, i < w.length → loop (s_l03Isometry_L1 w p w T (i : Int)) BIG 0 = some (if (List.range (i + 1)).all (isoB p w T i) then .inl () else .inr (.inr (.inr false))) := by
    intro i hi
    have core : ∀ j, j < i + 1 → s_l03Isometry_L1 w p w T (i : Int) (j : Int) = if isoB p w T i j = true then some (.inl ((j + 1 : Nat) : Int)) else some (.inr (.inr (.inr (.inr false)))) := by
      intro j hj
      unfold s_l03Isometry_L1
      have hpr := s_l03Pair_eq hP hn hw (hT.row hi) (hT.row (show j < w.length by omega))
      have he : ((if (i : Int) = (j : Int) then (idx w (i : Int)).bind fun v30 => some v30 else some 0) : Option Int) = some (if i = j then gI w i else 0) := by
        by_cases h : i = j
        · subst h; simp only [if_true, idxI hi, some_bind]
        · rw [if_neg (by omega), if_neg h]
      rw [if_pos (by omega), he, some_bind, idxR (by omega), some_bind, idxR (by omega), some_bind, hpr, some_bind, w_in (by omega) (by omega)]
      unfold isoB
      by_cases h : pairp p w.length w (gR T i) (gR T j) = if i = j then gI w i else 0
      · rw [if_neg (by simp [h]), if_pos (by simp [h])]; rfl
      · rw [if_pos h, if_neg (by simp [h])]
    refine all_loop _ (i + 1) (isoB p w T i) _ (by rw [BIG_val]; omega) ?_ ?_ ?_
    · intro j hj hf
      rw [core j hj, if_pos hf]
    · intro j hj hf
      rw [core j hj, if_neg (by simp [hf])]
    · unfold s_l03Isometry_L1
      rw [if_neg (by omega)]
  refine all_loop _ w.length (fun i => (List.range (i + 1)).all (isoB p w T i)) false (by rw [BIG_val]; omega) ?_ ?_ ?_
  · intro i hi hf
    unfold s_l03Isometry_L0
    rw [if_pos (by omega), inner i hi, hf, w_in (by omega) (by omega)]; rfl
  · intro i hi hf
    unfold s_l03Isometry_L0
    rw [if_pos (by omega), inner i hi, hf]; rfl
  · unfold s_l03Isometry_L0
    simp
theorem i_iso_loop : loop (i_isIsometry_L0 w p w T) BIG 0 = some (if (List.range w.length).all fun i => (List.range w.length).all (isoB p w T i) then .inl () else .inr false) := by
  have e1 := hT.1
  have inner : ∀ i, i < w.length → loop (i_isIsometry_L1 w p w T (i : Int) (gR T i)) BIG 0 = some (if (List.range w.length).all (isoB p w T i) then .inl () else .inr (.inr (.inr false))) := by
    intro i hi
    have core : ∀ j, j < w.length → i_isIsometry_L1 w p w T (i : Int) (gR T i) (j : Int) = if isoB p w T i j = true then some (.inl ((j + 1 : Nat) : Int)) else some (.inr (.inr (.inr (.inr false)))) := by
      intro j hj
      unfold i_isIsometry_L1
      have hpr := i_Space_pair_eq hP hn hw (hT.row hi) (hT.row hj)
      have he : ((if (i : Int) = (j : Int) then (idx w (i : Int)).bind fun v38 => some v38 else some 0) : Option Int) = some (if i = j then gI w i else 0) := by
        by_cases h : i = j
        · subst h; simp only [if_true, idxI hi, some_bind]
        · rw [if_neg (by omega), if_neg h]
      rw [if_pos (by omega), he, idxR (by omega), some_bind, some_bind, hpr, some_bind, w_in (by omega) (by omega)]
      unfold isoB
      by_cases h : pairp p w.length w (gR T i) (gR T j) = if i = j then gI w i else 0
      · rw [if_neg (by simp [h]), if_pos (by simp [h])]; rfl
      · rw [if_pos h, if_neg (by simp [h])]
    refine all_loop _ w.length (isoB p w T i) _ (by rw [BIG_val]; omega) ?_ ?_ ?_
    · intro j hj hf
      rw [core j hj, if_pos hf]
    · intro j hj hf
      rw [core j hj, if_neg (by simp [hf])]
    · unfold i_isIsometry_L1
      simp [e1]
  refine all_loop _ w.length (fun i => (List.range w.length).all (isoB p w T i)) false (by rw [BIG_val]; omega) ?_ ?_ ?_
  · intro i hi hf
    unfold i_isIsometry_L0
    rw [if_pos (by omega), idxR (by omega), some_bind, inner i hi, hf, w_in (by omega) (by omega)]; rfl
  · intro i hi hf
    unfold i_isIsometry_L0
    rw [if_pos (by omega), idxR (by omega), some_bind, inner i hi, hf]; rfl
  · unfold i_isIsometry_L0
    simp [e1]
end

/-! ### Orders -/
theorem s_l01Same_eq {a b : List Int} (h : a.length ≤ 1048576) : s_l01Same a b = some (decide (a = b)) := by
  unfold s_l01Same
  by_cases hl : a.length = b.length
  · rw [if_neg (by omega)]
    obtain ⟨r, h1, h2⟩ := cmp_loop a b hl (by omega) (s_l01Same_L0 a b) (fun k hk he => by
        unfold s_l01Same_L0
        simp only [show (k : Int) < a.length by omega, if_true, idxk hk, idxk (hl ▸ hk), some_bind, he, not_true_eq_false, if_false]
        rw [w_in (by omega) (by omega)]; rfl) (fun k hk he => by
        unfold s_l01Same_L0
        simp only [show (k : Int) < a.length by omega, if_true, idxk hk, idxk (hl ▸ hk), some_bind, he, not_false_eq_true]) (by
        unfold s_l01Same_L0
        simp) (by rw [BIG_val]; omega)
    rw [h1, some_bind]
    rcases h2 with ⟨rfl, rfl⟩ | ⟨rfl, h3⟩
    · simp
    · simp [h3]
  · rw [if_pos (by omega)]
    have : a ≠ b := fun e => hl (by rw [e])
    simp [this]
section
variable {p : Int} {w : List Int} {m x : List (List Int)} {k : Nat} (hw : w.length ≤ 1048576) (h0 : 0 < w.length) (hp : 3 ≤ p) (hp2 : p ≤ 13) (hm : Mat p w.length w.length m) (hx : Mat p w.length w.length x) (hk : k ≤ 100000)
include hw h0 hp hp2 hm hx hk
end
end Go.Vam
