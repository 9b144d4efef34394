import Derived.Test.YtomgbldkoehplaaPlG0
import Derived.Test.YtomgbldkoehplaaFnN
/- Plain laws: loops: whether a table is one; its nucleus and its centre. -/
namespace Go.Vam
open Go Go.RowKit
set_option linter.unusedSimpArgs false
set_option linter.unusedVariables false
set_option linter.unusedSectionVars false

/-- A loop that leaves at the first index that fails; its state hangs on the index. -/
theorem all_loopS {σ B : Type} (step : σ → Option (σ ⊕ (Unit ⊕ B))) (n : Nat) (f : Nat → Bool) (st : Nat → σ) (r : B) (hn : n < BIG)
    (hs : ∀ k, k < n → (∀ j, j < k → f j = true) → f k = true → step (st k) = some (.inl (st (k + 1)))) (hb : ∀ k, k < n → (∀ j, j < k → f j = true) → f k = false → step (st k) = some (.inr (.inr r)))
    (he : (∀ j, j < n → f j = true) → step (st n) = some (.inr (.inl ()))) : loop step BIG (st 0) = some (if (List.range n).all f then .inl () else .inr r) := by
  have key : ∀ d k m, k + d = n → d < m → (∀ j, j < k → f j = true) → loop step m (st k) = some (if (List.range n).all f then .inl () else .inr r) := by
    intro d
    induction d with
    | zero =>
      intro k m hk hm ha
      obtain ⟨m, rfl⟩ : ∃ m', m = m' + 1 := ⟨m - 1, by omega⟩
      have : k = n := by omega
      subst this
      have hall : (List.range k).all f = true := by
        rw [List.all_eq_true]
        intro x hx
        exact ha x (List.mem_range.1 hx)
      simp only [loop, he ha, hall, if_true]
    | succ d ih =>
      intro k m hk hm ha
      obtain ⟨m, rfl⟩ : ∃ m', m = m' + 1 := ⟨m - 1, by omega⟩
      cases hf : f k with
      | true =>
        simp only [loop, hs k (by omega) ha hf]
        refine ih (k + 1) m (by omega) (by omega) fun j hj => ?_
        rcases Nat.lt_succ_iff_lt_or_eq.1 hj with h | rfl
        · exact ha j h
        · exact hf
      | false =>
        have hall : (List.range n).all f = false := by
          rw [List.all_eq_false]
          exact ⟨k, List.mem_range.2 (by omega), by simp [hf]⟩
        simp only [loop, hb k (by omega) ha hf, hall, Bool.false_eq_true, if_false]
  exact key n 0 BIG (by omega) hn fun j hj => by omega

/-- The marks of what has been seen. -/
def marks (n : Nat) (f : Nat → Int) (j : Nat) : List Bool := (List.range n).map fun v : Nat => (List.range j).any fun k => decide (f k = (v : Int))
theorem marks_len (n : Nat) (f : Nat → Int) (j : Nat) : (marks n f j).length = n := by simp [marks]
theorem marks_zero (n : Nat) (f : Nat → Int) : marks n f 0 = List.replicate n false := by
  unfold marks
  apply List.ext_getElem
  · simp
  · intro i h1 h2; simp
theorem marks_get {n : Nat} {f : Nat → Int} {j : Nat} {x : Int} (h : 0 ≤ x ∧ x ≤ (n : Int) - 1) : idx (marks n f j) x = some ((List.range j).any fun k => decide (f k = x)) := by
  obtain ⟨v, rfl⟩ := Int.eq_ofNat_of_zero_le h.1
  have hv : v < n := by omega
  have : idx (marks n f j) ((v : Nat) : Int) = some ((marks n f j).getD v false) := idxD (by rw [marks_len]; exact hv) false
  rw [this]
  simp [marks, hv]
theorem marks_set {n : Nat} {f : Nat → Int} {j : Nat} (h : 0 ≤ f j ∧ f j ≤ (n : Int) - 1) : (marks n f j).set (f j).toNat true = marks n f (j + 1) := by
  unfold marks
  apply List.ext_getElem
  · simp
  · intro i h1 h2
    simp only [List.length_map, List.length_range, List.length_set] at h1 h2
    rw [List.getElem_set]
    simp only [List.getElem_map, List.getElem_range, List.range_succ, List.any_append, List.any_cons, List.any_nil, Bool.or_false]
    by_cases e : (f j).toNat = i
    · rw [if_pos e]
      have : f j = (i : Int) := by omega
      simp [this]
    · rw [if_neg e]
      have : ¬ f j = (i : Int) := by omega
      simp [this]
/-- The entry at j is a number of the loop that has not been seen. -/
def okB (n : Nat) (f : Nat → Int) (j : Nat) : Bool := (decide (0 ≤ f j) && decide (f j ≤ (n : Int) - 1)) && !((List.range j).any fun k => decide (f k = f j))
def onceB (n : Nat) (f : Nat → Int) : Bool := (List.range n).all (okB n f)
theorem okB_rng {n : Nat} {f : Nat → Int} {j : Nat} (h : okB n f j = true) : 0 ≤ f j ∧ f j ≤ (n : Int) - 1 := by
  unfold okB at h
  simp only [Bool.and_eq_true, decide_eq_true_eq] at h
  exact h.1
theorem i_isOnce_eq {r : List Int} {n : Nat} (hr : r.length = n) (hn : n ≤ 1048576) : i_isOnce r = some (onceB n (gI r)) := by
  unfold i_isOnce
  rw [chk_bind (by omega)]
  have key := all_loopS (i_isOnce_L0 r) n (okB n (gI r)) (fun k => (marks n (gI r) k, (k : Int))) false (by rw [BIG_val]; omega) ?_ ?_ ?_
  · have e0 : (List.replicate (r.length : Int).toNat false, (0 : Int)) = (marks n (gI r) 0, ((0 : Nat) : Int)) := by rw [marks_zero, hr]; rfl
    rw [e0, key, some_bind]
    unfold onceB
    cases (List.range n).all (okB n (gI r)) <;> rfl
  · intro k hk _ hf
    unfold i_isOnce_L0
    have hrng := okB_rng hf
    have hseen : ((List.range k).any fun j => decide (gI r j = gI r k)) = false := by
      unfold okB at hf
      simp only [Bool.and_eq_true, Bool.not_eq_true'] at hf
      exact hf.2
    unfold i_length_I
    simp only [hr, show (k : Int) < (n : Int) by omega, if_true, idxI (show k < r.length by omega), some_bind, i_inRange_eq, w_in (x := (n : Int) - 1) (by omega) (by omega), show decide (0 ≤ gI r k) = true from decide_eq_true hrng.1, show decide (gI r k ≤ (n : Int) - 1) = true from decide_eq_true hrng.2,
      Bool.and_self, Bool.true_eq_false, if_false, marks_get hrng, hseen, Bool.false_eq_true, marks_set hrng, w_in (x := (k : Int) + 1) (by omega) (by omega)]
    rfl
  · intro k hk _ hf
    unfold i_isOnce_L0 i_length_I
    simp only [hr, show (k : Int) < (n : Int) by omega, if_true, idxI (show k < r.length by omega), some_bind, i_inRange_eq, w_in (x := (n : Int) - 1) (by omega) (by omega)]
    cases hrg : (decide (0 ≤ gI r k) && decide (gI r k ≤ (n : Int) - 1)) with
    | false => simp
    | true =>
      have hrng : 0 ≤ gI r k ∧ gI r k ≤ (n : Int) - 1 := by simpa using hrg
      have hseen : ((List.range k).any fun j => decide (gI r j = gI r k)) = true := by
        unfold okB at hf
        rw [hrg] at hf
        simpa using hf
      simp only [Bool.true_eq_false, if_false, marks_get hrng, hseen, some_bind, if_true]
  · intro _
    unfold i_isOnce_L0
    simp [hr]

/-! ### Whether a table is a loop -/
def rowB (a : List (List Int)) (i : Nat) : Bool :=
  onceB a.length (gI (gR a i)) && onceB a.length (fun k => gI (gR a k) i) && (decide (gI (gR a 0) i = (i : Int)) && decide (gI (gR a i) 0 = (i : Int)))
def isLp (a : List (List Int)) : Bool :=
  (decide (1 ≤ (a.length : Int)) && decide ((a.length : Int) ≤ 128)) && ((List.range a.length).all (fun i => decide ((gR a i).length = a.length)) && (List.range a.length).all (rowB a))

theorem s_lenrows {a : List (List Int)} (hn : a.length ≤ 1048576) : loop (s_l13Is_L0 a) BIG 0 = some (if (List.range a.length).all (fun i => decide ((gR a i).length = a.length)) then .inl () else .inr false) := by
  refine all_loop _ a.length _ false (by rw [BIG_val]; omega) ?_ ?_ ?_
  · intro k hk hf
    have hf' : (gR a k).length = a.length := by simpa using hf
    unfold s_l13Is_L0
    simp only [show (k : Int) < (a.length : Int) by omega, if_true, idxR hk, some_bind, hf', not_true_eq_false, if_false]
    rw [w_in (by omega) (by omega)]; rfl
  · intro k hk hf
    have hf' : ¬ (gR a k).length = a.length := by simpa using hf
    unfold s_l13Is_L0
    simp only [show (k : Int) < (a.length : Int) by omega, if_true, idxR hk, some_bind, show ¬ ((gR a k).length : Int) = (a.length : Int) by omega, not_false_eq_true]
  · unfold s_l13Is_L0
    simp
theorem i_lenrows {a : List (List Int)} (hn : a.length ≤ 1048576) : loop (i_IsLoop_L0 a) BIG 0 = some (if (List.range a.length).all (fun i => decide ((gR a i).length = a.length)) then .inl () else .inr false) := by
  refine all_loop _ a.length _ false (by rw [BIG_val]; omega) ?_ ?_ ?_
  · intro k hk hf
    have hf' : (gR a k).length = a.length := by simpa using hf
    unfold i_IsLoop_L0
    simp only [show (k : Int) < (a.length : Int) by omega, if_true, idxR hk, some_bind, hf', not_true_eq_false, if_false]
    rw [w_in (by omega) (by omega)]; rfl
  · intro k hk hf
    have hf' : ¬ (gR a k).length = a.length := by simpa using hf
    unfold i_IsLoop_L0
    simp only [show (k : Int) < (a.length : Int) by omega, if_true, idxR hk, some_bind, show ¬ ((gR a k).length : Int) = (a.length : Int) by omega, not_false_eq_true]
  · unfold i_IsLoop_L0
    simp

section
variable {a : List (List Int)} (hn : a.length ≤ 128) (hl : ∀ i, i < a.length → (gR a i).length = a.length)
include hn hl
theorem s_rowcol {i : Nat} (hi : i < a.length) : loop (s_l13Is_L2 a (i : Int)) BIG (List.replicate (a.length : Int).toNat false, List.replicate (a.length : Int).toNat false, 0) =
    some (if onceB a.length (gI (gR a i)) && onceB a.length (fun k => gI (gR a k) i) then .inl () else .inr (.inr (.inr false))) := by
  have e0 : (List.replicate (a.length : Int).toNat false, List.replicate (a.length : Int).toNat false, (0 : Int)) = (marks a.length (gI (gR a i)) 0, marks a.length (fun k => gI (gR a k) i) 0, ((0 : Nat) : Int)) := by
    rw [marks_zero, marks_zero]; rfl
  have e1 : (onceB a.length (gI (gR a i)) && onceB a.length (fun k => gI (gR a k) i)) = (List.range a.length).all fun j => okB a.length (gI (gR a i)) j && okB a.length (fun k => gI (gR a k) i) j := by
    unfold onceB
    rw [Bool.eq_iff_iff]
    simp only [Bool.and_eq_true, List.all_eq_true]
    exact ⟨fun h x hx => ⟨h.1 x hx, h.2 x hx⟩, fun h => ⟨fun x hx => (h x hx).1, fun x hx => (h x hx).2⟩⟩
  rw [e0, e1]
  have body : ∀ k, k < a.length → s_l13Is_L2 a (i : Int) (marks a.length (gI (gR a i)) k, marks a.length (fun k => gI (gR a k) i) k, (k : Int)) =
      if okB a.length (gI (gR a i)) k && okB a.length (fun k => gI (gR a k) i) k then some (.inl (marks a.length (gI (gR a i)) (k + 1), marks a.length (fun k => gI (gR a k) i) (k + 1), ((k + 1 : Nat) : Int))) else some (.inr (.inr (.inr (.inr false)))) := by
    intro k hk
    unfold s_l13Is_L2
    have li := hl i hi
    have lk := hl k hk
    simp only [show (k : Int) < (a.length : Int) by omega, if_true, idxR hi, idxR hk, idxI (show k < (gR a i).length by omega), idxI (show i < (gR a k).length by omega), some_bind, s_l01In_eq, w_in (x := (a.length : Int) - 1) (by omega) (by omega)]
    cases r1 : (decide (0 ≤ gI (gR a i) k) && decide (gI (gR a i) k ≤ (a.length : Int) - 1)) with
    | false => simp [okB, r1]
    | true =>
      have q1 : 0 ≤ gI (gR a i) k ∧ gI (gR a i) k ≤ (a.length : Int) - 1 := by simpa using r1
      simp only [Bool.true_eq_false, if_false]
      cases r2 : (decide (0 ≤ gI (gR a k) i) && decide (gI (gR a k) i ≤ (a.length : Int) - 1)) with
      | false => simp [okB, r2]
      | true =>
        have q2 : 0 ≤ (fun k => gI (gR a k) i) k ∧ (fun k => gI (gR a k) i) k ≤ (a.length : Int) - 1 := by simpa using r2
        have m2 : idx (marks a.length (fun k => gI (gR a k) i) k) (gI (gR a k) i) = some ((List.range k).any fun j => decide (gI (gR a j) i = gI (gR a k) i)) := marks_get q2
        have s2 : (marks a.length (fun k => gI (gR a k) i) k).set (gI (gR a k) i).toNat true = marks a.length (fun k => gI (gR a k) i) (k + 1) := marks_set q2
        simp only [Bool.true_eq_false, if_false, marks_get q1, m2, some_bind]
        cases r3 : ((List.range k).any fun j => decide (gI (gR a i) j = gI (gR a i) k)) with
        | true => simp [okB, r3]
        | false =>
          simp only [Bool.false_eq_true, if_false, some_bind]
          cases r4 : ((List.range k).any fun j => decide (gI (gR a j) i = gI (gR a k) i)) with
          | true => simp [okB, r4]
          | false =>
            have o1 : okB a.length (gI (gR a i)) k = true := by unfold okB; rw [r1, r3]; rfl
            have o2 : okB a.length (fun k => gI (gR a k) i) k = true := by unfold okB; rw [r2, r4]; rfl
            simp only [o1, o2, Bool.and_self, if_true, Bool.false_eq_true, if_false, marks_set q1, s2, w_in (x := (k : Int) + 1) (by omega) (by omega)]
            rfl
  refine all_loopS _ a.length _ (fun k => (marks a.length (gI (gR a i)) k, marks a.length (fun k => gI (gR a k) i) k, (k : Int))) _ (by rw [BIG_val]; omega) ?_ ?_ ?_
  · intro k hk _ hf
    rw [body k hk, hf]; rfl
  · intro k hk _ hf
    rw [body k hk, hf]; rfl
  · intro _
    unfold s_l13Is_L2
    simp
end
theorem s_l13Is_eq {a : List (List Int)} (hz : a.length ≤ 1048576) : s_l13Is a = some (isLp a) := by
  unfold s_l13Is isLp
  rw [s_l01In_eq, some_bind]
  cases h0 : (decide (1 ≤ (a.length : Int)) && decide ((a.length : Int) ≤ 128)) with
  | false => simp
  | true =>
    have h0' : 1 ≤ (a.length : Int) ∧ (a.length : Int) ≤ 128 := by simpa using h0
    rw [s_lenrows hz]
    cases h1 : (List.range a.length).all (fun i => decide ((gR a i).length = a.length)) with
    | false => simp
    | true =>
      have hl : ∀ i, i < a.length → (gR a i).length = a.length := fun i hi => by
        have := List.all_eq_true.1 h1 i (List.mem_range.2 hi)
        simpa using this
      have hn : a.length ≤ 128 := by omega
      have key : loop (s_l13Is_L1 a) BIG 0 = some (if (List.range a.length).all (rowB a) then .inl () else .inr false) := by
        have body : ∀ k, k < a.length → s_l13Is_L1 a (k : Int) = if rowB a k then some (.inl ((k + 1 : Nat) : Int)) else some (.inr (.inr false)) := by
          intro k hk
          unfold s_l13Is_L1
          rw [if_pos (by omega), chk_bind (by omega), chk_bind (by omega), s_rowcol hn hl hk]
          have l0 := hl 0 (by omega)
          have lk := hl k hk
          unfold rowB
          cases (onceB a.length (gI (gR a k)) && onceB a.length (fun j => gI (gR a j) k)) with
          | false => simp
          | true =>
            simp only [if_true, some_bind, idxR0 (show 0 < a.length by omega), idxI (show k < (gR a 0).length by omega), idxR hk, idxI0 (show 0 < (gR a k).length by omega), Bool.true_and]
            by_cases c1 : gI (gR a 0) k = (k : Int)
            · by_cases c2 : gI (gR a k) 0 = (k : Int)
              · simp only [c1, c2, not_true_eq_false, if_false, some_bind, ieq_self, Bool.not_true, Bool.false_eq_true, decide_true, Bool.and_self, if_true, w_in (x := (k : Int) + 1) (by omega) (by omega)]
                rfl
              · have : ieq (gI (gR a k) 0) (k : Int) = false := by simp [ieq, c2]
                simp [c1, c2, this]
            · simp [c1]
        refine all_loop _ a.length (rowB a) false (by rw [BIG_val]; omega) ?_ ?_ ?_
        · intro k hk hf
          rw [body k hk, if_pos hf]
        · intro k hk hf
          rw [body k hk, if_neg (by simp [hf])]
        · unfold s_l13Is_L1
          simp
      simp only [Bool.true_eq_false, if_false, if_true, some_bind, key, Bool.true_and]
      cases (List.range a.length).all (rowB a) <;> rfl

theorem onceB_rng {n : Nat} {f : Nat → Int} (h : onceB n f = true) {j : Nat} (hj : j < n) : 0 ≤ f j ∧ f j ≤ (n : Int) - 1 :=
  okB_rng (List.all_eq_true.1 h j (List.mem_range.2 hj))
theorem onceB_congr {n : Nat} {f g : Nat → Int} (h : ∀ j, j < n → f j = g j) : onceB n f = onceB n g := by
  unfold onceB
  rw [Bool.eq_iff_iff]
  simp only [List.all_eq_true, List.mem_range]
  have key : ∀ x, x < n → okB n f x = okB n g x := fun x hx => by
    unfold okB
    rw [h x hx]
    congr 2
    rw [Bool.eq_iff_iff]
    simp only [List.any_eq_true, List.mem_range, decide_eq_true_eq]
    constructor
    · rintro ⟨k, hk, e⟩; exact ⟨k, hk, by rw [← h k (by omega)]; exact e⟩
    · rintro ⟨k, hk, e⟩; exact ⟨k, hk, by rw [h k (by omega)]; exact e⟩
  exact ⟨fun H x hx => by rw [← key x hx]; exact H x hx, fun H x hx => by rw [key x hx]; exact H x hx⟩
theorem contains_once {m : List (List Int)} {n : Nat} (hm : m.length ≤ 1048576) (hn : n ≤ 1048576) (hr : ∀ k, k < m.length → (gR m k).length = n) :
    g_slices_ContainsFunc_LLI_LI_of_i_IsLoop_c1 m = some (!(List.range m.length).all fun k => onceB n (gI (gR m k))) := by
  unfold g_slices_ContainsFunc_LLI_LI_of_i_IsLoop_c1 g_slices_IndexFunc_LLI_LI_of_i_IsLoop_c1
  have core : ∀ k, k < m.length → i_IsLoop_c1 (gR m k) = some (!onceB n (gI (gR m k))) := fun k hk => by
    unfold i_IsLoop_c1
    rw [i_isOnce_eq (hr k hk) hn, some_bind]
  obtain ⟨b, h1, h2⟩ := any_loop (g_slices_IndexFunc_LLI_LI_of_i_IsLoop_c1_L0 m) m.length (fun k => !onceB n (gI (gR m k))) (fun k => (k : Int)) (by rw [BIG_val]; omega)
    (fun k hk hf => by
      unfold g_slices_IndexFunc_LLI_LI_of_i_IsLoop_c1_L0
      simp only [show (k : Int) < (m.length : Int) by omega, if_true, idxR hk, some_bind, core k hk, hf, Bool.false_eq_true, if_false]
      rw [w_in (by omega) (by omega)]; rfl) (fun k hk hf => by
      unfold g_slices_IndexFunc_LLI_LI_of_i_IsLoop_c1_L0
      simp only [show (k : Int) < (m.length : Int) by omega, if_true, idxR hk, some_bind, core k hk, hf]) (by
      unfold g_slices_IndexFunc_LLI_LI_of_i_IsLoop_c1_L0
      simp)
  rw [not_all, h1]
  rcases h2 with ⟨rfl, h3⟩ | ⟨k, hk, rfl, hf, h3, _⟩
  · rw [h3]; simp [ile]
  · rw [h3]; simp [ile]
theorem i_IsLoop_eq {a : List (List Int)} (hz : a.length ≤ 1048576) : i_IsLoop a = some (isLp a) := by
  unfold i_IsLoop isLp
  by_cases hA : (a.length : Int) < 1
  · have : decide (1 ≤ (a.length : Int)) = false := decide_eq_false (by omega)
    simp [hA, this]
  by_cases hB : (128 : Int) < (a.length : Int)
  · have : decide ((a.length : Int) ≤ 128) = false := decide_eq_false (by omega)
    simp [hA, this, ilt_true hB]
  have hd : (decide (1 ≤ (a.length : Int)) && decide ((a.length : Int) ≤ 128)) = true := by simp; omega
  have hn : a.length ≤ 128 := by omega
  rw [hd, i_lenrows hz]
  simp only [hA, if_false, some_bind, ilt_false hB, Bool.false_eq_true]
  cases h1 : (List.range a.length).all (fun i => decide ((gR a i).length = a.length)) with
  | false => simp
  | true =>
    have hl : ∀ i, i < a.length → (gR a i).length = a.length := fun i hi => by
      have := List.all_eq_true.1 h1 i (List.mem_range.2 hi)
      simpa using this
    let f : Nat → Bool := fun i => onceB a.length (gI (gR a i)) && (decide (gI (gR a 0) i = (i : Int)) && decide (gI (gR a i) 0 = (i : Int)))
    have key : loop (i_IsLoop_L1 a) BIG 0 = some (if (List.range a.length).all f then .inl () else .inr false) := by
      have body : ∀ k, k < a.length → i_IsLoop_L1 a (k : Int) = if f k then some (.inl ((k + 1 : Nat) : Int)) else some (.inr (.inr false)) := by
        intro k hk
        unfold i_IsLoop_L1
        have l0 := hl 0 (by omega)
        have lk := hl k hk
        simp only [show (k : Int) < (a.length : Int) by omega, if_true, idxR hk, some_bind, idxI0 (show 0 < (gR a k).length by omega), idxR0 (show 0 < a.length by omega), idxI (show k < (gR a 0).length by omega), i_isOnce_eq lk hz, f]
        by_cases c2 : gI (gR a k) 0 = (k : Int)
        · by_cases c1 : gI (gR a 0) k = (k : Int)
          · simp only [c1, c2, not_true_eq_false, if_false, some_bind, decide_true, Bool.and_self, Bool.and_true]
            cases onceB a.length (gI (gR a k)) with
            | true =>
              simp only [Bool.not_true, Bool.false_eq_true, if_false, if_true, w_in (x := (k : Int) + 1) (by omega) (by omega)]
              rfl
            | false => simp
          · simp [c1, c2]
        · simp [c2]
      refine all_loop _ a.length f false (by rw [BIG_val]; omega) ?_ ?_ ?_
      · intro k hk hf
        rw [body k hk, if_pos hf]
      · intro k hk hf
        rw [body k hk, if_neg (by simp [hf])]
      · unfold i_IsLoop_L1
        simp
    simp only [if_true, some_bind, key, Bool.true_and]
    have hrow : (List.range a.length).all (rowB a) = ((List.range a.length).all f && (List.range a.length).all fun k => onceB a.length (fun j => gI (gR a j) k)) := by
      rw [Bool.eq_iff_iff]
      simp only [Bool.and_eq_true, List.all_eq_true, rowB, f]
      exact ⟨fun h => ⟨fun x hx => ⟨(h x hx).1.1, (h x hx).2⟩, fun x hx => (h x hx).1.2⟩, fun h x hx => ⟨⟨(h.1 x hx).1, h.2 x hx⟩, (h.1 x hx).2⟩⟩
    rw [hrow]
    cases hf : (List.range a.length).all f with
    | false => simp
    | true =>
      have hm : Mat (a.length : Int) a.length a.length a := ⟨rfl, fun i hi => ⟨hl i hi, fun k hk => by
        have h3 := List.all_eq_true.1 hf i (List.mem_range.2 hi)
        simp only [f, Bool.and_eq_true] at h3
        have := onceB_rng h3.1 hk
        exact ⟨this.1, by omega⟩⟩⟩
      have ht := i_transpose_eq (show 0 < a.length by omega) hz hz hm
      have hlen : (turnm a.length a.length a).length = a.length := by unfold turnm; exact vecN_len _ _
      have hrr : ∀ k, k < (turnm a.length a.length a).length → (gR (turnm a.length a.length a) k).length = a.length := fun k hk => by
        rw [hlen] at hk
        unfold turnm
        rw [gR_vecN _ hk]
        exact vecN_len _ _
      simp only [if_true, ht, some_bind, contains_once (by rw [hlen]; exact hz) hz hrr, Bool.not_not, Bool.true_and]
      congr 1
      rw [hlen, Bool.eq_iff_iff]
      simp only [List.all_eq_true, List.mem_range]
      have : ∀ k, k < a.length → onceB a.length (gI (gR (turnm a.length a.length a) k)) = onceB a.length (fun j => gI (gR a j) k) := fun k hk => onceB_congr fun j hj => turnm_at hj hk
      exact ⟨fun h x hx => by rw [← this x hx]; exact h x hx, fun h x hx => by rw [this x hx]; exact h x hx⟩
/-! ### The nucleus and the centre -/
theorem isLp_tab {a : List (List Int)} (h : isLp a = true) : a.length ≤ 128 ∧ 0 < a.length ∧ Mat (a.length : Int) a.length a.length a := by
  unfold isLp at h
  simp only [Bool.and_eq_true, List.all_eq_true, List.mem_range, decide_eq_true_eq] at h
  refine ⟨by omega, by omega, rfl, fun i hi => ⟨h.2.1 i hi, fun k hk => ?_⟩⟩
  have h3 := h.2.2 i hi
  unfold rowB at h3
  simp only [Bool.and_eq_true] at h3
  have := onceB_rng h3.1.1 hk
  exact ⟨this.1, by omega⟩
/-- The product of two elements. -/
def tN (a : List (List Int)) (i j : Nat) : Nat := (gI (gR a i) j).toNat
/-- Three elements associate. -/
def asB (a : List (List Int)) (x y z : Nat) : Bool := decide (tN a (tN a x y) z = tN a x (tN a y z))
def as3 (a : List (List Int)) (x y z : Nat) : Bool := asB a x y z && asB a y x z && asB a y z x
def comB (a : List (List Int)) (x y : Nat) : Bool := decide (tN a x y = tN a y x)
section
variable {a : List (List Int)} (hn : a.length ≤ 128) (hm : Mat (a.length : Int) a.length a.length a)
include hn hm
theorem tN_lt {i j : Nat} (hi : i < a.length) (hj : j < a.length) : tN a i j < a.length ∧ gI (gR a i) j = ((tN a i j : Nat) : Int) := by
  have := (hm.row hi).get hj
  unfold tN
  omega
theorem idx_t {i j : Nat} (hi : i < a.length) (hj : j < a.length) : idx (gR a i) (j : Int) = some ((tN a i j : Nat) : Int) := by
  have h1 := (hm.row hi).1
  rw [idxI (by omega), (tN_lt hn hm hi hj).2]
theorem as_eq {x y z : Nat} (hx : x < a.length) (hy : y < a.length) (hz : z < a.length) : s_l13Associates a (x : Int) (y : Int) (z : Int) = some (asB a x y z) ∧ i_associates a (x : Int) (y : Int) (z : Int) = some (asB a x y z) := by
  have t1 := (tN_lt hn hm hx hy).1
  have t2 := (tN_lt hn hm hy hz).1
  unfold s_l13Associates i_associates asB
  rw [idxR hx, some_bind, idx_t hn hm hx hy, some_bind, idxR t1, some_bind, idx_t hn hm t1 hz, some_bind, idxR hy, some_bind, idx_t hn hm hy hz, some_bind, idx_t hn hm hx t2, some_bind, ieq_nat]
  exact ⟨rfl, rfl⟩
end

theorem and_loop (step : Bool × Int → Option ((Bool × Int) ⊕ Bool)) (n : Nat) (f : Nat → Bool) (hn : n < BIG) (hs : ∀ k, k < n → step (true, (k : Int)) = some (.inl (f k, ((k + 1 : Nat) : Int))))
    (hb : ∀ k, k ≤ n → step (false, (k : Int)) = some (.inr false)) (he : step (true, (n : Int)) = some (.inr true)) (b : Bool) : loop step BIG (b, 0) = some (b && (List.range n).all f) := by
  have key : ∀ d k m b, k + d = n → d < m → loop step m (b, (k : Int)) = some (b && (List.range' k d).all f) := by
    intro d
    induction d with
    | zero =>
      intro k m b hk hm
      obtain ⟨m, rfl⟩ : ∃ m', m = m' + 1 := ⟨m - 1, by omega⟩
      have : k = n := by omega
      subst this
      cases b with
      | true => simp [loop, he]
      | false => simp [loop, hb k (Nat.le_refl _)]
    | succ d ih =>
      intro k m b hk hm
      obtain ⟨m, rfl⟩ : ∃ m', m = m' + 1 := ⟨m - 1, by omega⟩
      cases b with
      | true =>
        simp only [loop, hs k (by omega)]
        rw [ih (k + 1) m (f k) (by omega) (by omega)]
        simp [List.range'_succ]
      | false => simp [loop, hb k (by omega)]
  have := key n 0 BIG b (by omega) hn
  rw [List.range_eq_range']
  exact this
theorem foldN_and (f : Nat → Bool) (b : Bool) : ∀ n, foldN (fun k s => s && f k) b n = (b && (List.range n).all f)
  | 0 => by simp [foldN]
  | n + 1 => by simp [foldN, foldN_and f b n, List.range_succ, Bool.and_assoc]
theorem foldN_filter (F : Nat → Bool) : ∀ n, foldN (fun k s => if F k then s ++ [(k : Int)] else s) ([] : List Int) n = ((List.range n).filter F).map (fun k : Nat => (k : Int))
  | 0 => by simp [foldN]
  | n + 1 => by
    simp only [foldN, foldN_filter F n, List.range_succ, List.filter_append, List.map_append]
    cases h : F n <;> simp [h]

section
variable {a : List (List Int)} (hn : a.length ≤ 128) (hm : Mat (a.length : Int) a.length a.length a)
include hn hm
def nucB (a : List (List Int)) (x : Nat) : Bool := (List.range a.length).all fun y => (List.range a.length).all fun z => as3 a x y z
def cenB (a : List (List Int)) (x : Nat) : Bool := (List.range a.length).all fun y => comB a x y && (List.range a.length).all fun z => as3 a x y z
theorem i_nuc2 {x y : Nat} (hx : x < a.length) (hy : y < a.length) (out : List Int) (b b2 : Bool) : loop (i_nucleus_L2 a (out, (x : Int)) (b2, (y : Int)) (a.length : Int)) BIG (b, 0) = some (b && (List.range a.length).all fun z => as3 a x y z) := by
  obtain ⟨h1, _⟩ := fold_loop (i_nucleus_L2 a (out, (x : Int)) (b2, (y : Int)) (a.length : Int)) a.length (fun k s => s && as3 a x y k) b (fun _ _ => True) id (by rw [BIG_val]; omega) trivial (fun _ _ _ _ => trivial)
    (fun k s hk _ => by
      unfold i_nucleus_L2
      have e1 := (as_eq hn hm hx hy hk).2
      have e2 := (as_eq hn hm hy hx hk).2
      have e3 := (as_eq hn hm hy hk hx).2
      simp only [show (k : Int) < (a.length : Int) by omega, if_true, e1, e2, e3, some_bind, w_in (x := (k : Int) + 1) (by omega) (by omega)]
      unfold as3
      cases s <;> cases asB a x y k <;> cases asB a y x k <;> cases asB a y k x <;> rfl) (fun s _ => by
      unfold i_nucleus_L2
      simp)
  rw [h1, foldN_and]; rfl
theorem i_nuc1 {x : Nat} (hx : x < a.length) (out : List Int) : loop (i_nucleus_L1 a (out, (x : Int)) (a.length : Int)) BIG (true, 0) = some (nucB a x) := by
  obtain ⟨h1, _⟩ := fold_loop (i_nucleus_L1 a (out, (x : Int)) (a.length : Int)) a.length (fun y s => s && (List.range a.length).all fun z => as3 a x y z) true (fun _ _ => True) id (by rw [BIG_val]; omega) trivial (fun _ _ _ _ => trivial)
    (fun k s hk _ => by
      unfold i_nucleus_L1 i_length_LI
      simp only [show (k : Int) < (a.length : Int) by omega, if_true, some_bind, i_nuc2 hn hm hx hk, w_in (x := (k : Int) + 1) (by omega) (by omega)]
      rfl) (fun s _ => by
      unfold i_nucleus_L1
      simp)
  rw [h1, foldN_and]; rfl
theorem i_nucleus_eq : i_nucleus a = some (((List.range a.length).filter (nucB a)).map fun k : Nat => (k : Int)) := by
  unfold i_nucleus i_length_LI
  rw [some_bind]
  obtain ⟨h1, _⟩ := fold_loop (i_nucleus_L0 a (a.length : Int)) a.length (fun k s => if nucB a k then s ++ [(k : Int)] else s) [] (fun k s => s.length ≤ k) id (by rw [BIG_val]; omega) (by simp)
    (fun k s hk hs => by
      split
      · simp; omega
      · omega)
    (fun k s hk hs => by
      unfold i_nucleus_L0 i_length_LI
      simp only [show (k : Int) < (a.length : Int) by omega, if_true, some_bind, i_nuc1 hn hm hk]
      cases nucB a k with
      | true =>
        simp only [if_true]
        rw [chk_bind (by simp only [List.length_cons, List.length_nil]; omega), some_bind, w_in (by omega) (by omega)]
        rfl
      | false =>
        simp only [Bool.false_eq_true, if_false, some_bind]
        rw [w_in (by omega) (by omega)]
        rfl) (fun s _ => by
      unfold i_nucleus_L0
      simp)
  rw [h1, some_bind, foldN_filter]; rfl
theorem s_nuc2 {x y : Nat} (hx : x < a.length) (hy : y < a.length) (out : List Int) (b b2 : Bool) : loop (s_l13Nucleus_L2 a (out, (x : Int)) (b2, (y : Int))) BIG (b, 0) = some (b && (List.range a.length).all fun z => as3 a x y z) := by
  refine and_loop _ a.length (fun z => as3 a x y z) (by rw [BIG_val]; omega) ?_ ?_ ?_ b
  · intro k hk
    unfold s_l13Nucleus_L2
    have e1 := (as_eq hn hm hx hy hk).1
    have e2 := (as_eq hn hm hy hx hk).1
    have e3 := (as_eq hn hm hy hk hx).1
    simp only [show (k : Int) < (a.length : Int) by omega, if_true, e1, e2, e3, some_bind, w_in (x := (k : Int) + 1) (by omega) (by omega)]
    unfold as3
    cases asB a x y k <;> cases asB a y x k <;> cases asB a y k x <;> rfl
  · intro k hk
    unfold s_l13Nucleus_L2
    by_cases h : (k : Int) < (a.length : Int) <;> simp [h]
  · unfold s_l13Nucleus_L2
    simp
theorem s_nuc1 {x : Nat} (hx : x < a.length) (out : List Int) : loop (s_l13Nucleus_L1 a true (out, (x : Int))) BIG (true, 0) = some (cenB a x) := by
  have := and_loop (s_l13Nucleus_L1 a true (out, (x : Int))) a.length (fun y => comB a x y && (List.range a.length).all fun z => as3 a x y z) (by rw [BIG_val]; omega) (fun k hk => by
      unfold s_l13Nucleus_L1
      have hc : ieq (gI (gR a x) k) (gI (gR a k) x) = comB a x k := by
        rw [(tN_lt hn hm hx hk).2, (tN_lt hn hm hk hx).2, ieq_nat]; rfl
      have r1 := (hm.row hx).1
      have r2 := (hm.row hk).1
      simp only [show (k : Int) < (a.length : Int) by omega, if_true, some_bind, Bool.true_eq_false, if_false, idxR hx, idxR hk, idxI (show k < (gR a x).length by omega), idxI (show x < (gR a k).length by omega), hc, s_nuc2 hn hm hx hk, w_in (x := (k : Int) + 1) (by omega) (by omega)]
      rfl) (fun k hk => by
      unfold s_l13Nucleus_L1
      by_cases h : (k : Int) < (a.length : Int) <;> simp [h]) (by
      unfold s_l13Nucleus_L1
      simp) true
  rw [this]; rfl
theorem s_nucleus_eq : s_l13Nucleus a true = some (((List.range a.length).filter (cenB a)).map fun k : Nat => (k : Int)) := by
  unfold s_l13Nucleus
  obtain ⟨h1, _⟩ := fold_loop (s_l13Nucleus_L0 a true) a.length (fun k s => if cenB a k then s ++ [(k : Int)] else s) [] (fun k s => s.length ≤ k) id (by rw [BIG_val]; omega) (by simp)
    (fun k s hk hs => by
      split
      · simp; omega
      · omega)
    (fun k s hk hs => by
      unfold s_l13Nucleus_L0
      simp only [show (k : Int) < (a.length : Int) by omega, if_true, some_bind, s_nuc1 hn hm hk]
      cases cenB a k with
      | true =>
        simp only [if_true]
        rw [chk_bind (by simp only [List.length_cons, List.length_nil]; omega), some_bind, w_in (by omega) (by omega)]
        rfl
      | false =>
        simp only [Bool.false_eq_true, if_false, some_bind]
        rw [w_in (by omega) (by omega)]
        rfl) (fun s _ => by
      unfold s_l13Nucleus_L0
      simp)
  rw [h1, some_bind, foldN_filter]; rfl
theorem c1_eq {x : Nat} (hx : x < a.length) : i_LoopCentre_c1 (x : Int) a = some (!(List.range a.length).all (comB a x)) := by
  unfold i_LoopCentre_c1
  rw [all_loop _ a.length (comB a x) true (by rw [BIG_val]; omega)]
  · rw [some_bind]
    cases (List.range a.length).all (comB a x) <;> rfl
  · intro k hk hf
    unfold i_LoopCentre_c1_L0
    have r1 := (hm.row hx).1
    have r2 := (hm.row hk).1
    have e : gI (gR a x) k = gI (gR a k) x := by
      rw [(tN_lt hn hm hx hk).2, (tN_lt hn hm hk hx).2]
      have : tN a x k = tN a k x := by simpa [comB] using hf
      rw [this]
    simp only [show (k : Int) < (a.length : Int) by omega, if_true, some_bind, idxR hx, idxR hk, idxI (show k < (gR a x).length by omega), idxI (show x < (gR a k).length by omega), e, not_true_eq_false, if_false]
    rw [w_in (by omega) (by omega)]; rfl
  · intro k hk hf
    unfold i_LoopCentre_c1_L0
    have r1 := (hm.row hx).1
    have r2 := (hm.row hk).1
    have e : ¬ gI (gR a x) k = gI (gR a k) x := by
      rw [(tN_lt hn hm hx hk).2, (tN_lt hn hm hk hx).2]
      have : ¬ tN a x k = tN a k x := by simpa [comB] using hf
      omega
    simp only [show (k : Int) < (a.length : Int) by omega, if_true, some_bind, idxR hx, idxR hk, idxI (show k < (gR a x).length by omega), idxI (show x < (gR a k).length by omega), e, not_false_eq_true]
  · unfold i_LoopCentre_c1_L0
    simp
end

theorem take_succ_gI {xs : List Int} {j : Nat} (h : j < xs.length) : xs.take (j + 1) = xs.take j ++ [gI xs j] := by
  rw [List.take_add_one, List.getElem?_eq_getElem h, gI_get h]; rfl
theorem delete_eq {a : List (List Int)} {xs : List Int} {D : Int → Bool} (hx : xs.length ≤ 1048576) (hD : ∀ k, k < xs.length → i_LoopCentre_c1 (gI xs k) a = some (D (gI xs k))) :
    g_slices_DeleteFunc_LI_I_of_i_LoopCentre_c1 xs a = some (xs.filter fun x => !D x) := by
  unfold g_slices_DeleteFunc_LI_I_of_i_LoopCentre_c1 g_slices_IndexFunc_LI_I_of_i_LoopCentre_c1
  obtain ⟨b, h1, h2⟩ := any_loop (g_slices_IndexFunc_LI_I_of_i_LoopCentre_c1_L0 xs a) xs.length (fun k => D (gI xs k)) (fun k => (k : Int)) (by rw [BIG_val]; omega)
    (fun k hk hf => by
      unfold g_slices_IndexFunc_LI_I_of_i_LoopCentre_c1_L0
      simp only [show (k : Int) < (xs.length : Int) by omega, if_true, idxI hk, some_bind, hD k hk, hf, Bool.false_eq_true, if_false]
      rw [w_in (by omega) (by omega)]; rfl) (fun k hk hf => by
      unfold g_slices_IndexFunc_LI_I_of_i_LoopCentre_c1_L0
      simp only [show (k : Int) < (xs.length : Int) by omega, if_true, idxI hk, some_bind, hD k hk, hf]) (by
      unfold g_slices_IndexFunc_LI_I_of_i_LoopCentre_c1_L0
      simp)
  rw [h1]
  rcases h2 with ⟨rfl, h3⟩ | ⟨k0, hk0, rfl, hf0, _, hbef⟩
  · simp only [some_bind, if_true]
    congr 1
    symm
    rw [List.filter_eq_self]
    intro x hx'
    obtain ⟨k, hk, rfl⟩ := List.getElem_of_mem hx'
    rw [gI_get hk]
    have := List.any_eq_false.1 h3 k (List.mem_range.2 hk)
    simpa using this
  · simp only [some_bind, show ¬ (k0 : Int) = -1 by omega, if_false]
    have hpre : ∀ t, t ≤ k0 → (xs.take t).filter (fun x => !D x) = xs.take t := by
      intro t ht
      rw [List.filter_eq_self]
      intro x hx'
      obtain ⟨k, hk, rfl⟩ := List.getElem_of_mem hx'
      have hk' : k < k0 := by simp at hk; omega
      rw [List.getElem_take, gI_get (show k < xs.length by omega)]
      simpa using hbef k hk'
    obtain ⟨b, h4, h5⟩ := loop_inv (step := g_slices_DeleteFunc_LI_I_of_i_LoopCentre_c1_L0 a)
      (fun s => ∃ (L : List Int) (i j : Nat), s = (L, (i : Int), (j : Int)) ∧ i < j ∧ j ≤ xs.length ∧ L.length = xs.length ∧ (∀ t, j ≤ t → gI L t = gI xs t) ∧ L.take i = (xs.take j).filter fun x => !D x) (fun s => xs.length - s.2.2.toNat)
      (fun b => ∃ (L : List Int) (i : Nat), b = (L, (i : Int)) ∧ i ≤ L.length ∧ L.take i = xs.filter fun x => !D x) (s := (xs, (k0 : Int), w64 ((k0 : Int) + 1)))
      ⟨xs, k0, k0 + 1, by rw [w_in (by omega) (by omega)]; rfl, by omega, by omega, rfl, fun _ _ => rfl, by
        rw [take_succ_gI hk0, List.filter_append, hpre k0 (Nat.le_refl _)]
        simp [hf0]⟩ (by rw [BIG_val]; omega) (by
      rintro s ⟨L, i, j, rfl, hij, hj, hL, hsame, hpr⟩
      by_cases hjn : j < xs.length
      · left
        have hg : gI L j = gI xs j := hsame j (Nat.le_refl _)
        unfold g_slices_DeleteFunc_LI_I_of_i_LoopCentre_c1_L0
        simp only [hL, show (j : Int) < (xs.length : Int) by omega, if_true, idxI (show j < L.length by omega), hg, some_bind, hD j hjn, w_in (x := (j : Int) + 1) (show -9223372036854775808 ≤ (j : Int) + 1 by omega) (by omega)]
        cases hd : D (gI xs j) with
        | true =>
          refine ⟨(L, (i : Int), ((j + 1 : Nat) : Int)), rfl, ⟨L, i, j + 1, rfl, by omega, by omega, hL, fun t ht => hsame t (by omega), ?_⟩, by simp only [Int.toNat_natCast]; omega⟩
          rw [take_succ_gI hjn, List.filter_append, hpr]
          simp [hd]
        | false =>
          simp only [if_true, idxI (show i < L.length by omega), some_bind, w_in (x := (i : Int) + 1) (show -9223372036854775808 ≤ (i : Int) + 1 by omega) (by omega), Int.toNat_natCast]
          refine ⟨(L.set i (gI xs j), ((i + 1 : Nat) : Int), ((j + 1 : Nat) : Int)), rfl, ⟨L.set i (gI xs j), i + 1, j + 1, rfl, by omega, by omega, by simpa using hL, fun t ht => ?_, ?_⟩, by simp only [Int.toNat_natCast]; omega⟩
          · rw [← hsame t (by omega)]
            unfold gI
            simp only [List.getD_eq_getElem?_getD]
            rw [List.getElem?_set_ne (by omega)]
          · rw [take_succ_gI hjn, List.filter_append, ← hpr, List.take_add_one, List.take_set_of_le (Nat.le_refl _), List.getElem?_set_self (by omega)]
            simp [hd]
      · right
        have : j = xs.length := by omega
        subst this
        unfold g_slices_DeleteFunc_LI_I_of_i_LoopCentre_c1_L0
        refine ⟨(L, (i : Int)), by simp [hL], L, i, rfl, by omega, ?_⟩
        rw [hpr, List.take_length])
    obtain ⟨L, i, rfl, hi, hL⟩ := h5
    rw [h4, some_bind, chk_bind (show 0 ≤ (i : Int) ∧ (i : Int) ≤ (L.length : Int) by omega), chk_bind (show 0 ≤ (i : Int) ∧ (i : Int) ≤ (L.length : Int) by omega)]
    simp only [Int.toNat_natCast, hL]

theorem LoopCentre_eq {a : List (List Int)} (hz : a.length ≤ 1048576) : ∃ V C, s_LoopCentre a = some (V, C) ∧ i_LoopCentre a = some (V, C) ∧ V.length ≤ 1048576 := by
  unfold s_LoopCentre i_LoopCentre i_checkLoop
  rw [s_l13Is_eq hz, i_IsLoop_eq hz, some_bind, some_bind]
  cases hL : isLp a with
  | false => exact ⟨[], 1, by simp, by simp, by simp⟩
  | true =>
    obtain ⟨hn, h0, hm⟩ := isLp_tab hL
    have hc : g_slices_ContainsFunc_LI_I_of_i_checkLoop_c1 [] a = some false := by
      unfold g_slices_ContainsFunc_LI_I_of_i_checkLoop_c1 g_slices_IndexFunc_LI_I_of_i_checkLoop_c1
      have : loop (g_slices_IndexFunc_LI_I_of_i_checkLoop_c1_L0 [] a) BIG 0 = some (.inl ()) := by
        obtain ⟨m, hm'⟩ : ∃ m, BIG = m + 1 := ⟨BIG - 1, by rw [BIG_val]⟩
        rw [hm']
        simp [loop, g_slices_IndexFunc_LI_I_of_i_checkLoop_c1_L0]
      rw [this]
      simp [ile]
    have hlen : (((List.range a.length).filter (nucB a)).map fun k : Nat => (k : Int)).length ≤ 128 := by
      rw [List.length_map]
      have := List.length_filter_le (nucB a) (List.range a.length)
      simp at this; omega
    have hdel := delete_eq (a := a) (xs := ((List.range a.length).filter (nucB a)).map fun k : Nat => (k : Int)) (D := fun x => !(List.range a.length).all (comB a x.toNat)) (by omega) (fun k hk => by
      rw [← gI_get hk, List.getElem_map]
      have hmem := List.getElem_mem (l := (List.range a.length).filter (nucB a)) (n := k) (by simpa using hk)
      have := List.mem_range.1 (List.mem_filter.1 hmem).1
      rw [c1_eq hn hm this]
      simp)
    simp only [Bool.true_eq_false, if_false, hc, some_bind, not_true_eq_false, i_nucleus_eq hn hm, s_nucleus_eq hn hm, hdel, Bool.false_eq_true]
    have e : (((List.range a.length).filter (nucB a)).map fun k : Nat => (k : Int)).filter (fun x => !!(List.range a.length).all (comB a x.toNat)) = ((List.range a.length).filter (cenB a)).map fun k : Nat => (k : Int) := by
      rw [List.filter_map, List.filter_filter]
      congr 1
      refine List.filter_congr fun x _ => ?_
      simp only [Function.comp, Bool.not_not, Int.toNat_natCast]
      unfold cenB nucB
      rw [Bool.eq_iff_iff]
      simp only [Bool.and_eq_true, List.all_eq_true]
      exact ⟨fun h y hy => ⟨h.1 y hy, h.2 y hy⟩, fun h => ⟨fun y hy => (h y hy).1, fun y hy => (h y hy).2⟩⟩
    refine ⟨_, 0, rfl, by rw [e], ?_⟩
    rw [List.length_map]
    have := List.length_filter_le (cenB a) (List.range a.length)
    simp at this; omega

theorem LawLoopCentre {a : List (List Int)} (ha : lenM a) : l_FnExactLoopCentre a = some true := by
  unfold l_FnExactLoopCentre
  rw [szM_eq ha (by omega) (by omega), some_bind]
  by_cases h2 : ((a.length + rowsum a : Nat) : Int) ≤ 1048576
  · have hs2 : szv (a.length + rowsum a) 1048576 = 1048576 - ((a.length + rowsum a : Nat) : Int) := by unfold szv; rw [if_pos h2]
    rw [hs2, if_neg (by omega)]
    obtain ⟨za, ra⟩ := sz_split (m := a) (left := 1048576) (by omega) h2
    obtain ⟨V, C, e3, e4, hV⟩ := LoopCentre_eq za.1
    have e1 := toM_eq za.1 za.2
    have e6 := eqM_self za
    have e7 := eqI_self (v := V) hV
    have e9 : l_markInt64SS a 1 = some (((1 + rowsum a : Nat) : Int), mrkM 1 a) := markM_1 za.1 (by omega)
    have e10 := markI_1 (xs := V) hV
    have e11 := heldI_1 (xs := V) hV
    simp only [e1, e3, e4, e6, e7, e9, e10, e11, some_bind, Bool.true_eq_false, Bool.false_eq_true, if_false, if_true, ieq_self, Bool.not_true, natneg, not_true_eq_false, bne_self_eq_false]
  · have hs2 : szv (a.length + rowsum a) 1048576 = -1 := by unfold szv; rw [if_neg h2]
    rw [hs2, if_pos (by omega)]
end Go.Vam
