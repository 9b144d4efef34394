/- Plain laws: loops that map, test, add; numbers and tables over a prime. -/
import Derived.Test.YtdoimfkonaeceaaPlL
namespace Go.Vam
open Go Go.RowKit
set_option linter.unusedSimpArgs false
set_option linter.unusedVariables false

/-! ### Loops -/
/-- A vector by its numbers. -/
def vecN {α : Type} (n : Nat) (f : Nat → α) : List α := (List.range n).map f
@[simp] theorem vecN_len {α : Type} (n : Nat) (f : Nat → α) : (vecN n f).length = n := by simp [vecN]
theorem vecN_succ {α : Type} (n : Nat) (f : Nat → α) : vecN (n + 1) f = vecN n f ++ [f n] := by simp [vecN, List.range_succ]
theorem vecN_getD {α : Type} (n : Nat) (f : Nat → α) (k : Nat) (z : α) (h : k < n) : (vecN n f).getD k z = f k := by simp [vecN, h]
theorem vecN_get {α : Type} (n : Nat) (f : Nat → α) (k : Nat) (h : k < (vecN n f).length) : (vecN n f)[k] = f k := by simp [vecN]
theorem vecN_congr {α : Type} {n : Nat} {f g : Nat → α} (h : ∀ k, k < n → f k = g k) : vecN n f = vecN n g := by
  unfold vecN
  exact List.map_congr_left fun k hk => h k (List.mem_range.1 hk)
theorem vecN_ext {α : Type} {xs : List α} {n : Nat} {f : Nat → α} (z : α) (hl : xs.length = n) (h : ∀ k, k < n → xs.getD k z = f k) : xs = vecN n f := by
  apply List.ext_getElem
  · simp [hl]
  · intro k h1 h2
    have := h k (by omega)
    rw [vecN_get, ← this, List.getD_eq_getElem?_getD, List.getElem?_eq_getElem h1]; rfl
theorem mem_vecN {α : Type} {n : Nat} {f : Nat → α} {x : α} : x ∈ vecN n f ↔ ∃ k, k < n ∧ f k = x := by simp [vecN]
theorem getD_get {α : Type} {xs : List α} {k : Nat} (h : k < xs.length) (z : α) : xs[k] = xs.getD k z := by
  rw [List.getD_eq_getElem?_getD, List.getElem?_eq_getElem h]; rfl
theorem idxD {α : Type} {xs : List α} {k : Nat} (h : k < xs.length) (z : α) : idx xs (k : Int) = some (xs.getD k z) := by rw [idxk h, getD_get h z]
theorem idxD0 {α : Type} {xs : List α} (h : 0 < xs.length) (z : α) : idx xs 0 = some (xs.getD 0 z) := idxD (k := 0) h z

/-- A list's number, a table's row. -/
def gI (v : List Int) (k : Nat) : Int := v.getD k 0
def gR (m : List (List Int)) (k : Nat) : List Int := m.getD k []
theorem idxI {v : List Int} {k : Nat} (h : k < v.length) : idx v (k : Int) = some (gI v k) := idxD h 0
theorem idxI0 {v : List Int} (h : 0 < v.length) : idx v 0 = some (gI v 0) := idxD0 h 0
theorem idxR {m : List (List Int)} {k : Nat} (h : k < m.length) : idx m (k : Int) = some (gR m k) := idxD h []
theorem idxR0 {m : List (List Int)} (h : 0 < m.length) : idx m 0 = some (gR m 0) := idxD0 h []
theorem gI_get {v : List Int} {k : Nat} (h : k < v.length) : v[k] = gI v k := getD_get h 0
theorem gR_get {m : List (List Int)} {k : Nat} (h : k < m.length) : m[k] = gR m k := getD_get h []
theorem gI_vecN {n k : Nat} (f : Nat → Int) (h : k < n) : gI (vecN n f) k = f k := vecN_getD n f k 0 h
theorem gR_vecN {n k : Nat} (f : Nat → List Int) (h : k < n) : gR (vecN n f) k = f k := vecN_getD n f k [] h
theorem extI {v : List Int} {n : Nat} {f : Nat → Int} (hl : v.length = n) (h : ∀ k, k < n → gI v k = f k) : v = vecN n f := vecN_ext 0 hl h
theorem extR {m : List (List Int)} {n : Nat} {f : Nat → List Int} (hl : m.length = n) (h : ∀ k, k < n → gR m k = f k) : m = vecN n f := vecN_ext [] hl h
theorem gI_out {v : List Int} {k : Nat} (h : v.length ≤ k) : gI v k = 0 := by unfold gI; rw [List.getD_eq_getElem?_getD, List.getElem?_eq_none h]; rfl
theorem gR_out {m : List (List Int)} {k : Nat} (h : m.length ≤ k) : gR m k = [] := by unfold gR; rw [List.getD_eq_getElem?_getD, List.getElem?_eq_none h]; rfl

theorem map_loop {α : Type} (step : List α × Int → Option ((List α × Int) ⊕ List α)) (n : Nat) (f : Nat → α) (hn : n < BIG)
    (hs : ∀ k, k < n → ∀ out, out.length = k → step (out, (k : Int)) = some (.inl (out ++ [f k], ((k + 1 : Nat) : Int)))) (he : ∀ out, out.length = n → step (out, (n : Int)) = some (.inr out)) :
    loop step BIG ([], 0) = some (vecN n f) :=
  loop_for (fun k => (vecN k f, (k : Int))) n hn rfl (fun k hk => by rw [hs k hk _ (vecN_len k f), vecN_succ]) (he _ (vecN_len n f))

theorem all_loop {B : Type} (step : Int → Option (Int ⊕ (Unit ⊕ B))) (n : Nat) (f : Nat → Bool) (r : B) (hn : n < BIG)
    (hs : ∀ k, k < n → f k = true → step (k : Int) = some (.inl ((k + 1 : Nat) : Int))) (hb : ∀ k, k < n → f k = false → step (k : Int) = some (.inr (.inr r))) (he : step (n : Int) = some (.inr (.inl ()))) :
    loop step BIG 0 = some (if (List.range n).all f then .inl () else .inr r) := by
  obtain ⟨b, h1, h2⟩ := loop_inv (step := step) (fun s => ∃ k : Nat, k ≤ n ∧ s = (k : Int) ∧ ∀ j, j < k → f j = true) (fun s => n - s.toNat)
    (fun b => b = if (List.range n).all f then .inl () else .inr r) (s := 0) ⟨0, by omega, rfl, fun j hj => by omega⟩ (by show n - 0 < BIG; omega) (by
      rintro s ⟨k, hk, rfl, ha⟩
      by_cases hkn : k < n
      · cases hf : f k with
        | true =>
          refine .inl ⟨_, hs k hkn hf, ⟨k + 1, by omega, rfl, fun j hj => ?_⟩, by simp only [Int.toNat_natCast]; omega⟩
          rcases Nat.lt_succ_iff_lt_or_eq.1 hj with h | rfl
          · exact ha j h
          · exact hf
        | false =>
          refine .inr ⟨_, hb k hkn hf, ?_⟩
          rw [if_neg]
          intro h
          have := List.all_eq_true.1 h k (List.mem_range.2 hkn)
          rw [hf] at this; cases this
      · have hkk : k = n := by omega
        subst hkk
        refine .inr ⟨_, he, ?_⟩
        rw [if_pos]
        exact List.all_eq_true.2 fun j hj => ha j (List.mem_range.1 hj))
  rw [h1, h2]
theorem all_range {α : Type} (xs : List α) (g : α → Bool) (z : α) : ((List.range xs.length).all fun k => g (xs.getD k z)) = xs.all g := by
  rw [Bool.eq_iff_iff, List.all_eq_true, List.all_eq_true]
  constructor
  · intro h x hx
    obtain ⟨k, hk, rfl⟩ := List.getElem_of_mem hx
    have := h k (List.mem_range.2 hk)
    rwa [← getD_get hk z] at this
  · intro h k hk
    rw [← getD_get (List.mem_range.1 hk) z]
    exact h _ (List.getElem_mem _)

theorem all_rangeI (xs : List Int) (g : Int → Bool) : ((List.range xs.length).all fun k => g (gI xs k)) = xs.all g := all_range xs g 0
theorem all_rangeR (m : List (List Int)) (g : List Int → Bool) : ((List.range m.length).all fun k => g (gR m k)) = m.all g := all_range m g []
/-- A state, turned n times. -/
def foldN {σ : Type} (g : Nat → σ → σ) (z : σ) : Nat → σ
  | 0 => z
  | k + 1 => g k (foldN g z k)
theorem fold_loop {σ B : Type} (step : σ × Int → Option ((σ × Int) ⊕ B)) (n : Nat) (g : Nat → σ → σ) (z : σ) (I : Nat → σ → Prop) (out : σ → B) (hn : n < BIG) (h0 : I 0 z)
    (hI : ∀ k s, k < n → I k s → I (k + 1) (g k s)) (hs : ∀ k s, k < n → I k s → step (s, (k : Int)) = some (.inl (g k s, ((k + 1 : Nat) : Int)))) (he : ∀ s, I n s → step (s, (n : Int)) = some (.inr (out s))) :
    loop step BIG (z, 0) = some (out (foldN g z n)) ∧ I n (foldN g z n) := by
  have hI' : ∀ k, k ≤ n → I k (foldN g z k) := by
    intro k
    induction k with
    | zero => intro _; exact h0
    | succ k ih => intro hk; exact hI k _ (by omega) (ih (by omega))
  exact ⟨loop_for (fun k => (foldN g z k, (k : Int))) n hn rfl (fun k hk => hs k _ hk (hI' k (by omega))) (he _ (hI' n (Nat.le_refl _))), hI' n (Nat.le_refl _)⟩

/-- A sum. -/
def sumN (f : Nat → Int) : Nat → Int
  | 0 => 0
  | k + 1 => sumN f k + f k
theorem sumN_congr {f g : Nat → Int} : ∀ {n : Nat}, (∀ k, k < n → f k = g k) → sumN f n = sumN g n
  | 0, _ => rfl
  | n + 1, h => by simp only [sumN, sumN_congr (n := n) fun k hk => h k (by omega), h n (by omega)]
theorem sumN_bound {f : Nat → Int} {b : Int} : ∀ {n : Nat}, (∀ k, k < n → 0 ≤ f k ∧ f k ≤ b) → 0 ≤ sumN f n ∧ sumN f n ≤ b * n
  | 0, _ => by simp [sumN]
  | n + 1, h => by
    have h1 := sumN_bound (n := n) fun k hk => h k (by omega)
    have h2 := h n (by omega)
    simp only [sumN, Int.natCast_add, Int.mul_add]
    have : b * ((1 : Nat) : Int) = b := by simp
    omega

/-! ### Numbers -/
def isP (p : Int) : Bool := decide (p = 3) || decide (p = 5) || decide (p = 7) || decide (p = 11) || decide (p = 13)
theorem isP_cases {p : Int} (h : isP p = true) : p = 3 ∨ p = 5 ∨ p = 7 ∨ p = 11 ∨ p = 13 := by
  simp only [isP, Bool.or_eq_true, decide_eq_true_eq] at h; omega
theorem isP_le {p : Int} (h : isP p = true) : 3 ≤ p ∧ p ≤ 13 := by have := isP_cases h; omega
def isNum (p x : Int) : Bool := decide (0 ≤ x) && decide (x ≤ p - 1)
def nums (p : Int) (xs : List Int) : Bool := xs.all (isNum p)
theorem isNum_iff {p x : Int} : isNum p x = true ↔ 0 ≤ x ∧ x < p := by simp [isNum]; omega
theorem nums_iff {p : Int} {xs : List Int} : nums p xs = true ↔ ∀ x ∈ xs, 0 ≤ x ∧ x < p := by simp only [nums, List.all_eq_true, isNum_iff]

theorem s_l01Prime_eq (p : Int) : s_l01Prime p = some (isP p) := by
  unfold s_l01Prime isP
  by_cases h1 : p = 3
  · simp [h1]
  by_cases h2 : p = 5
  · simp [h2]
  by_cases h3 : p = 7
  · simp [h3]
  by_cases h4 : p = 11
  · simp [h4]
  simp [h1, h2, h3, h4, ieq]
theorem i_IsPrime_eq (p : Int) : i_IsPrime p = some (isP p) := by
  unfold i_IsPrime isP
  by_cases h1 : p = 3
  · simp [h1, ieq]
  by_cases h2 : p = 5
  · simp [h2, ieq]
  by_cases h3 : p = 7
  · simp [h3, ieq]
  by_cases h4 : p = 11
  · simp [h4, ieq]
  by_cases h5 : p = 13
  · simp [h5, ieq]
  simp [h1, h2, h3, h4, h5, ieq]
theorem s_l01In_eq (n lo hi : Int) : s_l01In n lo hi = some (decide (lo ≤ n) && decide (n ≤ hi)) := by
  unfold s_l01In
  by_cases h : lo ≤ n <;> simp [h, ile]
theorem i_inRange_eq (n lo hi : Int) : i_inRange n lo hi = some (decide (lo ≤ n) && decide (n ≤ hi)) := by
  unfold i_inRange
  by_cases h : lo ≤ n <;> simp [h, ile]
theorem s_l01Numbers_eq {p : Int} {xs : List Int} (hp : 0 ≤ p) (hp2 : p ≤ 1048576) (hl : xs.length ≤ 1048576) : s_l01Numbers p xs = some (nums p xs) := by
  unfold s_l01Numbers
  rw [all_loop _ xs.length (fun k => isNum p (gI xs k)) false (by rw [BIG_val]; omega)]
  · rw [all_rangeI xs (isNum p)]
    unfold nums
    cases xs.all (isNum p) <;> rfl
  · intro k hk hf
    unfold s_l01Numbers_L0
    simp only [show (k : Int) < xs.length by omega, if_true, idxI hk, some_bind, s_l01In_eq]
    rw [w_in (by omega) (by omega), w_in (by omega) (by omega)]
    unfold isNum at hf
    simp [hf]
  · intro k hk hf
    unfold s_l01Numbers_L0
    simp only [show (k : Int) < xs.length by omega, if_true, idxI hk, some_bind, s_l01In_eq]
    rw [w_in (by omega) (by omega)]
    unfold isNum at hf
    simp [hf]
  · unfold s_l01Numbers_L0
    simp
theorem i_field_is_eq {p : Int} {xs : List Int} (hp : 0 ≤ p) (hp2 : p ≤ 1048576) (hl : xs.length ≤ 1048576) : i_field_is p xs = some (nums p xs) := by
  unfold i_field_is
  rw [all_loop _ xs.length (fun k => isNum p (gI xs k)) false (by rw [BIG_val]; omega)]
  · rw [all_rangeI xs (isNum p)]
    unfold nums
    cases xs.all (isNum p) <;> rfl
  · intro k hk hf
    unfold i_field_is_L0
    simp only [show (k : Int) < xs.length by omega, if_true, idxI hk, some_bind, i_inRange_eq]
    rw [w_in (by omega) (by omega), w_in (by omega) (by omega)]
    unfold isNum at hf
    simp [hf]
  · intro k hk hf
    unfold i_field_is_L0
    simp only [show (k : Int) < xs.length by omega, if_true, idxI hk, some_bind, i_inRange_eq]
    rw [w_in (by omega) (by omega)]
    unfold isNum at hf
    simp [hf]
  · unfold i_field_is_L0
    simp

/-! ### Tables -/
/-- The first row's length. -/
def wid (m : List (List Int)) : Nat := (gR m 0).length
def okRow (p : Int) (n : Nat) (r : List Int) : Bool := decide (r.length = n) && nums p r
def isMat (p : Int) (m : List (List Int)) : Bool :=
  isP p && decide (1 ≤ m.length) && decide (m.length ≤ 16) && decide (1 ≤ wid m) && decide (wid m ≤ 16) && m.all (okRow p (wid m))

/-- A vector of n numbers; a table of r rows and c columns. -/
def Vec (p : Int) (n : Nat) (v : List Int) : Prop := v.length = n ∧ ∀ k, k < n → 0 ≤ gI v k ∧ gI v k < p
def Mat (p : Int) (r c : Nat) (m : List (List Int)) : Prop := m.length = r ∧ ∀ i, i < r → Vec p c (gR m i)
theorem Vec.of {p : Int} {v : List Int} (h : nums p v = true) : Vec p v.length v := by
  refine ⟨rfl, fun k hk => ?_⟩
  rw [← gI_get hk]
  exact nums_iff.1 h _ (List.getElem_mem _)
theorem Vec.nums {p : Int} {n : Nat} {v : List Int} (h : Vec p n v) : nums p v = true := by
  rw [nums_iff]
  intro x hx
  obtain ⟨k, hk, rfl⟩ := List.getElem_of_mem hx
  rw [gI_get hk]
  exact h.2 k (h.1 ▸ hk)

theorem isMat_iff {p : Int} {m : List (List Int)} : isMat p m = true ↔ isP p = true ∧ 1 ≤ m.length ∧ m.length ≤ 16 ∧ 1 ≤ wid m ∧ wid m ≤ 16 ∧ Mat p m.length (wid m) m := by
  simp only [isMat, Bool.and_eq_true, decide_eq_true_eq, and_assoc]
  refine and_congr_right fun _ => and_congr_right fun _ => and_congr_right fun _ => and_congr_right fun _ => and_congr_right fun _ => ?_
  rw [List.all_eq_true]
  constructor
  · intro h
    refine ⟨rfl, fun i hi => ?_⟩
    have := h _ (List.getElem_mem hi)
    simp only [okRow, Bool.and_eq_true, decide_eq_true_eq] at this
    rw [← gR_get hi]
    have h2 := Vec.of this.2
    rwa [this.1] at h2
  · rintro ⟨_, h⟩ r hr
    obtain ⟨k, hk, rfl⟩ := List.getElem_of_mem hr
    have := h k hk
    rw [← gR_get hk] at this
    simp only [okRow, Bool.and_eq_true, decide_eq_true_eq]
    exact ⟨this.1, this.nums⟩

abbrev szM (m : List (List Int)) : Prop := m.length ≤ 1048576 ∧ ∀ r ∈ m, r.length ≤ 1048576
theorem szM.row {m : List (List Int)} (h : szM m) {k : Nat} (hk : k < m.length) : (gR m k).length ≤ 1048576 := by
  rw [← gR_get hk]; exact h.2 _ (List.getElem_mem _)

theorem s_l02Is_eq {p : Int} {m : List (List Int)} (h : szM m) : s_l02Is p m = some (isMat p m) := by
  unfold s_l02Is
  rw [s_l01Prime_eq, some_bind]
  cases hP : isP p with
  | false => simp [isMat, hP]
  | true =>
    have hp := isP_le hP
    simp only [Bool.true_eq_false, if_false]
    by_cases h1 : m.length = 0
    · simp [isMat, h1]
    by_cases h2 : 16 < m.length
    · rw [if_neg (by omega), if_pos (by omega), some_bind, if_pos rfl]
      simp [isMat, show ¬ m.length ≤ 16 by omega]
    rw [if_neg (by omega), if_neg (by omega), idxR0 (by omega), some_bind]
    by_cases h3 : (gR m 0).length = 0
    · rw [if_pos (by omega), some_bind, if_pos rfl]
      have : ¬ 1 ≤ wid m := by unfold wid; omega
      simp [isMat, this]
    by_cases h4 : 16 < (gR m 0).length
    · rw [if_neg (by omega), some_bind]
      simp only [ilt, show (16 : Int) < (gR m 0).length by omega, decide_true, if_true]
      have : ¬ wid m ≤ 16 := by unfold wid; omega
      simp [isMat, this]
    rw [if_neg (by omega), some_bind]
    simp only [ilt, show ¬ (16 : Int) < (gR m 0).length by omega, decide_false, Bool.false_eq_true, if_false]
    rw [all_loop _ m.length (fun k => okRow p (wid m) (gR m k)) false (by rw [BIG_val]; omega)]
    · rw [some_bind, all_rangeR m (okRow p (wid m))]
      have : isMat p m = m.all (okRow p (wid m)) := by
        simp only [isMat, hP, wid, show 1 ≤ m.length by omega, show m.length ≤ 16 by omega, show 1 ≤ (gR m 0).length by omega, show (gR m 0).length ≤ 16 by omega, decide_true, Bool.and_self, Bool.true_and]
      rw [this]
      cases m.all (okRow p (wid m)) <;> rfl
    · intro k hk hf
      unfold s_l02Is_L0
      simp only [okRow, Bool.and_eq_true, decide_eq_true_eq] at hf
      have hw : (gR m k).length = (gR m 0).length := hf.1
      simp only [show (k : Int) < m.length by omega, if_true, idxR hk, idxR0 (show 0 < m.length by omega), some_bind, hw, not_true_eq_false, if_false]
      rw [s_l01Numbers_eq (by omega) (by omega) (h.row hk), some_bind, hf.2, some_bind, w_in (by omega) (by omega)]
      rfl
    · intro k hk hf
      unfold s_l02Is_L0
      simp only [show (k : Int) < m.length by omega, if_true, idxR hk, idxR0 (show 0 < m.length by omega), some_bind]
      simp only [okRow, Bool.and_eq_false_iff, decide_eq_false_iff_not] at hf
      have hw : wid m = (gR m 0).length := rfl
      rw [hw] at hf
      by_cases he : (gR m k).length = (gR m 0).length
      · rw [if_neg (by omega), s_l01Numbers_eq (by omega) (by omega) (h.row hk), some_bind]
        rcases hf with hf | hf
        · exact absurd he hf
        · rw [hf]; rfl
      · rw [if_pos (by omega)]; rfl
    · unfold s_l02Is_L0
      simp

/-- The implementation's test. -/
def tabRow (p : Int) (n : Nat) (r : List Int) : Bool := decide (r.length = n) && decide (1 ≤ r.length) && decide (r.length ≤ 16) && nums p r
def isTab (p : Int) (m : List (List Int)) : Bool := decide (m.length ≤ 16) && m.all (tabRow p (wid m))
theorem isMat_tab (p : Int) (m : List (List Int)) : isMat p m = (isP p && (decide (0 < m.length) && isTab p m)) := by
  cases m with
  | nil => simp [isMat]
  | cons r m =>
    have e : wid (r :: m) = r.length := (rfl)
    rw [Bool.eq_iff_iff]
    simp only [isMat, isTab, e, List.all_eq_true, Bool.and_eq_true, decide_eq_true_eq, okRow, tabRow]
    constructor
    · rintro ⟨⟨⟨⟨⟨h1, h2⟩, h3⟩, h4⟩, h5⟩, h6⟩
      exact ⟨h1, h2, h3, fun x hx => by obtain ⟨a, b⟩ := h6 x hx; exact ⟨⟨⟨a, by omega⟩, by omega⟩, b⟩⟩
    · rintro ⟨h1, h2, h3, h6⟩
      obtain ⟨⟨⟨a, b⟩, c⟩, d⟩ := h6 r (by simp)
      exact ⟨⟨⟨⟨⟨h1, h2⟩, h3⟩, b⟩, c⟩, fun x hx => ⟨(h6 x hx).1.1.1, (h6 x hx).2⟩⟩

theorem i_field_isTable_eq {p : Int} {m : List (List Int)} (hp : 0 ≤ p) (hp2 : p ≤ 1048576) (h : szM m) : i_field_isTable p m = some (isTab p m) := by
  unfold i_field_isTable
  by_cases h1 : 16 < m.length
  · rw [if_pos (by omega)]
    simp [isTab, show ¬ m.length ≤ 16 by omega]
  rw [if_neg (by omega), all_loop _ m.length (fun k => tabRow p (wid m) (gR m k)) false (by rw [BIG_val]; omega)]
  · rw [some_bind, all_rangeR m (tabRow p (wid m))]
    have : isTab p m = m.all (tabRow p (wid m)) := by simp only [isTab, show m.length ≤ 16 by omega, decide_true, Bool.true_and]
    rw [this]
    cases m.all (tabRow p (wid m)) <;> rfl
  · intro k hk hf
    unfold i_field_isTable_L0
    simp only [tabRow, Bool.and_eq_true, decide_eq_true_eq] at hf
    have hw : (gR m k).length = (gR m 0).length := hf.1.1.1
    simp only [show (k : Int) < m.length by omega, if_true, idxR hk, idxR0 (show 0 < m.length by omega), some_bind, hw, not_true_eq_false, if_false]
    rw [if_neg (by omega), if_neg (by omega), i_field_is_eq hp hp2 (h.row hk), some_bind, hf.2, some_bind, w_in (by omega) (by omega)]
    rfl
  · intro k hk hf
    unfold i_field_isTable_L0
    simp only [show (k : Int) < m.length by omega, if_true, idxR hk, idxR0 (show 0 < m.length by omega), some_bind]
    simp only [tabRow, Bool.and_eq_false_iff, decide_eq_false_iff_not] at hf
    have hw : wid m = (gR m 0).length := rfl
    rw [hw] at hf
    by_cases he : (gR m k).length = (gR m 0).length
    · rw [if_neg (by omega)]
      by_cases h2 : 1 ≤ (gR m k).length
      · rw [if_neg (by omega)]
        by_cases h3 : (gR m k).length ≤ 16
        · rw [if_neg (by omega), i_field_is_eq hp hp2 (h.row hk), some_bind]
          have : nums p (gR m k) = false := by
            rcases hf with ((hf | hf) | hf) | hf
            · exact absurd he hf
            · exact absurd h2 hf
            · exact absurd h3 hf
            · exact hf
          rw [this]; rfl
        · rw [if_pos (by omega)]; rfl
      · rw [if_pos (by omega)]; rfl
    · rw [if_pos (by omega)]; rfl
  · unfold i_field_isTable_L0
    simp
theorem i_field_isMatrix_eq {p : Int} {m : List (List Int)} (hP : isP p = true) (h : szM m) : i_field_isMatrix p m = some (isMat p m) := by
  have hp := isP_le hP
  unfold i_field_isMatrix
  rw [isMat_tab, hP]
  by_cases h1 : 0 < m.length
  · rw [if_pos (by omega), i_field_isTable_eq (by omega) (by omega) h]
    simp [h1]
  · rw [if_neg (by omega)]
    simp [h1]
end Go.Vam
