/- Plain laws: reduced rows in order; they are told by what they send to nothing. -/
import Derived.Test.YtdoimfkonaeceaaPlF
namespace Go.Vam
open Go Go.RowKit
set_option linter.unusedSimpArgs false
set_option linter.unusedVariables false
set_option linter.unusedSectionVars false

theorem mod_dvd {p a b : Int} : a % p = b % p ↔ p ∣ a - b := by
  rw [Int.emod_eq_emod_iff_emod_sub_eq_zero, Int.dvd_iff_emod_eq_zero]
theorem num_eq {p a b : Int} (ha : 0 ≤ a ∧ a < p) (hb : 0 ≤ b ∧ b < p) (h : p ∣ a - b) : a = b := by
  have := mod_dvd.2 h
  rwa [mod_small ha.1 ha.2, mod_small hb.1 hb.2] at this
def Kr (p : Int) (n : Nat) (B : List (List Int)) (u : Nat → Int) : Prop := ∀ j, j < B.length → p ∣ rd n (gR B j) u
theorem lessv_at {p : Int} {n f q : Nat} {R v : List Int} (hq : q < n) : gI (lessv p n f R v) q = (gI v q + (gI v f * -1) * gI R q) % p := plusv_at hq
theorem lessv_vec {p : Int} (hp : 0 < p) (n f : Nat) (R v : List Int) : Vec p n (lessv p n f R v) := plusv_vec hp ..
theorem lessv_idle {p : Int} {n f q : Nat} {R v : List Int} (hv : Vec p n v) (hq : q < n) (h : gI R q = 0 ∨ gI v f = 0) : gI (lessv p n f R v) q = gI v q := by
  rw [lessv_at hq]
  have e := hv.get hq
  have : gI v f * -1 * gI R q = 0 := by rcases h with h | h <;> rw [h] <;> simp
  rw [this, Int.add_zero, mod_small e.1 e.2]
/-- Rows with one row more at pos, cleared of what they had at its lead. -/
theorem Ech.put {p : Int} {n f pos : Nat} {B B' : List (List Int)} {R : List Int} {ld : Nat → Nat} (hp : 1 < p) (hB : Ech p n B ld) (hR : Vec p n R) (hf : f < n)
    (hR1 : gI R f = 1) (hRp : ∀ q, q < f → gI R q = 0) (hRl : ∀ j, j < B.length → gI R (ld j) = 0)
    (hpos : pos ≤ B.length) (hlo : ∀ j, j < pos → ld j < f) (hhi : ∀ j, pos ≤ j → j < B.length → f < ld j)
    (hl : B'.length = B.length + 1) (hg : ∀ j, j < B.length + 1 → gR B' j = if j < pos then lessv p n f R (gR B j) else if j = pos then R else lessv p n f R (gR B (j - 1))) :
    Ech p n B' (fun j => if j < pos then ld j else if j = pos then f else ld (j - 1)) ∧ ∀ u, Kr p n B' u ↔ Kr p n B u ∧ p ∣ rd n R u := by
  have hne : ∀ j, j < B.length → ld j ≠ f := by
    intro j hj
    by_cases h : j < pos
    · have := hlo j h; omega
    · have := hhi j (by omega) hj; omega
  have l1 : ∀ j, j < B.length → gI (lessv p n f R (gR B j)) (ld j) = 1 := by
    intro j hj
    rw [lessv_idle (hB.mat.row hj) (hB.lt j hj) (.inl (hRl j hj))]; exact hB.one j hj
  have l2 : ∀ j, j < B.length → ∀ i, i < B.length → i ≠ j → gI (lessv p n f R (gR B i)) (ld j) = 0 := by
    intro j hj i hi hij
    rw [lessv_idle (hB.mat.row hi) (hB.lt j hj) (.inl (hRl j hj))]; exact hB.col j hj i hi hij
  have l3 : ∀ j, j < B.length → ∀ q, q < ld j → gI (lessv p n f R (gR B j)) q = 0 := by
    intro j hj q hq
    have hln := hB.lt j hj
    by_cases h : f < ld j
    · rw [lessv_idle (hB.mat.row hj) (by omega) (.inr (hB.pre j hj f h))]; exact hB.pre j hj q hq
    · rw [lessv_idle (hB.mat.row hj) (by omega) (.inl (hRp q (by omega)))]; exact hB.pre j hj q hq
  have l4 : ∀ j, j < B.length → gI (lessv p n f R (gR B j)) f = 0 := by
    intro j hj
    rw [lessv_at hf, hR1]
    have : gI (gR B j) f + gI (gR B j) f * -1 * 1 = 0 := by omega
    rw [this]; rfl
  have l5 : ∀ j u, p ∣ rd n R u → (p ∣ rd n (lessv p n f R (gR B j)) u ↔ p ∣ rd n (gR B j) u) := by
    intro j u hu
    unfold lessv
    rw [dvd_congr (rd_plusv u)]
    exact Int.dvd_add_left (Int.dvd_mul_of_dvd_right hu)
  constructor
  · constructor
    · refine ⟨by omega, fun j hj => ?_⟩
      show Vec p n (gR B' j)
      rw [hg j (by omega)]
      split
      · exact lessv_vec (by omega) ..
      · split
        · exact hR
        · exact lessv_vec (by omega) ..
    · intro j hj
      try simp only []
      split
      · exact hB.lt j (by omega)
      · split
        · exact hf
        · exact hB.lt (j - 1) (by omega)
    · intro j hj
      try simp only []
      rw [hg j (by omega)]
      by_cases h1 : j < pos
      · simp only [h1, if_true]; exact l1 j (by omega)
      · by_cases h2 : j = pos
        · simp only [h1, h2, if_false, if_true, Nat.lt_irrefl]; exact hR1
        · simp only [h1, h2, if_false]; exact l1 (j - 1) (by omega)
    · intro j hj q hq
      try simp only [] at hq
      rw [hg j (by omega)]
      by_cases h1 : j < pos
      · simp only [h1, if_true] at hq ⊢; exact l3 j (by omega) q hq
      · by_cases h2 : j = pos
        · simp only [h1, h2, if_false, if_true, Nat.lt_irrefl] at hq ⊢; exact hRp q hq
        · simp only [h1, h2, if_false] at hq ⊢; exact l3 (j - 1) (by omega) q hq
    · intro j hj i hi hij
      try simp only []
      rw [hg i (by omega)]
      by_cases h1 : j < pos
      · rw [if_pos h1]
        by_cases g1 : i < pos
        · rw [if_pos g1]; exact l2 j (by omega) i (by omega) hij
        · rw [if_neg g1]
          by_cases g2 : i = pos
          · rw [if_pos g2]; exact hRl j (by omega)
          · rw [if_neg g2]; exact l2 j (by omega) (i - 1) (by omega) (by omega)
      · rw [if_neg h1]
        by_cases h2 : j = pos
        · rw [if_pos h2]
          by_cases g1 : i < pos
          · rw [if_pos g1]; exact l4 i (by omega)
          · rw [if_neg g1, if_neg (by omega)]; exact l4 (i - 1) (by omega)
        · rw [if_neg h2]
          by_cases g1 : i < pos
          · rw [if_pos g1]; exact l2 (j - 1) (by omega) i (by omega) (by omega)
          · rw [if_neg g1]
            by_cases g2 : i = pos
            · rw [if_pos g2]; exact hRl (j - 1) (by omega)
            · rw [if_neg g2]; exact l2 (j - 1) (by omega) (i - 1) (by omega) (by omega)
    · intro i j hij hj
      try simp only []
      by_cases h1 : j < pos
      · rw [if_pos h1, if_pos (by omega)]; exact hB.srt i j hij (by omega)
      · by_cases h2 : j = pos
        · rw [if_neg h1, if_pos h2, if_pos (by omega)]; exact hlo i (by omega)
        · rw [if_neg h1, if_neg h2]
          by_cases g1 : i < pos
          · rw [if_pos g1]; exact hB.srt i (j - 1) (by omega) (by omega)
          · rw [if_neg g1]
            by_cases g2 : i = pos
            · rw [if_pos g2]; exact hhi (j - 1) (by omega) (by omega)
            · rw [if_neg g2]; exact hB.srt (i - 1) (j - 1) (by omega) (by omega)
  · intro u
    constructor
    · intro h
      have hRu : p ∣ rd n R u := by
        have := h pos (by omega)
        rwa [hg pos (by omega), if_neg (by omega), if_pos rfl] at this
      refine ⟨fun j hj => ?_, hRu⟩
      by_cases h1 : j < pos
      · have := h j (by omega)
        rw [hg j (by omega), if_pos h1] at this
        exact (l5 j u hRu).1 this
      · have := h (j + 1) (by omega)
        rw [hg (j + 1) (by omega), if_neg (by omega), if_neg (by omega)] at this
        exact (l5 j u hRu).1 this
    · intro ⟨h, hRu⟩ j hj
      rw [hg j (by omega)]
      split
      · exact (l5 j u hRu).2 (h j (by omega))
      · split
        · exact hRu
        · exact (l5 (j - 1) u hRu).2 (h (j - 1) (by omega))

/-- Leads rise: the j-th stands at j or behind. -/
theorem Ech.ge {p : Int} {n : Nat} {B : List (List Int)} {ld : Nat → Nat} (h : Ech p n B ld) : ∀ j, j < B.length → j ≤ ld j := by
  intro j
  induction j with
  | zero => intro _; omega
  | succ j ih =>
    intro hj
    have h1 := ih (by omega)
    have h2 := h.srt j (j + 1) (by omega) hj
    omega
theorem Ech.le {p : Int} {n : Nat} {B : List (List Int)} {ld : Nat → Nat} (h : Ech p n B ld) : B.length ≤ n := by
  by_cases h0 : B.length = 0
  · omega
  · have h1 := h.ge (B.length - 1) (by omega)
    have h2 := h.lt (B.length - 1) (by omega)
    omega
def isLd (k : Nat) (ld : Nat → Nat) (q : Nat) : Bool := (List.range k).any fun j => decide (ld j = q)
theorem isLd_iff {k : Nat} {ld : Nat → Nat} {q : Nat} : isLd k ld q = true ↔ ∃ j, j < k ∧ ld j = q := by
  unfold isLd
  simp only [List.any_eq_true, List.mem_range, decide_eq_true_eq]
theorem isLd_not {k : Nat} {ld : Nat → Nat} {q : Nat} (h : isLd k ld q = false) {j : Nat} (hj : j < k) : ld j ≠ q := by
  intro e
  have := isLd_iff.2 ⟨j, hj, e⟩
  rw [h] at this; exact Bool.noConfusion this
/-- The row that a lead's place belongs to. -/
def rowOf (ld : Nat → Nat) (q : Nat) : Nat → Nat
  | 0 => 0
  | k + 1 => if ld k = q then k else rowOf ld q k
theorem rowOf_spec {ld : Nat → Nat} {q : Nat} : ∀ {k : Nat}, (∃ j, j < k ∧ ld j = q) → rowOf ld q k < k ∧ ld (rowOf ld q k) = q
  | 0, ⟨j, h, _⟩ => by omega
  | k + 1, ⟨j, h, e⟩ => by
    unfold rowOf
    by_cases hk : ld k = q
    · rw [if_pos hk]; exact ⟨by omega, hk⟩
    · rw [if_neg hk]
      have hj : j < k := by
        rcases Nat.lt_succ_iff_lt_or_eq.1 h with h | h
        · exact h
        · rw [h] at e; exact absurd e hk
      have := rowOf_spec ⟨j, hj, e⟩
      exact ⟨by omega, this.2⟩
theorem Ech.inj {p : Int} {n : Nat} {B : List (List Int)} {ld : Nat → Nat} (h : Ech p n B ld) {i j : Nat} (hi : i < B.length) (hj : j < B.length) (e : ld i = ld j) : i = j := by
  rcases Nat.lt_trichotomy i j with h1 | h1 | h1
  · have := h.srt i j h1 hj; omega
  · exact h1
  · have := h.srt j i h1 hi; omega
/-- What a place f without a lead gives: 1 at f, and at each lead what its row needs. -/
def freeF (B : List (List Int)) (ld : Nat → Nat) (f : Nat) (q : Nat) : Int :=
  if q = f then 1 else if isLd B.length ld q = true then - gI (gR B (rowOf ld q B.length)) f else 0
theorem freeF_lead {p : Int} {n f j : Nat} {B : List (List Int)} {ld : Nat → Nat} (h : Ech p n B ld) (hf : isLd B.length ld f = false) (hj : j < B.length) : freeF B ld f (ld j) = - gI (gR B j) f := by
  unfold freeF
  have e : isLd B.length ld (ld j) = true := isLd_iff.2 ⟨j, hj, rfl⟩
  rw [if_neg (isLd_not hf hj), if_pos e]
  obtain ⟨h1, h2⟩ := rowOf_spec (isLd_iff.1 e)
  rw [h.inj h1 hj h2]
theorem freeF_other {f q : Nat} {B : List (List Int)} {ld : Nat → Nat} (hq : isLd B.length ld q = false) (hne : q ≠ f) : freeF B ld f q = 0 := by
  unfold freeF
  rw [if_neg hne, hq]; rfl
theorem sumN_two {f : Nat → Int} {n i k : Nat} (hi : i < n) (hk : k < n) (hne : i ≠ k) (h : ∀ q, q < n → q ≠ i → q ≠ k → f q = 0) : sumN f n = f i + f k := by
  have e : sumN f n = sumN (fun q => if q = i then f i else if q = i then 0 else f q) n := sumN_congr fun q _ => by
    by_cases h : q = i
    · rw [if_pos h, h]
    · rw [if_neg h, if_neg h]
  have e2 : sumN (fun q => if q = i then 0 else f q) n = f k := by
    rw [sumN_one hk (fun q hq hqk => by
      try simp only []
      by_cases h1 : q = i
      · rw [if_pos h1]
      · rw [if_neg h1]; exact h q hq h1 hqk)]
    rw [if_neg (by omega)]
  have e3 := sumN_upd (fun q => if q = i then 0 else f q) i (f i) n hi (by simp)
  have e4 : sumN f n = sumN (fun q => if q = i then f i else (fun q => if q = i then 0 else f q) q) n := e
  rw [e4, e3, e2]; omega
theorem freeF_ker {p : Int} {n f : Nat} {B : List (List Int)} {ld : Nat → Nat} (h : Ech p n B ld) (hf : isLd B.length ld f = false) (hfn : f < n) : Kr p n B (freeF B ld f) := by
  intro j hj
  have : rd n (gR B j) (freeF B ld f) = 0 := by
    unfold rd
    rw [sumN_two (i := ld j) (k := f) (h.lt j hj) hfn (isLd_not hf hj) (fun q hq h1 h2 => ?_)]
    · rw [freeF_lead h hf hj, h.one j hj]
      have : freeF B ld f f = 1 := by unfold freeF; rw [if_pos rfl]
      rw [this]; omega
    · try simp only []
      cases e : isLd B.length ld q with
      | false => rw [freeF_other e h2, Int.mul_zero]
      | true =>
        obtain ⟨i, hi, he⟩ := isLd_iff.1 e
        rw [← he, h.col i hi j hj (fun e2 => h1 (by rw [← he, e2])), Int.zero_mul]
  rw [this]; exact Int.dvd_zero p
theorem rd_tail {p : Int} {n f : Nat} {v : List Int} {u : Nat → Int} (hf : f < n) (hpre : ∀ q, q < f → gI v q = 0) (h1 : gI v f = 1) (hu : ∀ q, f < q → q < n → u q = 0) : rd n v u = u f := by
  unfold rd
  rw [sumN_one hf (fun q hq hqf => ?_)]
  · rw [h1, Int.one_mul]
  · by_cases h : q < f
    · rw [hpre q h, Int.zero_mul]
    · rw [hu q (by omega) hq, Int.mul_zero]
/-- A place has no lead just where something is sent to nothing that ends there. -/
theorem Ech.free_iff {p : Int} {n f : Nat} {B : List (List Int)} {ld : Nat → Nat} (hp : 1 < p) (h : Ech p n B ld) (hf : f < n) : isLd B.length ld f = false ↔ ∃ u : Nat → Int, u f = 1 ∧ (∀ q, f < q → q < n → u q = 0) ∧ Kr p n B u := by
  constructor
  · intro e
    refine ⟨freeF B ld f, by unfold freeF; rw [if_pos rfl], fun q hq hqn => ?_, freeF_ker h e hf⟩
    cases e2 : isLd B.length ld q with
    | false => exact freeF_other e2 (by omega)
    | true =>
      obtain ⟨i, hi, he⟩ := isLd_iff.1 e2
      rw [← he, freeF_lead h e hi, h.pre i hi f (by omega)]; rfl
  · intro ⟨u, u1, u2, u3⟩
    cases e : isLd B.length ld f with
    | false => rfl
    | true =>
      obtain ⟨i, hi, he⟩ := isLd_iff.1 e
      have h1 := u3 i hi
      subst he
      rw [rd_tail (p := p) hf (h.pre i hi) (h.one i hi) u2, u1, Int.dvd_iff_emod_eq_zero, Int.emod_eq_of_lt (by omega) (by omega)] at h1
      omega
theorem rises_unique {a b : Nat → Nat} {k l : Nat} (ha : ∀ i j, i < j → j < k → a i < a j) (hb : ∀ i j, i < j → j < l → b i < b j) (hab : ∀ j, j < k → ∃ i, i < l ∧ b i = a j) (hba : ∀ j, j < l → ∃ i, i < k ∧ a i = b j) : k = l ∧ ∀ j, j < k → a j = b j := by
  have key : ∀ j, j < k → j < l → a j = b j := by
    intro j
    induction j using Nat.strongRecOn with
    | ind j ih =>
      intro hk hl
      obtain ⟨i, hi, e⟩ := hab j hk
      obtain ⟨i', hi', e'⟩ := hba j hl
      have h1 : j ≤ i := by
        rcases Nat.lt_or_ge i j with h | h
        · have := ih i h (by omega) hi
          have := ha i j h hk
          omega
        · exact h
      have h2 : j ≤ i' := by
        rcases Nat.lt_or_ge i' j with h | h
        · have := ih i' h hi' (by omega)
          have := hb i' j h hl
          omega
        · exact h
      have h3 : b j ≤ b i := by
        rcases Nat.lt_or_ge j i with h | h
        · have := hb j i h hi; omega
        · have : j = i := by omega
          rw [this]; exact Nat.le_refl _
      have h4 : a j ≤ a i' := by
        rcases Nat.lt_or_ge j i' with h | h
        · have := ha j i' h hi'; omega
        · have : j = i' := by omega
          rw [this]; exact Nat.le_refl _
      omega
  have hkl : k = l := by
    rcases Nat.lt_trichotomy k l with h | h | h
    · obtain ⟨i, hi, e⟩ := hba k h
      have := key i hi (by omega)
      have := hb i k hi h
      omega
    · exact h
    · obtain ⟨i, hi, e⟩ := hab l h
      have := key i (by omega) hi
      have := ha i l hi h
      omega
  exact ⟨hkl, fun j hj => key j hj (by omega)⟩
/-- Reduced rows in order are told by what they send to nothing. -/
theorem Ech.unique {p : Int} {n : Nat} {B B' : List (List Int)} {ld ld' : Nat → Nat} (hp : 1 < p) (h : Ech p n B ld) (h' : Ech p n B' ld') (hk : ∀ u, Kr p n B u ↔ Kr p n B' u) : B = B' := by
  have hfr : ∀ f, f < n → isLd B.length ld f = isLd B'.length ld' f := by
    intro f hf
    have h1 := h.free_iff hp hf
    have h2 := h'.free_iff hp hf
    have h3 : isLd B.length ld f = false ↔ isLd B'.length ld' f = false := by
      rw [h1, h2]
      exact ⟨fun ⟨u, a, b, c⟩ => ⟨u, a, b, (hk u).1 c⟩, fun ⟨u, a, b, c⟩ => ⟨u, a, b, (hk u).2 c⟩⟩
    cases e1 : isLd B.length ld f <;> cases e2 : isLd B'.length ld' f <;> simp [e1, e2] at h3 ⊢
  obtain ⟨hl, hld⟩ := rises_unique (a := ld) (b := ld') (k := B.length) (l := B'.length) h.srt h'.srt
    (fun j hj => isLd_iff.1 ((hfr (ld j) (h.lt j hj)) ▸ isLd_iff.2 ⟨j, hj, rfl⟩))
    (fun j hj => isLd_iff.1 ((hfr (ld' j) (h'.lt j hj)).symm ▸ isLd_iff.2 ⟨j, hj, rfl⟩))
  have hrow : ∀ j, j < B.length → gR B j = gR B' j := by
    intro j hj
    have hj' : j < B'.length := by omega
    have a1 := h.mat.row hj
    have a2 := h'.mat.row hj'
    have ext : ∀ q, q < n → gI (gR B j) q = gI (gR B' j) q := by
      intro q hq
      cases e : isLd B.length ld q with
      | true =>
        obtain ⟨i, hi, he⟩ := isLd_iff.1 e
        by_cases hij : i = j
        · subst hij
          rw [← he, h.one i hi, hld i hi, h'.one i hj']
        · rw [← he, h.col i hi j hj (fun e => hij e.symm), hld i hi, h'.col i (by omega) j hj' (fun e => hij e.symm)]
      | false =>
        have hk1 := (hk _).1 (freeF_ker h e hq) j hj'
        have e' : isLd B'.length ld' q = false := by rw [← hfr q hq]; exact e
        have hs : rd n (gR B' j) (freeF B ld q) = gI (gR B' j) q - gI (gR B j) q := by
          unfold rd
          rw [sumN_two (i := ld j) (k := q) (h.lt j hj) hq (isLd_not e hj) (fun r hr h1 h2 => ?_)]
          · rw [freeF_lead h e hj]
            have hqq : freeF B ld q q = 1 := by unfold freeF; rw [if_pos rfl]
            rw [hqq, hld j hj, h'.one j hj']; omega
          · try simp only []
            cases er : isLd B.length ld r with
            | false => rw [freeF_other er h2, Int.mul_zero]
            | true =>
              obtain ⟨i, hi, he⟩ := isLd_iff.1 er
              rw [← he, hld i hi, h'.col i (by omega) j hj' (fun e2 => h1 (by rw [← he, e2])), Int.zero_mul]
        rw [hs] at hk1
        have b1 := a1.get hq
        have b2 := a2.get hq
        exact (num_eq b2 b1 hk1).symm
    rw [extI a1.1 (f := gI (gR B' j)) ext]
    exact (extI a2.1 (f := gI (gR B' j)) (fun q hq => rfl)).symm
  have e1 := extR (m := B) (n := B.length) (f := gR B') rfl hrow
  have e2 := extR (m := B') (n := B.length) (f := gR B') hl.symm (fun k hk => rfl)
  rw [e1]; exact e2.symm
/-- As many rows as places: just where nothing but nothing is sent to nothing. -/
theorem Ech.full_iff {p : Int} {n : Nat} {B : List (List Int)} {ld : Nat → Nat} (hp : 1 < p) (h : Ech p n B ld) : B.length = n ↔ ¬ ∃ u : Nat → Int, (∃ k, k < n ∧ ¬ p ∣ u k) ∧ Kr p n B u := by
  constructor
  · intro hl ⟨u, ⟨k, hk, hn⟩, hu⟩
    have hld : ∀ t j, j + t = n → j < n → ld j = j := by
      intro t
      induction t with
      | zero => intro j h1 h2; omega
      | succ t ih =>
        intro j h1 h2
        have g := h.ge j (by omega)
        by_cases hj : j + 1 < n
        · have := ih (j + 1) (by omega) hj
          have := h.srt j (j + 1) (by omega) (by omega)
          omega
        · have := h.lt j (by omega); omega
    have := hu k (by omega)
    have e : rd n (gR B k) u = u k := by
      unfold rd
      rw [sumN_one hk (fun q hq hqk => ?_)]
      · have := h.one k (by omega)
        rw [hld (n - k) k (by omega) hk] at this
        rw [this, Int.one_mul]
      · have := h.col q (by omega) k (by omega) (fun e => hqk e.symm)
        rw [hld (n - q) q (by omega) hq] at this
        rw [this, Int.zero_mul]
    rw [e] at this
    exact hn this
  · intro hno
    have hle := h.le
    rcases Nat.lt_or_ge B.length n with hlt | hge
    · exfalso
      -- a place without a lead
      have : ∃ f, f < n ∧ isLd B.length ld f = false := by
        by_cases hall : ∀ f, f < n → isLd B.length ld f = true
        · exfalso
          have key : ∀ f, f < n → ∃ j, j < B.length ∧ ld j = f := fun f hf => isLd_iff.1 (hall f hf)
          have hu := rises_unique (a := ld) (b := fun j => j) (k := B.length) (l := n) h.srt (fun i j hij _ => hij) (fun j hj => ⟨ld j, h.lt j hj, rfl⟩) (fun j hj => key j hj)
          omega
        · by_cases hex : ∃ f, f < n ∧ isLd B.length ld f = false
          · exact hex
          · exfalso
            apply hall
            intro f hf
            cases e : isLd B.length ld f with
            | true => rfl
            | false => exact absurd ⟨f, hf, e⟩ hex
      obtain ⟨f, hf, e⟩ := this
      refine hno ⟨freeF B ld f, ⟨f, hf, ?_⟩, freeF_ker h e hf⟩
      unfold freeF
      rw [if_pos rfl, Int.dvd_iff_emod_eq_zero, Int.emod_eq_of_lt (by omega) (by omega)]; omega
    · omega
end Go.Vam
