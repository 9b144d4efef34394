import Derived.Test.YtjkknabmfdodeaaPlG0
import Derived.Test.YtjkknabmfdodeaaFnF
import Derived.Test.YtjkknabmfdodeaaFnG
import Derived.Test.YtjkknabmfdodeaaFnE
/- Plain laws: reduced rows in order; they are told by what they send to nothing. -/
namespace Go.Vam
open Go Go.RowKit
set_option linter.unusedSimpArgs false
set_option linter.unusedVariables false
set_option linter.unusedSectionVars false

theorem mod_dvd {p a b : Int} : a % p = b % p ↔ p ∣ a - b := by
  rw [Int.emod_eq_emod_iff_emod_sub_eq_zero, Int.dvd_iff_emod_eq_zero]
theorem num_eq {p a b : Int} (ha : 0 ≤ a ∧ a < p) (hb : 0 ≤ b ∧ b < p) (h : p ∣ a - b) : a = b := by
  have := mod_dvd.2 h
  rwa [mod_small ha.1 ha.2, mod_small hb.1 hb.2] at this
def Kr (p : Int) (n : Nat) (B : List (List Int)) (u : Nat → Int) : Prop := ∀ j, j < B.length → p ∣ rd n (gR B j) u
theorem lessv_at {p : Int} {n f q : Nat} {R v : List Int} (hq : q < n) : gI (lessv p n f R v) q = (gI v q + (gI v f * -1) * gI R q) % p := plusv_at hq
theorem lessv_vec {p : Int} (hp : 0 < p) (n f : Nat) (R v : List Int) : Vec p n (lessv p n f R v) := plusv_vec hp ..
theorem lessv_idle {p : Int} {n f q : Nat} {R v : List Int} (hv : Vec p n v) (hq : q < n) (h : gI R q = 0 ∨ gI v f = 0) : gI (lessv p n f R v) q = gI v q := by
  rw [lessv_at hq]
  have e := hv.get hq
  have : gI v f * -1 * gI R q = 0 := by rcases h with h | h <;> rw [h] <;> simp
  rw [this, Int.add_zero, mod_small e.1 e.2]
/-- Rows with one row more at pos, cleared of what they had at its lead. -/
theorem Ech.put {p : Int} {n f pos : Nat} {B B' : List (List Int)} {R : List Int} {ld : Nat → Nat} (hp : 1 < p) (hB : Ech p n B ld) (hR : Vec p n R) (hf : f < n)
    (hR1 : gI R f = 1) (hRp : ∀ q, q < f → gI R q = 0) (hRl : ∀ j, j < B.length → gI R (ld j) = 0)
    (hpos : pos ≤ B.length) (hlo : ∀ j, j < pos → ld j < f) (hhi : ∀ j, pos ≤ j → j < B.length → f < ld j)
    (hl : B'.length = B.length + 1) (hg : ∀ j, j < B.length + 1 → gR B' j = if j < pos then lessv p n f R (gR B j) else if j = pos then R else lessv p n f R (gR B (j - 1))) :
    Ech p n B' (fun j => if j < pos then ld j else if j = pos then f else ld (j - 1)) ∧ ∀ u, Kr p n B' u ↔ Kr p n B u ∧ p ∣ rd n R u := by
  have hne : ∀ j, j < B.length → ld j ≠ f := by
    intro j hj
    by_cases h : j < pos
    · have := hlo j h; omega
    · have := hhi j (by omega) hj; omega
  have l1 : ∀ j, j < B.length → gI (lessv p n f R (gR B j)) (ld j) = 1 := by
    intro j hj
    rw [lessv_idle (hB.mat.row hj) (hB.lt j hj) (.inl (hRl j hj))]; exact hB.one j hj
  have l2 : ∀ j, j < B.length → ∀ i, i < B.length → i ≠ j → gI (lessv p n f R (gR B i)) (ld j) = 0 := by
    intro j hj i hi hij
    rw [lessv_idle (hB.mat.row hi) (hB.lt j hj) (.inl (hRl j hj))]; exact hB.col j hj i hi hij
  have l3 : ∀ j, j < B.length → ∀ q, q < ld j → gI (lessv p n f R (gR B j)) q = 0 := by
    intro j hj q hq
    have hln := hB.lt j hj
    by_cases h : f < ld j
    · rw [lessv_idle (hB.mat.row hj) (by omega) (.inr (hB.pre j hj f h))]; exact hB.pre j hj q hq
    · rw [lessv_idle (hB.mat.row hj) (by omega) (.inl (hRp q (by omega)))]; exact hB.pre j hj q hq
  have l4 : ∀ j, j < B.length → gI (lessv p n f R (gR B j)) f = 0 := by
    intro j hj
    rw [lessv_at hf, hR1]
    have : gI (gR B j) f + gI (gR B j) f * -1 * 1 = 0 := by omega
    rw [this]; rfl
  have l5 : ∀ j u, p ∣ rd n R u → (p ∣ rd n (lessv p n f R (gR B j)) u ↔ p ∣ rd n (gR B j) u) := by
    intro j u hu
    unfold lessv
    rw [dvd_congr (rd_plusv u)]
    exact Int.dvd_add_left (Int.dvd_mul_of_dvd_right hu)
  constructor
  · constructor
    · refine ⟨by omega, fun j hj => ?_⟩
      show Vec p n (gR B' j)
      rw [hg j (by omega)]
      split
      · exact lessv_vec (by omega) ..
      · split
        · exact hR
        · exact lessv_vec (by omega) ..
    · intro j hj
      try simp only []
      split
      · exact hB.lt j (by omega)
      · split
        · exact hf
        · exact hB.lt (j - 1) (by omega)
    · intro j hj
      try simp only []
      rw [hg j (by omega)]
      by_cases h1 : j < pos
      · simp only [h1, if_true]; exact l1 j (by omega)
      · by_cases h2 : j = pos
        · simp only [h1, h2, if_false, if_true, Nat.lt_irrefl]; exact hR1
        · simp only [h1, h2, if_false]; exact l1 (j - 1) (by omega)
    · intro j hj q hq
      try simp only [] at hq
      rw [hg j (by omega)]
      by_cases h1 : j < pos
      · simp only [h1, if_true] at hq ⊢; exact l3 j (by omega) q hq
      · by_cases h2 : j = pos
        · simp only [h1, h2, if_false, if_true, Nat.lt_irrefl] at hq ⊢; exact hRp q hq
        · simp only [h1, h2, if_false] at hq ⊢; exact l3 (j - 1) (by omega) q hq
    · intro j hj i hi hij
      try simp only []
      rw [hg i (by omega)]
      by_cases h1 : j < pos
      · rw [if_pos h1]
        by_cases g1 : i < pos
        · rw [if_pos g1]; exact l2 j (by omega) i (by omega) hij
        · rw [if_neg g1]
          by_cases g2 : i = pos
          · rw [if_pos g2]; exact hRl j (by omega)
          · rw [if_neg g2]; exact l2 j (by omega) (i - 1) (by omega) (by omega)
      · rw [if_neg h1]
        by_cases h2 : j = pos
        · rw [if_pos h2]
          by_cases g1 : i < pos
          · rw [if_pos g1]; exact l4 i (by omega)
          · rw [if_neg g1, if_neg (by omega)]; exact l4 (i - 1) (by omega)
        · rw [if_neg h2]
          by_cases g1 : i < pos
          · rw [if_pos g1]; exact l2 (j - 1) (by omega) i (by omega) (by omega)
          · rw [if_neg g1]
            by_cases g2 : i = pos
            · rw [if_pos g2]; exact hRl (j - 1) (by omega)
            · rw [if_neg g2]; exact l2 (j - 1) (by omega) (i - 1) (by omega) (by omega)
    · intro i j hij hj
      try simp only []
      by_cases h1 : j < pos
      · rw [if_pos h1, if_pos (by omega)]; exact hB.srt i j hij (by omega)
      · by_cases h2 : j = pos
        · rw [if_neg h1, if_pos h2, if_pos (by omega)]; exact hlo i (by omega)
        · rw [if_neg h1, if_neg h2]
          by_cases g1 : i < pos
          · rw [if_pos g1]; exact hB.srt i (j - 1) (by omega) (by omega)
          · rw [if_neg g1]
            by_cases g2 : i = pos
            · rw [if_pos g2]; exact hhi (j - 1) (by omega) (by omega)
            · rw [if_neg g2]; exact hB.srt (i - 1) (j - 1) (by omega) (by omega)
  · intro u
    constructor
    · intro h
      have hRu : p ∣ rd n R u := by
        have := h pos (by omega)
        rwa [hg pos (by omega), if_neg (by omega), if_pos rfl] at this
      refine ⟨fun j hj => ?_, hRu⟩
      by_cases h1 : j < pos
      · have := h j (by omega)
        rw [hg j (by omega), if_pos h1] at this
        exact (l5 j u hRu).1 this
      · have := h (j + 1) (by omega)
        rw [hg (j + 1) (by omega), if_neg (by omega), if_neg (by omega)] at this
        exact (l5 j u hRu).1 this
    · intro ⟨h, hRu⟩ j hj
      rw [hg j (by omega)]
      split
      · exact (l5 j u hRu).2 (h j (by omega))
      · split
        · exact hRu
        · exact (l5 (j - 1) u hRu).2 (h (j - 1) (by omega))

/-- Leads rise: the j-th stands at j or behind. -/
theorem Ech.ge {p : Int} {n : Nat} {B : List (List Int)} {ld : Nat → Nat} (h : Ech p n B ld) : ∀ j, j < B.length → j ≤ ld j := by
  intro j
  induction j with
  | zero => intro _; omega
  | succ j ih =>
    intro hj
    have h1 := ih (by omega)
    have h2 := h.srt j (j + 1) (by omega) hj
    omega
theorem Ech.le {p : Int} {n : Nat} {B : List (List Int)} {ld : Nat → Nat} (h : Ech p n B ld) : B.length ≤ n := by
  by_cases h0 : B.length = 0
  · omega
  · have h1 := h.ge (B.length - 1) (by omega)
    have h2 := h.lt (B.length - 1) (by omega)
    omega
def isLd (k : Nat) (ld : Nat → Nat) (q : Nat) : Bool := (List.range k).any fun j => decide (ld j = q)
theorem isLd_iff {k : Nat} {ld : Nat → Nat} {q : Nat} : isLd k ld q = true ↔ ∃ j, j < k ∧ ld j = q := by
  unfold isLd
  simp only [List.any_eq_true, List.mem_range, decide_eq_true_eq]
theorem isLd_not {k : Nat} {ld : Nat → Nat} {q : Nat} (h : isLd k ld q = false) {j : Nat} (hj : j < k) : ld j ≠ q := by
  intro e
  have := isLd_iff.2 ⟨j, hj, e⟩
  rw [h] at this; exact Bool.noConfusion this
/-- The row that a lead's place belongs to. -/
def rowOf (ld : Nat → Nat) (q : Nat) : Nat → Nat
  | 0 => 0
  | k + 1 => if ld k = q then k else rowOf ld q k
theorem rowOf_spec {ld : Nat → Nat} {q : Nat} : ∀ {k : Nat}, (∃ j, j < k ∧ ld j = q) → rowOf ld q k < k ∧ ld (rowOf ld q k) = q
  | 0, ⟨j, h, _⟩ => by omega
  | k + 1, ⟨j, h, e⟩ => by
    unfold rowOf
    by_cases hk : ld k = q
    · rw [if_pos hk]; exact ⟨by omega, hk⟩
    · rw [if_neg hk]
      have hj : j < k := by
        rcases Nat.lt_succ_iff_lt_or_eq.1 h with h | h
        · exact h
        · rw [h] at e; exact absurd e hk
      have := rowOf_spec ⟨j, hj, e⟩
      exact ⟨by omega, this.2⟩
theorem Ech.inj {p : Int} {n : Nat} {B : List (List Int)} {ld : Nat → Nat} (h : Ech p n B ld) {i j : Nat} (hi : i < B.length) (hj : j < B.length) (e : ld i = ld j) : i = j := by
  rcases Nat.lt_trichotomy i j with h1 | h1 | h1
  · have := h.srt i j h1 hj; omega
  · exact h1
  · have := h.srt j i h1 hi; omega
/-- What a place f without a lead gives: 1 at f, and at each lead what its row needs. -/
def freeF (B : List (List Int)) (ld : Nat → Nat) (f : Nat) (q : Nat) : Int :=
  if q = f then 1 else if isLd B.length ld q = true then - gI (gR B (rowOf ld q B.length)) f else 0
theorem freeF_lead {p : Int} {n f j : Nat} {B : List (List Int)} {ld : Nat → Nat} (h : Ech p n B ld) (hf : isLd B.length ld f = false) (hj : j < B.length) : freeF B ld f (ld j) = - gI (gR B j) f := by
  unfold freeF
  have e : isLd B.length ld (ld j) = true := isLd_iff.2 ⟨j, hj, rfl⟩
  rw [if_neg (isLd_not hf hj), if_pos e]
  obtain ⟨h1, h2⟩ := rowOf_spec (isLd_iff.1 e)
  rw [h.inj h1 hj h2]
theorem freeF_other {f q : Nat} {B : List (List Int)} {ld : Nat → Nat} (hq : isLd B.length ld q = false) (hne : q ≠ f) : freeF B ld f q = 0 := by
  unfold freeF
  rw [if_neg hne, hq]; rfl
theorem sumN_two {f : Nat → Int} {n i k : Nat} (hi : i < n) (hk : k < n) (hne : i ≠ k) (h : ∀ q, q < n → q ≠ i → q ≠ k → f q = 0) : sumN f n = f i + f k := by
  have e : sumN f n = sumN (fun q => if q = i then f i else if q = i then 0 else f q) n := sumN_congr fun q _ => by
    by_cases h : q = i
    · rw [if_pos h, h]
    · rw [if_neg h, if_neg h]
  have e2 : sumN (fun q => if q = i then 0 else f q) n = f k := by
    rw [sumN_one hk (fun q hq hqk => by
      try simp only []
      by_cases h1 : q = i
      · rw [if_pos h1]
      · rw [if_neg h1]; exact h q hq h1 hqk)]
    rw [if_neg (by omega)]
  have e3 := sumN_upd (fun q => if q = i then 0 else f q) i (f i) n hi (by simp)
  have e4 : sumN f n = sumN (fun q => if q = i then f i else (fun q => if q = i then 0 else f q) q) n := e
  rw [e4, e3, e2]; omega
theorem freeF_ker {p : Int} {n f : Nat} {B : List (List Int)} {ld : Nat → Nat} (h : Ech p n B ld) (hf : isLd B.length ld f = false) (hfn : f < n) : Kr p n B (freeF B ld f) := by
  intro j hj
  have : rd n (gR B j) (freeF B ld f) = 0 := by
    unfold rd
    rw [sumN_two (i := ld j) (k := f) (h.lt j hj) hfn (isLd_not hf hj) (fun q hq h1 h2 => ?_)]
    · rw [freeF_lead h hf hj, h.one j hj]
      have : freeF B ld f f = 1 := by unfold freeF; rw [if_pos rfl]
      rw [this]; omega
    · try simp only []
      cases e : isLd B.length ld q with
      | false => rw [freeF_other e h2, Int.mul_zero]
      | true =>
        obtain ⟨i, hi, he⟩ := isLd_iff.1 e
        rw [← he, h.col i hi j hj (fun e2 => h1 (by rw [← he, e2])), Int.zero_mul]
  rw [this]; exact Int.dvd_zero p
theorem rd_tail {p : Int} {n f : Nat} {v : List Int} {u : Nat → Int} (hf : f < n) (hpre : ∀ q, q < f → gI v q = 0) (h1 : gI v f = 1) (hu : ∀ q, f < q → q < n → u q = 0) : rd n v u = u f := by
  unfold rd
  rw [sumN_one hf (fun q hq hqf => ?_)]
  · rw [h1, Int.one_mul]
  · by_cases h : q < f
    · rw [hpre q h, Int.zero_mul]
    · rw [hu q (by omega) hq, Int.mul_zero]
/-- A place has no lead just where something is sent to nothing that ends there. -/
theorem Ech.free_iff {p : Int} {n f : Nat} {B : List (List Int)} {ld : Nat → Nat} (hp : 1 < p) (h : Ech p n B ld) (hf : f < n) : isLd B.length ld f = false ↔ ∃ u : Nat → Int, u f = 1 ∧ (∀ q, f < q → q < n → u q = 0) ∧ Kr p n B u := by
  constructor
  · intro e
    refine ⟨freeF B ld f, by unfold freeF; rw [if_pos rfl], fun q hq hqn => ?_, freeF_ker h e hf⟩
    cases e2 : isLd B.length ld q with
    | false => exact freeF_other e2 (by omega)
    | true =>
      obtain ⟨i, hi, he⟩ := isLd_iff.1 e2
      rw [← he, freeF_lead h e hi, h.pre i hi f (by omega)]; rfl
  · intro ⟨u, u1, u2, u3⟩
    cases e : isLd B.length ld f with
    | false => rfl
    | true =>
      obtain ⟨i, hi, he⟩ := isLd_iff.1 e
      have h1 := u3 i hi
      subst he
      rw [rd_tail (p := p) hf (h.pre i hi) (h.one i hi) u2, u1, Int.dvd_iff_emod_eq_zero, Int.emod_eq_of_lt (by omega) (by omega)] at h1
      omega
theorem rises_unique {a b : Nat → Nat} {k l : Nat} (ha : ∀ i j, i < j → j < k → a i < a j) (hb : ∀ i j, i < j → j < l → b i < b j) (hab : ∀ j, j < k → ∃ i, i < l ∧ b i = a j) (hba : ∀ j, j < l → ∃ i, i < k ∧ a i = b j) : k = l ∧ ∀ j, j < k → a j = b j := by
  have key : ∀ j, j < k → j < l → a j = b j := by
    intro j
    induction j using Nat.strongRecOn with
    | ind j ih =>
      intro hk hl
      obtain ⟨i, hi, e⟩ := hab j hk
      obtain ⟨i', hi', e'⟩ := hba j hl
      have h1 : j ≤ i := by
        rcases Nat.lt_or_ge i j with h | h
        · have := ih i h (by omega) hi
          have := ha i j h hk
          omega
        · exact h
      have h2 : j ≤ i' := by
        rcases Nat.lt_or_ge i' j with h | h
        · have := ih i' h hi' (by omega)
          have := hb i' j h hl
          omega
        · exact h
      have h3 : b j ≤ b i := by
        rcases Nat.lt_or_ge j i with h | h
        · have := hb j i h hi; omega
        · have : j = i := by omega
          rw [this]; exact Nat.le_refl _
      have h4 : a j ≤ a i' := by
        rcases Nat.lt_or_ge j i' with h | h
        · have := ha j i' h hi'; omega
        · have : j = i' := by omega
          rw [this]; exact Nat.le_refl _
      omega
  have hkl : k = l := by
    rcases Nat.lt_trichotomy k l with h | h | h
    · obtain ⟨i, hi, e⟩ := hba k h
      have := key i hi (by omega)
      have := hb i k hi h
      omega
    · exact h
    · obtain ⟨i, hi, e⟩ := hab l h
      have := key i (by omega) hi
      have := ha i l hi h
      omega
  exact ⟨hkl, fun j hj => key j hj (by omega)⟩
/-- Reduced rows in order are told by what they send to nothing. -/
theorem Ech.unique {p : Int} {n : Nat} {B B' : List (List Int)} {ld ld' : Nat → Nat} (hp : 1 < p) (h : Ech p n B ld) (h' : Ech p n B' ld') (hk : ∀ u, Kr p n B u ↔ Kr p n B' u) : B = B' := by
  have hfr : ∀ f, f < n → isLd B.length ld f = isLd B'.length ld' f := by
    intro f hf
    have h1 := h.free_iff hp hf
    have h2 := h'.free_iff hp hf
    have h3 : isLd B.length ld f = false ↔ isLd B'.length ld' f = false := by
      rw [h1, h2]
      exact ⟨fun ⟨u, a, b, c⟩ => ⟨u, a, b, (hk u).1 c⟩, fun ⟨u, a, b, c⟩ => ⟨u, a, b, (hk u).2 c⟩⟩
    cases e1 : isLd B.length ld f <;> cases e2 : isLd B'.length ld' f <;> simp [e1, e2] at h3 ⊢
  obtain ⟨hl, hld⟩ := rises_unique (a := ld) (b := ld') (k := B.length) (l := B'.length) h.srt h'.srt
    (fun j hj => isLd_iff.1 ((hfr (ld j) (h.lt j hj)) ▸ isLd_iff.2 ⟨j, hj, rfl⟩))
    (fun j hj => isLd_iff.1 ((hfr (ld' j) (h'.lt j hj)).symm ▸ isLd_iff.2 ⟨j, hj, rfl⟩))
  have hrow : ∀ j, j < B.length → gR B j = gR B' j := by
    intro j hj
    have hj' : j < B'.length := by omega
    have a1 := h.mat.row hj
    have a2 := h'.mat.row hj'
    have ext : ∀ q, q < n → gI (gR B j) q = gI (gR B' j) q := by
      intro q hq
      cases e : isLd B.length ld q with
      | true =>
        obtain ⟨i, hi, he⟩ := isLd_iff.1 e
        by_cases hij : i = j
        · subst hij
          rw [← he, h.one i hi, hld i hi, h'.one i hj']
        · rw [← he, h.col i hi j hj (fun e => hij e.symm), hld i hi, h'.col i (by omega) j hj' (fun e => hij e.symm)]
      | false =>
        have hk1 := (hk _).1 (freeF_ker h e hq) j hj'
        have e' : isLd B'.length ld' q = false := by rw [← hfr q hq]; exact e
        have hs : rd n (gR B' j) (freeF B ld q) = gI (gR B' j) q - gI (gR B j) q := by
          unfold rd
          rw [sumN_two (i := ld j) (k := q) (h.lt j hj) hq (isLd_not e hj) (fun r hr h1 h2 => ?_)]
          · rw [freeF_lead h e hj]
            have hqq : freeF B ld q q = 1 := by unfold freeF; rw [if_pos rfl]
            rw [hqq, hld j hj, h'.one j hj']; omega
          · try simp only []
            cases er : isLd B.length ld r with
            | false => rw [freeF_other er h2, Int.mul_zero]
            | true =>
              obtain ⟨i, hi, he⟩ := isLd_iff.1 er
              rw [← he, hld i hi, h'.col i (by omega) j hj' (fun e2 => h1 (by rw [← he, e2])), Int.zero_mul]
        rw [hs] at hk1
        have b1 := a1.get hq
        have b2 := a2.get hq
        exact (num_eq b2 b1 hk1).symm
    rw [extI a1.1 (f := gI (gR B' j)) ext]
    exact (extI a2.1 (f := gI (gR B' j)) (fun q hq => rfl)).symm
  have e1 := extR (m := B) (n := B.length) (f := gR B') rfl hrow
  have e2 := extR (m := B') (n := B.length) (f := gR B') hl.symm (fun k hk => rfl)
  rw [e1]; exact e2.symm
end Go.Vam

/- Plain laws: both programs' reduced bases are reduced rows in order, and send the same to nothing. -/
namespace Go.Vam
open Go Go.RowKit
set_option linter.unusedSimpArgs false
set_option linter.unusedVariables false
set_option linter.unusedSectionVars false

structure RedK (r c : Nat) (m : List (List Int)) (d k : Nat) (piv : Nat → Nat) : Prop where
  red : Red r c m d piv
  plt : ∀ j, j < d → piv j < k
  pre : ∀ j, j < d → ∀ q, q < piv j → gI (gR m j) q = 0
  srt : ∀ i j, i < j → j < d → piv i < piv j
  low : ∀ i, d ≤ i → i < r → ∀ q, q < k → gI (gR m i) q = 0
theorem RedK.skip {r c d k : Nat} {m : List (List Int)} {piv : Nat → Nat} (h : RedK r c m d k piv) (h0 : ∀ i, d ≤ i → i < r → gI (gR m i) k = 0) : RedK r c m d (k + 1) piv :=
  ⟨h.red, fun j hj => Nat.lt_succ_of_lt (h.plt j hj), h.pre, h.srt, fun i h1 h2 q hq => (Nat.lt_succ_iff_lt_or_eq.1 hq).elim (h.low i h1 h2 q) (fun e => e ▸ h0 i h1 h2)⟩
section
variable {p : Int} {r c k d x : Nat} {m : List (List Int)} {piv : Nat → Nat} {R : List Int} (hP : isP p = true) (hm : Mat p r c m) (hk : k < c) (hd : d < r) (hdx : d ≤ x) (hx : x < r)
  (hne : gI (gR m x) k ≠ 0) (hRe : R = scalev p c (gR m x) (invp p (gI (gR m x) k)))
include hP hm hk hd hdx hx hne hRe
theorem clrm_row (i : Nat) (hi : i < r) : gR (clrm p r c k d R ((m.set x (gR m d)).set d R)) i = if i = d then R else clr p c k R (if i = x then gR m d else gR m i) := by
  have e1 := hm.1
  unfold clrm
  rw [gR_vecN _ hi]
  by_cases hid : i = d
  · rw [if_pos hid, if_pos hid]
  · rw [if_neg hid, if_neg hid, gR_set (by rw [List.length_set]; omega), if_neg (by omega), gR_set (by omega)]
    by_cases hix : i = x
    · rw [if_pos hix.symm, if_pos hix]
    · rw [if_neg (fun e => hix e.symm), if_neg hix]
theorem clrm_ker (u : Nat → Int) : KerP p r c (clrm p r c k d R ((m.set x (gR m d)).set d R)) u ↔ KerP p r c m u := by
  have hp := isP_le hP
  have e4 := (hm.row hx).get hk
  obtain ⟨i1, i2, i3⟩ := inv_facts (a := gI (gR m x) k) hP (by omega) e4.2
  have hR : p ∣ rd c R u ↔ p ∣ rd c (gR m x) u := by
    rw [hRe, dvd_congr (rd_scalev u), prime_dvd hP]
    refine ⟨fun h => h.resolve_left fun h => ?_, .inr⟩
    rw [num_dvd ⟨by omega, i2⟩] at h; omega
  have hC : ∀ v, p ∣ rd c R u → (p ∣ rd c (clr p c k R v) u ↔ p ∣ rd c v u) := by
    intro v hu
    unfold clr
    rw [dvd_congr (rd_plusv u)]
    exact Int.dvd_add_left (Int.dvd_mul_of_dvd_right hu)
  have row := clrm_row hP hm hk hd hdx hx hne hRe
  constructor
  · intro h
    have hRu : p ∣ rd c R u := by
      have := h d hd
      rwa [row d hd, if_pos rfl] at this
    intro i hi
    by_cases hix : i = x
    · rw [hix]; exact hR.1 hRu
    · by_cases hid : i = d
      · have := h x hx
        rw [row x hx, if_neg (by omega), if_pos rfl, hC _ hRu] at this
        rw [hid]; exact this
      · have := h i hi
        rw [row i hi, if_neg hid, if_neg hix, hC _ hRu] at this
        exact this
  · intro h
    have hRu := hR.2 (h x hx)
    intro i hi
    rw [row i hi]
    split
    · exact hRu
    · rw [hC _ hRu]
      split
      · exact h d hd
      · exact h i hi
theorem RedK.step (h : RedK r c m d k piv) : RedK r c (clrm p r c k d R ((m.set x (gR m d)).set d R)) (d + 1) (k + 1) (fun j => if j = d then k else piv j) := by
  have hp := isP_le hP
  have row := clrm_row hP hm hk hd hdx hx hne hRe
  have e4 := (hm.row hx).get hk
  obtain ⟨i1, i2, i3⟩ := inv_facts (a := gI (gR m x) k) hP (by omega) e4.2
  have hR0 : ∀ q, q < k → gI R q = 0 := by
    intro q hq
    rw [hRe]; unfold scalev
    rw [gI_vecN _ (by omega), h.low x hdx hx q hq]; simp
  have hent : ∀ v q, q < k → gI v q = 0 → gI (clr p c k R v) q = 0 := by
    intro v q hq hv
    unfold clr plusv
    rw [gI_vecN _ (by omega), hv, hR0 q hq]; simp
  refine ⟨h.red.step hP hm hk hd hdx hx hne hRe, fun j hj => ?_, fun j hj q hq => ?_, fun i j hij hj => ?_, fun i h1 h2 q hq => ?_⟩
  · try simp only []
    split
    · omega
    · have := h.plt j (by omega); omega
  · try simp only [] at hq
    rw [row j (by omega)]
    by_cases hjd : j = d
    · rw [if_pos hjd] at hq ⊢; exact hR0 q hq
    · rw [if_neg hjd] at hq ⊢
      have h3 := h.plt j (by omega)
      rw [if_neg (by omega)]
      exact hent _ q (by omega) (h.pre j (by omega) q hq)
  · try simp only []
    rw [if_neg (show ¬ i = d by omega)]
    split
    · exact h.plt i (by omega)
    · exact h.srt i j hij (by omega)
  · rw [row i h2, if_neg (by omega)]
    by_cases hqk : q < k
    · refine hent _ q hqk ?_
      split
      · exact h.low d (Nat.le_refl _) hd q hqk
      · exact h.low i (by omega) h2 q hqk
    · have hqe : q = k := by omega
      subst hqe
      have hRk : gI R q = 1 := by rw [hRe]; unfold scalev; rw [gI_vecN _ hk, i3]
      unfold clr plusv
      rw [gI_vecN _ hk, hRk, Int.mul_one]
      generalize gI (if i = x then gR m d else gR m i) q = e
      rw [Int.add_emod, Int.emod_emod_of_dvd _ (Int.dvd_refl p), ← Int.add_emod]
      have : e + (p - e) = p := by omega
      rw [this, Int.emod_self]
end
section
variable {p : Int} {r c : Nat} (hP : isP p = true) (hr0 : 0 < r) (hr : r ≤ 1048576) (hc : c ≤ 1048576)
include hP hr0 hr hc
theorem basis_two2 {m : List (List Int)} (hm : Mat p r c m) :
    ∃ b, loop (s_l02Basis_L0 p) BIG (m, 0, 0) = some b ∧ loop (i_field_basis_L0 p) BIG (m, 0, 0) = some b ∧ (Mat p r c b.1 ∧ (∀ u, KerP p r c b.1 u ↔ KerP p r c m u) ∧ ∃ d k : Nat, b.2 = (d : Int) ∧ d ≤ r ∧ (d < r → k = c) ∧ k ≤ c ∧ ∃ piv, RedK r c b.1 d k piv) := by
  have hp := isP_le hP
  generalize hM0 : m = M0
  rw [hM0] at hm
  refine loop_two' (fun s => Mat p r c s.1 ∧ (∀ u, KerP p r c s.1 u ↔ KerP p r c M0 u) ∧ ∃ d k : Nat, s.2 = ((d : Int), (k : Int)) ∧ d ≤ r ∧ k ≤ c ∧ ∃ piv, RedK r c s.1 d k piv) (fun s => c - s.2.2.toNat) _ ⟨hm, fun _ => Iff.rfl, 0, 0, rfl, by omega, by omega, fun _ => 0, ⟨fun j hj => by omega, fun j hj => by omega, fun j hj => by omega, fun i j _ hj => by omega, fun i _ _ q hq => by omega⟩⟩ (by rw [BIG_val]; simp only []; omega) ?_
  rintro ⟨m, t⟩ ⟨hm, hker, d, k, rfl, hd, hk, piv, hred⟩
  try simp only [] at hm hred hker
  have e1 := hm.1
  have e2 := (hm.row hr0).1
  by_cases hkc : k < c
  · by_cases hdr : d < r
    · refine .inl ?_
      obtain ⟨b, h1, x, rfl, h2, h3, h4, h0⟩ := find_eq2 hm (k := k) (s := d) hr hkc hd
      have l1 : s_l02Basis_L1 (m, (d : Int), (k : Int)) = findStep m (k : Int) := rfl
      have l2 : i_field_basis_L1 (m, (d : Int), (k : Int)) = findStep m (k : Int) := rfl
      unfold s_l02Basis_L0 i_field_basis_L0
      simp only [show (0 : Int) < (m.length : Int) by omega, if_true, idxR0 (show 0 < m.length by omega), some_bind, show (k : Int) < ((gR m 0).length : Int) by omega, ilt_true (show (k : Int) < ((gR m 0).length : Int) by omega), ilt_true (show (d : Int) < (m.length : Int) by omega), l1, l2, h1]
      by_cases hx : x = r
      · have hx' : (x : Int) = (m.length : Int) := by omega
        simp only [hx', if_true, some_bind]
        refine ⟨_, rfl, rfl, ⟨hm, hker, d, k + 1, ?_, hd, by omega, piv, hred.skip fun i hi1 hi2 => h0 i hi1 (by omega)⟩, ?_⟩
        · rw [w_in (by omega) (by omega)]; rfl
        · rw [w_in (by omega) (by omega)]; simp only []; omega
      · have hx' : ¬ (x : Int) = (m.length : Int) := by omega
        have hxr : x < r := by omega
        have hne := h4 hxr
        have e3 := (hm.row hxr).1
        have e4 := (hm.row hxr).get hkc
        have e5 := (hm.row hdr).1
        obtain ⟨i1, i2, i3⟩ := inv_facts (a := gI (gR m x) k) hP (by omega) e4.2
        have f1 := s_l01Inv_eq (a := gI (gR m x) k) hP (by omega) e4.2
        have f2 := i_field_inv_eq (a := gI (gR m x) k) hP (by omega) e4.2
        have f3 := s_l02Scale_eq (p := p) (n := c) (a := gR m x) (k := invp p (gI (gR m x) k)) (by omega) (by omega) hc (by omega) (by omega) (hm.row hxr)
        have f4 := i_field_scaled_eq (p := p) (n := c) (a := gR m x) (k := invp p (gI (gR m x) k)) (by omega) (by omega) hc (by omega) (hm.row hxr)
        have hV := scalev_vec (p := p) (by omega) c (gR m x) (invp p (gI (gR m x) k))
        generalize hVe : scalev p c (gR m x) (invp p (gI (gR m x) k)) = V at f3 f4 hV
        have hrs := hred.step hP hm hkc hdr h2 hxr hne hVe.symm
        have hks := fun u => (clrm_ker hP hm hkc hdr h2 hxr hne hVe.symm u).trans (hker u)
        have g1 : gR ((m.set d (gR m x)).set x (gR m d)) d = gR m x := by
          rw [gR_set (by rw [List.length_set]; omega)]
          split
          · rename_i h; rw [h]
          · rw [gR_set (by omega), if_pos rfl]
        have g2 : ((m.set d (gR m x)).set x (gR m d)).set d V = (m.set x (gR m d)).set d V := by
          by_cases hxd : d = x
          · subst hxd; simp [List.set_set]
          · rw [List.set_comm _ _ hxd, List.set_set]
        have hM := (hm.set hxr (hm.row hdr)).set hdr hV
        have g3 : gR ((m.set x (gR m d)).set d V) d = V := by rw [gR_set (by rw [List.length_set]; omega), if_pos rfl]
        obtain ⟨y1, y2⟩ := basis_clear (p := p) (r := r) (c := c) (l := (m.set d (gR m x)).set x (gR m d)) (d := d) (k := k) hP hr hc hkc hdr m hV (by simp [e1]) hM g3
        simp only [hx', if_false, idxR (show x < m.length by omega), idxR (show d < m.length by omega), some_bind, idxI (show k < (gR m x).length by omega), f1, f2, f3, f4, Int.toNat_natCast,
          idxR (show d < (m.set x (gR m d)).length by rw [List.length_set]; omega), idxR (show x < (m.set d (gR m x)).length by rw [List.length_set]; omega), idxR (show d < ((m.set d (gR m x)).set x (gR m d)).length by rw [List.length_set, List.length_set]; omega), g1, g2, y1, y2]
        refine ⟨_, rfl, rfl, ⟨clrm_mat (by omega) hV, hks, d + 1, k + 1, ?_, by omega, by omega, _, hrs⟩, ?_⟩
        · rw [w_in (by omega) (by omega), w_in (by omega) (by omega)]; rfl
        · rw [w_in (by omega) (by omega), w_in (by omega) (by omega)]; simp only []; omega
    · have hdd : d = r := by omega
      subst hdd
      refine .inr ⟨(m, (d : Int)), fun n hn => basis_idle hr0 hr hc hm n k hk (by simpa using hn), ?_, hm, hker, d, k, rfl, by omega, fun h => by omega, hk, piv, hred⟩
      unfold i_field_basis_L0
      simp only [show (0 : Int) < (m.length : Int) by omega, if_true, idxR0 (show 0 < m.length by omega), some_bind, show (k : Int) < ((gR m 0).length : Int) by omega, ilt_false (show ¬ (d : Int) < (m.length : Int) by omega), Bool.false_eq_true, if_false]
  · refine .inr ⟨(m, (d : Int)), fun n hn => ?_, ?_, hm, hker, d, k, rfl, by omega, fun _ => by omega, hk, piv, hred⟩
    · cases n with
      | zero => omega
      | succ n =>
        rw [loop_succ]
        have : s_l02Basis_L0 p (m, (d : Int), (k : Int)) = some (.inr (m, (d : Int))) := by
          unfold s_l02Basis_L0
          simp only [show (0 : Int) < (m.length : Int) by omega, if_true, idxR0 (show 0 < m.length by omega), some_bind, ilt_false (show ¬ (k : Int) < ((gR m 0).length : Int) by omega), Bool.false_eq_true, if_false]
        rw [this]
    · unfold i_field_basis_L0
      simp only [show (0 : Int) < (m.length : Int) by omega, if_true, idxR0 (show 0 < m.length by omega), some_bind, show ¬ (k : Int) < ((gR m 0).length : Int) by omega, Bool.false_eq_true, if_false]

theorem Basis_full {m : List (List Int)} (hm : Mat p r c m) : ∃ b, s_l02Basis p m = some b ∧ i_field_basis p m = some b ∧ b.length ≤ r ∧ (∃ ld, Ech p c b ld) ∧ ∀ u, Kr p c b u ↔ KerP p r c m u := by
  have hz := hm.sz hr hc
  obtain ⟨b, h1, h2, h3, hk, d, k, h4, h5, h7, h8, piv, h6⟩ := basis_two2 hP hr0 hr hc hm
  have hl := h3.1
  have hg : ∀ i, i < d → gR (b.1.take d) i = gR b.1 i := by
    intro i hi
    unfold gR
    rw [List.getD_eq_getElem?_getD, List.getD_eq_getElem?_getD, List.getElem?_take_of_lt hi]
  have hd : (b.1.take d).length = d := by rw [List.length_take]; omega
  refine ⟨b.1.take d, ?_, ?_, by omega, ⟨piv, ?_⟩, fun u => ?_⟩
  · unfold s_l02Basis
    rw [s_l01Own2_eq hz, some_bind, h1, some_bind, h4, chk_bind (by omega)]; rfl
  · unfold i_field_basis
    rw [i_cloneRows_eq hz, some_bind, h2, some_bind, h4, chk_bind (by omega)]; rfl
  · constructor
    · rw [hd]
      refine ⟨hd, fun i hi => ?_⟩
      rw [hg i hi]
      exact h3.2 i (by omega)
    · rw [hd]; exact fun j hj => (h6.red j hj).1
    · rw [hd]; intro j hj; rw [hg j hj]; exact (h6.red j hj).2.1
    · rw [hd]; intro j hj q hq; rw [hg j hj]; exact h6.pre j hj q hq
    · rw [hd]; intro j hj i hi hij; rw [hg i hi]; exact (h6.red j hj).2.2 i (by omega) hij
    · rw [hd]; exact h6.srt
  · rw [← hk u]
    unfold Kr KerP
    rw [hd]
    constructor
    · intro h i hi
      by_cases hid : i < d
      · have := h i hid; rwa [hg i hid] at this
      · have hkc := h7 (by omega)
        have : rd c (gR b.1 i) u = 0 := by
          unfold rd
          rw [sumN_congr (g := fun _ => 0) (fun q hq => by rw [h6.low i (by omega) hi q (by omega), Int.zero_mul])]
          exact sumN_zero c
        rw [this]; exact Int.dvd_zero p
    · intro h i hi
      rw [hg i hi]; exact h i (by omega)
end
end Go.Vam

/- Plain laws: rows reduced one at a time; IsAutomorphism. -/
namespace Go.Vam
open Go Go.RowKit
set_option linter.unusedSimpArgs false
set_option linter.unusedVariables false
set_option linter.unusedSectionVars false

section
variable {p : Int} {n : Nat} (hP : isP p = true) (hn : n ≤ 1048000)
include hP hn
end

section
variable {p : Int} {w : List Int} {m : List (List Int)} (hP : isP p = true) (hl : w.length ≤ 4) (hw : Vec p w.length w) (hm : Mat p (2 ^ w.length) (2 ^ w.length) m)
include hP hl hw hm
end
end Go.Vam

/- Plain laws: kernels; both programs make the same reduced basis of what a table sends to nothing. -/
namespace Go.Vam
open Go Go.RowKit
set_option linter.unusedSimpArgs false
set_option linter.unusedVariables false
set_option linter.unusedSectionVars false

theorem basis_nil (p : Int) : s_l02Basis p [] = some [] ∧ i_field_basis p [] = some [] := by
  constructor
  · unfold s_l02Basis
    rw [s_l01Own2_eq ⟨by simp, by simp⟩, some_bind]
    have : loop (s_l02Basis_L0 p) BIG ([], 0, 0) = some ([], 0) := by
      rw [show BIG = (BIG - 1) + 1 from rfl, loop_succ]
      have : s_l02Basis_L0 p ([], 0, 0) = some (.inr ([], 0)) := by
        unfold s_l02Basis_L0
        simp
      rw [this]
    rw [this, some_bind]
    simp [chk]
  · unfold i_field_basis
    rw [i_cloneRows_eq ⟨by simp, by simp⟩, some_bind]
    have : loop (i_field_basis_L0 p) BIG ([], 0, 0) = some ([], 0) := by
      rw [show BIG = (BIG - 1) + 1 from rfl, loop_succ]
      have : i_field_basis_L0 p ([], 0, 0) = some (.inr ([], 0)) := by
        unfold i_field_basis_L0
        simp
      rw [this]
    rw [this, some_bind]
    simp [chk]
theorem Ech.nil (p : Int) (n : Nat) : Ech p n [] (fun _ => 0) :=
  ⟨⟨rfl, fun i hi => by simp at hi⟩, fun j hj => by simp at hj, fun j hj => by simp at hj, fun j hj => by simp at hj, fun j hj => by simp at hj, fun i j _ hj => by simp at hj⟩
theorem i_basis_any {p : Int} {r c : Nat} {m : List (List Int)} (hP : isP p = true) (hr : r ≤ 1048576) (hc : c ≤ 1048576) (hm : Mat p r c m) :
    ∃ b, s_l02Basis p m = some b ∧ i_field_basis p m = some b ∧ b.length ≤ r ∧ (∃ ld, Ech p c b ld) ∧ ∀ u, Kr p c b u ↔ KerP p r c m u := by
  by_cases h0 : r = 0
  · subst h0
    have : m = [] := List.eq_nil_of_length_eq_zero hm.1
    subst this
    exact ⟨[], (basis_nil p).1, (basis_nil p).2, by simp, ⟨_, Ech.nil p c⟩, fun u => ⟨fun _ i hi => by omega, fun _ j hj => by simp at hj⟩⟩
  · exact Basis_full hP (by omega) hr hc hm

section
variable {p : Int} {n : Nat} {B : List (List Int)} {ld : Nat → Nat} (hP : isP p = true) (hn : n ≤ 1048000) (hB : Ech p n B ld)
include hP hn hB
end
end Go.Vam

/- Plain law: the reduced rows that a table sends to nothing. -/
namespace Go.Vam
open Go Go.RowKit
set_option linter.unusedSimpArgs false
set_option linter.unusedVariables false
set_option linter.unusedSectionVars false

section
variable {p : Int} {n : Nat} {B : List (List Int)} {ld : Nat → Nat} (hP : isP p = true) (hn : n ≤ 1048000) (hB : Ech p n B ld)
include hP hn hB
end
end Go.Vam

/- Plain laws: ranks, kernels and how many vectors they have. -/
namespace Go.Vam
open Go Go.RowKit
set_option linter.unusedSimpArgs false
set_option linter.unusedVariables false
set_option linter.unusedSectionVars false

theorem sumN_add (f g : Nat → Int) (n : Nat) : sumN (fun q => f q + g q) n = sumN f n + sumN g n := by
  have := sumN_lin f g 1 n
  simp only [Int.one_mul] at this
  exact this
theorem sumN_mulL (k : Int) (f : Nat → Int) (n : Nat) : sumN (fun q => k * f q) n = k * sumN f n := by
  have := sumN_lin (fun _ => 0) f k n
  simp only [Int.zero_add, sumN_zero] at this
  exact this
theorem sumN_mulR (k : Int) (f : Nat → Int) (n : Nat) : sumN (fun q => f q * k) n = sumN f n * k := by
  rw [Int.mul_comm, ← sumN_mulL]
  exact sumN_congr fun q _ => Int.mul_comm _ _
theorem sumN_comm (f : Nat → Nat → Int) (m : Nat) : ∀ n, sumN (fun i => sumN (fun j => f i j) m) n = sumN (fun j => sumN (fun i => f i j) n) m
  | 0 => by simp only [sumN]; rw [sumN_zero]
  | n + 1 => by
    simp only [sumN]
    rw [sumN_add, sumN_comm f m n]
theorem sumN_dvd {p : Int} {f : Nat → Int} : ∀ {n : Nat}, (∀ k, k < n → p ∣ f k) → p ∣ sumN f n
  | 0, _ => Int.dvd_zero p
  | n + 1, h => by
    simp only [sumN]
    exact Int.dvd_add (sumN_dvd fun k hk => h k (by omega)) (h n (by omega))
theorem sumN_sub (f g : Nat → Int) (n : Nat) : sumN (fun q => f q - g q) n = sumN f n - sumN g n := by
  have := sumN_lin f g (-1) n
  have e : sumN (fun q => f q - g q) n = sumN (fun q => f q + -1 * g q) n := sumN_congr fun q _ => by omega
  rw [e, this]; omega
theorem dvd_of_sub {p a b : Int} (h1 : p ∣ a - b) (h2 : p ∣ b) : p ∣ a := by
  have := Int.dvd_add h1 h2
  rwa [show a - b + b = a by omega] at this
section
variable {p : Int} {n : Nat} {B : List (List Int)} {ld : Nat → Nat} (h : Ech p n B ld)
include h
theorem Ech.at_lead (g : Nat → Int) (q : Nat) : sumN (fun j => if ld j = q then g j else 0) B.length = if isLd B.length ld q = true then g (rowOf ld q B.length) else 0 := by
  by_cases hq : isLd B.length ld q = true
  · rw [if_pos hq]
    obtain ⟨a1, a2⟩ := rowOf_spec (isLd_iff.1 hq)
    rw [sumN_one a1 (fun j hj hne => if_neg fun e => hne (h.inj hj a1 (by rw [e, a2]))), if_pos a2]
  · rw [if_neg hq, sumN_congr (g := fun _ => 0) fun j hj => if_neg fun e => hq (isLd_iff.2 ⟨j, hj, e⟩)]
    exact sumN_zero _
/-- A sum over all places: those without a lead, and the leads. -/
theorem Ech.split (g : Nat → Int) : sumN g n = sumN (fun q => if isLd B.length ld q = true then 0 else g q) n + sumN (fun j => g (ld j)) B.length := by
  have e1 : sumN (fun j => g (ld j)) B.length = sumN (fun j => sumN (fun q => if ld j = q then g q else 0) n) B.length :=
    sumN_congr fun j hj => by rw [sumN_one (h.lt j hj) (fun q _ hq => if_neg fun e => hq e.symm), if_pos rfl]
  rw [e1, sumN_comm, ← sumN_add]
  refine sumN_congr fun q hq => ?_
  have e2 : sumN (fun j => if ld j = q then g q else 0) B.length = if isLd B.length ld q = true then g q else 0 := h.at_lead (fun _ => g q) q
  rw [e2]
  split <;> omega
theorem freeF_rd {f : Nat} (hf : isLd B.length ld f = false) (hfn : f < n) (y : Nat → Int) : sumN (fun q => freeF B ld f q * y q) n = y f - sumN (fun j => gI (gR B j) f * y (ld j)) B.length := by
  rw [h.split]
  have e1 : sumN (fun q => if isLd B.length ld q = true then 0 else freeF B ld f q * y q) n = y f := by
    rw [sumN_one hfn (fun q hq hqf => by
      cases e : isLd B.length ld q with
      | true => rfl
      | false => rw [freeF_other e hqf]; simp), hf]
    unfold freeF
    simp
  have e2 : sumN (fun j => freeF B ld f (ld j) * y (ld j)) B.length = - sumN (fun j => gI (gR B j) f * y (ld j)) B.length := by
    have : sumN (fun j => freeF B ld f (ld j) * y (ld j)) B.length = sumN (fun j => -1 * (gI (gR B j) f * y (ld j))) B.length := sumN_congr fun j hj => by
      rw [freeF_lead h hf hj, Int.neg_mul]; omega
    rw [this, sumN_mulL]; omega
  rw [e1, e2]; omega
/-- What is orthogonal to all that the rows send to nothing is a sum of multiples of the rows. -/
theorem Ech.span {u : Nat → Int} (hu : ∀ y, Kr p n B y → p ∣ sumN (fun q => u q * y q) n) : ∀ q, q < n → p ∣ u q - sumN (fun j => u (ld j) * gI (gR B j) q) B.length := by
  intro q hq
  cases e : isLd B.length ld q with
  | true =>
    obtain ⟨i, hi, rfl⟩ := isLd_iff.1 e
    rw [sumN_one hi (fun j hj hne => by rw [h.col i hi j hj hne, Int.mul_zero]), h.one i hi, Int.mul_one, Int.sub_self]
    exact Int.dvd_zero p
  | false =>
    have h1 := hu _ (freeF_ker h e hq)
    have e1 : sumN (fun r => u r * freeF B ld q r) n = sumN (fun r => freeF B ld q r * u r) n := sumN_congr fun r _ => Int.mul_comm _ _
    rw [e1, freeF_rd h e hq] at h1
    have e2 : sumN (fun j => gI (gR B j) q * u (ld j)) B.length = sumN (fun j => u (ld j) * gI (gR B j) q) B.length := sumN_congr fun r _ => Int.mul_comm _ _
    rwa [e2] at h1
theorem Ech.row_lead {u : Nat → Int} {j : Nat} (hj : j < B.length) : rd n (gR B j) u = sumN (fun q => if isLd B.length ld q = true then 0 else gI (gR B j) q * u q) n + u (ld j) := by
  unfold rd
  rw [h.split]
  congr 1
  rw [sumN_one hj (fun i hi hne => by rw [h.col i hi j hj (fun e => hne e.symm), Int.zero_mul]), h.one j hj, Int.one_mul]
end
theorem turn_turn {p : Int} {r c : Nat} {m : List (List Int)} (hm : Mat p r c m) : turnm c r (turnm r c m) = m := by
  refine (extR (f := gR m) (by unfold turnm; rw [vecN_len]) fun i hi => ?_).trans (extR (f := gR m) hm.1 fun i _ => rfl).symm
  have hv := (hm.row hi).1
  rw [extI hv (f := gI (gR m i)) fun k _ => rfl]
  refine extI (by unfold turnm; rw [gR_vecN _ hi, vecN_len]) fun k hk => ?_
  rw [turnm_at hk hi, turnm_at hi hk]
/-- The reduced basis of a table that is turned has not more rows. -/
theorem rank_turn_le {p : Int} {r c : Nat} {m D D' : List (List Int)} {ld ld' : Nat → Nat} (hP : isP p = true) (hr : r ≤ 1048000) (hc : c ≤ 1048000) (hm : Mat p r c m) (hD : Ech p c D ld) (hDk : ∀ u, Kr p c D u ↔ KerP p r c m u) (hD' : Ech p r D' ld') (hDk' : ∀ u, Kr p r D' u ↔ KerP p c r (turnm r c m) u) : D'.length ≤ D.length := by
  have hp := isP_le hP
  have hT := turnm_mat hm
  have hle := hD.le
  have hR : Mat p D.length r (vecN D.length fun l => gR (turnm r c m) (ld l)) := Mat.mk' fun l hl => hT.row (hD.lt l hl)
  obtain ⟨b, _, _, hbl, ⟨lb, hb⟩, hbk⟩ := i_basis_any hP (by omega) (by omega) hR
  have hspan : ∀ i, i < r → ∀ q, q < c → p ∣ gI (gR m i) q - sumN (fun l => gI (gR m i) (ld l) * gI (gR D l) q) D.length := fun i hi => hD.span fun y hy => (hDk y).1 hy i hi
  have : b = D' := hb.unique (by omega) hD' fun u => by
    rw [hbk, hDk']
    constructor
    · intro h q hq
      have e1 : p ∣ rd r (gR (turnm r c m) q) u - sumN (fun i => sumN (fun l => gI (gR m i) (ld l) * gI (gR D l) q) D.length * u i) r := by
        unfold rd
        rw [← sumN_sub]
        exact sumN_dvd fun i hi => by
          rw [turnm_at hi hq, ← Int.sub_mul]
          exact Int.dvd_mul_of_dvd_left (hspan i hi q hq)
      refine dvd_of_sub e1 ?_
      have e2 : sumN (fun i => sumN (fun l => gI (gR m i) (ld l) * gI (gR D l) q) D.length * u i) r = sumN (fun l => gI (gR D l) q * rd r (gR (turnm r c m) (ld l)) u) D.length := by
        have : sumN (fun i => sumN (fun l => gI (gR m i) (ld l) * gI (gR D l) q) D.length * u i) r = sumN (fun i => sumN (fun l => gI (gR m i) (ld l) * gI (gR D l) q * u i) D.length) r := sumN_congr fun i _ => (sumN_mulR _ _ _).symm
        rw [this, sumN_comm]
        refine sumN_congr fun l hl => ?_
        unfold rd
        rw [← sumN_mulL]
        exact sumN_congr fun i hi => by rw [turnm_at hi (hD.lt l hl)]; rw [Int.mul_comm (gI (gR m i) (ld l)), Int.mul_assoc]
      rw [e2]
      exact sumN_dvd fun l hl => Int.dvd_mul_of_dvd_right (by have := h l hl; rwa [gR_vecN _ hl] at this)
    · intro h l hl
      rw [gR_vecN _ hl]
      exact h (ld l) (hD.lt l hl)
  rw [← this]; exact hbl
theorem rank_turn {p : Int} {r c : Nat} {m D D' : List (List Int)} {ld ld' : Nat → Nat} (hP : isP p = true) (hr : r ≤ 1048000) (hc : c ≤ 1048000) (hm : Mat p r c m) (hD : Ech p c D ld) (hDk : ∀ u, Kr p c D u ↔ KerP p r c m u) (hD' : Ech p r D' ld') (hDk' : ∀ u, Kr p r D' u ↔ KerP p c r (turnm r c m) u) : D'.length = D.length := by
  have h1 := rank_turn_le hP hr hc hm hD hDk hD' hDk'
  have h2 := rank_turn_le hP hc hr (turnm_mat hm) hD' hDk' hD (fun u => by rw [turn_turn hm]; exact hDk u)
  omega
end Go.Vam

/- Plain laws: the equations of derivations; both programs' bases of derivations are one. -/
namespace Go.Vam
open Go Go.RowKit
set_option linter.unusedSimpArgs false
set_option linter.unusedVariables false
set_option linter.unusedSectionVars false

theorem gR_append {x y : List (List Int)} {k : Nat} : gR (x ++ y) k = if k < x.length then gR x k else gR y (k - x.length) := by
  unfold gR
  rw [List.getD_eq_getElem?_getD, List.getElem?_append]
  by_cases h : k < x.length
  · rw [if_pos h, if_pos h, List.getD_eq_getElem?_getD]
  · rw [if_neg h, if_neg h, List.getD_eq_getElem?_getD]
theorem Mat.append {p : Int} {a b c : Nat} {x y : List (List Int)} (hx : Mat p a c x) (hy : Mat p b c y) : Mat p (a + b) c (x ++ y) := by
  have h1 := hx.1
  refine ⟨by rw [List.length_append, hx.1, hy.1], fun i hi => ?_⟩
  rw [gR_append]
  split
  · exact hx.2 i (by omega)
  · exact hy.2 (i - x.length) (by omega)
section
variable {p : Int} {w : List Int} (hP : isP p = true) (hl : w.length ≤ 4) (hw : Vec p w.length w)
include hP hl hw
end
end Go.Vam

/- Plain laws: what is drawn from a code. -/
namespace Go.Vam
open Go Go.RowKit
set_option linter.unusedSimpArgs false
set_option linter.unusedVariables false
set_option linter.unusedSectionVars false

/-- A source of numbers: bytes, and a place among them. -/
structure Src (c : List Int) (a : Int) : Prop where
  len : c.length ≤ 4096
  byte : ∀ x ∈ c, 0 ≤ x ∧ x ≤ 255
  pos : 0 ≤ a
  le : a ≤ c.length

theorem band_le (h : Int) : 0 ≤ w64 (band .u64 h 16777215) ∧ w64 (band .u64 h 16777215) ≤ 16777215 := by
  have h1 : ((BitVec.ofInt 64 h &&& BitVec.ofInt 64 16777215).toNat : Nat) ≤ 16777215 := by
    rw [BitVec.toNat_and]
    exact Nat.le_trans Nat.and_le_right (by decide)
  have h2 : band .u64 h 16777215 = ((BitVec.ofInt 64 h &&& BitVec.ofInt 64 16777215).toNat : Int) := by
    unfold band
    show IntKind.u64.wrap ((BitVec.ofInt 64 h &&& BitVec.ofInt 64 16777215).toNat : Int) = _
    generalize (BitVec.ofInt 64 h &&& BitVec.ofInt 64 16777215).toNat = n at h1
    simp only [IntKind.wrap, IntKind.signed, IntKind.bits]
    simp
    omega
  rw [h2, w_in (by omega) (by omega)]
  omega
theorem next_eq {c : List Int} {a h n : Int} (hS : Src c a) (hn : 1 ≤ n) (hn2 : n ≤ 4611686018427387904) :
    ∃ r a' h', s_l01Next c a h n = some (r, (c, a', h')) ∧ 0 ≤ r ∧ r < n ∧ Src c a' := by
  unfold s_l01Next
  rw [if_neg (by omega)]
  by_cases hlt : a < (c.length : Int)
  · obtain ⟨k, rfl⟩ := Int.eq_ofNat_of_zero_le hS.pos
    have hk : k < c.length := by omega
    rw [if_pos (by omega), idxI hk, some_bind, some_bind, chk_bind (by omega)]
    have hb := hS.byte (gI c k) (by rw [show gI c k = c[k] from by unfold gI; simp [hk]]; exact List.getElem_mem hk)
    obtain ⟨b1, b2⟩ := band_le (shr .u64 (IntKind.u64.wrap ((IntKind.u64.wrap (h * 6364136223846793005)) + 1442695040888963407)) 33)
    refine ⟨_, _, _, rfl, ?_, ?_, hS.len, hS.byte, ?_, ?_⟩
    · simp only []
      rw [w_in (x := gI c k) (by omega) (by omega), w_in (by omega) (by omega), tmod_nn (by omega)]
      exact Int.emod_nonneg _ (by omega)
    · simp only []
      rw [w_in (x := gI c k) (by omega) (by omega), w_in (by omega) (by omega), tmod_nn (by omega)]
      exact Int.emod_lt_of_pos _ (by omega)
    · simp only []; have := hS.len; rw [w_in (by omega) (by omega)]; omega
    · simp only []; have := hS.len; rw [w_in (by omega) (by omega)]; omega
  · rw [if_neg hlt, some_bind, chk_bind (by omega)]
    obtain ⟨b1, b2⟩ := band_le (shr .u64 (IntKind.u64.wrap ((IntKind.u64.wrap (h * 6364136223846793005)) + 1442695040888963407)) 33)
    refine ⟨_, _, _, rfl, ?_, ?_, hS⟩
    · simp only []
      rw [tmod_nn (by omega)]
      exact Int.emod_nonneg _ (by omega)
    · simp only []
      rw [tmod_nn (by omega)]
      exact Int.emod_lt_of_pos _ (by omega)
theorem pick_eq {c : List Int} {a h : Int} {l : List Int} (hS : Src c a) (hl : 1 ≤ l.length) (hl2 : l.length ≤ 100) :
    ∃ x a' h', s_l01Pick c a h l = some (x, (c, a', h')) ∧ x ∈ l ∧ Src c a' := by
  unfold s_l01Pick
  obtain ⟨r, a', h', e, r1, r2, r3⟩ := next_eq (h := h) (n := (l.length : Int)) hS (by omega) (by omega)
  rw [e, some_bind]
  obtain ⟨k, rfl⟩ := Int.eq_ofNat_of_zero_le r1
  have hk : k < l.length := by omega
  rw [idxk hk, some_bind]
  exact ⟨_, _, _, rfl, List.getElem_mem hk, r3⟩
theorem size_eq {c : List Int} {a h : Int} (hS : Src c a) : ∃ (n : Nat) (a' h' : Int), s_l02Size c a h = some ((n : Int), (c, a', h')) ∧ 1 ≤ n ∧ n ≤ 6 ∧ Src c a' := by
  unfold s_l02Size
  obtain ⟨r1, a1, h1, e1, p1, q1, S1⟩ := next_eq (h := h) (n := 3) hS (by omega) (by omega)
  obtain ⟨r2, a2, h2, e2, p2, q2, S2⟩ := next_eq (h := h1) (n := 4) S1 (by omega) (by omega)
  obtain ⟨r3, a3, h3, e3, p3, q3, S3⟩ := next_eq (h := h2) (n := 6) S2 (by omega) (by omega)
  obtain ⟨x, a4, h4, e4, m4, S4⟩ := pick_eq (h := h3) (l := [r1, r2, r3]) S3 (by simp) (by simp)
  simp only [e1, e2, e3, e4, some_bind]
  have hx : 0 ≤ x ∧ x < 6 := by
    simp only [List.mem_cons, List.not_mem_nil, or_false] at m4
    omega
  rw [w_in (by omega) (by omega)]
  exact ⟨(1 + x).toNat, _, _, by rw [show (((1 + x).toNat : Nat) : Int) = 1 + x by omega], by omega, by omega, S4⟩
theorem bad_eq {c : List Int} {a h : Int} (hS : Src c a) : ∃ (p a' h' : Int), s_l01Bad c a h = some (p, (c, a', h')) ∧ -3 ≤ p ∧ p ≤ 17 ∧ Src c a' := by
  unfold s_l01Bad s_l01DrawPrime
  obtain ⟨r1, a1, h1, e1, p1, q1, S1⟩ := next_eq (h := h) (n := 24) hS (by omega) (by omega)
  rw [e1, some_bind]
  by_cases h0 : r1 = 0
  · simp only [h0, if_true]
    obtain ⟨x, a4, h4, e4, m4, S4⟩ := pick_eq (h := h1) (l := [2, 9, 17, 1, 0, -3]) S1 (by simp) (by simp)
    rw [e4, some_bind]
    refine ⟨_, _, _, rfl, ?_, ?_, S4⟩ <;> (simp only [List.mem_cons, List.not_mem_nil, or_false] at m4; omega)
  · simp only [h0, if_false]
    obtain ⟨x, a4, h4, e4, m4, S4⟩ := pick_eq (h := h1) (l := [3, 5, 7, 11, 13, 3, 5, 7]) S1 (by simp) (by simp)
    rw [e4, some_bind, some_bind]
    refine ⟨_, _, _, rfl, ?_, ?_, S4⟩ <;> (simp only [List.mem_cons, List.not_mem_nil, or_false] at m4; omega)
theorem vec_one {p r : Int} (h1 : 0 ≤ r) (h2 : r < p) : Vec p 1 [r] := ⟨rfl, fun k hk => by
  have : k = 0 := by omega
  subst this
  exact ⟨h1, h2⟩⟩
theorem mat_one {p : Int} {n : Nat} {v : List Int} (h : Vec p n v) : Mat p 1 n [v] := ⟨rfl, fun k hk => by
  have : k = 0 := by omega
  subst this
  exact h⟩
theorem list_eq {c : List Int} {a h p : Int} {n : Nat} (hS : Src c a) (hp : 1 ≤ p) (hp2 : p ≤ 100) (hn : n ≤ 1000) : ∃ v a' h', s_l01List c a h p (n : Int) = some (v, (c, a', h')) ∧ Vec p n v ∧ Src c a' := by
  unfold s_l01List
  obtain ⟨b, h1, v, a', h', rfl, h3, h4⟩ := loop_inv (step := s_l01List_L0 p) (fun s => ∃ (k : Nat) (a' h' : Int) (out : List Int), s = (c, a', h', ((n - k : Nat) : Int), out) ∧ k ≤ n ∧ Vec p k out ∧ Src c a') (fun s => s.2.2.2.1.toNat)
    (fun b => ∃ v a' h', b = (c, a', h', v) ∧ Vec p n v ∧ Src c a') (s := (c, a, h, (n : Int), [])) ⟨0, a, h, [], rfl, by omega, ⟨rfl, by simp⟩, hS⟩ (by rw [BIG_val]; simp only []; omega) (by
      rintro s ⟨k, a', h', out, rfl, hk, hv, hS'⟩
      unfold s_l01List_L0
      by_cases hkn : k < n
      · refine .inl ?_
        obtain ⟨r, a2, h2, e, r1, r2, S2⟩ := next_eq (h := h') (n := p) hS' hp (by omega)
        have e3 := hv.1
        simp only [show (0 : Int) < ((n - k : Nat) : Int) by omega, if_true, e, some_bind]
        rw [chk_bind (by simp only [List.length_cons, List.length_nil]; omega), w_in (by omega) (by omega)]
        refine ⟨_, rfl, ⟨k + 1, a2, h2, out ++ [r], by congr 4; omega, by omega, hv.append (y := [r]) (vec_one r1 r2), S2⟩, by simp only []; omega⟩
      · have : k = n := by omega
        subst this
        refine .inr ⟨(c, a', h', out), ?_, out, a', h', rfl, hv, hS'⟩
        simp)
  rw [h1, some_bind]
  exact ⟨v, a', h', rfl, h3, h4⟩
/-- A table is drawn. -/
theorem draw_eq {c : List Int} {a h p : Int} {r k : Nat} (hS : Src c a) (hp : isP p = true) (hr : r ≤ 100) (hk : k ≤ 100) : ∃ m a' h', s_l02Draw c a h p (r : Int) (k : Int) = some (m, (c, a', h')) ∧ Mat p r k m ∧ Src c a' := by
  have hp' := isP_le hp
  unfold s_l02Draw
  obtain ⟨b, h1, m, a', h', rfl, h3, h4⟩ := loop_inv (step := s_l02Draw_L0 p (r : Int) (k : Int)) (fun s => ∃ (i : Nat) (a' h' : Int) (out : List (List Int)), s = (c, a', h', out, (i : Int)) ∧ i ≤ r ∧ Mat p i k out ∧ Src c a') (fun s => r - s.2.2.2.2.toNat)
    (fun b => ∃ m a' h', b = (c, a', h', m) ∧ Mat p r k m ∧ Src c a') (s := (c, a, h, [], 0)) ⟨0, a, h, [], rfl, by omega, ⟨rfl, fun i hi => by omega⟩, hS⟩ (by rw [BIG_val]; simp only []; omega) (by
      rintro s ⟨i, a', h', out, rfl, hi, hm, hS'⟩
      unfold s_l02Draw_L0
      by_cases hir : i < r
      · refine .inl ?_
        obtain ⟨v, a1, h1, e1, v1, S1⟩ := list_eq (h := h') (p := p) (n := k) hS' (by omega) (by omega) (by omega)
        simp only [show (i : Int) < (r : Int) by omega, if_true, e1, some_bind]
        have key : ∃ (a2 h2 : Int) (row : List Int), (((if 0 < (i : Int) then
              (s_l01Next c a1 h1 4).bind fun v10 => some (v10.2.1, v10.2.2.1, v10.2.2.2, ieq v10.1 0)
            else some (c, a1, h1, false)) : Option ((List Int) × Int × Int × Bool)).bind fun x11 =>
            ((if x11.2.2.2 = true then
              (s_l01Next x11.1 x11.2.1 x11.2.2.1 (i : Int)).bind fun v15 =>
              (idx out v15.1).bind fun v16 =>
              (s_l01Next v15.2.1 v15.2.2.1 v15.2.2.2 p).bind fun v17 =>
              (s_l02Scale p v16 v17.1).bind fun v18 =>
              (s_l01Next v17.2.1 v17.2.2.1 v17.2.2.2 (i : Int)).bind fun v19 =>
              (idx out v19.1).bind fun v20 =>
              (s_l01Next v19.2.1 v19.2.2.1 v19.2.2.2 p).bind fun v21 =>
              (s_l02Plus p v18 v20 v21.1).bind fun v22 =>
              some (v21.2.1, v21.2.2.1, v21.2.2.2, v22)
            else
              some (x11.1, x11.2.1, x11.2.2.1, v)) : Option ((List Int) × Int × Int × (List Int)))) = some (c, a2, h2, row) ∧ Vec p k row ∧ Src c a2 := by
          have plain : ∀ (a2 h2 : Int), Src c a2 → ∃ (a2' h2' : Int) (row : List Int), (some (c, a2, h2, v) : Option ((List Int) × Int × Int × (List Int))) = some (c, a2', h2', row) ∧ Vec p k row ∧ Src c a2' := fun a2 h2 S => ⟨a2, h2, v, rfl, v1, S⟩
          by_cases h0 : 0 < (i : Int)
          · obtain ⟨r2, a2, h2, e2, p2, q2, S2⟩ := next_eq (h := h1) (n := 4) S1 (by omega) (by omega)
            simp only [h0, if_true, e2, some_bind]
            cases hx : ieq r2 0 with
            | false => simp only [Bool.false_eq_true, if_false]; exact plain a2 h2 S2
            | true =>
              have em := hm.1
              obtain ⟨r3, a3, h3, e3, p3, q3, S3⟩ := next_eq (h := h2) (n := (i : Int)) S2 (by omega) (by omega)
              obtain ⟨r4, a4, h4, e4, p4, q4, S4⟩ := next_eq (h := h3) (n := p) S3 (by omega) (by omega)
              obtain ⟨r5, a5, h5, e5, p5, q5, S5⟩ := next_eq (h := h4) (n := (i : Int)) S4 (by omega) (by omega)
              obtain ⟨r6, a6, h6, e6, p6, q6, S6⟩ := next_eq (h := h5) (n := p) S5 (by omega) (by omega)
              obtain ⟨x3, rfl⟩ := Int.eq_ofNat_of_zero_le p3
              obtain ⟨x5, rfl⟩ := Int.eq_ofNat_of_zero_le p5
              have f3 : idx out (x3 : Int) = some (gR out x3) := idxR (by omega)
              have f5 : idx out (x5 : Int) = some (gR out x5) := idxR (by omega)
              have w3 := hm.row (i := x3) (by omega)
              have w5 := hm.row (i := x5) (by omega)
              have g3 := s_l02Scale_eq (p := p) (n := k) (a := gR out x3) (k := r4) (by omega) (by omega) (by omega) (by omega) (by omega) w3
              have w6 := scalev_vec (p := p) (by omega) k (gR out x3) r4
              have g6 := s_l02Plus_eq (p := p) (n := k) (a := scalev p k (gR out x3) r4) (b := gR out x5) (k := r6) (by omega) (by omega) (by omega) (by omega) (by omega) w6 w5
              simp only [if_true, e3, some_bind, Int.ofNat_eq_natCast, f3, e4, g3, e5, f5, e6, g6]
              exact ⟨a6, h6, _, rfl, plusv_vec (by omega) .., S6⟩
          · simp only [h0, if_false, some_bind, Bool.false_eq_true]
            exact plain a1 h1 S1
        obtain ⟨a2, h2, row, e2, v2, S2⟩ := key
        obtain ⟨x, ex, e3⟩ := bind_some e2
        simp only [ex, some_bind, e3]
        have em := hm.1
        rw [chk_bind (by simp only [List.length_cons, List.length_nil]; omega), w_in (by omega) (by omega)]
        exact ⟨_, rfl, ⟨i + 1, a2, h2, out ++ [row], rfl, by omega, Mat.append hm (mat_one v2), S2⟩, by simp only []; omega⟩
      · have : i = r := by omega
        subst this
        refine .inr ⟨(c, a', h', out), ?_, out, a', h', rfl, hm, hS'⟩
        simp)
  rw [h1, some_bind]
  exact ⟨m, a', h', rfl, h3, h4⟩
/-- A table that is not large. -/
def tabS (m : List (List Int)) : Prop := m.length ≤ 17 ∧ ∀ x ∈ m, x.length ≤ 18
theorem tabS.sz {m : List (List Int)} (h : tabS m) : szM m := ⟨by have := h.1; omega, fun r hr => by have := h.2 r hr; omega⟩
theorem tabS.of {p : Int} {r k : Nat} {m : List (List Int)} (h : Mat p r k m) (hr : r ≤ 17) (hk : k ≤ 18) : tabS m := by
  refine ⟨by rw [h.1]; exact hr, fun x hx => ?_⟩
  obtain ⟨i, hi, rfl⟩ := List.getElem_of_mem hx
  have e := (h.2 i (by have := h.1; omega)).1
  rw [← gR_get hi] at e
  omega
theorem tabS.set {m : List (List Int)} (h : tabS m) (i : Nat) {x : List Int} (hx : x.length ≤ 18) : tabS (m.set i x) := by
  refine ⟨by rw [List.length_set]; exact h.1, fun y hy => ?_⟩
  rcases List.mem_or_eq_of_mem_set hy with h1 | h1
  · exact h.2 y h1
  · rw [h1]; exact hx
theorem spoil_eq {c : List Int} {a h : Int} {r k : Nat} (hS : Src c a) (hr0 : 1 ≤ r) (hr : r ≤ 7) (hk0 : 1 ≤ k) (hk : k ≤ 7) :
    ∃ (p : Int) (m : List (List Int)) (a' h' : Int), s_l02Spoil c a h (r : Int) (k : Int) = some ((p, m), (c, a', h')) ∧ -3 ≤ p ∧ p ≤ 17 ∧ tabS m ∧ Src c a' := by
  unfold s_l02Spoil
  obtain ⟨p, a1, h1, e1, p1, p2, S1⟩ := bad_eq (h := h) hS
  rw [e1, some_bind]
  simp only []
  rw [s_l01Prime_eq, some_bind]
  cases hP : isP p with
  | false =>
    simp only [if_true]
    exact ⟨p, [[1]], a1, h1, rfl, p1, p2, ⟨by simp, by simp⟩, S1⟩
  | true =>
    have hp := isP_le hP
    simp only [Bool.true_eq_false, if_false]
    obtain ⟨m, a2, h2, e2, m2, S2⟩ := draw_eq (h := h1) (p := p) (r := r) (k := k) S1 hP (by omega) (by omega)
    obtain ⟨r3, a3, h3, e3, p3, q3, S3⟩ := next_eq (h := h2) (n := 36) S2 (by omega) (by omega)
    have em := m2.1
    have hT := tabS.of m2 (by omega) (by omega)
    have w0 := (m2.row (i := 0) (by omega)).1
    have f0 : idx m 0 = some (gR m 0) := idxR0 (by omega)
    rw [e2, some_bind]
    simp only []
    rw [e3, some_bind]
    simp only []
    have fin : ∀ (a' h' : Int) (m' : List (List Int)), tabS m' → Src c a' → ∃ (p' : Int) (m'' : List (List Int)) (a'' h'' : Int), (some ((p, m'), (c, a', h')) : Option ((Int × List (List Int)) × (List Int × Int × Int))) = some ((p', m''), (c, a'', h'')) ∧ -3 ≤ p' ∧ p' ≤ 17 ∧ tabS m'' ∧ Src c a'' :=
      fun a' h' m' hx hs => ⟨p, m', a', h', rfl, p1, p2, hx, hs⟩
    by_cases c0 : r3 = 0
    · obtain ⟨x, a4, h4, e4, m4, S4⟩ := pick_eq (h := h3) (l := [-1, p]) S3 (by simp) (by simp)
      have g0 : idx (gR m 0) 0 = some (gI (gR m 0) 0) := by
        have := idxI (v := gR m 0) (k := 0) (by omega)
        simpa using this
      simp only [c0, if_true, f0, some_bind, e4, g0]
      exact fin a4 h4 _ (hT.set 0 (by rw [List.length_set]; omega)) S4
    simp only [c0, if_false]
    by_cases c1 : r3 = 1
    · simp only [c1, if_true, f0, some_bind]
      rw [chk_bind (by simp only [List.length_cons, List.length_nil]; omega), some_bind]
      exact fin a3 h3 _ (hT.set 0 (by rw [List.length_append]; simp only [List.length_cons, List.length_nil]; omega)) S3
    simp only [c1, if_false]
    by_cases c2 : r3 = 2
    · simp only [c2, if_true, some_bind]
      exact fin a3 h3 [] ⟨by simp, by simp⟩ S3
    simp only [c2, if_false]
    by_cases c3 : r3 = 3
    · obtain ⟨m', a4, h4, e4, m4, S4⟩ := draw_eq (h := h3) (p := p) (r := 17) (k := 2) S3 hP (by omega) (by omega)
      simp only [Int.cast_ofNat_Int] at e4
      simp only [c3, if_true, e4, some_bind]
      exact fin a4 h4 m' (tabS.of m4 (by omega) (by omega)) S4
    simp only [c3, if_false]
    by_cases c4 : r3 = 4
    · obtain ⟨m', a4, h4, e4, m4, S4⟩ := draw_eq (h := h3) (p := p) (r := 2) (k := 17) S3 hP (by omega) (by omega)
      simp only [Int.cast_ofNat_Int] at e4
      simp only [c4, if_true, e4, some_bind]
      exact fin a4 h4 m' (tabS.of m4 (by omega) (by omega)) S4
    simp only [c4, if_false, some_bind]
    exact fin a3 h3 m hT S3
theorem from_eq {c : List Int} (hc : c.length ≤ 4096) (hb : ∀ x ∈ c, 0 ≤ x ∧ x ≤ 255) : ∃ h', s_l01From c = some (c, 0, h') ∧ Src c 0 := by
  unfold s_l01From
  obtain ⟨b, h1, h', rfl⟩ := loop_inv (step := s_l01From_L0 c) (fun s => ∃ (k : Nat) (h' : Int), s = (c, 0, h', (k : Int)) ∧ k ≤ c.length) (fun s => c.length - s.2.2.2.toNat)
    (fun b => ∃ h' : Int, b = (c, (0 : Int), h')) (s := (c, 0, IntKind.u64.wrap (4409 + (IntKind.u64.wrap ((c.length : Int)))), 0)) ⟨0, _, rfl, by omega⟩ (by rw [BIG_val]; simp only []; omega) (by
      rintro s ⟨k, h', rfl, hk⟩
      unfold s_l01From_L0
      by_cases hkn : k < c.length
      · refine .inl ?_
        simp only [lt_cast hkn, if_true, some_bind, ilt_true (show (k : Int) < 4096 by omega), idxI hkn]
        rw [w_in (by omega) (by omega)]
        exact ⟨_, rfl, ⟨k + 1, _, rfl, by omega⟩, by simp only []; omega⟩
      · have : k = c.length := by omega
        subst this
        refine .inr ⟨(c, 0, h'), ?_, h', rfl⟩
        simp)
  rw [h1, some_bind]
  exact ⟨h', rfl, hc, hb, by omega, by omega⟩
theorem vector_eq {c : List Int} {a h p : Int} {n : Nat} (hS : Src c a) (hp : p ≤ 17) (hn : n ≤ 18) : ∃ v a' h', s_l02Vector c a h p (n : Int) = some (v, (c, a', h')) ∧ v.length ≤ 19 ∧ Src c a' := by
  unfold s_l02Vector
  have key : ∃ q : Int, ((if p < 1 then some 3 else some p) : Option Int) = some q ∧ 1 ≤ q ∧ q ≤ 17 := by
    by_cases h1 : p < 1
    · exact ⟨3, by rw [if_pos h1], by omega, by omega⟩
    · exact ⟨p, by rw [if_neg h1], by omega, by omega⟩
  obtain ⟨q, eq, q1, q2⟩ := key
  obtain ⟨v, a1, h1, e1, v1, S1⟩ := list_eq (h := h) (p := q) (n := n) hS q1 (by omega) (by omega)
  obtain ⟨r2, a2, h2, e2, p2, q2', S2⟩ := next_eq (h := h1) (n := 24) S1 (by omega) (by omega)
  have ev := v1.1
  rw [eq, some_bind, e1, some_bind]
  simp only []
  rw [e2, some_bind]
  simp only []
  by_cases c0 : r2 = 0
  · simp only [c0, if_true]
    rw [chk_bind (by simp only [List.length_cons, List.length_nil]; omega), some_bind]
    exact ⟨_, _, _, rfl, by rw [List.length_append]; simp only [List.length_cons, List.length_nil]; omega, S2⟩
  simp only [c0, if_false]
  by_cases c1 : r2 = 1
  · simp only [c1, if_true]
    by_cases hn0 : 0 < (n : Int)
    · obtain ⟨x, a4, h4, e4, m4, S4⟩ := pick_eq (h := h2) (l := [-1, q]) S2 (by simp) (by simp)
      have g0 : idx v 0 = some (gI v 0) := by
        have := idxI (v := v) (k := 0) (by omega)
        simpa using this
      simp only [hn0, if_true, e4, some_bind, g0]
      exact ⟨_, _, _, rfl, by rw [List.length_set]; omega, S4⟩
    · simp only [hn0, if_false, some_bind]
      exact ⟨_, _, _, rfl, by omega, S2⟩
  simp only [c1, if_false, some_bind]
  exact ⟨_, _, _, rfl, by omega, S2⟩
theorem DrawSolve_eq {c : List Int} (hc : c.length ≤ 4096) (hb : ∀ x ∈ c, 0 ≤ x ∧ x ≤ 255) : ∃ (p : Int) (m : List (List Int)) (v : List Int), s_DrawSolveMatrix c = some (p, m, v) ∧ -3 ≤ p ∧ p ≤ 17 ∧ tabS m ∧ v.length ≤ 19 := by
  unfold s_DrawSolveMatrix
  obtain ⟨h0, e0, S0⟩ := from_eq hc hb
  obtain ⟨n1, a1, h1, e1, l1, u1, S1⟩ := size_eq (h := h0) S0
  obtain ⟨n2, a2, h2, e2, l2, u2, S2⟩ := size_eq (h := h1) S1
  obtain ⟨p, m, a3, h3, e3, p1, p2, hT, S3⟩ := spoil_eq (h := h2) (r := n1) (k := n2) S2 l1 (by omega) l2 (by omega)
  simp only [e0, e1, e2, e3, some_bind]
  rw [s_l02Is_eq hT.sz, some_bind]
  have other : ∀ (a' h' : Int), Src c a' → ∃ (p' : Int) (m' : List (List Int)) (v : List Int), ((s_l02Vector c a' h' p (n1 : Int)).bind fun v14 => some (p, m, v14.1)) = some (p', m', v) ∧ -3 ≤ p' ∧ p' ≤ 17 ∧ tabS m' ∧ v.length ≤ 19 := by
    intro a' h' S
    obtain ⟨v, a4, h4, e4, v4, S4⟩ := vector_eq (h := h') (p := p) (n := n1) S p2 (by omega)
    rw [e4, some_bind]
    exact ⟨p, m, v, rfl, p1, p2, hT, v4⟩
  cases hm : isMat p m with
  | false =>
    simp only [Bool.false_eq_true, if_false, some_bind]
    exact other _ _ S3
  | true =>
    obtain ⟨g1, g2, g3, hP, g4, g5⟩ := isMat_sz hm
    have hp := isP_le hP
    obtain ⟨r4, a4, h4, e4, p4, q4, S4⟩ := next_eq (h := h3) (n := 2) S3 (by omega) (by omega)
    simp only [if_true, e4, some_bind]
    cases hx : ieq r4 0 with
    | false =>
      simp only [Bool.false_eq_true, if_false]
      exact other _ _ S4
    | true =>
      have w0 := (g3.row (i := 0) (by omega)).1
      have f0 : idx m 0 = some (gR m 0) := idxR0 (by omega)
      obtain ⟨v, a5, h5, e5, v5, S5⟩ := list_eq (h := h4) (p := p) (n := wid m) S4 (by omega) (by omega) (by omega)
      simp only [if_true, f0, some_bind, w0, e5]
      rw [s_l02Apply_eq (r := m.length) (c := wid m) (by omega) (by omega) (by omega) (by omega) g3 v5, some_bind]
      refine ⟨p, m, _, rfl, p1, p2, hT, ?_⟩
      have := (applyv_vec (p := p) (r := m.length) (c := wid m) (m := m) (v := v) (by omega)).1
      omega
end Go.Vam

/- Plain laws: reflections keep the products of vectors. -/
namespace Go.Vam
open Go Go.RowKit
set_option linter.unusedSimpArgs false
set_option linter.unusedVariables false
set_option linter.unusedSectionVars false

/-- The product of vectors, as an integer. -/
def pairS (n : Nat) (w x y : List Int) : Int := sumN (fun k => gI x k * gI y k * gI w k) n
theorem pairp_S (p : Int) (n : Nat) (w x y : List Int) : pairp p n w x y = pairS n w x y % p := rfl
theorem pairS_comm (n : Nat) (w x y : List Int) : pairS n w x y = pairS n w y x := by
  unfold pairS
  exact sumN_congr fun k _ => by rw [Int.mul_comm (gI x k)]
theorem pairS_lin {p : Int} {n : Nat} {w x x' u y : List Int} {c : Int} (h : ∀ k, k < n → gI x' k % p = (gI x k + c * gI u k) % p) : pairS n w x' y % p = (pairS n w x y + c * pairS n w u y) % p := by
  unfold pairS
  rw [← sumN_lin]
  refine sumN_mod fun k hk => ?_
  rw [Int.mul_assoc, mul_mod_l (h k hk)]
  congr 1
  rw [Int.add_mul, Int.mul_assoc, Int.mul_assoc, Int.mul_assoc]
/-- What the reflection in u makes of v. -/
def reflv (p : Int) (n : Nat) (w u v : List Int) : List Int := plusv p n v u (-2 * pairS n w u v * invp p (pairp p n w u u))
theorem reflv_vec {p : Int} (hp : 0 < p) (n : Nat) (w u v : List Int) : Vec p n (reflv p n w u v) := plusv_vec hp ..
theorem reflv_at {p : Int} {n k : Nat} {w u v : List Int} (hk : k < n) : gI (reflv p n w u v) k = (gI v k + (-2 * pairS n w u v * invp p (pairp p n w u u)) * gI u k) % p := plusv_at hk
theorem inv_dvd {p a : Int} (hP : isP p = true) (h0 : a % p ≠ 0) : p ∣ invp p (a % p) * a - 1 := by
  have hp := isP_le hP
  have hn := mod_num (a := a) (p := p) (by omega)
  obtain ⟨_, _, i3⟩ := inv_facts (a := a % p) hP (by omega) hn.2
  rw [← mod_dvd, Int.emod_eq_of_lt (show (0 : Int) ≤ 1 by omega) (by omega), Int.mul_comm, ← i3]
  exact (mul_mod_l (emm a p)).symm
theorem reflv_pair {p : Int} {n : Nat} {w u : List Int} (hP : isP p = true) (hu : pairp p n w u u ≠ 0) (x y : List Int) :
    pairp p n w (reflv p n w u x) (reflv p n w u y) = pairp p n w x y := by
  rw [pairp_S, pairp_S]
  have ht := inv_dvd hP (a := pairS n w u u) hu
  rw [← pairp_S] at ht
  have hx : ∀ k, k < n → gI (reflv p n w u x) k % p = (gI x k + (-2 * pairS n w u x * invp p (pairp p n w u u)) * gI u k) % p := fun k hk => by rw [reflv_at hk, emm]
  have hy : ∀ k, k < n → gI (reflv p n w u y) k % p = (gI y k + (-2 * pairS n w u y * invp p (pairp p n w u u)) * gI u k) % p := fun k hk => by rw [reflv_at hk, emm]
  have h1 := mod_dvd.1 (pairS_lin (w := w) (y := reflv p n w u y) hx)
  have h2 := mod_dvd.1 (pairS_lin (w := w) (y := x) hy)
  have h3 := mod_dvd.1 (pairS_lin (w := w) (y := u) hy)
  rw [pairS_comm n w x (reflv p n w u y), pairS_comm n w u (reflv p n w u y)] at h1
  rw [pairS_comm n w y x, pairS_comm n w u x] at *
  rw [pairS_comm n w y u] at h3
  generalize hX : pairS n w x u = X at *
  generalize hY : pairS n w u y = Y at *
  generalize invp p (pairp p n w u u) = t at *
  generalize pairS n w u u = Q at *
  generalize pairS n w x y = Z at *
  generalize pairS n w (reflv p n w u x) (reflv p n w u y) = A at *
  generalize pairS n w (reflv p n w u y) x = B at *
  generalize pairS n w (reflv p n w u y) u = C at *
  rw [mod_dvd]
  obtain ⟨k1, e1⟩ := h1
  obtain ⟨k2, e2⟩ := h2
  obtain ⟨k3, e3⟩ := h3
  obtain ⟨k4, e4⟩ := ht
  exact ⟨k1 + k2 + (-2 * X * t) * k3 + 4 * X * Y * t * k4, by grind⟩
/-- The reflection's table. -/
def reflm (p : Int) (n : Nat) (w u : List Int) : List (List Int) := turnm n n (vecN n fun k => reflv p n w u (axis n k))
theorem pairS_axis {n k : Nat} {w u : List Int} (hk : k < n) : pairS n w u (axis n k) = gI u k * gI w k := by
  unfold pairS
  rw [sumN_one hk (fun q hq hqk => by rw [gI_axis hk, if_neg hqk]; simp), gI_axis hk, if_pos rfl, Int.mul_one]
theorem reflm_at {p : Int} {n r k : Nat} {w u : List Int} (hr : r < n) (hk : k < n) : gI (gR (reflm p n w u) r) k = ((if r = k then 1 else 0) + (-2 * (gI u k * gI w k) * invp p (pairp p n w u u)) * gI u r) % p := by
  unfold reflm
  rw [turnm_at hk hr, gR_vecN _ hk, reflv_at hr, gI_axis hk, pairS_axis hk]
theorem refl_times {p : Int} {n i : Nat} {w u : List Int} {m : List (List Int)} (hp : 0 < p) (hi : i < n) :
    gR (turnm n n (timesm p n n n (reflm p n w u) m)) i = reflv p n w u (gR (turnm n n m) i) := by
  have hv := (reflv_vec hp n w u (gR (turnm n n m) i)).1
  rw [extI hv (f := gI (reflv p n w u (gR (turnm n n m) i))) fun k _ => rfl]
  refine extI (by unfold turnm; rw [gR_vecN _ hi, vecN_len]) fun r hr => ?_
  rw [turnm_at hr hi, reflv_at hr, turnm_at hr hi]
  unfold timesm
  rw [gR_vecN _ hr, gI_vecN _ hi]
  have e1 : sumN (fun j => gI (gR (reflm p n w u) r) j * gI (gR m j) i) n % p = sumN (fun j => (if r = j then gI (gR m j) i else 0) + (-2 * invp p (pairp p n w u u) * gI u r) * (gI u j * gI (gR m j) i * gI w j)) n % p := by
    refine sumN_mod fun j hj => ?_
    rw [reflm_at hr hj, mul_mod_l (emm _ _)]
    congr 1
    split <;> grind
  rw [e1, sumN_lin, sumN_one hr (fun q hq hqr => if_neg (fun e => hqr e.symm)), if_pos rfl]
  congr 2
  have e2 : sumN (fun k => gI u k * gI (gR m k) i * gI w k) n = pairS n w u (gR (turnm n n m) i) := by
    unfold pairS
    exact sumN_congr fun k hk => by rw [turnm_at hk hi]
  rw [e2]
  grind
/-- A table whose columns have the products of the basis. -/
def IsoT (p : Int) (n : Nat) (w : List Int) (m : List (List Int)) : Prop := ∀ i, i < n → ∀ j, j < n → pairp p n w (gR (turnm n n m) i) (gR (turnm n n m) j) = if i = j then gI w i else 0
theorem IsoT.refl {p : Int} {n : Nat} {w u : List Int} {m : List (List Int)} (hP : isP p = true) (h : IsoT p n w m) (hu : pairp p n w u u ≠ 0) : IsoT p n w (timesm p n n n (reflm p n w u) m) := by
  have hp := isP_le hP
  intro i hi j hj
  rw [refl_times (by omega) hi, refl_times (by omega) hj, reflv_pair hP hu]
  exact h i hi j hj
end Go.Vam

/- Plain laws: decompositions into reflections; HasSquareNorm. -/
namespace Go.Vam
open Go Go.RowKit
set_option linter.unusedSimpArgs false
set_option linter.unusedVariables false
set_option linter.unusedSectionVars false

section
variable {p : Int} {n : Nat} {w u : List Int} (hP : isP p = true) (hn0 : 0 < n) (hn : n ≤ 1000) (hwl : w.length = n) (hw : Vec p n w) (hu : Vec p n u) (hQ : pairp p n w u u ≠ 0)
include hP hn0 hn hwl hw hu hQ
end
section
variable {p : Int} {n : Nat} {w : List Int} (hP : isP p = true) (hn0 : 0 < n) (hn : n ≤ 1000) (hwl : w.length = n) (hw : Vec p n w) (hz : ∀ k, k < n → gI w k ≠ 0)
include hP hn0 hn hwl hw hz
end
end Go.Vam

/- Plain laws: systems of equations and spans. -/
namespace Go.Vam
open Go Go.RowKit
set_option linter.unusedSimpArgs false
set_option linter.unusedVariables false
set_option linter.unusedSectionVars false

def extF (c : Nat) (u : Nat → Int) (z : Int) : Nat → Int := fun q => if q < c then u q else z
theorem rd_ext {c : Nat} {a b : List Int} {z : Int} {u : Nat → Int} (h : ∀ q, q < c → gI a q = gI b q) : rd (c + 1) a (extF c u z) = rd c b u + gI a c * z := by
  unfold rd
  show sumN (fun k => gI a k * extF c u z k) c + gI a c * extF c u z c = _
  rw [show extF c u z c = z from by simp [extF]]
  congr 1
  exact sumN_congr fun q hq => by rw [h q hq, show extF c u z q = u q from by simp [extF, hq]]
theorem augm_rd {r c : Nat} {p : Int} {m : List (List Int)} {v : List Int} (hm : Mat p r c m) {i : Nat} (hi : i < r) (u : Nat → Int) (z : Int) : rd (c + 1) (gR (augm r m v) i) (extF c u z) = rd c (gR m i) u + gI v i * z := by
  unfold augm
  rw [gR_vecN _ hi]
  have e := (hm.row hi).1
  rw [rd_ext (b := gR m i) fun q hq => by rw [gI_append, if_pos (by omega)]]
  rw [gI_append, if_neg (by omega), e, Nat.sub_self]; rfl
theorem turn_augm {r c : Nat} {p : Int} {m : List (List Int)} {v : List Int} (hm : Mat p r c m) (hv : v.length = r) : turnm r (c + 1) (augm r m v) = turnm r c m ++ [v] := by
  unfold turnm
  rw [vecN_succ]
  congr 1
  · refine vecN_congr fun k hk => vecN_congr fun i hi => ?_
    unfold augm
    rw [gR_vecN _ hi, gI_append, if_pos (by rw [(hm.row hi).1]; exact hk)]
  · congr 1
    refine (extI hv fun i hi => ?_).symm
    unfold augm
    rw [gR_vecN _ hi, gI_append, if_neg (by rw [(hm.row hi).1]; omega), (hm.row hi).1, Nat.sub_self]; rfl

def trB (c k : Nat) (B : List (List Int)) : List (List Int) := vecN k fun j => vecN c fun q => gI (gR B j) q
theorem trB_ech {p : Int} {c k : Nat} {B : List (List Int)} {ld : Nat → Nat} (hB : Ech p (c + 1) B ld) (hk : k ≤ B.length) (hl : ∀ j, j < k → ld j < c) : Ech p c (trB c k B) ld := by
  have hlen : (trB c k B).length = k := vecN_len ..
  have hg : ∀ j, j < k → ∀ q, q < c → gI (gR (trB c k B) j) q = gI (gR B j) q := fun j hj q hq => by
    unfold trB
    rw [gR_vecN _ hj, gI_vecN _ hq]
  refine ⟨⟨rfl, fun j hj => ?_⟩, fun j hj => ?_, fun j hj => ?_, fun j hj q hq => ?_, fun j hj i hi hij => ?_, fun i j hij hj => ?_⟩
  · rw [hlen] at hj
    unfold trB
    rw [gR_vecN _ hj]
    exact Vec.mk' fun q hq => (hB.mat.row (i := j) (by omega)).get (by omega)
  · rw [hlen] at hj; exact hl j hj
  · rw [hlen] at hj; rw [hg j hj _ (hl j hj)]; exact hB.one j (by omega)
  · rw [hlen] at hj
    have := hl j hj
    rw [hg j hj q (by omega)]; exact hB.pre j (by omega) q hq
  · rw [hlen] at hj hi; rw [hg i hi _ (hl j hj)]; exact hB.col j (by omega) i (by omega) hij
  · rw [hlen] at hj; exact hB.srt i j hij (by omega)
theorem trB_ker {p : Int} {r c k : Nat} {m B : List (List Int)} {v : List Int} {ld : Nat → Nat} (hm : Mat p r c m) (hB : Ech p (c + 1) B ld) (hBk : ∀ u, Kr p (c + 1) B u ↔ KerP p r (c + 1) (augm r m v) u) (hk : k ≤ B.length)
    (hz : ∀ j, j < B.length → k ≤ j → ∀ q, q < c → gI (gR B j) q = 0) (u : Nat → Int) : Kr p c (trB c k B) u ↔ KerP p r c m u := by
  have hlen : (trB c k B).length = k := vecN_len ..
  have h1 : KerP p r c m u ↔ KerP p r (c + 1) (augm r m v) (extF c u 0) := by
    unfold KerP
    constructor
    · intro h i hi; rw [augm_rd hm hi, Int.mul_zero, Int.add_zero]; exact h i hi
    · intro h i hi; have := h i hi; rw [augm_rd hm hi, Int.mul_zero, Int.add_zero] at this; exact this
  rw [h1, ← hBk]
  unfold Kr
  rw [hlen]
  have hrow : ∀ j, j < k → rd (c + 1) (gR B j) (extF c u 0) = rd c (gR (trB c k B) j) u := fun j hj => by
    rw [rd_ext (b := gR (trB c k B) j) fun q hq => by unfold trB; rw [gR_vecN _ hj, gI_vecN _ hq], Int.mul_zero, Int.add_zero]
  constructor
  · intro h j hj
    by_cases hjk : j < k
    · rw [hrow j hjk]; exact h j hjk
    · rw [rd_ext (b := []) fun q hq => by rw [hz j hj (by omega) q hq]; rfl, Int.mul_zero, Int.add_zero]
      unfold rd
      refine sumN_dvd fun q hq => ?_
      rw [show gI ([] : List Int) q = 0 from rfl, Int.zero_mul]
      exact Int.dvd_zero _
  · intro h j hj
    rw [← hrow j hj]; exact h j (by omega)
theorem applyv_rd {p : Int} {r c : Nat} {m : List (List Int)} {x v : List Int} (hp : 0 < p) (hv : Vec p r v) (h : ∀ i, i < r → p ∣ rd c (gR m i) (gI x) - gI v i) : applyv p r c m x = v := by
  refine (extI hv.1 fun i hi => ?_).symm
  have e := hv.get hi
  have h1 := h i hi
  have h2 : dotp p c (gR m i) x = rd c (gR m i) (gI x) % p := rfl
  rw [h2]
  obtain ⟨k, hk⟩ := h1
  rw [show rd c (gR m i) (gI x) = gI v i + p * k by omega, Int.add_mul_emod_self_left, Int.emod_eq_of_lt e.1 e.2]
theorem Solve_full {p : Int} {r c : Nat} {m : List (List Int)} {v : List Int} (hP : isP p = true) (hr0 : 0 < r) (hr : r ≤ 1048000) (hc0 : 0 < c) (hc : c ≤ 1040000) (hm : Mat p r c m) (hv : Vec p r v) :
    ∃ (x : List Int) (ok : Bool) (Bm B : List (List Int)) (lm lb : Nat → Nat), i_field_solve p m v = some (x, ok) ∧ Ech p c Bm lm ∧ (∀ u, Kr p c Bm u ↔ KerP p r c m u) ∧ Ech p (c + 1) B lb ∧ (∀ u, Kr p (c + 1) B u ↔ KerP p r (c + 1) (augm r m v) u) ∧
      (ok = true → Bm.length = B.length ∧ Vec p c x ∧ applyv p r c m x = v) ∧ (ok = false → x = [] ∧ Bm.length + 1 = B.length) := by
  have hp := isP_le hP
  have ha := augm_mat hP hr0 (by omega) hc0 (by omega) hm hv
  obtain ⟨B, _, b1, _, ⟨ld, hB⟩, hBk⟩ := i_basis_any hP (by omega) (by omega) ha
  obtain ⟨Bm, _, m1, _, ⟨lm, hBm⟩, hBmk⟩ := i_basis_any hP (by omega) (by omega) hm
  have hle := hB.le
  have e2 := (hm.row hr0).1
  have em := hm.1
  obtain ⟨b, h1, h2⟩ := loop_inv (step := i_field_solve_L1 (gR m 0) B) (fun s => ∃ k : Nat, s.2 = (k : Int) ∧ k ≤ B.length ∧ (∀ j, j < k → ld j < c) ∧ s.1.length = c ∧ ∀ q, q < c → gI s.1 q = if isLd k ld q = true then gI (gR B (rowOf ld q B.length)) c else 0) (fun s => B.length - s.2.toNat)
    (fun b => (∃ x, b = .inl x ∧ (∀ j, j < B.length → ld j < c) ∧ x.length = c ∧ ∀ q, q < c → gI x q = if isLd B.length ld q = true then gI (gR B (rowOf ld q B.length)) c else 0) ∨ (b = .inr ([], false) ∧ ∃ j, j < B.length ∧ ld j = c ∧ ∀ i, i < j → ld i < c))
    (s := (List.replicate c 0, 0)) ⟨0, rfl, by omega, fun j hj => by omega, by simp, fun q hq => by rw [show isLd 0 ld q = false from rfl]; simp [gI, hq]⟩ (by rw [BIG_val]; simp only []; omega) (by
      rintro ⟨x, t⟩ ⟨k, rfl, hk, hlt, hl, hg⟩
      try simp only [] at hl hg
      unfold i_field_solve_L1
      by_cases hkb : k < B.length
      · have hf := hB.first (by omega) hkb
        rw [s_l12First_lead] at hf
        have hld := hB.lt k hkb
        have hrow := (hB.mat.row hkb).1
        simp only [lt_cast hkb, if_true, idxR hkb, some_bind, hf]
        by_cases hc' : ld k = c
        · refine .inr ⟨.inr ([], false), ?_, .inr ⟨rfl, k, hkb, hc', hlt⟩⟩
          rw [if_pos (by omega)]
        · refine .inl ?_
          rw [if_neg (by omega), show ((gR m 0).length : Int) = (c : Int) by omega, idxI (by omega), some_bind, idxI (by omega), some_bind, Int.toNat_natCast, w_in (by omega) (by omega)]
          refine ⟨_, rfl, ⟨k + 1, rfl, by omega, fun j hj => ?_, by simp [hl], fun q hq => ?_⟩, by simp only []; omega⟩
          · rcases Nat.lt_succ_iff_lt_or_eq.1 hj with h | rfl
            · exact hlt j h
            · omega
          · try simp only []
            rw [gI_set (by omega)]
            have hsucc : isLd (k + 1) ld q = (isLd k ld q || decide (ld k = q)) := by unfold isLd; rw [List.range_succ, List.any_append]; simp
            by_cases hq1 : ld k = q
            · subst hq1
              have hro : rowOf ld (ld k) B.length = k := by
                obtain ⟨a1, a2⟩ := rowOf_spec (ld := ld) (q := ld k) (k := B.length) ⟨k, hkb, rfl⟩
                exact hB.inj a1 hkb a2
              rw [if_pos rfl, hsucc]
              simp [hro]
            · rw [if_neg hq1, hg q hq, hsucc]
              simp [hq1]
      · have hkk : k = B.length := by omega
        subst hkk
        refine .inr ⟨.inl x, ?_, .inl ⟨x, rfl, hlt, hl, hg⟩⟩
        simp only [lt_cast_self, if_false])
  have hi : ∀ (z : List Int ⊕ (List Int × Bool)), loop (i_field_solve_L1 (gR m 0) B) BIG (List.replicate c 0, 0) = some z → i_field_solve p m v = (match z with | .inl y18 => some (y18, true) | .inr t => some t) := fun z hz => by
    unfold i_field_solve
    rw [idxR0 (by omega), some_bind, i_aug hP hr0 (by omega) hc0 (by omega) hm hv, some_bind, chk_bind (by omega), b1, some_bind, Int.toNat_natCast, e2, hz, some_bind]
    cases z <;> rfl
  rcases h2 with ⟨x, rfl, hlt, hl, hg⟩ | ⟨rfl, j, hj, hjc, hlt⟩
  · have hT := trB_ech hB (Nat.le_refl _) hlt
    have hTk := trB_ker hm hB hBk (Nat.le_refl _) (fun j h1 h2 => by omega)
    have hEq : Bm = trB c B.length B := hBm.unique (by omega) hT fun u => by rw [hBmk, hTk]
    refine ⟨x, true, Bm, B, lm, ld, hi _ h1, hBm, hBmk, hB, hBk, fun _ => ⟨by rw [hEq]; exact vecN_len .., ?_, ?_⟩, fun h => by cases h⟩
    · refine ⟨hl, fun q hq => ?_⟩
      rw [hg q hq]
      split
      · rename_i h
        obtain ⟨a1, a2⟩ := rowOf_spec (isLd_iff.1 h)
        exact (hB.mat.row a1).get (by omega)
      · omega
    · refine applyv_rd (by omega) hv fun i hi' => ?_
      have hker : KerP p r (c + 1) (augm r m v) (extF c (gI x) (-1)) := by
        rw [← hBk]
        intro j hj
        have hfree : isLd B.length ld c = false := by
          cases hx : isLd B.length ld c with
          | false => rfl
          | true => obtain ⟨j', h3, h4⟩ := isLd_iff.1 hx; have := hlt j' h3; omega
        have hlj := hlt j hj
        have hro : rowOf ld (ld j) B.length = j := by
          obtain ⟨a1, a2⟩ := rowOf_spec (ld := ld) (q := ld j) (k := B.length) ⟨j, hj, rfl⟩
          exact hB.inj a1 hj a2
        have hx1 : extF c (gI x) (-1) (ld j) = gI (gR B j) c := by
          unfold extF
          rw [if_pos hlj, hg _ hlj, if_pos (isLd_iff.2 ⟨j, hj, rfl⟩), hro]
        have hx2 : sumN (fun q => if isLd B.length ld q = true then 0 else gI (gR B j) q * extF c (gI x) (-1) q) (c + 1) = - gI (gR B j) c := by
          show sumN (fun q => if isLd B.length ld q = true then 0 else gI (gR B j) q * extF c (gI x) (-1) q) c + (if isLd B.length ld c = true then 0 else gI (gR B j) c * extF c (gI x) (-1) c) = _
          rw [hfree, sumN_congr (g := fun _ => (0 : Int)) fun q hq => by
            cases hq2 : isLd B.length ld q with
            | true => rfl
            | false =>
              have : gI x q = 0 := by rw [hg q hq, hq2]; rfl
              simp [extF, hq, this]]
          have hz : ∀ n, sumN (fun _ => (0 : Int)) n = 0 := fun n => by induction n with
            | zero => rfl
            | succ n ih => simp [sumN, ih]
          rw [hz]
          simp [extF]
        rw [hB.row_lead hj, hx1, hx2, Int.add_left_neg]
        exact Int.dvd_zero _
      have := hker i hi'
      rw [augm_rd hm hi'] at this
      rw [show rd c (gR m i) (gI x) - gI v i = rd c (gR m i) (gI x) + gI v i * -1 by omega]
      exact this
  · have hjl : j + 1 = B.length := by
      rcases Nat.lt_or_ge (j + 1) B.length with h | h
      · have := hB.srt j (j + 1) (by omega) h
        have := hB.lt (j + 1) h
        omega
      · omega
    have hT := trB_ech hB (k := j) (by omega) hlt
    have hTk := trB_ker hm hB hBk (k := j) (by omega) (fun j' h1 h2 q hq => by
      have : j' = j := by omega
      subst this
      exact hB.pre j' h1 q (by omega))
    have hEq : Bm = trB c j B := hBm.unique (by omega) hT fun u => by rw [hBmk, hTk]
    exact ⟨[], false, Bm, B, lm, ld, hi _ h1, hBm, hBmk, hB, hBk, (fun h => by cases h), fun _ => ⟨rfl, by rw [hEq, show (trB c j B).length = j from vecN_len ..]; omega⟩⟩
theorem spans_eq {p : Int} {r c : Nat} {m : List (List Int)} {v : List Int} {Bm B : List (List Int)} {lm lb : Nat → Nat} (hP : isP p = true) (hr0 : 0 < r) (hr : r ≤ 1000) (hc0 : 0 < c) (hc : c ≤ 1000) (hm : Mat p r c m) (hv : Vec p r v)
    (hBm : Ech p c Bm lm) (hBmk : ∀ u, Kr p c Bm u ↔ KerP p r c m u) (hB : Ech p (c + 1) B lb) (hBk : ∀ u, Kr p (c + 1) B u ↔ KerP p r (c + 1) (augm r m v) u) :
    i_field_spans p (turnm r c m) v = some (decide (B.length = Bm.length)) := by
  have ha := augm_mat hP hr0 (by omega) hc0 (by omega) hm hv
  have hT := turnm_mat hm
  have hT' := turnm_mat ha
  rw [turn_augm hm hv.1] at hT'
  obtain ⟨D, _, d1, _, ⟨l1, hD⟩, hDk⟩ := i_basis_any hP (by omega) (by omega) hT
  obtain ⟨D', _, d1', _, ⟨l1', hD'⟩, hDk'⟩ := i_basis_any hP (by omega) (by omega) hT'
  have e1 := rank_turn hP (by omega) (by omega) hm hBm hBmk hD hDk
  have e2 := rank_turn hP (by omega) (by omega) ha hB hBk hD' (fun u => by rw [hDk', turn_augm hm hv.1])
  unfold i_field_spans
  have hTl := hT.1
  rw [i_cloneRows_eq (hT.sz (by omega) (by omega)), some_bind, chk_bind (by simp only [List.length_cons, List.length_nil]; omega), d1', some_bind, d1, some_bind]
  congr 1
  unfold ieq
  rw [e1, e2]
  exact decide_eq_decide.2 ⟨fun h => by omega, fun h => by omega⟩
theorem likeI_self {v : List Int} (h : v.length ≤ 1048576) : l_likeInts v v = some true := by
  unfold l_likeInts
  simp only [not_true_eq_false, if_false]
  obtain ⟨b, h1, h2⟩ := any_loop (l_likeInts_L0 v v) v.length (fun _ => false) (fun _ => true) (by rw [BIG_val]; omega)
    (fun k hk _ => by
      unfold l_likeInts_L0
      simp only [lt_cast hk, if_true, idxI hk, some_bind, not_true_eq_false, if_false]
      rw [w_in (by omega) (by omega)]; rfl) (fun k hk hf => by cases hf) (by
      unfold l_likeInts_L0
      simp only [lt_cast_self, if_false])
  rcases h2 with ⟨rfl, _⟩ | ⟨k, _, _, hf, _⟩
  · rw [h1, some_bind]
  · cases hf
theorem iSolve_cases {p : Int} {m : List (List Int)} {v V : List Int} {C : Int} (h : szM m) (hv : v.length ≤ 1048576) (he : i_SolveMatrix p m v = some (V, C)) :
    (C ≠ 0 ∧ C ≠ 4) ∨ (isMat p m = true ∧ v.length = m.length ∧ nums p v = true ∧ ∃ x ok, i_field_solve p m v = some (x, ok) ∧ ((ok = true ∧ C = 0 ∧ V = x) ∨ (ok = false ∧ C = 4))) := by
  unfold i_SolveMatrix at he
  rw [checkM1 h, some_bind] at he
  cases hm : isMat p m with
  | false =>
    rw [hm] at he
    simp at he
    left
    omega
  | true =>
    obtain ⟨h1, h2, h3, hP, h4, h5⟩ := isMat_sz hm
    have hp := isP_le hP
    rw [hm] at he
    simp only [if_true, not_true_eq_false, if_false] at he
    by_cases hl : v.length = m.length
    · rw [i_field_is_eq (by omega) (by omega) hv] at he
      simp only [hl, not_true_eq_false, if_false, some_bind] at he
      cases hn : nums p v with
      | false =>
        rw [hn] at he
        simp at he
        left
        omega
      | true =>
        rw [hn] at he
        simp only [Bool.not_true, Bool.false_eq_true, if_false] at he
        obtain ⟨y, hy, he⟩ := bind_some he
        obtain ⟨x, ok⟩ := y
        refine .inr ⟨rfl, hl, rfl, x, ok, hy, ?_⟩
        cases ok with
        | false => simp at he; exact .inr ⟨rfl, by omega⟩
        | true => simp at he; exact .inl ⟨rfl, by omega, he.1.symm⟩
    · simp only [show ((v.length : Int) = (m.length : Int)) = False from eq_false (by omega), not_false_eq_true, if_true, some_bind] at he
      simp at he
      left
      omega
theorem LawSolutions {c : List Int} (hc : c.length ≤ 9223372036854775807) (hb : ∀ x ∈ c, 0 ≤ x ∧ x ≤ 255) : l_FnSolutions c = some true := by
  unfold l_FnSolutions l_big
  rw [some_bind]
  by_cases hbig : (4096 : Int) < (c.length : Int)
  · rw [ilt_true hbig, if_pos rfl]
  rw [ilt_false hbig]
  simp only [Bool.false_eq_true, if_false]
  obtain ⟨p, m, v, e0, p1, p2, hT, hvl⟩ := DrawSolve_eq (c := c) (by omega) hb
  rw [e0, some_bind]
  simp only []
  obtain ⟨V, C, e1, e2, hVl⟩ := SolveMatrix_eq (p := p) (m := m) (v := v) hT.sz (by omega)
  rw [e2, some_bind, e1, some_bind]
  simp only [not_true_eq_false, if_false, likeI_self (v := V) (by omega), some_bind, Bool.not_true, Bool.false_eq_true]
  rcases iSolve_cases hT.sz (by omega) e2 with ⟨c0, c4⟩ | ⟨hm, hl, hn, x, ok, hs, hcase⟩
  · simp [c0, c4, ieq]
  obtain ⟨h1, h2, h3, hP, h4, h5⟩ := isMat_sz hm
  have hp := isP_le hP
  have hv : Vec p m.length v := hl ▸ Vec.of hn
  obtain ⟨x', ok', Bm, B, lm, lb, f1, hBm, hBmk, hB, hBk, g1, g2⟩ := Solve_full hP (by omega) (by omega) (by omega) (by omega) h3 hv
  rw [hs] at f1
  have f1' := Option.some.inj f1
  simp only [Prod.mk.injEq] at f1'
  obtain ⟨rfl, rfl⟩ := f1'
  have htr : i_TransposeMatrix p m = some (turnm m.length (wid m) m, 0) := by
    unfold i_TransposeMatrix
    rw [checkM1 hT.sz, some_bind, hm]
    simp only [if_true, not_true_eq_false, if_false]
    rw [i_transpose_eq (p := p) (by omega) (by omega) (by omega) h3, some_bind]
  have hTT := turnm_mat h3
  have hTl := hTT.1
  have hT0 := (hTT.row (i := 0) (by omega)).1
  have hin : i_InSpan p (turnm m.length (wid m) m) v = some (decide (B.length = Bm.length), 0) := by
    unfold i_InSpan
    have hw : wid (turnm m.length (wid m) m) = m.length := by
      exact hT0
    have hmt : isMat p (turnm m.length (wid m) m) = true := isMat_iff.2 ⟨hP, by omega, by omega, by rw [hw]; omega, by rw [hw]; omega, by rw [hw, hTl]; exact hTT⟩
    rw [isMat_tab] at hmt
    simp only [Bool.and_eq_true] at hmt
    rw [i_IsPrime_eq, some_bind, hP]
    simp only [Bool.true_eq_false, if_false]
    rw [i_field_isTable_eq (by omega) (by omega) (hTT.sz (by omega) (by omega)), some_bind, hmt.2.2]
    simp only [Bool.not_true, some_bind, Bool.false_eq_true, if_false]
    rw [if_neg (by omega), idxR0 (by omega), some_bind, if_neg (by omega), i_field_is_eq (by omega) (by omega) (by omega), some_bind, hn]
    simp only [Bool.not_true, some_bind, Bool.false_eq_true, if_false]
    rw [spans_eq hP (by omega) (by omega) (by omega) (by omega) h3 hv hBm hBmk hB hBk, some_bind]
  rcases hcase with ⟨rfl, rfl, rfl⟩ | ⟨rfl, rfl⟩
  · obtain ⟨g3, g4, g5⟩ := g1 rfl
    have e5 := i_ApplyMatrix_eq (p := p) (m := m) (v := V) hT.sz (by omega)
    have hnV : nums p V = true := g4.nums
    have hC : apC p m V = 0 := by unfold apC; rw [if_pos hm, if_pos ⟨g4.1, hnV⟩]
    have hV : apV p m V = v := by unfold apV; rw [if_pos hm, if_pos ⟨g4.1, hnV⟩]; exact g5
    simp only [not_true_eq_false, if_false, some_bind, Bool.false_eq_true, htr, hin, g3, decide_true, ieq_self, bne_self_eq_false, e5, hC, hV, likeI_self (v := v) (by omega), if_true, Bool.true_eq_false]
  · obtain ⟨_, g3⟩ := g2 rfl
    have hne : decide (B.length = Bm.length) = false := by simp; omega
    simp only [htr, hin, hne, some_bind]
    simp [ieq]
end Go.Vam
