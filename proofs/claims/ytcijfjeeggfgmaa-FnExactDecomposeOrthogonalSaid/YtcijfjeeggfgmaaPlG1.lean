import Derived.Test.YtcijfjeeggfgmaaPlG0
import Derived.Test.YtcijfjeeggfgmaaFmG0
/- Plain laws: products of axes; derivations. -/
namespace Go.Vam
open Go Go.RowKit
set_option linter.unusedSimpArgs false
set_option linter.unusedVariables false
set_option linter.unusedSectionVars false

/-! ### Where a product has something -/
def Zr (n : Nat) (x : List Int) : Prop := ∀ q, q < n → gI x q = 0
theorem Zr.take {n h : Nat} {a : List Int} (hz : Zr n a) (hn : h ≤ n) : Zr h (a.take h) := fun q hq => by rw [gI_take hq]; exact hz q (by omega)
theorem Zr.drop {n h : Nat} {a : List Int} (hz : Zr (h + n) a) : Zr n (a.drop h) := fun q hq => by rw [gI_drop]; exact hz _ (by omega)
theorem gI_axis {n k q : Nat} (hk : k < n) : gI (axis n k) q = if q = k then 1 else 0 := by
  unfold axis
  rw [gI_set (by simpa using hk)]
  by_cases h : k = q
  · rw [if_pos h, if_pos h.symm]
  · rw [if_neg h, if_neg (fun e => h e.symm)]
    unfold gI
    rw [List.getD_eq_getElem?_getD, List.getElem?_replicate]
    split <;> rfl
theorem sumN_one {f : Nat → Int} {n k : Nat} (hk : k < n) (h : ∀ q, q < n → q ≠ k → f q = 0) : sumN f n = f k := by
  have key : ∀ m, m ≤ n → sumN f m = if k < m then f k else 0 := by
    intro m
    induction m with
    | zero => intro _; rfl
    | succ m ih =>
      intro hm
      rw [sumN, ih (by omega)]
      by_cases h1 : k < m
      · rw [if_pos h1, if_pos (by omega), h m (by omega) (by omega), Int.add_zero]
      · rw [if_neg h1]
        by_cases h2 : m = k
        · subst h2; rw [if_pos (by omega), Int.zero_add]
        · rw [if_neg (by omega), h m (by omega) h2, Int.add_zero]
  rw [key n (Nat.le_refl _), if_pos hk]
section
variable {p : Int} {n k : Nat} {m : List (List Int)} (hn : n ≤ 1048576) (hm : Mat p n n m) (hk : k < n)
include hn hm hk
end
theorem lead_zero {v : List Int} (hv : v.length ≤ 1048576) (hz : ∀ k, k < v.length → gI v k = 0) : i_lead v = some (v.length : Int) := by
  unfold i_lead
  rw [loop_for (b := (v.length : Int)) (s := 0) (fun k => (k : Int)) v.length (by rw [BIG_val]; omega) rfl]
  · rfl
  · intro k hk
    unfold i_lead_L0
    simp only [show (k : Int) < (v.length : Int) by omega, if_true, idxI hk, some_bind, hz k hk, ieq_self]
    rw [w_in (by omega) (by omega)]; rfl
  · unfold i_lead_L0
    simp
theorem i_isZero_eq {v : List Int} (hv : v.length ≤ 1048576) : ∃ b, i_isZero v = some b ∧ (b = true ↔ ∀ k, k < v.length → gI v k = 0) := by
  unfold i_isZero
  by_cases h : ∀ k, k < v.length → gI v k = 0
  · rw [lead_zero hv h, some_bind]
    exact ⟨_, rfl, by simp [ieq]; exact h⟩
  · have : ∃ q, q < v.length ∧ gI v q ≠ 0 := by
      apply Classical.byContradiction
      intro hc
      exact h fun k hk => Classical.byContradiction fun h0 => hc ⟨k, hk, h0⟩
    obtain ⟨q, hq, h0⟩ := this
    obtain ⟨f, f1, _, f3, f4, _⟩ := first_two hv hq h0
    rw [f3, some_bind]
    refine ⟨_, rfl, ?_⟩
    rw [ieq_nat, decide_eq_true_eq]
    constructor
    · intro e; omega
    · intro e; exact absurd e h
theorem diff_zero {p : Int} {n : Nat} {a b : List Int} (hp : 0 < p) (ha : Vec p n a) (hb : Vec p n b) : (∀ k, k < n → gI (plusv p n a b (-1)) k = 0) ↔ b = a := by
  constructor
  · intro h
    have : b = vecN n (gI a) := extI hb.1 fun k hk => by
      have h1 := h k hk
      unfold plusv at h1
      rw [gI_vecN _ hk] at h1
      have h2 := ha.get hk
      have h3 := hb.get hk
      have h4 : (gI a k + -1 * gI b k) = gI a k - gI b k := by omega
      rw [h4] at h1
      have h5 := Int.emod_emod_of_dvd (gI a k) (Int.dvd_refl p)
      have h6 : gI a k % p = gI b k % p := Int.emod_eq_emod_iff_emod_sub_eq_zero.2 h1
      rw [mod_small h2.1 h2.2, mod_small h3.1 h3.2] at h6
      exact h6.symm
    rw [this]; exact (extI ha.1 fun k _ => rfl).symm
  · rintro rfl k hk
    unfold plusv
    rw [gI_vecN _ hk]
    have : gI b k + -1 * gI b k = 0 := by omega
    rw [this]; simp

/-! ### Derivations -/
section
variable {p : Int} {w : List Int} {m : List (List Int)} (hP : isP p = true) (hl : w.length ≤ 4) (hw : Vec p w.length w) (hm : Mat p (2 ^ w.length) (2 ^ w.length) m)
include hP hl hw hm
end
end Go.Vam

/- Plain laws: the norms of axes; tables skew for the norm, tables that keep it. -/
namespace Go.Vam
open Go Go.RowKit
set_option linter.unusedSimpArgs false
set_option linter.unusedVariables false
set_option linter.unusedSectionVars false

theorem plusv_at {p : Int} {n q : Nat} {a b : List Int} {k : Int} (hq : q < n) : gI (plusv p n a b k) q = (gI a q + k * gI b q) % p := by
  unfold plusv; rw [gI_vecN _ hq]
theorem emm (a p : Int) : a % p % p = a % p := Int.emod_emod_of_dvd _ (Int.dvd_refl p)
theorem mul_mod_l {p a b c : Int} (h : a % p = b % p) : (a * c) % p = (b * c) % p := by rw [Int.mul_emod, h, ← Int.mul_emod]
section
variable {p : Int} {w : List Int} (hP : isP p = true) (hl : w.length ≤ 4) (hw : Vec p w.length w)
include hP hl hw
end

/-! ### Skew for the norm -/
section
variable {p : Int} {w : List Int} {m : List (List Int)} (hP : isP p = true) (hl : w.length ≤ 4) (hw : Vec p w.length w) (hm : Mat p (2 ^ w.length) (2 ^ w.length) m)
include hP hl hw hm
end
/-! ### Keeping the norm -/
section
variable {p : Int} {w : List Int} {m : List (List Int)} (hP : isP p = true) (hl : w.length ≤ 4) (hw : Vec p w.length w) (hm : Mat p (2 ^ w.length) (2 ^ w.length) m)
include hP hl hw
include hm
end
end Go.Vam

/- Plain laws: when a table sends something but nothing to nothing. -/
namespace Go.Vam
open Go Go.RowKit
set_option linter.unusedSimpArgs false
set_option linter.unusedVariables false
set_option linter.unusedSectionVars false

def rd (n : Nat) (a : List Int) (x : Nat → Int) : Int := sumN (fun k => gI a k * x k) n
theorem dvd_congr {p u v : Int} (h : u % p = v % p) : p ∣ u ↔ p ∣ v := by rw [Int.dvd_iff_emod_eq_zero, Int.dvd_iff_emod_eq_zero, h]
theorem sumN_lin (f g : Nat → Int) (k : Int) : ∀ n, sumN (fun q => f q + k * g q) n = sumN f n + k * sumN g n
  | 0 => by simp [sumN]
  | n + 1 => by simp only [sumN, sumN_lin f g k n, Int.mul_add]; omega
theorem rd_plusv {p : Int} {n : Nat} {a b : List Int} {k : Int} (x : Nat → Int) : rd n (plusv p n a b k) x % p = (rd n a x + k * rd n b x) % p := by
  unfold rd
  rw [← sumN_lin]
  refine sumN_mod fun q hq => ?_
  rw [plusv_at hq, mul_mod_l (emm _ _), Int.add_mul, Int.mul_assoc]
theorem prime_dvd {p a b : Int} (hP : isP p = true) : p ∣ a * b ↔ p ∣ a ∨ p ∣ b := by
  have hp := isP_le hP
  rw [Int.dvd_iff_emod_eq_zero, Int.dvd_iff_emod_eq_zero, Int.dvd_iff_emod_eq_zero, Int.mul_emod]
  exact mul_zero_mod hP (mod_num (by omega)) (mod_num (by omega))
end Go.Vam

/- Plain laws (2): a determinant is 0 just where the table sends something to nothing. -/
namespace Go.Vam
open Go Go.RowKit
set_option linter.unusedSimpArgs false
set_option linter.unusedVariables false
set_option linter.unusedSectionVars false

/-- A row less the multiple of R that clears column k. -/
def clp (p : Int) (c k : Nat) (R v : List Int) : List Int := plusv p c v R ((p - gI v k) * invp p (gI R k) % p)
section
variable {p : Int} {r : Nat} (hP : isP p = true) (hr : r ≤ 1048576)
include hP hr
end

section
variable {p : Int} {r k : Nat} {M y : List (List Int)} {R : List Int} (hP : isP p = true) (hk : k < r) (hM : Mat p r r M) (hMk : gR M k = R) (hR : gI R k ≠ 0)
  (hy : ∀ j, j < r → gR y j = if k < j then clp p r k R (gR M j) else gR M j)
include hP hk hM hMk hR hy
end
section
variable {p : Int} {r : Nat} (hP : isP p = true) (hr : r ≤ 1048576)
include hP hr
end
end Go.Vam

/- Plain laws: reduced rows, one put to the others at a time. -/
namespace Go.Vam
open Go Go.RowKit
set_option linter.unusedSimpArgs false
set_option linter.unusedVariables false
set_option linter.unusedSectionVars false

theorem s_l12First_lead (v : List Int) : s_l12First v = i_lead v := rfl
/-- Rows with a one of their own, nothing ahead of it, nothing else in its column. -/
structure Ech (p : Int) (n : Nat) (B : List (List Int)) (ld : Nat → Nat) : Prop where
  mat : Mat p B.length n B
  lt : ∀ j, j < B.length → ld j < n
  one : ∀ j, j < B.length → gI (gR B j) (ld j) = 1
  pre : ∀ j, j < B.length → ∀ q, q < ld j → gI (gR B j) q = 0
  col : ∀ j, j < B.length → ∀ i, i < B.length → i ≠ j → gI (gR B i) (ld j) = 0
  srt : ∀ i j, i < j → j < B.length → ld i < ld j
theorem Ech.first {p : Int} {n : Nat} {B : List (List Int)} {ld : Nat → Nat} (h : Ech p n B ld) (hn : n ≤ 1048576) {j : Nat} (hj : j < B.length) : s_l12First (gR B j) = some (ld j : Int) := by
  have e := (h.mat.row hj).1
  obtain ⟨f, f1, _, f3, f4, f5⟩ := first_two (v := gR B j) (q := ld j) (by omega) (by have := h.lt j hj; omega) (by rw [h.one j hj]; omega)
  have : f = ld j := by
    rcases Nat.lt_or_ge f (ld j) with hlt | hge
    · exact absurd (h.pre j hj f hlt) f4
    · omega
  rw [s_l12First_lead, f3, this]
section
variable {p : Int} {n : Nat} {B : List (List Int)} {ld : Nat → Nat} (hp : 3 ≤ p) (hp2 : p ≤ 13) (hn : n ≤ 1048576) (hB : Ech p n B ld) (hBl : B.length ≤ 1048576)
include hp hp2 hn hB hBl
end

/-- A row less what it has at f. -/
def lessv (p : Int) (n f : Nat) (R v : List Int) : List Int := plusv p n v R (gI v f * -1)
section
variable {p : Int} {n f : Nat} {B : List (List Int)} {R : List Int} {ld : Nat → Nat} (hp : 3 ≤ p) (hp2 : p ≤ 13) (hn : n ≤ 1048576) (hB : Ech p n B ld) (hBl : B.length ≤ 1048575) (hR : Vec p n R) (hf : f < n)
include hp hp2 hn hB hBl hR hf
end
end Go.Vam

/- Plain laws: reduced rows in order; they are told by what they send to nothing. -/
namespace Go.Vam
open Go Go.RowKit
set_option linter.unusedSimpArgs false
set_option linter.unusedVariables false
set_option linter.unusedSectionVars false

theorem mod_dvd {p a b : Int} : a % p = b % p ↔ p ∣ a - b := by
  rw [Int.emod_eq_emod_iff_emod_sub_eq_zero, Int.dvd_iff_emod_eq_zero]
def Kr (p : Int) (n : Nat) (B : List (List Int)) (u : Nat → Int) : Prop := ∀ j, j < B.length → p ∣ rd n (gR B j) u
theorem lessv_at {p : Int} {n f q : Nat} {R v : List Int} (hq : q < n) : gI (lessv p n f R v) q = (gI v q + (gI v f * -1) * gI R q) % p := plusv_at hq
theorem lessv_vec {p : Int} (hp : 0 < p) (n f : Nat) (R v : List Int) : Vec p n (lessv p n f R v) := plusv_vec hp ..
theorem lessv_idle {p : Int} {n f q : Nat} {R v : List Int} (hv : Vec p n v) (hq : q < n) (h : gI R q = 0 ∨ gI v f = 0) : gI (lessv p n f R v) q = gI v q := by
  rw [lessv_at hq]
  have e := hv.get hq
  have : gI v f * -1 * gI R q = 0 := by rcases h with h | h <;> rw [h] <;> simp
  rw [this, Int.add_zero, mod_small e.1 e.2]
/-- Rows with one row more at pos, cleared of what they had at its lead. -/
theorem Ech.put {p : Int} {n f pos : Nat} {B B' : List (List Int)} {R : List Int} {ld : Nat → Nat} (hp : 1 < p) (hB : Ech p n B ld) (hR : Vec p n R) (hf : f < n)
    (hR1 : gI R f = 1) (hRp : ∀ q, q < f → gI R q = 0) (hRl : ∀ j, j < B.length → gI R (ld j) = 0)
    (hpos : pos ≤ B.length) (hlo : ∀ j, j < pos → ld j < f) (hhi : ∀ j, pos ≤ j → j < B.length → f < ld j)
    (hl : B'.length = B.length + 1) (hg : ∀ j, j < B.length + 1 → gR B' j = if j < pos then lessv p n f R (gR B j) else if j = pos then R else lessv p n f R (gR B (j - 1))) :
    Ech p n B' (fun j => if j < pos then ld j else if j = pos then f else ld (j - 1)) ∧ ∀ u, Kr p n B' u ↔ Kr p n B u ∧ p ∣ rd n R u := by
  have hne : ∀ j, j < B.length → ld j ≠ f := by
    intro j hj
    by_cases h : j < pos
    · have := hlo j h; omega
    · have := hhi j (by omega) hj; omega
  have l1 : ∀ j, j < B.length → gI (lessv p n f R (gR B j)) (ld j) = 1 := by
    intro j hj
    rw [lessv_idle (hB.mat.row hj) (hB.lt j hj) (.inl (hRl j hj))]; exact hB.one j hj
  have l2 : ∀ j, j < B.length → ∀ i, i < B.length → i ≠ j → gI (lessv p n f R (gR B i)) (ld j) = 0 := by
    intro j hj i hi hij
    rw [lessv_idle (hB.mat.row hi) (hB.lt j hj) (.inl (hRl j hj))]; exact hB.col j hj i hi hij
  have l3 : ∀ j, j < B.length → ∀ q, q < ld j → gI (lessv p n f R (gR B j)) q = 0 := by
    intro j hj q hq
    have hln := hB.lt j hj
    by_cases h : f < ld j
    · rw [lessv_idle (hB.mat.row hj) (by omega) (.inr (hB.pre j hj f h))]; exact hB.pre j hj q hq
    · rw [lessv_idle (hB.mat.row hj) (by omega) (.inl (hRp q (by omega)))]; exact hB.pre j hj q hq
  have l4 : ∀ j, j < B.length → gI (lessv p n f R (gR B j)) f = 0 := by
    intro j hj
    rw [lessv_at hf, hR1]
    have : gI (gR B j) f + gI (gR B j) f * -1 * 1 = 0 := by omega
    rw [this]; rfl
  have l5 : ∀ j u, p ∣ rd n R u → (p ∣ rd n (lessv p n f R (gR B j)) u ↔ p ∣ rd n (gR B j) u) := by
    intro j u hu
    unfold lessv
    rw [dvd_congr (rd_plusv u)]
    exact Int.dvd_add_left (Int.dvd_mul_of_dvd_right hu)
  constructor
  · constructor
    · refine ⟨by omega, fun j hj => ?_⟩
      show Vec p n (gR B' j)
      rw [hg j (by omega)]
      split
      · exact lessv_vec (by omega) ..
      · split
        · exact hR
        · exact lessv_vec (by omega) ..
    · intro j hj
      try simp only []
      split
      · exact hB.lt j (by omega)
      · split
        · exact hf
        · exact hB.lt (j - 1) (by omega)
    · intro j hj
      try simp only []
      rw [hg j (by omega)]
      by_cases h1 : j < pos
      · simp only [h1, if_true]; exact l1 j (by omega)
      · by_cases h2 : j = pos
        · simp only [h1, h2, if_false, if_true, Nat.lt_irrefl]; exact hR1
        · simp only [h1, h2, if_false]; exact l1 (j - 1) (by omega)
    · intro j hj q hq
      try simp only [] at hq
      rw [hg j (by omega)]
      by_cases h1 : j < pos
      · simp only [h1, if_true] at hq ⊢; exact l3 j (by omega) q hq
      · by_cases h2 : j = pos
        · simp only [h1, h2, if_false, if_true, Nat.lt_irrefl] at hq ⊢; exact hRp q hq
        · simp only [h1, h2, if_false] at hq ⊢; exact l3 (j - 1) (by omega) q hq
    · intro j hj i hi hij
      try simp only []
      rw [hg i (by omega)]
      by_cases h1 : j < pos
      · rw [if_pos h1]
        by_cases g1 : i < pos
        · rw [if_pos g1]; exact l2 j (by omega) i (by omega) hij
        · rw [if_neg g1]
          by_cases g2 : i = pos
          · rw [if_pos g2]; exact hRl j (by omega)
          · rw [if_neg g2]; exact l2 j (by omega) (i - 1) (by omega) (by omega)
      · rw [if_neg h1]
        by_cases h2 : j = pos
        · rw [if_pos h2]
          by_cases g1 : i < pos
          · rw [if_pos g1]; exact l4 i (by omega)
          · rw [if_neg g1, if_neg (by omega)]; exact l4 (i - 1) (by omega)
        · rw [if_neg h2]
          by_cases g1 : i < pos
          · rw [if_pos g1]; exact l2 (j - 1) (by omega) i (by omega) (by omega)
          · rw [if_neg g1]
            by_cases g2 : i = pos
            · rw [if_pos g2]; exact hRl (j - 1) (by omega)
            · rw [if_neg g2]; exact l2 (j - 1) (by omega) (i - 1) (by omega) (by omega)
    · intro i j hij hj
      try simp only []
      by_cases h1 : j < pos
      · rw [if_pos h1, if_pos (by omega)]; exact hB.srt i j hij (by omega)
      · by_cases h2 : j = pos
        · rw [if_neg h1, if_pos h2, if_pos (by omega)]; exact hlo i (by omega)
        · rw [if_neg h1, if_neg h2]
          by_cases g1 : i < pos
          · rw [if_pos g1]; exact hB.srt i (j - 1) (by omega) (by omega)
          · rw [if_neg g1]
            by_cases g2 : i = pos
            · rw [if_pos g2]; exact hhi (j - 1) (by omega) (by omega)
            · rw [if_neg g2]; exact hB.srt (i - 1) (j - 1) (by omega) (by omega)
  · intro u
    constructor
    · intro h
      have hRu : p ∣ rd n R u := by
        have := h pos (by omega)
        rwa [hg pos (by omega), if_neg (by omega), if_pos rfl] at this
      refine ⟨fun j hj => ?_, hRu⟩
      by_cases h1 : j < pos
      · have := h j (by omega)
        rw [hg j (by omega), if_pos h1] at this
        exact (l5 j u hRu).1 this
      · have := h (j + 1) (by omega)
        rw [hg (j + 1) (by omega), if_neg (by omega), if_neg (by omega)] at this
        exact (l5 j u hRu).1 this
    · intro ⟨h, hRu⟩ j hj
      rw [hg j (by omega)]
      split
      · exact (l5 j u hRu).2 (h j (by omega))
      · split
        · exact hRu
        · exact (l5 (j - 1) u hRu).2 (h (j - 1) (by omega))

/-- Leads rise: the j-th stands at j or behind. -/
theorem Ech.ge {p : Int} {n : Nat} {B : List (List Int)} {ld : Nat → Nat} (h : Ech p n B ld) : ∀ j, j < B.length → j ≤ ld j := by
  intro j
  induction j with
  | zero => intro _; omega
  | succ j ih =>
    intro hj
    have h1 := ih (by omega)
    have h2 := h.srt j (j + 1) (by omega) hj
    omega
theorem Ech.le {p : Int} {n : Nat} {B : List (List Int)} {ld : Nat → Nat} (h : Ech p n B ld) : B.length ≤ n := by
  by_cases h0 : B.length = 0
  · omega
  · have h1 := h.ge (B.length - 1) (by omega)
    have h2 := h.lt (B.length - 1) (by omega)
    omega
theorem Ech.inj {p : Int} {n : Nat} {B : List (List Int)} {ld : Nat → Nat} (h : Ech p n B ld) {i j : Nat} (hi : i < B.length) (hj : j < B.length) (e : ld i = ld j) : i = j := by
  rcases Nat.lt_trichotomy i j with h1 | h1 | h1
  · have := h.srt i j h1 hj; omega
  · exact h1
  · have := h.srt j i h1 hi; omega
end Go.Vam

/- Plain laws: both programs' reduced bases are reduced rows in order, and send the same to nothing. -/
namespace Go.Vam
open Go Go.RowKit
set_option linter.unusedSimpArgs false
set_option linter.unusedVariables false
set_option linter.unusedSectionVars false

structure RedK (r c : Nat) (m : List (List Int)) (d k : Nat) (piv : Nat → Nat) : Prop where
  red : Red r c m d piv
  plt : ∀ j, j < d → piv j < k
  pre : ∀ j, j < d → ∀ q, q < piv j → gI (gR m j) q = 0
  srt : ∀ i j, i < j → j < d → piv i < piv j
  low : ∀ i, d ≤ i → i < r → ∀ q, q < k → gI (gR m i) q = 0
theorem RedK.skip {r c d k : Nat} {m : List (List Int)} {piv : Nat → Nat} (h : RedK r c m d k piv) (h0 : ∀ i, d ≤ i → i < r → gI (gR m i) k = 0) : RedK r c m d (k + 1) piv :=
  ⟨h.red, fun j hj => Nat.lt_succ_of_lt (h.plt j hj), h.pre, h.srt, fun i h1 h2 q hq => (Nat.lt_succ_iff_lt_or_eq.1 hq).elim (h.low i h1 h2 q) (fun e => e ▸ h0 i h1 h2)⟩
section
variable {p : Int} {r c k d x : Nat} {m : List (List Int)} {piv : Nat → Nat} {R : List Int} (hP : isP p = true) (hm : Mat p r c m) (hk : k < c) (hd : d < r) (hdx : d ≤ x) (hx : x < r)
  (hne : gI (gR m x) k ≠ 0) (hRe : R = scalev p c (gR m x) (invp p (gI (gR m x) k)))
include hP hm hk hd hdx hx hne hRe
theorem clrm_row (i : Nat) (hi : i < r) : gR (clrm p r c k d R ((m.set x (gR m d)).set d R)) i = if i = d then R else clr p c k R (if i = x then gR m d else gR m i) := by
  have e1 := hm.1
  unfold clrm
  rw [gR_vecN _ hi]
  by_cases hid : i = d
  · rw [if_pos hid, if_pos hid]
  · rw [if_neg hid, if_neg hid, gR_set (by rw [List.length_set]; omega), if_neg (by omega), gR_set (by omega)]
    by_cases hix : i = x
    · rw [if_pos hix.symm, if_pos hix]
    · rw [if_neg (fun e => hix e.symm), if_neg hix]
theorem RedK.step (h : RedK r c m d k piv) : RedK r c (clrm p r c k d R ((m.set x (gR m d)).set d R)) (d + 1) (k + 1) (fun j => if j = d then k else piv j) := by
  have hp := isP_le hP
  have row := clrm_row hP hm hk hd hdx hx hne hRe
  have e4 := (hm.row hx).get hk
  obtain ⟨i1, i2, i3⟩ := inv_facts (a := gI (gR m x) k) hP (by omega) e4.2
  have hR0 : ∀ q, q < k → gI R q = 0 := by
    intro q hq
    rw [hRe]; unfold scalev
    rw [gI_vecN _ (by omega), h.low x hdx hx q hq]; simp
  have hent : ∀ v q, q < k → gI v q = 0 → gI (clr p c k R v) q = 0 := by
    intro v q hq hv
    unfold clr plusv
    rw [gI_vecN _ (by omega), hv, hR0 q hq]; simp
  refine ⟨h.red.step hP hm hk hd hdx hx hne hRe, fun j hj => ?_, fun j hj q hq => ?_, fun i j hij hj => ?_, fun i h1 h2 q hq => ?_⟩
  · try simp only []
    split
    · omega
    · have := h.plt j (by omega); omega
  · try simp only [] at hq
    rw [row j (by omega)]
    by_cases hjd : j = d
    · rw [if_pos hjd] at hq ⊢; exact hR0 q hq
    · rw [if_neg hjd] at hq ⊢
      have h3 := h.plt j (by omega)
      rw [if_neg (by omega)]
      exact hent _ q (by omega) (h.pre j (by omega) q hq)
  · try simp only []
    rw [if_neg (show ¬ i = d by omega)]
    split
    · exact h.plt i (by omega)
    · exact h.srt i j hij (by omega)
  · rw [row i h2, if_neg (by omega)]
    by_cases hqk : q < k
    · refine hent _ q hqk ?_
      split
      · exact h.low d (Nat.le_refl _) hd q hqk
      · exact h.low i (by omega) h2 q hqk
    · have hqe : q = k := by omega
      subst hqe
      have hRk : gI R q = 1 := by rw [hRe]; unfold scalev; rw [gI_vecN _ hk, i3]
      unfold clr plusv
      rw [gI_vecN _ hk, hRk, Int.mul_one]
      generalize gI (if i = x then gR m d else gR m i) q = e
      rw [Int.add_emod, Int.emod_emod_of_dvd _ (Int.dvd_refl p), ← Int.add_emod]
      have : e + (p - e) = p := by omega
      rw [this, Int.emod_self]
end
section
variable {p : Int} {r c : Nat} (hP : isP p = true) (hr0 : 0 < r) (hr : r ≤ 1048576) (hc : c ≤ 1048576)
include hP hr0 hr hc
end
end Go.Vam

/- Plain laws: rows reduced one at a time; IsAutomorphism. -/
namespace Go.Vam
open Go Go.RowKit
set_option linter.unusedSimpArgs false
set_option linter.unusedVariables false
set_option linter.unusedSectionVars false

section
variable {p : Int} {n : Nat} (hP : isP p = true) (hn : n ≤ 1048000)
include hP hn
end

section
variable {p : Int} {w : List Int} {m : List (List Int)} (hP : isP p = true) (hl : w.length ≤ 4) (hw : Vec p w.length w) (hm : Mat p (2 ^ w.length) (2 ^ w.length) m)
include hP hl hw hm
end
end Go.Vam

/- Plain laws: reflections keep the products of vectors. -/
namespace Go.Vam
open Go Go.RowKit
set_option linter.unusedSimpArgs false
set_option linter.unusedVariables false
set_option linter.unusedSectionVars false

/-- The product of vectors, as an integer. -/
def pairS (n : Nat) (w x y : List Int) : Int := sumN (fun k => gI x k * gI y k * gI w k) n
theorem pairp_S (p : Int) (n : Nat) (w x y : List Int) : pairp p n w x y = pairS n w x y % p := rfl
theorem pairS_comm (n : Nat) (w x y : List Int) : pairS n w x y = pairS n w y x := by
  unfold pairS
  exact sumN_congr fun k _ => by rw [Int.mul_comm (gI x k)]
theorem pairS_lin {p : Int} {n : Nat} {w x x' u y : List Int} {c : Int} (h : ∀ k, k < n → gI x' k % p = (gI x k + c * gI u k) % p) : pairS n w x' y % p = (pairS n w x y + c * pairS n w u y) % p := by
  unfold pairS
  rw [← sumN_lin]
  refine sumN_mod fun k hk => ?_
  rw [Int.mul_assoc, mul_mod_l (h k hk)]
  congr 1
  rw [Int.add_mul, Int.mul_assoc, Int.mul_assoc, Int.mul_assoc]
/-- What the reflection in u makes of v. -/
def reflv (p : Int) (n : Nat) (w u v : List Int) : List Int := plusv p n v u (-2 * pairS n w u v * invp p (pairp p n w u u))
theorem reflv_vec {p : Int} (hp : 0 < p) (n : Nat) (w u v : List Int) : Vec p n (reflv p n w u v) := plusv_vec hp ..
theorem reflv_at {p : Int} {n k : Nat} {w u v : List Int} (hk : k < n) : gI (reflv p n w u v) k = (gI v k + (-2 * pairS n w u v * invp p (pairp p n w u u)) * gI u k) % p := plusv_at hk
theorem inv_dvd {p a : Int} (hP : isP p = true) (h0 : a % p ≠ 0) : p ∣ invp p (a % p) * a - 1 := by
  have hp := isP_le hP
  have hn := mod_num (a := a) (p := p) (by omega)
  obtain ⟨_, _, i3⟩ := inv_facts (a := a % p) hP (by omega) hn.2
  rw [← mod_dvd, Int.emod_eq_of_lt (show (0 : Int) ≤ 1 by omega) (by omega), Int.mul_comm, ← i3]
  exact (mul_mod_l (emm a p)).symm
theorem reflv_pair {p : Int} {n : Nat} {w u : List Int} (hP : isP p = true) (hu : pairp p n w u u ≠ 0) (x y : List Int) :
    pairp p n w (reflv p n w u x) (reflv p n w u y) = pairp p n w x y := by
  rw [pairp_S, pairp_S]
  have ht := inv_dvd hP (a := pairS n w u u) hu
  rw [← pairp_S] at ht
  have hx : ∀ k, k < n → gI (reflv p n w u x) k % p = (gI x k + (-2 * pairS n w u x * invp p (pairp p n w u u)) * gI u k) % p := fun k hk => by rw [reflv_at hk, emm]
  have hy : ∀ k, k < n → gI (reflv p n w u y) k % p = (gI y k + (-2 * pairS n w u y * invp p (pairp p n w u u)) * gI u k) % p := fun k hk => by rw [reflv_at hk, emm]
  have h1 := mod_dvd.1 (pairS_lin (w := w) (y := reflv p n w u y) hx)
  have h2 := mod_dvd.1 (pairS_lin (w := w) (y := x) hy)
  have h3 := mod_dvd.1 (pairS_lin (w := w) (y := u) hy)
  rw [pairS_comm n w x (reflv p n w u y), pairS_comm n w u (reflv p n w u y)] at h1
  rw [pairS_comm n w y x, pairS_comm n w u x] at *
  rw [pairS_comm n w y u] at h3
  generalize hX : pairS n w x u = X at *
  generalize hY : pairS n w u y = Y at *
  generalize invp p (pairp p n w u u) = t at *
  generalize pairS n w u u = Q at *
  generalize pairS n w x y = Z at *
  generalize pairS n w (reflv p n w u x) (reflv p n w u y) = A at *
  generalize pairS n w (reflv p n w u y) x = B at *
  generalize pairS n w (reflv p n w u y) u = C at *
  rw [mod_dvd]
  obtain ⟨k1, e1⟩ := h1
  obtain ⟨k2, e2⟩ := h2
  obtain ⟨k3, e3⟩ := h3
  obtain ⟨k4, e4⟩ := ht
  exact ⟨k1 + k2 + (-2 * X * t) * k3 + 4 * X * Y * t * k4, by grind⟩
/-- The reflection's table. -/
def reflm (p : Int) (n : Nat) (w u : List Int) : List (List Int) := turnm n n (vecN n fun k => reflv p n w u (axis n k))
theorem reflm_mat {p : Int} (hp : 0 < p) (n : Nat) (w u : List Int) : Mat p n n (reflm p n w u) := turnm_mat (Mat.mk' fun k _ => reflv_vec hp ..)
theorem pairS_axis {n k : Nat} {w u : List Int} (hk : k < n) : pairS n w u (axis n k) = gI u k * gI w k := by
  unfold pairS
  rw [sumN_one hk (fun q hq hqk => by rw [gI_axis hk, if_neg hqk]; simp), gI_axis hk, if_pos rfl, Int.mul_one]
theorem reflm_at {p : Int} {n r k : Nat} {w u : List Int} (hr : r < n) (hk : k < n) : gI (gR (reflm p n w u) r) k = ((if r = k then 1 else 0) + (-2 * (gI u k * gI w k) * invp p (pairp p n w u u)) * gI u r) % p := by
  unfold reflm
  rw [turnm_at hk hr, gR_vecN _ hk, reflv_at hr, gI_axis hk, pairS_axis hk]
theorem refl_times {p : Int} {n i : Nat} {w u : List Int} {m : List (List Int)} (hp : 0 < p) (hi : i < n) :
    gR (turnm n n (timesm p n n n (reflm p n w u) m)) i = reflv p n w u (gR (turnm n n m) i) := by
  have hv := (reflv_vec hp n w u (gR (turnm n n m) i)).1
  rw [extI hv (f := gI (reflv p n w u (gR (turnm n n m) i))) fun k _ => rfl]
  refine extI (by unfold turnm; rw [gR_vecN _ hi, vecN_len]) fun r hr => ?_
  rw [turnm_at hr hi, reflv_at hr, turnm_at hr hi]
  unfold timesm
  rw [gR_vecN _ hr, gI_vecN _ hi]
  have e1 : sumN (fun j => gI (gR (reflm p n w u) r) j * gI (gR m j) i) n % p = sumN (fun j => (if r = j then gI (gR m j) i else 0) + (-2 * invp p (pairp p n w u u) * gI u r) * (gI u j * gI (gR m j) i * gI w j)) n % p := by
    refine sumN_mod fun j hj => ?_
    rw [reflm_at hr hj, mul_mod_l (emm _ _)]
    congr 1
    split <;> grind
  rw [e1, sumN_lin, sumN_one hr (fun q hq hqr => if_neg (fun e => hqr e.symm)), if_pos rfl]
  congr 2
  have e2 : sumN (fun k => gI u k * gI (gR m k) i * gI w k) n = pairS n w u (gR (turnm n n m) i) := by
    unfold pairS
    exact sumN_congr fun k hk => by rw [turnm_at hk hi]
  rw [e2]
  grind
/-- A table whose columns have the products of the basis. -/
def IsoT (p : Int) (n : Nat) (w : List Int) (m : List (List Int)) : Prop := ∀ i, i < n → ∀ j, j < n → pairp p n w (gR (turnm n n m) i) (gR (turnm n n m) j) = if i = j then gI w i else 0
theorem IsoT.refl {p : Int} {n : Nat} {w u : List Int} {m : List (List Int)} (hP : isP p = true) (h : IsoT p n w m) (hu : pairp p n w u u ≠ 0) : IsoT p n w (timesm p n n n (reflm p n w u) m) := by
  have hp := isP_le hP
  intro i hi j hj
  rw [refl_times (by omega) hi, refl_times (by omega) hj, reflv_pair hP hu]
  exact h i hi j hj
/-- Of the sum and the difference with a vector of the same norm other than 0, not both have the norm 0. -/
theorem sum_norm {p : Int} {n : Nat} {w x y : List Int} (hP : isP p = true) (h1 : pairp p n w x x = pairp p n w y y) (h2 : pairp p n w y y ≠ 0) (h3 : pairp p n w (plusv p n x y (-1)) (plusv p n x y (-1)) = 0) :
    pairp p n w (plusv p n x y 1) (plusv p n x y 1) ≠ 0 := by
  have hp := isP_le hP
  intro h4
  have lin : ∀ c : Int, p ∣ pairS n w (plusv p n x y c) (plusv p n x y c) - (pairS n w x x + 2 * c * pairS n w x y + c * c * pairS n w y y) := by
    intro c
    have hx : ∀ k, k < n → gI (plusv p n x y c) k % p = (gI x k + c * gI y k) % p := fun k hk => by rw [plusv_at hk, emm]
    have a1 := mod_dvd.1 (pairS_lin (w := w) (y := plusv p n x y c) hx)
    have a2 := mod_dvd.1 (pairS_lin (w := w) (y := x) hx)
    have a3 := mod_dvd.1 (pairS_lin (w := w) (y := y) hx)
    rw [pairS_comm n w x (plusv p n x y c), pairS_comm n w y (plusv p n x y c)] at a1
    rw [pairS_comm n w y x] at a2
    obtain ⟨k1, e1⟩ := a1
    obtain ⟨k2, e2⟩ := a2
    obtain ⟨k3, e3⟩ := a3
    exact ⟨k1 + k2 + c * k3, by grind⟩
  have l1 := lin 1
  have l2 := lin (-1)
  have d1 : p ∣ pairS n w (plusv p n x y 1) (plusv p n x y 1) := Int.dvd_of_emod_eq_zero h4
  have d2 : p ∣ pairS n w (plusv p n x y (-1)) (plusv p n x y (-1)) := Int.dvd_of_emod_eq_zero h3
  have d3 : p ∣ pairS n w x x - pairS n w y y := mod_dvd.1 h1
  have h5 : p ∣ 4 * pairS n w y y := by
    obtain ⟨k1, e1⟩ := l1
    obtain ⟨k2, e2⟩ := l2
    obtain ⟨k3, e3⟩ := d1
    obtain ⟨k4, e4⟩ := d2
    obtain ⟨k5, e5⟩ := d3
    exact ⟨k3 + k4 - k1 - k2 - 2 * k5, by grind⟩
  rcases (prime_dvd hP).1 h5 with h | h
  · have : p ∣ (2 : Int) := by
      have : p ∣ (2 : Int) * 2 := h
      rcases (prime_dvd hP).1 this with h | h <;> exact h
    have := Int.le_of_dvd (by omega) this
    omega
  · exact h2 (Int.emod_eq_zero_of_dvd h)
end Go.Vam

/- Plain laws: decompositions into reflections; HasSquareNorm. -/
namespace Go.Vam
open Go Go.RowKit
set_option linter.unusedSimpArgs false
set_option linter.unusedVariables false
set_option linter.unusedSectionVars false

section
variable {p : Int} {n : Nat} {w u : List Int} (hP : isP p = true) (hn0 : 0 < n) (hn : n ≤ 1000) (hwl : w.length = n) (hw : Vec p n w) (hu : Vec p n u) (hQ : pairp p n w u u ≠ 0)
include hP hn0 hn hwl hw hu hQ
theorem pair_num (x y : List Int) : 0 ≤ pairp p n w x y ∧ pairp p n w x y < p := by
  have hp := isP_le hP
  exact mod_num (by omega)
theorem s_l07Reflect_eq {v : List Int} (hv : Vec p n v) : s_l07Reflect p w u v = some (reflv p n w u v) := by
  have hp := isP_le hP
  have a1 := pair_num hP hn0 hn hwl hw hu hQ u v
  have a2 := pair_num hP hn0 hn hwl hw hu hQ u u
  obtain ⟨i1, i2, i3⟩ := inv_facts (a := pairp p n w u u) hP (by omega) a2.2
  have g1 := s_l01Inv_eq (a := pairp p n w u u) hP (by omega) a2.2
  unfold s_l07Reflect reflv
  rw [s_l03Pair_eq hP (by omega) hw hu hv, some_bind, chk_bind (by omega), s_l03Pair_eq hP (by omega) hw hu hu, some_bind, g1, some_bind, chk_bind (by omega), chk_bind (by omega)]
  have e0 : pairp p n w u v = pairS n w u v % p := rfl
  generalize hA : pairp p n w u v = A at *
  generalize hT : invp p (pairp p n w u u) = t at *
  have b1 := mod_num (a := 2 * A) (p := p) (by omega)
  have w1 : w64 (2 * A) = 2 * A := w_in (by omega) (by omega)
  have t1 : (2 * A).tmod p = 2 * A % p := tmod_nn (by omega)
  have q1 := mul_abs (a := 2 * A % p) (b := t) (A := 13) (B := 13) (by omega) (by omega)
  have q2 := Int.mul_nonneg (a := 2 * A % p) (b := t) b1.1 (by omega)
  have w2 : w64 (2 * A % p * t) = 2 * A % p * t := w_in (by omega) (by omega)
  have t2 : (2 * A % p * t).tmod p = 2 * A % p * t % p := tmod_nn (by omega)
  have b2 := mod_num (a := 2 * A % p * t) (p := p) (by omega)
  have w3 : w64 (p - 2 * A % p * t % p) = p - 2 * A % p * t % p := w_in (by omega) (by omega)
  have t3 : (p - 2 * A % p * t % p).tmod p = (p - 2 * A % p * t % p) % p := tmod_nn (by omega)
  have b3 := mod_num (a := p - 2 * A % p * t % p) (p := p) (by omega)
  rw [w1, t1, w2, t2, w3, t3, s_l02Plus_eq (by omega) (by omega) (by omega) b3.1 (by omega) hv hu, some_bind]
  congr 1
  refine plusv_congr ?_
  rw [emm, mod_dvd]
  have d1 : p ∣ 2 * A % p * t % p - 2 * A % p * t := mod_dvd.1 (emm _ _)
  have d2 : p ∣ 2 * A % p - 2 * A := mod_dvd.1 (emm _ _)
  have d3 : p ∣ A - pairS n w u v := by rw [e0]; exact mod_dvd.1 (emm _ _)
  obtain ⟨k1, e1⟩ := d1
  obtain ⟨k2, e2⟩ := d2
  obtain ⟨k3, e3⟩ := d3
  generalize 2 * A % p * t % p = X at *
  generalize 2 * A % p = Y at *
  exact ⟨1 - k1 - k2 * t - 2 * k3 * t, by grind⟩
theorem i_Space_reflected_eq {v : List Int} (hv : Vec p n v) : i_Space_reflected p w u v = some (reflv p n w u v) := by
  have hp := isP_le hP
  have a1 := pair_num hP hn0 hn hwl hw hu hQ u v
  have a2 := pair_num hP hn0 hn hwl hw hu hQ u u
  obtain ⟨i1, i2, i3⟩ := inv_facts (a := pairp p n w u u) hP (by omega) a2.2
  have g1 := i_field_inv_eq (a := pairp p n w u u) hP (by omega) a2.2
  unfold i_Space_reflected i_Space_norm i_Space_field reflv
  rw [some_bind, i_Space_pair_eq hP (by omega) hw hu hv, some_bind, some_bind, i_Space_pair_eq hP (by omega) hw hu hu, some_bind, some_bind, g1, some_bind]
  have e0 : pairp p n w u v = pairS n w u v % p := rfl
  generalize hA : pairp p n w u v = A at *
  generalize hT : invp p (pairp p n w u u) = t at *
  have w1 : w64 (-2 * A) = -2 * A := w_in (by omega) (by omega)
  have q1 := mul_abs (a := -2 * A) (b := t) (A := 26) (B := 13) (by omega) (by omega)
  have w2 : w64 (-2 * A * t) = -2 * A * t := w_in (by omega) (by omega)
  rw [w1, w2, i_field_plus_eq (by omega) (by omega) (by omega) (by omega) hv hu, some_bind]
  congr 1
  refine plusv_congr ?_
  rw [mod_dvd]
  have d3 : p ∣ A - pairS n w u v := by rw [e0]; exact mod_dvd.1 (emm _ _)
  obtain ⟨k3, e3⟩ := d3
  exact ⟨-2 * k3 * t, by grind⟩
theorem refl_cols : Mat p n n (vecN n fun k => reflv p n w u (axis n k)) := by
  have hp := isP_le hP
  exact Mat.mk' fun k _ => reflv_vec (by omega) ..
theorem s_l08Reflection_eq : s_l08Reflection p w u = some (reflm p n w u) := by
  have hp := isP_le hP
  unfold s_l08Reflection
  rw [map_loop _ n (fun k => reflv p n w u (axis n k)) (by rw [BIG_val]; omega), some_bind, s_l02Turn_eq (by omega) (by omega) (by omega) (refl_cols hP hn0 hn hwl hw hu hQ), some_bind]
  · rfl
  · intro k hk out ho
    have ax : (List.replicate n (0 : Int)).set k 1 = axis n k := rfl
    have r1 := s_l07Reflect_eq hP hn0 hn hwl hw hu hQ (axis_vec (p := p) (by omega) hk)
    unfold s_l08Reflection_L0
    simp only [hwl, lt_cast hk, if_true]
    rw [chk_bind (by omega), some_bind, Int.toNat_natCast, idxI (by simpa using hk), some_bind, Int.toNat_natCast, ax, r1, some_bind, chk_bind (by simp only [List.length_cons, List.length_nil]; omega), w_in (by omega) (by omega)]; rfl
  · intro out ho
    unfold s_l08Reflection_L0
    simp only [hwl, lt_cast_self, if_false]
theorem i_Space_reflection_eq : i_Space_reflection p w u = some (reflm p n w u) := by
  have hp := isP_le hP
  have e0 := (unitm_mat (p := p) (by omega) n).1
  unfold i_Space_reflection i_Space_matrixBy_of_i_Space_reflection_c1 i_Space_dim
  rw [some_bind, hwl, i_unit_eq (by omega), some_bind, map_loop _ n (fun k => reflv p n w u (axis n k)) (by rw [BIG_val]; omega), some_bind, i_transpose_eq (by omega) (by omega) (by omega) (refl_cols hP hn0 hn hwl hw hu hQ), some_bind, some_bind]
  · rfl
  · intro k hk out ho
    have r1 := i_Space_reflected_eq hP hn0 hn hwl hw hu hQ (axis_vec (p := p) (by omega) hk)
    unfold i_Space_matrixBy_of_i_Space_reflection_c1_L0 i_Space_reflection_c1
    simp only [e0, lt_cast hk, if_true]
    rw [idxR (by omega), some_bind, gR_unitm hk, r1, some_bind, some_bind, chk_bind (by simp only [List.length_cons, List.length_nil]; omega), w_in (by omega) (by omega)]; rfl
  · intro out ho
    unfold i_Space_matrixBy_of_i_Space_reflection_c1_L0
    simp only [e0, lt_cast_self, if_false]
end
/-- Rows of n numbers each. -/
def RowsV (p : Int) (n : Nat) (L : List (List Int)) : Prop := ∀ r ∈ L, Vec p n r
section
variable {p : Int} {n : Nat} {w : List Int} (hP : isP p = true) (hn0 : 0 < n) (hn : n ≤ 1000) (hwl : w.length = n) (hw : Vec p n w) (hz : ∀ k, k < n → gI w k ≠ 0)
include hP hn0 hn hwl hw hz
theorem decompose_two {m : List (List Int)} (hm : Mat p n n m) (hi : IsoT p n w m) :
    ∃ L, loop (s_l08Decompose_L0 p w) BIG (m, [], 0) = some L ∧ loop (i_Space_decomposition_L0 p w (unitm n)) BIG (m, [], 0) = some L ∧ (RowsV p n L ∧ L.length ≤ 2 * n) := by
  have hp := isP_le hP
  have e0 := (unitm_mat (p := p) (by omega) n).1
  refine loop_two (S := List (List Int) × List (List Int) × Int) (B := List (List Int)) (f := s_l08Decompose_L0 p w) (g := i_Space_decomposition_L0 p w (unitm n)) (s := (m, [], 0)) (fun s => Mat p n n s.1 ∧ IsoT p n w s.1 ∧ RowsV p n s.2.1 ∧ ∃ k : Nat, s.2.2 = (k : Int) ∧ k ≤ n ∧ s.2.1.length ≤ 2 * k) (fun s => n - s.2.2.toNat) _ ⟨hm, hi, fun r hr => absurd hr List.not_mem_nil, 0, rfl, Nat.zero_le _, Nat.zero_le _⟩ (by rw [BIG_val]; simp only []; omega) ?_
  rintro ⟨m, L, t⟩ ⟨hm, hi, hL, k, rfl, hk, hLl⟩
  simp only [] at hm hi hL hLl
  unfold s_l08Decompose_L0 i_Space_decomposition_L0
  by_cases hkn : k < n
  · refine .inl ?_
    have hT := turnm_mat hm
    have tl := hT.1
    have wv := hT.row hkn
    have wl := wv.1
    have ev := axis_vec (p := p) (by omega) hkn
    have el := ev.1
    have ax : (List.replicate n (0 : Int)).set k 1 = axis n k := rfl
    have hWW : pairp p n w (gR (turnm n n m) k) (gR (turnm n n m) k) = gI w k := by rw [hi k hkn k hkn, if_pos rfl]
    have hEE : pairp p n w (axis n k) (axis n k) = gI w k := by
      rw [pairp_S, pairS_axis hkn, gI_axis hkn, if_pos rfl, Int.one_mul]
      exact mod_small (hw.get hkn).1 (hw.get hkn).2
    have lv : Vec p n (plusv p n (gR (turnm n n m) k) (axis n k) (-1)) := plusv_vec (by omega) ..
    have mv : Vec p n (plusv p n (gR (turnm n n m) k) (axis n k) 1) := plusv_vec (by omega) ..
    have p1 : s_l02Plus p (gR (turnm n n m) k) (axis n k) (p - 1) = some (plusv p n (gR (turnm n n m) k) (axis n k) (-1)) := by
      rw [s_l02Plus_eq (by omega) (by omega) (by omega) (by omega) (by omega) wv ev, plusv_congr neg_one_mod]
    have p2 := i_field_plus_eq (p := p) (k := -1) (by omega) (by omega) (show n ≤ 1048576 by omega) (by omega) wv ev
    have p3 := s_l02Plus_eq (p := p) (k := 1) (by omega) (by omega) (show n ≤ 1048576 by omega) (by omega) (by omega) wv ev
    have p4 := i_field_plus_eq (p := p) (k := 1) (by omega) (by omega) (show n ≤ 1048576 by omega) (by omega) wv ev
    have hlen : (plusv p n (gR (turnm n n m) k) (axis n k) (-1)).length = n := lv.1
    obtain ⟨b, b1, b2⟩ := i_isZero_eq (v := plusv p n (gR (turnm n n m) k) (axis n k) (-1)) (by omega)
    rw [hlen, diff_zero (by omega) wv ev] at b2
    have hb : decide (gR (turnm n n m) k = axis n k) = b := by
      rw [Bool.eq_iff_iff, b2, decide_eq_true_eq]
      exact ⟨fun e => e.symm, fun e => e.symm⟩
    have sm := s_l01Same_eq (a := gR (turnm n n m) k) (b := axis n k) (by omega)
    have n1 := s_l03Pair_eq hP (by omega) hw lv lv
    have n2 := i_Space_pair_eq hP (by omega) hw lv lv
    have w1 : w64 ((k : Int) + 1) = ((k + 1 : Nat) : Int) := by rw [w_in (by omega) (by omega)]; rfl
    have w2 : w64 (p - 1) = p - 1 := w_in (by omega) (by omega)
    simp only [hwl, e0, lt_cast hkn, if_true, s_l02Turn_eq (show 0 < n by omega) (by omega) (by omega) hm, i_transpose_eq (show 0 < n by omega) (by omega) (by omega) hm, some_bind, idxR (show k < (turnm n n m).length by omega), idxR (show k < (unitm n).length by omega), gR_unitm hkn, Int.toNat_natCast, i_Space_field, i_Space_norm,
      chk_bind (show 0 ≤ (n : Int) ∧ (n : Int) ≤ 1099511627776 by omega), idxI (show k < (List.replicate n (0 : Int)).length by simpa using hkn), ax, sm, hb, w1, w2, p1, p2, p3, p4, b1]
    cases b with
    | true => exact ⟨_, rfl, rfl, ⟨hm, hi, hL, k + 1, rfl, by omega, by simp only []; omega⟩, by simp only [Int.toNat_natCast]; omega⟩
    | false =>
      simp only [Bool.false_eq_true, if_false, n1, n2, some_bind]
      by_cases hq : pairp p n w (plusv p n (gR (turnm n n m) k) (axis n k) (-1)) (plusv p n (gR (turnm n n m) k) (axis n k) (-1)) = 0
      · simp only [hq, not_true_eq_false, if_false]
        have hq1 := sum_norm hP (hWW.trans hEE.symm) (by rw [hEE]; exact hz k hkn) hq
        have r1 := s_l08Reflection_eq hP hn0 hn hwl hw mv hq1
        have r2 := i_Space_reflection_eq hP hn0 hn hwl hw mv hq1
        have r3 := s_l08Reflection_eq hP hn0 hn hwl hw ev (by rw [hEE]; exact hz k hkn)
        have r4 := i_Space_reflection_eq hP hn0 hn hwl hw ev (by rw [hEE]; exact hz k hkn)
        have m1 := reflm_mat (p := p) (by omega) n w (plusv p n (gR (turnm n n m) k) (axis n k) 1)
        have m2 := reflm_mat (p := p) (by omega) n w (axis n k)
        have i1 := hi.refl hP hq1
        have m3 := timesm_mat (p := p) (by omega) n n n (reflm p n w (plusv p n (gR (turnm n n m) k) (axis n k) 1)) m
        have i2 := i1.refl hP (u := axis n k) (by rw [hEE]; exact hz k hkn)
        have m4 := timesm_mat (p := p) (by omega) n n n (reflm p n w (axis n k)) (timesm p n n n (reflm p n w (plusv p n (gR (turnm n n m) k) (axis n k) 1)) m)
        have t1 := s_l02Times_eq (p := p) (by omega) (by omega) (show n ≤ 1048576 by omega) hn0 (show n ≤ 1048576 by omega) (show n ≤ 1048576 by omega) m1 hm
        have t2 := i_field_times_eq (p := p) (by omega) (by omega) (show n ≤ 1048576 by omega) hn0 (show n ≤ 1048576 by omega) (show n ≤ 1048576 by omega) m1 hm
        have t3 := s_l02Times_eq (p := p) (by omega) (by omega) (show n ≤ 1048576 by omega) hn0 (show n ≤ 1048576 by omega) (show n ≤ 1048576 by omega) m2 m3
        have t4 := i_field_times_eq (p := p) (by omega) (by omega) (show n ≤ 1048576 by omega) hn0 (show n ≤ 1048576 by omega) (show n ≤ 1048576 by omega) m2 m3
        simp only [r1, r2, r3, r4, t1, t2, t3, t4, some_bind]
        rw [chk_bind (by simp only [List.length_cons, List.length_nil]; omega), some_bind]
        refine ⟨_, rfl, rfl, ⟨m4, i2, fun r hr => ?_, k + 1, rfl, by omega, by simp only [List.length_append, List.length_cons, List.length_nil]; omega⟩, by simp only [Int.toNat_natCast]; omega⟩
        simp only [List.mem_append, List.mem_cons, List.not_mem_nil, or_false] at hr
        rcases hr with h | h | h
        · exact hL r h
        · rw [h]; exact mv
        · rw [h]; exact ev
      · simp only [hq, not_false_eq_true, if_true]
        have r1 := s_l08Reflection_eq hP hn0 hn hwl hw lv hq
        have r2 := i_Space_reflection_eq hP hn0 hn hwl hw lv hq
        have m1 := reflm_mat (p := p) (by omega) n w (plusv p n (gR (turnm n n m) k) (axis n k) (-1))
        have i1 := hi.refl hP hq
        have m3 := timesm_mat (p := p) (by omega) n n n (reflm p n w (plusv p n (gR (turnm n n m) k) (axis n k) (-1))) m
        have t1 := s_l02Times_eq (p := p) (by omega) (by omega) (show n ≤ 1048576 by omega) hn0 (show n ≤ 1048576 by omega) (show n ≤ 1048576 by omega) m1 hm
        have t2 := i_field_times_eq (p := p) (by omega) (by omega) (show n ≤ 1048576 by omega) hn0 (show n ≤ 1048576 by omega) (show n ≤ 1048576 by omega) m1 hm
        simp only [r1, r2, t1, t2, some_bind]
        rw [chk_bind (by simp only [List.length_cons, List.length_nil]; omega), some_bind]
        refine ⟨_, rfl, rfl, ⟨m3, i1, fun r hr => ?_, k + 1, rfl, by omega, by simp only [List.length_append, List.length_cons, List.length_nil]; omega⟩, by simp only [Int.toNat_natCast]; omega⟩
        simp only [List.mem_append, List.mem_cons, List.not_mem_nil, or_false] at hr
        rcases hr with h | h
        · exact hL r h
        · rw [h]; exact lv
  · refine .inr ⟨L, ?_, ?_, hL, by omega⟩
    · simp only [hwl, show ¬ (k : Int) < (n : Int) by omega, if_false]
    · simp only [e0, show ¬ (k : Int) < (n : Int) by omega, if_false]
theorem Decompose_eq {m : List (List Int)} (hm : Mat p n n m) (hi : IsoT p n w m) :
    ∃ L, s_l08Decompose p w m = some L ∧ i_Space_decomposition p w m = some L ∧ RowsV p n L ∧ L.length ≤ 2 * n := by
  obtain ⟨L, h1, h2, h3, h4⟩ := decompose_two hP hn0 hn hwl hw hz hm hi
  unfold s_l08Decompose i_Space_decomposition i_Space_dim
  rw [h1, some_bind, some_bind, hwl, i_unit_eq (by omega), some_bind, h2, some_bind]
  exact ⟨L, rfl, rfl, h3, h4⟩
end
/-- The check of an orthogonal table says that its columns have the products of the basis. -/
theorem Isometry_full {p : Int} {w : List Int} {m : List (List Int)} (hs : isSp p w = true) (h : szM m) : ∃ b, s_l03Isometry p w p w m = some b ∧ i_isIsometry p w p w m = some b ∧ (b = true → fr p w m = true ∧ IsoT p w.length w m) := by
  obtain ⟨hP, g1, g2, g3⟩ := isSp_iff hs
  have hp := isP_le hP
  have hwd : (gR m 0).length = wid m := rfl
  unfold s_l03Isometry i_isIsometry i_Space_dim i_Space_field
  by_cases hl : m.length = w.length
  · simp only [not_true_eq_false, if_false, hl, s_l02Is_eq h, i_field_isMatrix_eq hP h, some_bind]
    cases hm : isMat p m with
    | false => exact ⟨false, by simp, by simp, by simp⟩
    | true =>
      obtain ⟨h1, h2, h3, _, h4, h5⟩ := isMat_sz hm
      simp only [Bool.true_eq_false, if_false, idxR0 (show 0 < m.length by omega), some_bind, hwd]
      by_cases hl2 : wid m = w.length
      · have hmm : Mat p w.length w.length m := by rw [hl, hl2] at h3; exact h3
        have hfr : fr p w m = true := by simp [fr, hm, hl, hl2]
        obtain ⟨d, d1, d2⟩ := Det_eq hP (r := w.length) (by omega) hmm
        have t1 := i_transpose_eq (p := p) (r := w.length) (c := w.length) (m := m) (by omega) (by omega) (by omega) hmm
        have t2 := s_l02Turn_eq (p := p) (r := w.length) (c := w.length) (m := m) (by omega) (by omega) (by omega) hmm
        have hT := turnm_mat hmm
        have l1 := s_iso_loop hP (by omega) g3 hT
        have l2 := i_iso_loop hP (by omega) g3 hT
        simp only [hl2, not_true_eq_false, if_false, d1, d2, some_bind, t1, t2, l1, l2]
        cases ieq d 0 with
        | true => exact ⟨false, rfl, rfl, by simp⟩
        | false =>
          simp only [Bool.false_eq_true, if_false]
          cases hA : (List.range w.length).all fun i => (List.range w.length).all (isoB p w (turnm w.length w.length m) i) with
          | true =>
            refine ⟨true, rfl, rfl, fun _ => ⟨hfr, fun i hi j hj => ?_⟩⟩
            have a1 := List.all_eq_true.1 hA i (by simpa using hi)
            have a2 := List.all_eq_true.1 a1 j (by simpa using hj)
            unfold isoB at a2
            exact of_decide_eq_true a2
          | false => exact ⟨false, rfl, rfl, by simp⟩
      · simp only [show ((wid m : Int) = (w.length : Int)) = False from eq_false (by omega), not_false_eq_true, if_true, some_bind]
        exact ⟨_, rfl, rfl, by simp⟩
  · simp only [not_true_eq_false, if_false, show ((m.length : Int) = (w.length : Int)) = False from eq_false (by omega), not_false_eq_true, if_true, some_bind, i_field_isMatrix_eq hP h]
    refine ⟨false, rfl, ?_, by simp⟩
    cases isMat p m <;> simp
/-- The code of an orthogonal table, and what it says when it is 0. -/
theorem Orth_full {p : Int} {w : List Int} {m : List (List Int)} (hw : w.length ≤ 1048576) (h : szM m) :
    ∃ K, s_l08Code p w m = some K ∧ i_checkOrthogonal p w m = some K ∧ (K = 0 → isSp p w = true ∧ fr p w m = true ∧ hasZ w = false ∧ IsoT p w.length w m) := by
  unfold s_l08Code s_IsOrthogonal i_checkOrthogonal s_l08Is
  rw [s_l03Is_eq hw, i_IsSpace_eq hw, some_bind, some_bind]
  cases hs : isSp p w with
  | false => exact ⟨1, by simp, by simp, by simp⟩
  | true =>
    obtain ⟨hP, g1, g2, g3⟩ := isSp_iff hs
    obtain ⟨d, d1, d2⟩ := s_l03Disc_eq hP g3 hw
    obtain ⟨b, b1, b2, b3⟩ := Isometry_full hs h
    simp only [Bool.true_eq_false, if_false, d1, i_Space_regular_eq hw, some_bind, b1, b2]
    cases hz : hasZ w with
    | true =>
      have := d2.2 hz
      exact ⟨5, by simp [this], by simp, by simp⟩
    | false =>
      have : ¬ d = 0 := fun e => by rw [d2.1 e] at hz; cases hz
      simp only [this, if_false, Bool.not_false, Bool.true_eq_false, some_bind]
      cases b with
      | true => exact ⟨0, by simp, by simp, fun _ => ⟨by trivial, (b3 rfl).1, by trivial, (b3 rfl).2⟩⟩
      | false => exact ⟨2, by simp, by simp, by simp⟩
end Go.Vam

/- Plain laws: the decomposition of an orthogonal matrix. -/
namespace Go.Vam
open Go Go.RowKit
set_option linter.unusedSimpArgs false
set_option linter.unusedVariables false

theorem RowsV.small {p : Int} {n : Nat} {L : List (List Int)} (h : RowsV p n L) (hn : n ≤ 100) (hl : L.length ≤ 2 * n) : smallM L := by
  have hm : Mat p L.length n L := ⟨rfl, fun i hi => h _ (by rw [← gR_get hi]; exact List.getElem_mem _)⟩
  exact smallM.of hm (by omega) (by omega)

theorem DecomposeOrthogonal_eq {p : Int} {w : List Int} {m : List (List Int)} (hw : w.length ≤ 1048576) (h : szM m) : ∃ V C, s_DecomposeOrthogonal p w m = some (V, C) ∧ i_DecomposeOrthogonal p w m = some (V, C) ∧ smallM V := by
  obtain ⟨K, k1, k2, k3⟩ := Orth_full (p := p) hw h
  unfold s_DecomposeOrthogonal i_DecomposeOrthogonal
  rw [k1, k2, some_bind, some_bind]
  by_cases h0 : K = 0
  · obtain ⟨hs, hf, hz, hi⟩ := k3 h0
    obtain ⟨hP, g1, g2, g3⟩ := isSp_iff hs
    obtain ⟨_, _, hm⟩ := fr_iff hf
    obtain ⟨L, l1, l2, l3, l4⟩ := Decompose_eq hP (by omega) (by omega) rfl g3 (fun k hk => hasZ_ne hz hk) hm hi
    simp only [h0, not_true_eq_false, if_false, l1, l2, some_bind]
    exact ⟨_, _, rfl, rfl, l3.small (by omega) l4⟩
  · simp only [h0, not_false_eq_true, if_true]
    exact ⟨_, _, rfl, rfl, smallM.nil⟩

theorem markSpace_1 {p : Int} {w : List Int} (hw : w.length ≤ 1048576) : l_markSpace p w 1 = some ((1 + w.length : Nat) : Int) := by
  unfold l_markSpace
  rw [markI_1 hw, some_bind]

theorem LawDecompose {p : Int} {w : List Int} {m : List (List Int)} (hw : lenI w) (hm : lenM m) : l_FnExactDecomposeOrthogonal p w m = some true := by
  unfold l_FnExactDecomposeOrthogonal
  rw [szSp_eq hw (by omega) (by omega), some_bind]
  by_cases h1 : ((w.length : Nat) : Int) ≤ 1048576
  · have hs : szv w.length 1048576 = 1048576 - ((w.length : Nat) : Int) := by unfold szv; rw [if_pos h1]
    rw [hs, if_neg (by omega), szM_eq hm (by omega) (by omega), some_bind]
    by_cases h2 : ((m.length + rowsum m : Nat) : Int) ≤ 1048576 - ((w.length : Nat) : Int)
    · have hs2 : szv (m.length + rowsum m) (1048576 - ((w.length : Nat) : Int)) = 1048576 - ((w.length : Nat) : Int) - ((m.length + rowsum m : Nat) : Int) := by unfold szv; rw [if_pos h2]
      rw [hs2, if_neg (by omega)]
      obtain ⟨za, ra⟩ := sz_split (m := m) (by omega) h2
      have hw' : w.length ≤ 1048576 := by omega
      obtain ⟨V, C, e3, e4, hV⟩ := DecomposeOrthogonal_eq (p := p) hw' za
      have e1 := toM_eq za.1 za.2
      have e2 := toSp_eq (p := p) hw'
      have e5 := eqSp_self (p := p) hw'
      have e6 := eqM_self za
      have e7 := eqM_self ⟨hV.1, hV.2.1⟩
      have e8 := markSpace_1 (p := p) hw'
      have e9 := markM_eq (m := m) (k := 1 + w.length) (by have := za.1; omega) (by omega)
      have e10 := markM_1 hV.1 hV.2.2
      have e11 := heldM_1 hV.1 hV.2.2
      simp only [e1, e2, e3, e4, e5, e6, e7, e8, e9, e10, e11, some_bind, Bool.true_eq_false, Bool.false_eq_true, if_false, if_true, ieq_self, Bool.not_true, natneg, not_true_eq_false, bne_self_eq_false]
    · have hs2 : szv (m.length + rowsum m) (1048576 - ((w.length : Nat) : Int)) = -1 := by unfold szv; rw [if_neg h2]
      rw [hs2, if_pos (by omega)]
  · have hs : szv w.length 1048576 = -1 := by unfold szv; rw [if_neg h1]
    rw [hs, if_pos (by omega)]
end Go.Vam
