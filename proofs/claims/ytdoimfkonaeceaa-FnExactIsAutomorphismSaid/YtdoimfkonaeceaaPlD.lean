/- Plain laws: when a table sends something but nothing to nothing. -/
import Derived.Test.YtdoimfkonaeceaaPlC
namespace Go.Vam
open Go Go.RowKit
set_option linter.unusedSimpArgs false
set_option linter.unusedVariables false
set_option linter.unusedSectionVars false

def rd (n : Nat) (a : List Int) (x : Nat → Int) : Int := sumN (fun k => gI a k * x k) n
def KerP (p : Int) (r n : Nat) (m : List (List Int)) (x : Nat → Int) : Prop := ∀ i, i < r → p ∣ rd n (gR m i) x
def Sg (p : Int) (r n : Nat) (m : List (List Int)) : Prop := ∃ x : Nat → Int, (∃ k, k < n ∧ ¬ p ∣ x k) ∧ KerP p r n m x
theorem dvd_congr {p u v : Int} (h : u % p = v % p) : p ∣ u ↔ p ∣ v := by rw [Int.dvd_iff_emod_eq_zero, Int.dvd_iff_emod_eq_zero, h]
theorem sumN_lin (f g : Nat → Int) (k : Int) : ∀ n, sumN (fun q => f q + k * g q) n = sumN f n + k * sumN g n
  | 0 => by simp [sumN]
  | n + 1 => by simp only [sumN, sumN_lin f g k n, Int.mul_add]; omega
theorem sumN_zero : ∀ n, sumN (fun _ => (0 : Int)) n = 0
  | 0 => rfl
  | n + 1 => by simp [sumN, sumN_zero n]
theorem rd_plusv {p : Int} {n : Nat} {a b : List Int} {k : Int} (x : Nat → Int) : rd n (plusv p n a b k) x % p = (rd n a x + k * rd n b x) % p := by
  unfold rd
  rw [← sumN_lin]
  refine sumN_mod fun q hq => ?_
  rw [plusv_at hq, mul_mod_l (emm _ _), Int.add_mul, Int.mul_assoc]
theorem rd_scalev {p : Int} {n : Nat} {a : List Int} {k : Int} (x : Nat → Int) : rd n (scalev p n a k) x % p = (k * rd n a x) % p := by
  unfold rd
  have e : k * sumN (fun q => gI a q * x q) n = sumN (fun _ => 0) n + k * sumN (fun q => gI a q * x q) n := by
    have := sumN_zero n
    omega
  rw [e, ← sumN_lin]
  refine sumN_mod fun q hq => ?_
  unfold scalev
  rw [gI_vecN _ hq, mul_mod_l (emm _ _), Int.zero_add, Int.mul_comm (gI a q), Int.mul_assoc]
theorem prime_dvd {p a b : Int} (hP : isP p = true) : p ∣ a * b ↔ p ∣ a ∨ p ∣ b := by
  have hp := isP_le hP
  rw [Int.dvd_iff_emod_eq_zero, Int.dvd_iff_emod_eq_zero, Int.dvd_iff_emod_eq_zero, Int.mul_emod]
  exact mul_zero_mod hP (mod_num (by omega)) (mod_num (by omega))
theorem num_dvd {p a : Int} (h : 0 ≤ a ∧ a < p) : p ∣ a ↔ a = 0 := by
  rw [Int.dvd_iff_emod_eq_zero, mod_small h.1 h.2]
/-- A sum with one place changed. -/
theorem sumN_upd (f : Nat → Int) (i : Nat) (c : Int) : ∀ n, i < n → f i = 0 → sumN (fun q => if q = i then c else f q) n = sumN f n + c := by
  intro n
  induction n with
  | zero => intro h; omega
  | succ n ih =>
    intro h h0
    simp only [sumN]
    by_cases hi : i < n
    · rw [ih hi h0, if_neg (by omega)]; omega
    · have : n = i := by omega
      subst this
      rw [if_pos rfl, h0, sumN_congr (g := f) fun k hk => if_neg (by omega)]; omega

/-- Places ahead of k: a number on the diagonal, nothing below. -/
def Tri (n k : Nat) (m : List (List Int)) : Prop := ∀ j, j < k → gI (gR m j) j ≠ 0 ∧ ∀ i, j < i → i < n → gI (gR m i) j = 0
theorem tri_stuck {p : Int} {n k : Nat} {m : List (List Int)} (hP : isP p = true) (hm : Mat p n n m) (ht : Tri n k m) (hk : k < n) (h0 : ∀ i, k ≤ i → i < n → gI (gR m i) k = 0) : Sg p n n m := by
  have hp := isP_le hP
  have key : ∀ t, t ≤ k → ∃ x : Nat → Int, x k = 1 ∧ (∀ q, k < q → x q = 0) ∧ (∀ q, q < k - t → x q = 0) ∧ ∀ i, k - t ≤ i → i < k → p ∣ rd n (gR m i) x := by
    intro t
    induction t with
    | zero => intro _; exact ⟨fun q => if q = k then 1 else 0, by simp, fun q hq => if_neg (by omega), fun q hq => if_neg (by omega), fun i h1 h2 => by omega⟩
    | succ t ih =>
      intro htk
      obtain ⟨x, x1, x2, x3, x4⟩ := ih (by omega)
      generalize hi : k - (t + 1) = i at *
      have hik : i < k := by omega
      have hin : i < n := by omega
      obtain ⟨d1, d2⟩ := ht i hik
      have e := (hm.row hin).get hin
      obtain ⟨i1, i2, i3⟩ := inv_facts (a := gI (gR m i) i) hP (by omega) e.2
      have hxi : x i = 0 := x3 i (by omega)
      have hrd : ∀ (c : Int) (j : Nat), j < n → rd n (gR m j) (fun q => if q = i then c else x q) = rd n (gR m j) x + gI (gR m j) i * c := by
        intro c j hj
        unfold rd
        rw [← sumN_upd (fun q => gI (gR m j) q * x q) i (gI (gR m j) i * c) n hin (by rw [hxi, Int.mul_zero])]
        refine sumN_congr fun q _ => ?_
        by_cases h : q = i
        · subst h; simp
        · simp [h]
      refine ⟨fun q => if q = i then -(rd n (gR m i) x) * invp p (gI (gR m i) i) else x q, by simp only []; rw [if_neg (by omega)]; exact x1, fun q hq => by simp only []; rw [if_neg (by omega)]; exact x2 q hq, fun q hq => by simp only []; rw [if_neg (by omega)]; exact x3 q (by omega), fun j hj1 hj2 => ?_⟩
      rw [hrd _ j (by omega)]
      by_cases hji : j = i
      · subst hji
        generalize rd n (gR m j) x = S
        generalize invp p (gI (gR m j) j) = v at i3
        generalize gI (gR m j) j = a at i3
        have e2 : S + a * (-S * v) = S * (1 - a * v) := by rw [Int.mul_sub, Int.mul_one, Int.neg_mul, Int.mul_neg, ← Int.mul_assoc, Int.mul_comm a S, Int.mul_assoc]; omega
        rw [e2]
        refine Int.dvd_mul_of_dvd_right ?_
        have : (1 - a * v) % p = 0 := by rw [Int.sub_emod, i3, Int.emod_eq_of_lt (show (0 : Int) ≤ 1 by omega) (by omega)]; rfl
        exact Int.dvd_of_emod_eq_zero this
      · rw [d2 j (by omega) (by omega), Int.zero_mul, Int.add_zero]
        exact x4 j (by omega) hj2
  obtain ⟨x, x1, x2, x3, x4⟩ := key k (Nat.le_refl _)
  refine ⟨x, ⟨k, hk, ?_⟩, fun i hi => ?_⟩
  · rw [x1, Int.dvd_iff_emod_eq_zero, Int.emod_eq_of_lt (by omega) (by omega)]; omega
  · by_cases hik : i < k
    · exact x4 i (by omega) hik
    · have : rd n (gR m i) x = 0 := by
        unfold rd
        have : ∀ q, q < n → gI (gR m i) q * x q = 0 := by
          intro q hq
          rcases Nat.lt_trichotomy q k with h | h | h
          · rw [(ht q h).2 i (by omega) hi, Int.zero_mul]
          · rw [h, h0 i (by omega) hi, Int.zero_mul]
          · rw [x2 q h, Int.mul_zero]
        rw [sumN_congr (g := fun _ => 0) this]
        exact sumN_zero n
      rw [this]; exact Int.dvd_zero p
/-- A whole triangle: nothing but nothing is sent to nothing. -/
theorem tri_free {p : Int} {n : Nat} {m : List (List Int)} (hP : isP p = true) (hm : Mat p n n m) (ht : Tri n n m) {x : Nat → Int} (hx : KerP p n n m x) : ∀ k, k < n → p ∣ x k := by
  have key : ∀ t, t ≤ n → ∀ q, n - t ≤ q → q < n → p ∣ x q := by
    intro t
    induction t with
    | zero => intro _ q h1 h2; omega
    | succ t ih =>
      intro ht' q h1 h2
      by_cases hq : n - t ≤ q
      · exact ih (by omega) q hq h2
      · have hqe : q = n - (t + 1) := by omega
        have hr := hx q h2
        have hsum : ∀ c, c ≤ n → p ∣ sumN (fun k => if k = q then 0 else gI (gR m q) k * x k) c := by
          intro c
          induction c with
          | zero => intro _; exact Int.dvd_zero p
          | succ c ihc =>
            intro hc
            simp only [sumN]
            refine Int.dvd_add (ihc (by omega)) ?_
            rcases Nat.lt_trichotomy c q with h | h | h
            · rw [if_neg (by omega), (ht c (by omega)).2 q h h2, Int.zero_mul]; exact Int.dvd_zero p
            · rw [if_pos h]; exact Int.dvd_zero p
            · rw [if_neg (by omega)]
              exact Int.dvd_mul_of_dvd_right (ih (by omega) c (by omega) (by omega))
        have e : rd n (gR m q) x = sumN (fun k => if k = q then 0 else gI (gR m q) k * x k) n + gI (gR m q) q * x q := by
          unfold rd
          rw [← sumN_upd (fun k => if k = q then 0 else gI (gR m q) k * x k) q (gI (gR m q) q * x q) n h2 (by simp)]
          refine sumN_congr fun k _ => ?_
          by_cases h : k = q
          · subst h; simp
          · simp [h]
        rw [e] at hr
        have h3 := (Int.dvd_add_right (hsum n (Nat.le_refl _))).1 hr
        rcases (prime_dvd hP).1 h3 with h | h
        · exact absurd ((num_dvd ((hm.row h2).get h2)).1 h) (ht q h2).1
        · exact h
  intro k hk
  exact key n (Nat.le_refl _) k (by omega) hk
end Go.Vam
