import Derived.Test.YtcijfjeeggfgmaaPlG1
import Derived.Test.YtcijfjeeggfgmaaPlG0
import Derived.Test.YtcijfjeeggfgmaaFmG0
/- Plain law: FnMatrixProducts. -/
namespace Go.Vam
open Go Go.RowKit
set_option linter.unusedSimpArgs false
set_option linter.unusedVariables false
set_option linter.unusedSectionVars false

theorem isMat_of {p : Int} {r c : Nat} {m : List (List Int)} (hP : isP p = true) (hm : Mat p r c m) (hr0 : 1 ≤ r) (hr : r ≤ 16) (hc0 : 1 ≤ c) (hc : c ≤ 16) : isMat p m = true ∧ m.length = r ∧ wid m = c := by
  have e1 := hm.1
  have e2 : wid m = c := (hm.row (i := 0) (by omega)).1
  refine ⟨isMat_iff.2 ⟨hP, by omega, by omega, by omega, by omega, by rw [e1, e2]; exact hm⟩, e1, e2⟩
section
variable {p : Int} {r n c : Nat} {a b : List (List Int)} (hP : isP p = true) (ha : Mat p r n a) (hr0 : 1 ≤ r) (hr : r ≤ 16) (hn0 : 1 ≤ n) (hn : n ≤ 16)
include hP ha hr0 hr hn0 hn
end
theorem det_ok {p : Int} {n : Nat} {a : List (List Int)} (hP : isP p = true) (ha : Mat p n n a) (hn0 : 1 ≤ n) (hn : n ≤ 16) :
    ∃ d, i_Determinant p a = some (d, 0) ∧ (d = 0 ↔ Sg p n n a) ∧ 0 ≤ d ∧ d < p ∧ p ∣ d - detL n a := by
  obtain ⟨x1, x2, x3⟩ := isMat_of hP ha hn0 hn hn0 hn
  obtain ⟨d, _, e, h1, h2⟩ := Det_val hP (by omega) ha
  refine ⟨d, ?_, h1, h2⟩
  have hq : sqC p a = 0 := by unfold sqC; rw [if_pos x1, if_pos (by omega)]
  unfold i_Determinant
  rw [i_checkSquare_eq (ha.sz (by omega) (by omega)), some_bind, hq]
  simp only [not_true_eq_false, if_false, e, some_bind]
theorem mod5_eq {p n : Int} (hp : 0 < p) (hp2 : p ≤ 1048576) (h1 : -9223372036854775808 ≤ n) (h2 : n ≤ 9223372036854775807) : l_mod5 p n = some (n % p) := by
  unfold l_mod5
  have hb := tmod_bounds n hp
  rw [chk_bind (by omega), chk_bind (by omega), w_in (by omega) (by omega), num_mod n hp]

end Go.Vam

/- Plain algebra: a Hessenberg matrix put into its characteristic polynomial. -/
namespace Go.Vam
open Go Go.RowKit
set_option linter.unusedSimpArgs false
set_option linter.unusedVariables false
set_option linter.unusedSectionVars false

/-! ### A matrix as a map -/
def hvN (r : Nat) (H : Nat → Nat → Int) (v : Nat → Int) : Nat → Int := fun i => sumN (fun j => H i j * v j) r
def pwN (r : Nat) (H : Nat → Nat → Int) : Nat → (Nat → Int) → Nat → Int
  | 0, v => v
  | t + 1, v => hvN r H (pwN r H t v)
def opN (r : Nat) (H : Nat → Nat → Int) (N : Nat) (c : Nat → Int) (v : Nat → Int) : Nat → Int := fun i => sumN (fun t => c t * pwN r H t v i) N
def eN (j : Nat) : Nat → Int := fun i => if i = j then 1 else 0
section
variable (r : Nat) (H : Nat → Nat → Int)
theorem hvN_mul (a : Int) (v : Nat → Int) : hvN r H (fun i => a * v i) = fun i => a * hvN r H v i := by
  funext i
  unfold hvN
  rw [← sumN_mulL]
  exact sumN_congr fun j _ => by grind
theorem hvN_sum (f : Nat → Nat → Int) (n : Nat) : hvN r H (fun i => sumN (fun t => f t i) n) = fun i => sumN (fun t => hvN r H (f t) i) n := by
  funext i
  unfold hvN
  rw [← sumN_comm]
  exact sumN_congr fun j _ => (sumN_mulL _ _ _).symm
theorem pwN_mul (a : Int) (v : Nat → Int) : ∀ t, pwN r H t (fun i => a * v i) = fun i => a * pwN r H t v i
  | 0 => rfl
  | t + 1 => by unfold pwN; rw [pwN_mul a v t, hvN_mul]
theorem pwN_sum (f : Nat → Nat → Int) (n : Nat) : ∀ t, pwN r H t (fun i => sumN (fun u => f u i) n) = fun i => sumN (fun u => pwN r H t (f u) i) n
  | 0 => rfl
  | t + 1 => by unfold pwN; rw [pwN_sum f n t, hvN_sum]
theorem pwN_add (v : Nat → Int) (u : Nat) : ∀ t, pwN r H t (pwN r H u v) = pwN r H (t + u) v
  | 0 => by rw [Nat.zero_add]; rfl
  | t + 1 => by rw [show t + 1 + u = (t + u) + 1 by omega]; unfold pwN; rw [pwN_add v u t]
theorem pwN_zero : ∀ t, pwN r H t (fun _ => 0) = fun _ => 0
  | 0 => rfl
  | t + 1 => by
    unfold pwN
    rw [pwN_zero t]
    funext i
    unfold hvN
    rw [sumN_congr (g := fun _ => 0) fun j _ => Int.mul_zero _]
    exact sumN_zero _
theorem opN_mul (N : Nat) (c : Nat → Int) (a : Int) (v : Nat → Int) : opN r H N c (fun i => a * v i) = fun i => a * opN r H N c v i := by
  funext i
  unfold opN
  rw [← sumN_mulL]
  exact sumN_congr fun t _ => by rw [pwN_mul]; grind
theorem opN_zero (N : Nat) (c : Nat → Int) : opN r H N c (fun _ => 0) = fun _ => 0 := by
  funext i
  unfold opN
  rw [sumN_congr (g := fun _ => 0) fun t _ => by rw [pwN_zero]; exact Int.mul_zero _]
  exact sumN_zero _
theorem opN_opN (N : Nat) (c d : Nat → Int) (v : Nat → Int) : opN r H N c (opN r H N d v) = fun i => sumN (fun t => sumN (fun u => c t * d u * pwN r H (t + u) v i) N) N := by
  funext i
  unfold opN
  refine sumN_congr fun t _ => ?_
  rw [pwN_sum r H (fun u i => d u * pwN r H u v i), ← sumN_mulL]
  refine sumN_congr fun u _ => ?_
  rw [pwN_mul, pwN_add]
  grind
theorem opN_comm (N : Nat) (c d : Nat → Int) (v : Nat → Int) : opN r H N c (opN r H N d v) = opN r H N d (opN r H N c v) := by
  rw [opN_opN, opN_opN]
  funext i
  rw [sumN_comm]
  exact sumN_congr fun u _ => sumN_congr fun t _ => by rw [Nat.add_comm]; grind
/-- The polynomial, times x. -/
def shN (c : Nat → Int) : Nat → Int := fun t => if t = 0 then 0 else c (t - 1)
theorem opN_sh {N : Nat} (c : Nat → Int) (hc : c N = 0) (v : Nat → Int) : opN r H (N + 1) (shN c) v = hvN r H (opN r H (N + 1) c v) := by
  funext i
  have h1 : opN r H (N + 1) (shN c) v i = sumN (fun t => c t * pwN r H (t + 1) v i) N := by
    unfold opN
    rw [Nat.add_comm N 1, sumN_split]
    simp only [sumN, Int.zero_add]
    have : shN c 0 = 0 := rfl
    rw [this, Int.zero_mul, Int.zero_add]
    refine sumN_congr fun t _ => ?_
    rw [Nat.add_comm 1 t]
    rfl
  have h2 : opN r H (N + 1) c v = opN r H N c v := by
    funext i
    show sumN (fun t => c t * pwN r H t v i) N + c N * pwN r H N v i = _
    rw [hc, Int.zero_mul, Int.add_zero]
    rfl
  rw [h1, h2]
  unfold opN
  rw [hvN_sum]
  refine sumN_congr fun t _ => ?_
  rw [hvN_mul]
  rfl
theorem opN_lin (N : Nat) (c d : Nat → Int) (a : Int) (v : Nat → Int) (i : Nat) : opN r H N (fun t => c t + a * d t) v i = opN r H N c v i + a * opN r H N d v i := by
  unfold opN
  rw [← sumN_mulL, ← sumN_add]
  exact sumN_congr fun t _ => by grind
theorem opN_sumc (N : Nat) (f : Nat → Nat → Int) (v : Nat → Int) (i n : Nat) : opN r H N (fun t => sumN (fun j => f j t) n) v i = sumN (fun j => opN r H N (f j) v i) n := by
  unfold opN
  rw [← sumN_comm]
  exact sumN_congr fun t _ => (sumN_mulR _ _ _).symm
theorem hv_e {k : Nat} (hk : k < r) : hvN r H (eN k) = fun i => H i k := by
  funext i
  unfold hvN eN
  rw [sumN_one hk (fun q _ hq => by rw [if_neg hq, Int.mul_zero]), if_pos rfl, Int.mul_one]
end

/-! ### The polynomials of a Hessenberg matrix -/
/-- The product of what stands below the diagonal. -/
def sPN (H : Nat → Nat → Int) (j n : Nat) : Int := prodN (fun u => H (j + u + 1) (j + u)) n
theorem sPN_add (H : Nat → Nat → Int) (j a : Nat) : ∀ b, sPN H j (a + b) = sPN H j a * sPN H (j + a) b
  | 0 => by simp [sPN, prodN]
  | b + 1 => by
    have ih := sPN_add H j a b
    unfold sPN at ih ⊢
    rw [show a + (b + 1) = (a + b) + 1 by omega]
    show prodN _ (a + b) * H (j + (a + b) + 1) (j + (a + b)) = prodN _ a * (prodN _ b * H (j + a + b + 1) (j + a + b))
    rw [ih, show j + (a + b) = j + a + b by omega]
    grind
def qTN (H : Nat → Nat → Int) : Nat → Nat → Nat → Int
  | 0 => fun _ t => if t = 0 then 1 else 0
  | k + 1 => fun i t => if i = k + 1 then shN (qTN H k k) t - H k k * qTN H k k t - sumN (fun j => H j k * sPN H j (k - j) * qTN H k j t) k else qTN H k i t
def qN (H : Nat → Nat → Int) (k : Nat) : Nat → Int := qTN H k k
theorem qTN_low (H : Nat → Nat → Int) : ∀ k i, i ≤ k → qTN H k i = qN H i
  | 0, i, h => by have : i = 0 := by omega
                  subst this; rfl
  | k + 1, i, h => by
    rcases Nat.lt_or_ge i (k + 1) with h1 | h1
    · funext t
      show (if i = k + 1 then _ else qTN H k i t) = _
      rw [if_neg (by omega), qTN_low H k i (by omega)]
    · have : i = k + 1 := by omega
      subst this; rfl
theorem qN_succ (H : Nat → Nat → Int) (k t : Nat) : qN H (k + 1) t = shN (qN H k) t - H k k * qN H k t - sumN (fun j => H j k * sPN H j (k - j) * qN H j t) k := by
  show (if k + 1 = k + 1 then shN (qTN H k k) t - H k k * qTN H k k t - sumN (fun j => H j k * sPN H j (k - j) * qTN H k j t) k else qTN H k (k + 1) t) = _
  rw [if_pos rfl]
  congr 1
  exact sumN_congr fun j hj => by rw [qTN_low H k j (by omega)]
theorem qN_deg (H : Nat → Nat → Int) : ∀ k t, k < t → qN H k t = 0 := by
  intro k
  induction k using Nat.strongRecOn with
  | ind k ih =>
    intro t ht
    cases k with
    | zero => show (if t = 0 then (1 : Int) else 0) = 0; rw [if_neg (by omega)]
    | succ k =>
      rw [qN_succ, sumN_congr (g := fun _ => 0) (fun j hj => by rw [ih j (by omega) t (by omega), Int.mul_zero]), sumN_zero, ih k (by omega) t (by omega)]
      unfold shN
      rw [if_neg (by omega), ih k (by omega) (t - 1) (by omega)]
      simp
theorem qN_monic (H : Nat → Nat → Int) : ∀ k, qN H k k = 1
  | 0 => rfl
  | k + 1 => by
    rw [qN_succ, sumN_congr (g := fun _ => 0) (fun j hj => by rw [qN_deg H j (k + 1) (by omega), Int.mul_zero]), sumN_zero, qN_deg H k (k + 1) (by omega)]
    unfold shN
    rw [if_neg (by omega), show k + 1 - 1 = k by omega, qN_monic H k]
    simp
theorem qN_trace (H : Nat → Nat → Int) : ∀ k, qN H (k + 1) k = - sumN (fun i => H i i) (k + 1)
  | 0 => by
    rw [qN_succ]
    show (0 : Int) - H 0 0 * 1 - 0 = -(0 + H 0 0)
    omega
  | k + 1 => by
    rw [qN_succ, sumN_congr (g := fun _ => 0) (fun j hj => by rw [qN_deg H j (k + 1) (by omega), Int.mul_zero]), sumN_zero, qN_monic]
    unfold shN
    rw [if_neg (by omega), show k + 1 - 1 = k by omega, qN_trace H k]
    show _ = -(sumN (fun i => H i i) (k + 1) + H (k + 1) (k + 1))
    omega
section
variable {r : Nat} {H : Nat → Nat → Int} (h0 : ∀ i j, r ≤ i → H i j = 0) (h1 : ∀ i j, j + 1 < i → H i j = 0)
include h0 h1
theorem qN_first : ∀ k, k ≤ r → opN r H (r + 1) (qN H k) (eN 0) = fun i => sPN H 0 k * eN k i := by
  intro k
  induction k using Nat.strongRecOn with
  | ind k ih =>
    intro hk
    cases k with
    | zero =>
      funext i
      unfold opN
      rw [sumN_one (show 0 < r + 1 by omega) (fun q _ hq => by
        show (if q = 0 then (1 : Int) else 0) * _ = 0
        rw [if_neg hq, Int.zero_mul])]
      show (1 : Int) * eN 0 i = 1 * eN 0 i
      rfl
    | succ k =>
      funext i
      have hkr : k < r := by omega
      have e1 : qN H (k + 1) = fun t => (shN (qN H k) t + (-(H k k)) * qN H k t) + (-1) * sumN (fun j => H j k * sPN H j (k - j) * qN H j t) k := by
        funext t
        rw [qN_succ]
        grind
      rw [e1, opN_lin, opN_lin, opN_sh r H (qN H k) (qN_deg H k r (by omega)), opN_sumc, ih k (by omega) (by omega), hvN_mul, hv_e r H hkr]
      have e2 : ∀ j, j < k → opN r H (r + 1) (fun t => H j k * sPN H j (k - j) * qN H j t) (eN 0) i = sPN H 0 k * (H j k * eN j i) := by
        intro j hj
        have : opN r H (r + 1) (fun t => H j k * sPN H j (k - j) * qN H j t) (eN 0) i = H j k * sPN H j (k - j) * opN r H (r + 1) (qN H j) (eN 0) i := by
          have := opN_lin r H (r + 1) (fun _ => 0) (qN H j) (H j k * sPN H j (k - j)) (eN 0) i
          simp only [Int.zero_add] at this
          rw [this]
          have z : opN r H (r + 1) (fun _ => 0) (eN 0) i = 0 := by
            unfold opN
            rw [sumN_congr (g := fun _ => 0) fun t _ => Int.zero_mul _]
            exact sumN_zero _
          rw [z, Int.zero_add]
        rw [this, ih j (by omega) (by omega)]
        have hs := sPN_add H 0 j (k - j)
        rw [show j + (k - j) = k by omega, Nat.zero_add] at hs
        rw [hs]
        grind
      rw [sumN_congr e2, sumN_mulL]
      have hS : sPN H 0 (k + 1) = sPN H 0 k * H (k + 1) k := by
        unfold sPN
        show prodN _ k * H (0 + k + 1) (0 + k) = _
        rw [Nat.zero_add]
      rw [hS]
      have key : H i k + (-(H k k)) * eN k i + (-1) * sumN (fun j => H j k * eN j i) k = H (k + 1) k * eN (k + 1) i := by
        rcases Nat.lt_trichotomy i k with hlt | heq | hgt
        · rw [sumN_one hlt (fun q _ hq => by unfold eN; rw [if_neg (fun e => hq e.symm), Int.mul_zero])]
          unfold eN
          rw [if_neg (by omega), if_pos rfl, if_neg (by omega)]
          omega
        · subst heq
          rw [sumN_congr (g := fun _ => 0) (fun j hj => by unfold eN; rw [if_neg (by omega), Int.mul_zero]), sumN_zero]
          unfold eN
          rw [if_pos rfl, if_neg (by omega)]
          omega
        · rw [sumN_congr (g := fun _ => 0) (fun j hj => by unfold eN; rw [if_neg (by omega), Int.mul_zero]), sumN_zero]
          unfold eN
          rw [if_neg (by omega)]
          by_cases e : i = k + 1
          · subst e; rw [if_pos rfl]; omega
          · rw [if_neg e, h1 i k (by omega)]; omega
      have e3 : sPN H 0 k * H i k + (-(H k k)) * (sPN H 0 k * eN k i) + (-1) * (sPN H 0 k * sumN (fun j => H j k * eN j i) k) = sPN H 0 k * (H i k + (-(H k k)) * eN k i + (-1) * sumN (fun j => H j k * eN j i) k) := by grind
      rw [e3, key]
      grind
theorem sPN_ne {n : Nat} (hne : ∀ u, u + 1 < r → H (u + 1) u ≠ 0) (hn : n < r) : sPN H 0 n ≠ 0 := by
  unfold sPN
  induction n with
  | zero => show (1 : Int) ≠ 0; decide
  | succ n ih =>
    show prodN _ n * H (0 + n + 1) (0 + n) ≠ 0
    rw [Nat.zero_add]
    exact Int.mul_ne_zero (ih (by omega)) (hne n (by omega))
/-- A Hessenberg matrix is led to 0 by its polynomial. -/
theorem qN_all (hr : 0 < r) (hne : ∀ u, u + 1 < r → H (u + 1) u ≠ 0) {j : Nat} (hj : j < r) (i : Nat) : opN r H (r + 1) (qN H r) (eN j) i = 0 := by
  have hz : opN r H (r + 1) (qN H r) (eN 0) = fun _ => 0 := by
    rw [qN_first h0 h1 r (Nat.le_refl _)]
    funext i
    have : sPN H 0 r = 0 := by
      unfold sPN
      obtain ⟨n, rfl⟩ : ∃ n, r = n + 1 := ⟨r - 1, by omega⟩
      show prodN _ n * H (0 + n + 1) (0 + n) = 0
      rw [h0 _ _ (by omega), Int.mul_zero]
    rw [this, Int.zero_mul]
  have h2 := opN_comm r H (r + 1) (qN H r) (qN H j) (eN 0)
  rw [qN_first h0 h1 j (by omega), hz, opN_zero, opN_mul] at h2
  have h3 := congrFun h2 i
  rcases Int.mul_eq_zero.1 h3 with h4 | h4
  · exact absurd h4 (sPN_ne h0 h1 hne hj)
  · exact h4
end
end Go.Vam

/- Plain algebra: the determinant of a Hessenberg matrix. -/
namespace Go.Vam
open Go Go.RowKit
set_option linter.unusedSimpArgs false
set_option linter.unusedVariables false
set_option linter.unusedSectionVars false

theorem sumN_hd (f : Nat → Int) (n : Nat) : sumN f (n + 1) = f 0 + sumN (fun k => f (k + 1)) n := by
  rw [Nat.add_comm n 1, sumN_split]
  simp only [sumN, Int.zero_add]
  congr 1
  exact sumN_congr fun k _ => by rw [Nat.add_comm]
theorem sgnN_add (a : Nat) : ∀ b, sgnN (a + b) = sgnN a * sgnN b
  | 0 => by show sgnN a = sgnN a * 1; rw [Int.mul_one]
  | b + 1 => by rw [show a + (b + 1) = (a + b) + 1 by omega, sgnN_succ, sgnN_succ, sgnN_add a b]; grind
theorem sgnN_sq (a : Nat) : sgnN a * sgnN a = 1 := by unfold sgnN; split <;> decide
def fH (H : Nat → Nat → Int) (j n : Nat) (c : Nat → Int) : Int := detN n fun a b => if a = 0 then c (j + b) else H (j + a) (j + b)
def eH (H : Nat → Nat → Int) (r m : Nat) : Int := fH H m (r - m) (H m)
def wH (H : Nat → Nat → Int) (i l : Nat) : Int := sgnN (l - i) * H i l * sPN H i (l - i)
def aH (H : Nat → Nat → Int) (r i k : Nat) : Int := sumN (fun u => wH H i (k + u) * eH H r (k + u + 1)) (r - k)
def dH (H : Nat → Nat → Int) (k : Nat) : Int := sgnN k * qN H k 0
theorem dH_succ (H : Nat → Nat → Int) (k : Nat) : dH H (k + 1) = sumN (fun i => dH H i * wH H i k) (k + 1) := by
  unfold dH wH
  rw [qN_succ]
  show sgnN (k + 1) * (0 - H k k * qN H k 0 - sumN (fun j => H j k * sPN H j (k - j) * qN H j 0) k) = sumN _ k + sgnN k * qN H k 0 * (sgnN (k - k) * H k k * sPN H k (k - k))
  rw [Nat.sub_self, sgnN_succ]
  have e1 : sumN (fun i => sgnN i * qN H i 0 * (sgnN (k - i) * H i k * sPN H i (k - i))) k = sgnN k * sumN (fun j => H j k * sPN H j (k - j) * qN H j 0) k := by
    rw [← sumN_mulL]
    refine sumN_congr fun i hi => ?_
    have hs := sgnN_add i (k - i)
    rw [show i + (k - i) = k by omega] at hs
    rw [hs]
    grind
  have e2 : sgnN 0 = 1 := rfl
  have e3 : sPN H k 0 = 1 := rfl
  rw [e1, e2, e3]
  grind
section
variable {r : Nat} {H : Nat → Nat → Int} (h0 : ∀ i j, r ≤ i → H i j = 0) (h1 : ∀ i j, j + 1 < i → H i j = 0)
include h0 h1
theorem fH_step (j n : Nat) (hn : j + (n + 1) = r) (c : Nat → Int) : fH H j (n + 1) c = c j * fH H (j + 1) n (H (j + 1)) - H (j + 1) j * fH H (j + 1) n c := by
  have m0 : detN n (fun a b => (if skipN 0 a = 0 then c (j + (b + 1)) else H (j + skipN 0 a) (j + (b + 1)))) = fH H (j + 1) n (H (j + 1)) := by
    unfold fH
    refine detN_congr n fun a _ b _ => ?_
    have : skipN 0 a = a + 1 := by unfold skipN; rw [if_neg (by omega)]
    rw [this, if_neg (by omega)]
    by_cases ha : a = 0
    · subst ha; rw [if_pos rfl, show j + (0 + 1) = j + 1 by omega, show j + (b + 1) = j + 1 + b by omega]
    · rw [if_neg ha, show j + (a + 1) = j + 1 + a by omega, show j + (b + 1) = j + 1 + b by omega]
  have m1 : detN n (fun a b => (if skipN 1 a = 0 then c (j + (b + 1)) else H (j + skipN 1 a) (j + (b + 1)))) = fH H (j + 1) n c := by
    unfold fH
    refine detN_congr n fun a _ b _ => ?_
    by_cases ha : a = 0
    · subst ha
      have : skipN 1 0 = 0 := rfl
      rw [this, if_pos rfl, if_pos rfl, show j + (b + 1) = j + 1 + b by omega]
    · have : skipN 1 a = a + 1 := by unfold skipN; rw [if_neg (by omega)]
      rw [this, if_neg (by omega), if_neg ha, show j + (a + 1) = j + 1 + a by omega, show j + (b + 1) = j + 1 + b by omega]
  show sumN (fun i => sgnN i * (if i = 0 then c (j + 0) else H (j + i) (j + 0)) * detN n (fun a b => (if skipN i a = 0 then c (j + (b + 1)) else H (j + skipN i a) (j + (b + 1))))) (n + 1) = _
  rw [sumN_hd]
  simp only [if_true, Nat.add_zero]
  rw [m0]
  have s0 : sgnN 0 = 1 := rfl
  cases n with
  | zero =>
    have hz : H (j + 1) j = 0 := h0 _ _ (by omega)
    rw [hz, s0]
    simp [sumN]
  | succ n =>
    rw [sumN_one (show 0 < n + 1 by omega) (fun q _ hq => by
      rw [if_neg (by omega), h1 (j + (q + 1)) j (by omega)]
      simp)]
    have s1 : sgnN (0 + 1) = -1 := rfl
    rw [s0, s1, if_neg (by omega)]
    have : detN (n + 1) (fun a b => (if skipN (0 + 1) a = 0 then c (j + (b + 1)) else H (j + skipN (0 + 1) a) (j + (b + 1)))) = fH H (j + 1) (n + 1) c := m1
    rw [this]
    grind
theorem fH_sum : ∀ (n j : Nat) (c : Nat → Int), j + n = r → fH H j n c = if n = 0 then 1 else sumN (fun u => sgnN u * c (j + u) * sPN H j u * eH H r (j + u + 1)) n
  | 0, j, c, _ => rfl
  | n + 1, j, c, hn => by
    rw [fH_step h0 h1 j n hn c, fH_sum n (j + 1) c (by omega), if_neg (show ¬ n + 1 = 0 by omega), sumN_hd]
    have e1 : eH H r (j + 0 + 1) = fH H (j + 1) n (H (j + 1)) := by
      unfold eH
      rw [Nat.add_zero, show r - (j + 1) = n by omega]
    have s0 : sgnN 0 = 1 := rfl
    have s1 : sPN H j 0 = 1 := rfl
    rw [e1, s0, s1, Nat.add_zero]
    by_cases h : n = 0
    · subst h
      have hz : H (j + 1) j = 0 := h0 _ _ (by omega)
      rw [hz, if_pos rfl]
      simp [sumN]
    · rw [if_neg h, Int.sub_eq_add_neg]
      have : -(H (j + 1) j * sumN (fun u => sgnN u * c (j + 1 + u) * sPN H (j + 1) u * eH H r (j + 1 + u + 1)) n) = sumN (fun k => sgnN (k + 1) * c (j + (k + 1)) * sPN H j (k + 1) * eH H r (j + (k + 1) + 1)) n := by
        rw [← Int.neg_mul, ← sumN_mulL]
        refine sumN_congr fun u _ => ?_
        have hs := sPN_add H j 1 u
        have hs1 : sPN H j 1 = H (j + 1) j := by
          show (1 : Int) * H (j + 0 + 1) (j + 0) = _
          rw [Int.one_mul]; rfl
        rw [Nat.add_comm 1 u, hs1] at hs
        rw [hs, sgnN_succ, show j + (u + 1) = j + 1 + u by omega]
        grind
      rw [this]
      grind
theorem eH_a {j : Nat} (hj : j < r) : eH H r j = aH H r j j := by
  unfold aH
  conv => lhs; unfold eH
  rw [fH_sum h0 h1 (r - j) j (H j) (by omega), if_neg (by omega)]
  refine sumN_congr fun u _ => ?_
  unfold wH
  rw [Nat.add_sub_cancel_left]
theorem aH_step (i : Nat) {k : Nat} (hk : k < r) : aH H r i k = wH H i k * eH H r (k + 1) + aH H r i (k + 1) := by
  unfold aH
  rw [show r - k = (r - (k + 1)) + 1 by omega, sumN_hd, Nat.add_zero]
  congr 1
  exact sumN_congr fun u _ => by rw [show k + (u + 1) = k + 1 + u by omega]
def phiH (H : Nat → Nat → Int) (r k : Nat) : Int := sumN (fun i => dH H i * aH H r i k) (k + 1)
theorem phi_step {k : Nat} (hk : k + 1 < r) : phiH H r (k + 1) = phiH H r k := by
  unfold phiH
  show sumN (fun i => dH H i * aH H r i (k + 1)) (k + 1) + dH H (k + 1) * aH H r (k + 1) (k + 1) = sumN (fun i => dH H i * aH H r i k) (k + 1)
  rw [← eH_a h0 h1 (by omega), dH_succ, ← sumN_mulR, ← sumN_add]
  refine sumN_congr fun i _ => ?_
  rw [aH_step h0 h1 i (k := k) (by omega)]
  grind
theorem phi_all : ∀ k, k < r → phiH H r k = phiH H r 0
  | 0, _ => rfl
  | k + 1, hk => by rw [phi_step h0 h1 hk, phi_all k (by omega)]
/-- The determinant is, up to its sign, the polynomial at 0. -/
theorem det_hess (hr : 0 < r) : detN r H = dH H r := by
  have e1 : detN r H = eH H r 0 := by
    unfold eH fH
    refine detN_congr r fun a _ b _ => ?_
    by_cases ha : a = 0
    · subst ha; simp
    · rw [if_neg ha]; simp
  have e2 : phiH H r 0 = eH H r 0 := by
    unfold phiH
    rw [eH_a h0 h1 hr]
    show 0 + dH H 0 * aH H r 0 0 = _
    have : dH H 0 = 1 := rfl
    rw [this]
    omega
  have e3 : phiH H r (r - 1) = dH H r := by
    obtain ⟨n, rfl⟩ : ∃ n, r = n + 1 := ⟨r - 1, by omega⟩
    unfold phiH
    rw [Nat.add_sub_cancel, dH_succ]
    refine sumN_congr fun i _ => ?_
    rw [aH_step h0 h1 i (by omega)]
    have z1 : aH H (n + 1) i (n + 1) = 0 := by unfold aH; rw [Nat.sub_self]; rfl
    have z2 : eH H (n + 1) (n + 1) = 1 := by unfold eH fH; rw [Nat.sub_self]; rfl
    rw [z1, z2]
    grind
  rw [e1, ← e2, ← phi_all h0 h1 (r - 1) (by omega), e3]
end
end Go.Vam

/- Plain laws: the characteristic polynomial's coefficients. -/
namespace Go.Vam
open Go Go.RowKit
set_option linter.unusedSimpArgs false
set_option linter.unusedVariables false
set_option linter.unusedSectionVars false

theorem dvd_mod_sub {p a b : Int} (h : p ∣ a - b) : p ∣ a % p - b := by
  have h1 : p ∣ a % p - a := by
    rw [← Int.dvd_neg, Int.neg_sub]
    exact Int.dvd_self_sub_emod
  have : a % p - b = (a % p - a) + (a - b) := by omega
  rw [this]
  exact Int.dvd_add h1 h
section
variable {p : Int} {r : Nat} (hP : isP p = true) (hr : r ≤ 1048000) {h a1 : List (List Int)} (hl1 : a1.length = r) (hm : Mat p r r h) {H : Nat → Nat → Int}
  (hH : ∀ i j, i < r → j < r → i ≤ j + 1 → p ∣ gI (gR h i) j - H i j)
include hP hr hm hH
theorem poly_inner {K : Nat} (hK : K < r) {L : List (List Int)} {N : List Int} (hL : L.length = K + 1) (hLv : ∀ j, j ≤ K → Vec p (j + 1) (gR L j)) (hLq : ∀ j, j ≤ K → ∀ t, p ∣ gI (gR L j) t - qN H j t)
    (hN : Vec p (K + 2) N) (hNq : ∀ t, t < K + 2 → p ∣ gI N t - (shN (qN H K) t - H K K * qN H K t)) :
    ∃ y, loop (i_field_characteristic_L6 p h (L, ((K + 1 : Nat) : Int))) BIG (N, 1, 1) = some y ∧ Vec p (K + 2) y ∧ ∀ t, t < K + 2 → p ∣ gI y t - qN H (K + 1) t := by
  have hp := isP_le hP
  have e0 := hm.1
  obtain ⟨y, y1, y2, y3⟩ := loop_inv (step := i_field_characteristic_L6 p h (L, ((K + 1 : Nat) : Int)))
    (fun s : List Int × Int × Int => ∃ u : Nat, s.2.2 = ((u + 1 : Nat) : Int) ∧ u ≤ K ∧ Vec p (K + 2) s.1 ∧ 0 ≤ s.2.1 ∧ s.2.1 < p ∧ p ∣ s.2.1 - sPN H (K - u) u ∧
      ∀ t, t < K + 2 → p ∣ gI s.1 t - (shN (qN H K) t - H K K * qN H K t - sumN (fun v => H (K - 1 - v) K * sPN H (K - 1 - v) (v + 1) * qN H (K - 1 - v) t) u))
    (fun s => K + 1 - s.2.2.toNat) (fun y => Vec p (K + 2) y ∧ ∀ t, t < K + 2 → p ∣ gI y t - qN H (K + 1) t) (s := (N, 1, 1))
    ⟨0, rfl, Nat.zero_le _, hN, (show (0 : Int) ≤ 1 by omega), (show (1 : Int) < p by omega), (show p ∣ 1 - 1 by simp), fun t ht => by simpa [sumN] using hNq t ht⟩ (by rw [BIG_val]; simp only []; omega) (by
      rintro ⟨n, f, i⟩ ⟨u, hi, hu, hn, hf0, hf1, hfq, hnq⟩
      simp only [] at hi hn hf0 hf1 hfq hnq
      subst hi
      unfold i_field_characteristic_L6
      by_cases huK : u < K
      · refine .inl ?_
        obtain ⟨j, hj⟩ : ∃ j : Nat, j + u + 1 = K := ⟨K - 1 - u, by omega⟩
        have r1 := (hm.row (show j + 1 < r by omega)).1
        have r2 := (hm.row (show j < r by omega)).1
        have g1 := (hm.row (show j + 1 < r by omega)).get (show j < r by omega)
        have g2 := (hm.row (show j < r by omega)).get hK
        have v1 := hLv j (by omega)
        have q1 := mul_abs (a := f) (b := gI (gR h (j + 1)) j) (A := 13) (B := 13) (by omega) (by omega)
        have w2 : w64 (f * gI (gR h (j + 1)) j) = f * gI (gR h (j + 1)) j := w_in (by omega) (by omega)
        have w4 := i_field_num_eq (p := p) (n := f * gI (gR h (j + 1)) j) (by omega) (by omega) (by omega) (by omega)
        have hnn := mod_num (a := f * gI (gR h (j + 1)) j) (p := p) (by omega)
        have hF : p ∣ f * gI (gR h (j + 1)) j % p - sPN H j (u + 1) := by
          refine dvd_mod_sub ?_
          have hs := sPN_add H j 1 u
          have hs1 : sPN H j 1 = H (j + 1) j := by
            show (1 : Int) * H (j + 0 + 1) (j + 0) = _
            rw [Int.one_mul]; rfl
          rw [Nat.add_comm 1 u, hs1, show j + 1 = K - u by omega] at hs
          rw [hs, Int.mul_comm (H (K - u) j)]
          have := hH (j + 1) j (by omega) (by omega) (by omega)
          rw [show j + 1 = K - u by omega] at this ⊢
          exact dvd_mul_sub hfq this
        generalize hFF : f * gI (gR h (j + 1)) j % p = F at w4 hnn hF
        have w5 : w64 (((K + 1 : Nat) : Int) - ((u + 1 : Nat) : Int)) = ((j + 1 : Nat) : Int) := by rw [w_in (by omega) (by omega)]; omega
        have w6 : w64 (((j + 1 : Nat) : Int) - 1) = (j : Int) := by rw [w_in (by omega) (by omega)]; omega
        have w7 : w64 (((K + 1 : Nat) : Int) - 1) = (K : Int) := by rw [w_in (by omega) (by omega)]; omega
        have w10 : w64 (0 - F) = 0 - F := w_in (by omega) (by omega)
        have q5 := mul_abs (a := 0 - F) (b := gI (gR h j) K) (A := 13) (B := 13) (by omega) (by omega)
        have w11 : w64 ((0 - F) * gI (gR h j) K) = (0 - F) * gI (gR h j) K := w_in (by omega) (by omega)
        have w12 : w64 (((u + 1 : Nat) : Int) + 1) = ((u + 1 + 1 : Nat) : Int) := by rw [w_in (by omega) (by omega)]; omega
        have f2 := i_field_added_eq (p := p) (c := (0 - F) * gI (gR h j) K) (n := K + 2) (m := j + 1) (a := n) (b := gR L j) (by omega) (by omega) (by omega) (by omega) hn v1 (by omega)
        simp only [show ((u + 1 : Nat) : Int) < ((K + 1 : Nat) : Int) by omega, if_true, w5, w6, w7, idxR (show j + 1 < h.length by omega), idxR (show j < h.length by omega), idxI (show j < (gR h (j + 1)).length by omega), idxI (show K < (gR h j).length by omega), idxR (show j < L.length by omega), some_bind, w2, w4, w10, w11, w12, f2]
        refine ⟨_, rfl, ⟨u + 1, rfl, by omega, plusv_vec (by omega) .., hnn.1, hnn.2, by rw [show K - (u + 1) = j by omega]; exact hF, fun t ht => ?_⟩, by simp only []; omega⟩
        show p ∣ gI (plusv p (K + 2) n (gR L j ++ List.replicate (K + 2 - (j + 1)) 0) ((0 - F) * gI (gR h j) K)) t - (shN (qN H K) t - H K K * qN H K t - (sumN (fun v => H (K - 1 - v) K * sPN H (K - 1 - v) (v + 1) * qN H (K - 1 - v) t) u + H (K - 1 - u) K * sPN H (K - 1 - u) (u + 1) * qN H (K - 1 - u) t))
        rw [plusv_at ht, gI_pad, show K - 1 - u = j by omega]
        refine dvd_mod_sub ?_
        have d1 := hnq t ht
        have d2 : p ∣ F * gI (gR h j) K - sPN H j (u + 1) * H j K := dvd_mul_sub hF (hH j K (by omega) hK (by omega))
        have d3 : p ∣ F * gI (gR h j) K * gI (gR L j) t - sPN H j (u + 1) * H j K * qN H j t := dvd_mul_sub d2 (hLq j (by omega) t)
        have e : gI n t + (0 - F) * gI (gR h j) K * gI (gR L j) t - (shN (qN H K) t - H K K * qN H K t - (sumN (fun v => H (K - 1 - v) K * sPN H (K - 1 - v) (v + 1) * qN H (K - 1 - v) t) u + H j K * sPN H j (u + 1) * qN H j t)) =
            (gI n t - (shN (qN H K) t - H K K * qN H K t - sumN (fun v => H (K - 1 - v) K * sPN H (K - 1 - v) (v + 1) * qN H (K - 1 - v) t) u)) - (F * gI (gR h j) K * gI (gR L j) t - sPN H j (u + 1) * H j K * qN H j t) := by grind
        rw [e]
        exact Int.dvd_sub d1 d3
      · have : u = K := by omega
        subst this
        refine .inr ⟨n, ?_, hn, fun t ht => ?_⟩
        · simp only [show ¬ ((u + 1 : Nat) : Int) < ((u + 1 : Nat) : Int) by omega, if_false]
        · have h2 := hnq t ht
          have e : sumN (fun v => H (u - 1 - v) u * sPN H (u - 1 - v) (v + 1) * qN H (u - 1 - v) t) u = sumN (fun j => H j u * sPN H j (u - j) * qN H j t) u := by
            have rev : ∀ (f : Nat → Int) (n : Nat), sumN (fun v => f (n - 1 - v)) n = sumN f n := by
              intro f n
              induction n with
              | zero => rfl
              | succ n ih =>
                rw [sumN_hd]
                show f (n + 1 - 1 - 0) + _ = sumN f n + f n
                rw [Nat.add_sub_cancel, Nat.sub_zero, Int.add_comm, ← ih]
                congr 1
                exact sumN_congr fun v hv => by rw [show n - (v + 1) = n - 1 - v by omega]
            rw [← rev (fun j => H j u * sPN H j (u - j) * qN H j t) u]
            exact sumN_congr fun v hv => by rw [show u - (u - 1 - v) = v + 1 by omega]
          rw [e] at h2
          rw [qN_succ]
          exact h2)
  exact ⟨y, y1, y2, y3⟩
include hl1
theorem poly_outer : ∃ L, loop (i_field_characteristic_L5 p a1 h) BIG ([[1]], 1) = some L ∧ L.length = r + 1 ∧ (∀ j, j ≤ r → Vec p (j + 1) (gR L j)) ∧ ∀ j, j ≤ r → ∀ t, p ∣ gI (gR L j) t - qN H j t := by
  have hp := isP_le hP
  have e0 := hm.1
  obtain ⟨y, y1, y2⟩ := loop_inv (step := i_field_characteristic_L5 p a1 h)
    (fun s : List (List Int) × Int => ∃ k : Nat, s.2 = ((k + 1 : Nat) : Int) ∧ k ≤ r ∧ s.1.length = k + 1 ∧ (∀ j, j ≤ k → Vec p (j + 1) (gR s.1 j)) ∧ ∀ j, j ≤ k → ∀ t, p ∣ gI (gR s.1 j) t - qN H j t)
    (fun s => r + 1 - s.2.toNat) (fun L => L.length = r + 1 ∧ (∀ j, j ≤ r → Vec p (j + 1) (gR L j)) ∧ ∀ j, j ≤ r → ∀ t, p ∣ gI (gR L j) t - qN H j t) (s := ([[1]], 1))
    ⟨0, rfl, Nat.zero_le _, rfl, fun j hj => by
      have : j = 0 := by omega
      subst this
      refine ⟨rfl, fun k hk => ?_⟩
      have : k = 0 := by omega
      subst this
      show 0 ≤ (1 : Int) ∧ (1 : Int) < p
      omega, fun j hj t => by
      have : j = 0 := by omega
      subst this
      show p ∣ gI [1] t - (if t = 0 then 1 else 0)
      cases t with
      | zero => show p ∣ (1 : Int) - 1; simp
      | succ t => rw [gI_out (by simp), if_neg (by omega)]; simp⟩ (by rw [BIG_val]; simp only []; omega) (by
      rintro ⟨L, i⟩ ⟨k, hi, hk, hL, hLv, hLq⟩
      simp only [] at hi hL hLv hLq
      subst hi
      unfold i_field_characteristic_L5
      by_cases hkr : k < r
      · refine .inl ?_
        have v1 := hLv k (Nat.le_refl _)
        have e1 := v1.1
        have r1 := (hm.row hkr).1
        have g1 := (hm.row hkr).get hkr
        have w1 : w64 (((k + 1 : Nat) : Int) - 1) = (k : Int) := by rw [w_in (by omega) (by omega)]; omega
        have w4 : w64 (0 - gI (gR h k) k) = 0 - gI (gR h k) k := w_in (by omega) (by omega)
        have w7 : w64 (((k + 1 : Nat) : Int) + 1) = ((k + 1 + 1 : Nat) : Int) := by rw [w_in (by omega) (by omega)]; omega
        have hz := v1.zcons (show 0 < p by omega)
        have f2 := i_field_added_eq (p := p) (c := 0 - gI (gR h k) k) (n := k + 2) (m := k + 1) (a := [0] ++ gR L k) (b := gR L k) (by omega) (by omega) (by omega) (by omega) hz v1 (by omega)
        obtain ⟨y, z1, z2, z3⟩ := poly_inner hP hr hm hH (K := k) hkr (L := L) (N := plusv p (k + 2) ([0] ++ gR L k) (gR L k ++ List.replicate (k + 2 - (k + 1)) 0) (0 - gI (gR h k) k)) hL hLv hLq (plusv_vec (by omega) ..) (fun t ht => by
          rw [plusv_at ht, gI_pad, gI_zcons]
          refine dvd_mod_sub ?_
          have d1 : p ∣ (if t = 0 then 0 else gI (gR L k) (t - 1)) - shN (qN H k) t := by
            unfold shN
            split
            · simp
            · exact hLq k (Nat.le_refl _) _
          have d2 : p ∣ gI (gR h k) k * gI (gR L k) t - H k k * qN H k t := dvd_mul_sub (hH k k hkr hkr (by omega)) (hLq k (Nat.le_refl _) t)
          have e : (if t = 0 then 0 else gI (gR L k) (t - 1)) + (0 - gI (gR h k) k) * gI (gR L k) t - (shN (qN H k) t - H k k * qN H k t) = ((if t = 0 then 0 else gI (gR L k) (t - 1)) - shN (qN H k) t) - (gI (gR h k) k * gI (gR L k) t - H k k * qN H k t) := by grind
          rw [e]
          exact Int.dvd_sub d1 d2)
        simp only [hl1, show ((k + 1 : Nat) : Int) ≤ (r : Int) by omega, if_true, w1, w4, w7, idxR (show k < L.length by omega), idxR (show k < h.length by omega), idxI (show k < (gR h k).length by omega), some_bind, f2, z1]
        rw [chk_bind (by simp only [List.length_cons, List.length_nil]; omega), chk_bind (by simp only [List.length_cons, List.length_nil]; omega)]
        refine ⟨_, rfl, ⟨k + 1, rfl, by omega, by simp [hL], fun j hj => ?_, fun j hj t => ?_⟩, by simp only []; omega⟩
        · have hg : gR (L ++ [y]) j = if j ≤ k then gR L j else y := by
            unfold gR
            by_cases hjk : j ≤ k
            · rw [if_pos hjk, List.getD_eq_getElem?_getD, List.getD_eq_getElem?_getD, List.getElem?_append_left (by omega)]
            · have : j = k + 1 := by omega
              subst this
              rw [if_neg hjk, List.getD_eq_getElem?_getD, List.getElem?_append_right (by omega), hL]
              simp
          simp only [hg]
          by_cases hjk : j ≤ k
          · rw [if_pos hjk]; exact hLv j hjk
          · have : j = k + 1 := by omega
            subst this
            rw [if_neg hjk]; exact z2
        · have hg : gR (L ++ [y]) j = if j ≤ k then gR L j else y := by
            unfold gR
            by_cases hjk : j ≤ k
            · rw [if_pos hjk, List.getD_eq_getElem?_getD, List.getD_eq_getElem?_getD, List.getElem?_append_left (by omega)]
            · have : j = k + 1 := by omega
              subst this
              rw [if_neg hjk, List.getD_eq_getElem?_getD, List.getElem?_append_right (by omega), hL]
              simp
          simp only [hg]
          by_cases hjk : j ≤ k
          · rw [if_pos hjk]; exact hLq j hjk t
          · have : j = k + 1 := by omega
            subst this
            rw [if_neg hjk]
            by_cases ht : t < k + 2
            · exact z3 t ht
            · rw [gI_out (by rw [z2.1]; omega), qN_deg H _ _ (by omega)]; simp
      · have : k = r := by omega
        subst this
        refine .inr ⟨L, ?_, hL, hLv, hLq⟩
        simp only [hl1, show ¬ ((k + 1 : Nat) : Int) ≤ (k : Int) by omega, if_false])
  exact ⟨y, y1, y2⟩
end
end Go.Vam

/- Plain laws: elementary similarities. -/
namespace Go.Vam
open Go Go.RowKit
set_option linter.unusedSimpArgs false
set_option linter.unusedVariables false
set_option linter.unusedSectionVars false

def SimM (p : Int) (r : Nat) (a b : List (List Int)) : Prop :=
  ∃ T U, Mat p r r T ∧ Mat p r r U ∧ timesm p r r r T U = unitm r ∧ timesm p r r r U T = unitm r ∧ timesm p r r r a T = timesm p r r r T b
theorem SimM.refl {p : Int} (hp : 1 < p) {r : Nat} {a : List (List Int)} (ha : Mat p r r a) : SimM p r a a :=
  ⟨unitm r, unitm r, unitm_mat hp r, unitm_mat hp r, times_one (unitm_mat hp r), times_one (unitm_mat hp r), by rw [times_one ha, one_times ha]⟩
theorem SimM.trans {p : Int} (hp : 1 < p) {r : Nat} {a b c : List (List Int)} (hab : SimM p r a b) (hbc : SimM p r b c) : SimM p r a c := by
  obtain ⟨T, U, hT, hU, t1, t2, t3⟩ := hab
  obtain ⟨T', U', hT', hU', s1, s2, s3⟩ := hbc
  refine ⟨timesm p r r r T T', timesm p r r r U' U, timesm_mat (by omega) .., timesm_mat (by omega) .., ?_, ?_, ?_⟩
  · rw [timesm_assoc, ← timesm_assoc (a := T'), s1, one_times hU, t1]
  · rw [timesm_assoc, ← timesm_assoc (a := U), t2, one_times hT', s2]
  · rw [← timesm_assoc, t3, timesm_assoc, s3, timesm_assoc]
theorem SimM.conj {p : Int} {r : Nat} {a E F : List (List Int)} (ha : Mat p r r a) (hE : Mat p r r E) (hF : Mat p r r F) (h1 : timesm p r r r E F = unitm r) (h2 : timesm p r r r F E = unitm r) :
    SimM p r a (timesm p r r r (timesm p r r r E a) F) :=
  ⟨F, E, hF, hE, h2, h1, by rw [← timesm_assoc, ← timesm_assoc, h2, one_times ha]⟩
theorem mat_ext {p : Int} {r c : Nat} {a b : List (List Int)} (ha : Mat p r c a) (hb : Mat p r c b) (h : ∀ i, i < r → ∀ k, k < c → gI (gR a i) k = gI (gR b i) k) : a = b := by
  rw [← mat_self ha, ← mat_self hb]
  exact vecN_congr fun i hi => vecN_congr fun k hk => h i hi k hk
/-- Rows and columns change places. -/
def swN (i k a : Nat) : Nat := if a = i then k else if a = k then i else a
theorem swN_sw (i k a : Nat) : swN i k (swN i k a) = a := by unfold swN; split <;> split <;> simp_all
theorem swN_lt {r i k a : Nat} (hi : i < r) (hk : k < r) (ha : a < r) : swN i k a < r := by unfold swN; split; exact hk; split; exact hi; exact ha
def swm (r i k : Nat) : List (List Int) := vecN r fun a => vecN r fun b => if b = swN i k a then 1 else 0
theorem swm_mat {p : Int} (hp : 1 < p) (r i k : Nat) : Mat p r r (swm r i k) := Mat.mk' fun a _ => Vec.mk' fun b _ => by split <;> omega
section
variable {p : Int} {r : Nat} (hp : 1 < p) {m : List (List Int)} (hm : Mat p r r m)
include hp hm
theorem swm_l {i k : Nat} (hi : i < r) (hk : k < r) {a b : Nat} (ha : a < r) (hb : b < r) : gI (gR (timesm p r r r (swm r i k) m) a) b = gI (gR m (swN i k a)) b := by
  have hs := swN_lt hi hk ha
  rw [timesm_at ha hb]
  unfold swm
  rw [sumN_one hs (fun q hq hne => by rw [gR_vecN _ ha, gI_vecN _ hq, if_neg hne, Int.zero_mul]), gR_vecN _ ha, gI_vecN _ hs, if_pos rfl, Int.one_mul]
  have := (hm.row hs).get hb
  exact Int.emod_eq_of_lt this.1 this.2
theorem swm_r {i k : Nat} (hi : i < r) (hk : k < r) {a b : Nat} (ha : a < r) (hb : b < r) : gI (gR (timesm p r r r m (swm r i k)) a) b = gI (gR m a) (swN i k b) := by
  have hs := swN_lt hi hk hb
  rw [timesm_at ha hb]
  unfold swm
  rw [sumN_one hs (fun q hq hne => by
    rw [gR_vecN _ hq, gI_vecN _ hb, if_neg (fun e => hne (by rw [e, swN_sw])), Int.mul_zero]), gR_vecN _ hs, gI_vecN _ hb, swN_sw, if_pos rfl, Int.mul_one]
  have := (hm.row ha).get hs
  exact Int.emod_eq_of_lt this.1 this.2
end
theorem swm_sq {p : Int} (hp : 1 < p) {r i k : Nat} (hi : i < r) (hk : k < r) : timesm p r r r (swm r i k) (swm r i k) = unitm r := by
  refine mat_ext (timesm_mat (by omega) ..) (unitm_mat hp r) fun a ha b hb => ?_
  rw [swm_l hp (swm_mat hp r i k) hi hk ha hb, unitm_at ha hb]
  unfold swm
  rw [gR_vecN _ (swN_lt hi hk ha), gI_vecN _ hb, swN_sw]
/-- The step of a swap. -/
theorem SimM.swap {p : Int} (hp : 1 < p) {r i k : Nat} {m y : List (List Int)} (hm : Mat p r r m) (hy : Mat p r r y) (hi : i < r) (hk : k < r)
    (h : ∀ a, a < r → ∀ b, b < r → gI (gR y a) b = gI (gR m (swN i k a)) (swN i k b)) : SimM p r m y := by
  have : y = timesm p r r r (timesm p r r r (swm r i k) m) (swm r i k) := by
    refine mat_ext hy (timesm_mat (by omega) ..) fun a ha b hb => ?_
    rw [swm_r hp (timesm_mat (by omega) ..) hi hk ha hb, swm_l hp hm hi hk ha (swN_lt hi hk hb), h a ha b hb]
  rw [this]
  exact SimM.conj hm (swm_mat hp r i k) (swm_mat hp r i k) (swm_sq hp hi hk) (swm_sq hp hi hk)
/-- A row takes a multiple of another one. -/
def elm (p : Int) (r x k : Nat) (c : Int) : List (List Int) := vecN r fun a => vecN r fun b => ((if a = b then 1 else 0) + (if a = x then (if b = k then c else 0) else 0)) % p
theorem elm_mat {p : Int} (hp : 1 < p) (r x k : Nat) (c : Int) : Mat p r r (elm p r x k c) := Mat.mk' fun a _ => Vec.mk' fun b _ => mod_num (by omega)
section
variable {p : Int} {r : Nat} (hp : 1 < p) {m : List (List Int)} (hm : Mat p r r m)
include hp hm
theorem elm_l {x k : Nat} {c : Int} (hk : k < r) {a b : Nat} (ha : a < r) (hb : b < r) : gI (gR (timesm p r r r (elm p r x k c) m) a) b = (gI (gR m a) b + (if a = x then c * gI (gR m k) b else 0)) % p := by
  rw [timesm_at ha hb]
  have e1 : sumN (fun j => gI (gR (elm p r x k c) a) j * gI (gR m j) b) r % p = sumN (fun j => (if j = a then gI (gR m a) b else 0) + (if j = k then (if a = x then c * gI (gR m k) b else 0) else 0)) r % p := by
    refine sumN_mod fun j hj => ?_
    unfold elm
    rw [gR_vecN _ ha, gI_vecN _ hj, mul_mod_l (emm _ p)]
    congr 1
    by_cases h1 : a = j
    · subst h1
      rw [if_pos rfl, if_pos rfl]
      by_cases h2 : a = k
      · subst h2; rw [if_pos rfl, if_pos rfl]; split <;> grind
      · rw [if_neg h2, if_neg h2]; split <;> grind
    · rw [if_neg h1, if_neg (show ¬ j = a from fun e => h1 e.symm)]
      by_cases h2 : j = k
      · subst h2; rw [if_pos rfl, if_pos rfl]; split <;> grind
      · rw [if_neg h2, if_neg h2]; split <;> grind
  rw [e1, sumN_add, sumN_one ha (fun q _ hq => if_neg hq), sumN_one hk (fun q _ hq => if_neg hq), if_pos rfl, if_pos rfl]
theorem elm_r {x k : Nat} {c : Int} (hx : x < r) {a b : Nat} (ha : a < r) (hb : b < r) : gI (gR (timesm p r r r m (elm p r x k c)) a) b = (gI (gR m a) b + (if b = k then c * gI (gR m a) x else 0)) % p := by
  rw [timesm_at ha hb]
  have e1 : sumN (fun j => gI (gR m a) j * gI (gR (elm p r x k c) j) b) r % p = sumN (fun j => (if j = b then gI (gR m a) b else 0) + (if j = x then (if b = k then c * gI (gR m a) x else 0) else 0)) r % p := by
    refine sumN_mod fun j hj => ?_
    unfold elm
    rw [gR_vecN _ hj, gI_vecN _ hb, mul_mod_r (emm _ p)]
    congr 1
    by_cases h1 : j = b
    · subst h1
      rw [if_pos rfl, if_pos rfl]
      by_cases h2 : j = x
      · subst h2; rw [if_pos rfl, if_pos rfl]; split <;> grind
      · rw [if_neg h2, if_neg h2]; grind
    · rw [if_neg h1, if_neg h1]
      by_cases h2 : j = x
      · subst h2; rw [if_pos rfl, if_pos rfl]; split <;> grind
      · rw [if_neg h2, if_neg h2]; grind
  rw [e1, sumN_add, sumN_one hb (fun q _ hq => if_neg hq), sumN_one hx (fun q _ hq => if_neg hq), if_pos rfl, if_pos rfl]
end
theorem elm_inv {p : Int} (hp : 1 < p) {r x k : Nat} (c : Int) (hx : x < r) (hk : k < r) (hne : x ≠ k) : timesm p r r r (elm p r x k c) (elm p r x k (-c)) = unitm r := by
  refine mat_ext (timesm_mat (by omega) ..) (unitm_mat hp r) fun a ha b hb => ?_
  rw [elm_l hp (elm_mat hp r x k (-c)) hk ha hb, unitm_at ha hb]
  unfold elm
  rw [gR_vecN _ ha, gI_vecN _ hb, gR_vecN _ hk, gI_vecN _ hb, Int.emod_add_emod, if_neg (show ¬ k = x from fun e => hne e.symm), Int.add_zero]
  by_cases h1 : a = x
  · subst h1
    rw [if_pos rfl, if_pos rfl]
    by_cases h2 : k = b
    · subst h2
      rw [if_pos rfl, if_pos rfl, if_neg hne, if_neg (fun e => hne e.symm)]
      have : (1 : Int) % p = 1 := Int.emod_eq_of_lt (by omega) (by omega)
      rw [this]
      have : (0 + -c + c * 1) = 0 := by omega
      rw [this]; simp
    · rw [if_neg (show ¬ b = k from fun e => h2 e.symm), if_neg h2]
      simp only [Int.zero_emod, Int.mul_zero, Int.add_zero]
      by_cases h3 : a = b
      · subst h3; simp only [if_true]; exact Int.emod_eq_of_lt (by omega) (by omega)
      · rw [if_neg h3, if_neg (fun e => h3 e.symm)]; simp
  · rw [if_neg h1, if_neg h1, Int.add_zero, Int.add_zero]
    by_cases h3 : a = b
    · subst h3; simp only [if_true]; exact Int.emod_eq_of_lt (by omega) (by omega)
    · rw [if_neg h3, if_neg (fun e => h3 e.symm)]; simp
/-- The step of a row and a column. -/
theorem SimM.clear {p : Int} (hp : 1 < p) {r x k : Nat} {f : Int} {m y : List (List Int)} (hm : Mat p r r m) (hy : Mat p r r y) (hx : x < r) (hk : k < r) (hne : x ≠ k)
    (h : ∀ a, a < r → ∀ b, b < r → gI (gR y a) b = ((gI (gR m a) b + (if a = x then (-f) * gI (gR m k) b else 0)) % p + (if b = k then f * ((gI (gR m a) x + (if a = x then (-f) * gI (gR m k) x else 0)) % p) else 0)) % p) : SimM p r m y := by
  have : y = timesm p r r r (timesm p r r r (elm p r x k (-f)) m) (elm p r x k f) := by
    refine mat_ext hy (timesm_mat (by omega) ..) fun a ha b hb => ?_
    rw [elm_r hp (timesm_mat (by omega) ..) hx ha hb, elm_l hp hm hk ha hb, elm_l hp hm hk ha hx, h a ha b hb]
  rw [this]
  have h1 := elm_inv hp f hx hk hne
  have h2 := elm_inv hp (-f) hx hk hne
  rw [Int.neg_neg] at h2
  exact SimM.conj hm (elm_mat hp ..) (elm_mat hp ..) h2 h1
end Go.Vam

/- Plain laws: the reduction to a Hessenberg matrix is a similarity. -/
namespace Go.Vam
open Go Go.RowKit
set_option linter.unusedSimpArgs false
set_option linter.unusedVariables false
set_option linter.unusedSectionVars false

/-- The first k columns are 0 below what stands below the diagonal. -/
def HZ (r k : Nat) (m : List (List Int)) : Prop := ∀ j, j < k → ∀ i, j + 1 < i → i < r → gI (gR m i) j = 0
section
variable {p : Int} {r : Nat} (hP : isP p = true) (hr : r ≤ 1048000)
include hP hr
theorem cols_val {m0 m : List (List Int)} {k x : Nat} (hm : Mat p r r m) (hk : k < r) (hx : x < r) :
    ∃ y, loop (i_field_characteristic_L2 (m0, (k : Int)) (x : Int)) BIG (m, (r : Int), 0) = some y ∧ Mat p r r y ∧ ∀ a, a < r → ∀ b, b < r → gI (gR y a) b = gI (gR m a) (swN k x b) := by
  have hp := isP_le hP
  refine loop_inv (fun s : List (List Int) × Int × Int => Mat p r r s.1 ∧ ∃ q : Nat, s.2 = ((r : Int), (q : Int)) ∧ q ≤ r ∧ ∀ a, a < r → ∀ b, b < r → gI (gR s.1 a) b = if a < q then gI (gR m a) (swN k x b) else gI (gR m a) b)
    (fun s => r - s.2.2.toNat) _ (s := (m, (r : Int), 0)) ⟨hm, 0, rfl, by omega, fun a _ b _ => by rw [if_neg (by omega)]⟩ (by rw [BIG_val]; simp only []; omega) ?_
  rintro ⟨n, t⟩ ⟨hn, q, ht, hq, hv⟩
  simp only [] at ht hn hv
  subst ht
  unfold i_field_characteristic_L2
  have e1 := hn.1
  by_cases hqr : q < r
  · refine .inl ?_
    have e2 := (hn.row hqr).1
    have e3 := (hn.row hqr).get hk
    have e4 := (hn.row hqr).get hx
    simp only [show (q : Int) < (r : Int) by omega, if_true, idxR (show q < n.length by omega), idxI (show x < (gR n q).length by omega), idxI (show k < (gR n q).length by omega), some_bind, Int.toNat_natCast,
      idxI (show k < ((gR n q).set x (gI (gR n q) k)).length by rw [List.length_set]; omega), List.set_set]
    have hv' : Vec p r (((gR n q).set x (gI (gR n q) k)).set k (gI (gR n q) x)) := ((hn.row hqr).setv hx e3.1 e3.2).setv hk e4.1 e4.2
    refine ⟨_, rfl, ⟨hn.set hqr hv', q + 1, by rw [w_in (by omega) (by omega)]; rfl, by omega, fun a ha b hb => ?_⟩, ?_⟩
    · simp only []
      rw [gR_set (by omega)]
      by_cases hqa : q = a
      · subst hqa
        rw [if_pos rfl, if_pos (by omega), gI_setv (by rw [List.length_set]; omega), gI_setv (by omega)]
        have o1 := hv q hqr k hk
        have o2 := hv q hqr x hx
        have o3 := hv q hqr b hb
        rw [if_neg (by omega)] at o1 o2 o3
        rw [o1, o2, o3]
        unfold swN
        by_cases h1 : b = k
        · rw [if_pos h1, if_pos h1.symm]
        · rw [if_neg h1, if_neg fun e => h1 e.symm]
          by_cases h2 : b = x
          · rw [if_pos h2, if_pos h2.symm]
          · rw [if_neg h2, if_neg fun e => h2 e.symm]
      · rw [if_neg hqa, hv a ha b hb]
        by_cases h1 : a < q
        · rw [if_pos h1, if_pos (by omega)]
        · rw [if_neg h1, if_neg (by omega)]
    · rw [w_in (by omega) (by omega)]; simp only []; omega
  · refine .inr ⟨n, ?_, hn, fun a ha b hb => by rw [hv a ha b hb, if_pos (by omega)]⟩
    simp only [show ¬ (q : Int) < (r : Int) by omega, if_false]
theorem add_val {m0 m1 m : List (List Int)} {k i : Nat} {c : Int} (hm : Mat p r r m) (hk : k < r) (hi : i < r) (hc0 : 0 ≤ c) (hc1 : c < p) (hki : k ≠ i) :
    ∃ y, loop (i_field_characteristic_L4 p (m0, (k : Int)) (m1, (i : Int)) c) BIG (m, (r : Int), 0) = some y ∧ Mat p r r y ∧ ∀ a, a < r → ∀ b, b < r → gI (gR y a) b = if b = k then (gI (gR m a) k + c * gI (gR m a) i) % p else gI (gR m a) b := by
  have hp := isP_le hP
  refine loop_inv (fun s : List (List Int) × Int × Int => Mat p r r s.1 ∧ ∃ q : Nat, s.2 = ((r : Int), (q : Int)) ∧ q ≤ r ∧ ∀ a, a < r → ∀ b, b < r → gI (gR s.1 a) b = if a < q then (if b = k then (gI (gR m a) k + c * gI (gR m a) i) % p else gI (gR m a) b) else gI (gR m a) b)
    (fun s => r - s.2.2.toNat) _ (s := (m, (r : Int), 0)) ⟨hm, 0, rfl, by omega, fun a _ b _ => by rw [if_neg (show ¬ a < 0 by omega)]⟩ (by rw [BIG_val]; simp only []; omega) ?_
  rintro ⟨n, t⟩ ⟨hn, q, ht, hq, hv⟩
  simp only [] at ht hn hv
  subst ht
  unfold i_field_characteristic_L4
  have e1 := hn.1
  by_cases hqr : q < r
  · refine .inl ?_
    have e2 := (hn.row hqr).1
    have e3 := (hn.row hqr).get hk
    have e4 := (hn.row hqr).get hi
    have q1 := mul_abs (a := c) (b := gI (gR n q) i) (A := 13) (B := 13) (by omega) (by omega)
    have w2 : w64 (c * gI (gR n q) i) = c * gI (gR n q) i := w_in (by omega) (by omega)
    have w3 : w64 (gI (gR n q) k + c * gI (gR n q) i) = gI (gR n q) k + c * gI (gR n q) i := w_in (by omega) (by omega)
    have w5 := i_field_num_eq (p := p) (n := gI (gR n q) k + c * gI (gR n q) i) (by omega) (by omega) (by omega) (by omega)
    have hnn := mod_num (a := gI (gR n q) k + c * gI (gR n q) i) (p := p) (by omega)
    simp only [show (q : Int) < (r : Int) by omega, if_true, idxR (show q < n.length by omega), idxI (show i < (gR n q).length by omega), idxI (show k < (gR n q).length by omega), some_bind, Int.toNat_natCast, w2, w3, w5]
    refine ⟨_, rfl, ⟨hn.set hqr ((hn.row hqr).setv hk hnn.1 hnn.2), q + 1, by rw [w_in (by omega) (by omega)]; rfl, by omega, fun a ha b hb => ?_⟩, ?_⟩
    · simp only []
      rw [gR_set (by omega)]
      by_cases hqa : q = a
      · subst hqa
        have o1 := hv q hqr k hk
        have o2 := hv q hqr i hi
        have o3 := hv q hqr b hb
        rw [if_neg (show ¬ q < q by omega)] at o1 o2 o3
        rw [if_pos rfl, if_pos (show q < q + 1 by omega), gI_setv (by omega), o1, o2, o3]
        by_cases h1 : b = k
        · rw [if_pos h1, if_pos h1.symm]
        · rw [if_neg h1, if_neg fun e => h1 e.symm]
      · rw [if_neg hqa, hv a ha b hb]
        by_cases h1 : a < q
        · rw [if_pos h1, if_pos (show a < q + 1 by omega)]
        · rw [if_neg h1, if_neg (show ¬ a < q + 1 by omega)]
    · rw [w_in (by omega) (by omega)]; simp only []; omega
  · refine .inr ⟨n, ?_, hn, fun a ha b hb => by rw [hv a ha b hb, if_pos (show a < q by omega)]⟩
    simp only [show ¬ (q : Int) < (r : Int) by omega, if_false]
theorem clear_val {a1 m0 m : List (List Int)} {k : Nat} {d : Int} (hl1 : a1.length = r) (hm : Mat p r r m) (hk : k + 1 < r) (hd0 : 0 < d) (hd1 : d < p) (hpv : gI (gR m (k + 1)) k = d) (hz : HZ r k m) :
    ∃ y, loop (i_field_characteristic_L3 p a1 (m0, ((k + 1 : Nat) : Int))) BIG (m, ((k + 2 : Nat) : Int)) = some y ∧ Mat p r r y ∧ SimM p r m y ∧ HZ r (k + 1) y := by
  have hp := isP_le hP
  obtain ⟨i1, i2, i3⟩ := inv_facts (a := d) hP hd0 hd1
  have v2 := i_field_inv_eq (a := d) hP hd0 hd1
  generalize invp p d = iv at i1 i2 i3 v2
  refine loop_inv (fun s : List (List Int) × Int => Mat p r r s.1 ∧ SimM p r m s.1 ∧ HZ r k s.1 ∧ gI (gR s.1 (k + 1)) k = d ∧ ∃ i : Nat, s.2 = (i : Int) ∧ i ≤ r ∧ k + 1 < i ∧ ∀ i', k + 1 < i' → i' < i → gI (gR s.1 i') k = 0)
    (fun s => r - s.2.toNat) _ (s := (m, ((k + 2 : Nat) : Int))) ⟨hm, SimM.refl (by omega) hm, hz, hpv, k + 2, rfl, by omega, by omega, fun i' h1 h2 => by omega⟩ (by rw [BIG_val]; simp only []; omega) ?_
  rintro ⟨n, t⟩ ⟨hn, hs, hzn, he, i, ht, hi, hki, h0⟩
  simp only [] at ht hn hs hzn he h0
  subst ht
  unfold i_field_characteristic_L3
  have e1 := hn.1
  have w1' : w64 (((k + 1 : Nat) : Int) - 1) = (k : Int) := by rw [w_in (by omega) (by omega)]; omega
  by_cases hir : i < r
  · refine .inl ?_
    have e2 := (hn.row hir).1
    have e2' := (hn.row hk).1
    have e3 := (hn.row hir).get (show k < r by omega)
    have q1 := mul_abs (a := gI (gR n i) k) (b := iv) (A := 13) (B := 13) (by omega) (by omega)
    have w2 : w64 (gI (gR n i) k * iv) = gI (gR n i) k * iv := w_in (by omega) (by omega)
    have w5 := i_field_num_eq (p := p) (n := gI (gR n i) k * iv) (by omega) (by omega) (by omega) (by omega)
    have hnn := mod_num (a := gI (gR n i) k * iv) (p := p) (by omega)
    have hcd : (gI (gR n i) k + (0 - (gI (gR n i) k * iv % p)) * d) % p = 0 := by
      have g1 : p ∣ gI (gR n i) k * iv % p - gI (gR n i) k * iv := dvd_mod_sub (by simp)
      have g2 : p ∣ d * iv - 1 := by
        have : (d * iv) % p = 1 % p := by rw [i3]; exact (Int.emod_eq_of_lt (by omega) (by omega)).symm
        exact Int.dvd_of_emod_eq_zero (Int.emod_eq_emod_iff_emod_sub_eq_zero.1 this)
      refine Int.emod_eq_zero_of_dvd ?_
      have e : gI (gR n i) k + (0 - (gI (gR n i) k * iv % p)) * d = -((gI (gR n i) k * iv % p - gI (gR n i) k * iv) * d + gI (gR n i) k * (d * iv - 1)) := by grind
      rw [e]
      exact Int.dvd_neg.2 (Int.dvd_add (Int.dvd_mul_of_dvd_left g1) (Int.dvd_mul_of_dvd_right g2))
    generalize hcc : gI (gR n i) k * iv % p = c at w5 hnn hcd
    have w7 : w64 (0 - c) = 0 - c := w_in (by omega) (by omega)
    have f2 := i_field_plus_eq (p := p) (n := r) (a := gR n i) (b := gR n (k + 1)) (k := 0 - c) (by omega) (by omega) (by omega) (by omega) (hn.row hir) (hn.row hk)
    have hM : Mat p r r (n.set i (plusv p r (gR n i) (gR n (k + 1)) (0 - c))) := hn.set hir (plusv_vec (by omega) ..)
    obtain ⟨y, y1, y2, y3⟩ := add_val hP hr (m0 := m0) (m1 := n) (m := n.set i (plusv p r (gR n i) (gR n (k + 1)) (0 - c))) (k := k + 1) (i := i) (c := c) hM hk hir hnn.1 hnn.2 (by omega)
    have lx : ((n.set i (plusv p r (gR n i) (gR n (k + 1)) (0 - c))).length : Int) = (r : Int) := by rw [List.length_set, e1]
    have mval : ∀ a, a < r → ∀ b, b < r → gI (gR (n.set i (plusv p r (gR n i) (gR n (k + 1)) (0 - c))) a) b = if a = i then (gI (gR n i) b + (0 - c) * gI (gR n (k + 1)) b) % p else gI (gR n a) b := fun a ha b hb => by
      rw [gR_set (by omega)]
      by_cases h1 : i = a
      · rw [if_pos h1, if_pos h1.symm, plusv_at hb]
      · rw [if_neg h1, if_neg fun e => h1 e.symm]
    simp only [hl1, w1', lx, show (i : Int) < (r : Int) by omega, if_true, idxR (show i < n.length by omega), idxR (show k + 1 < n.length by omega), idxI (show k < (gR n i).length by omega), idxI (show k < (gR n (k + 1)).length by omega), he, some_bind, Int.toNat_natCast,
      w2, v2, w5, w7, f2, y1]
    have hkr : k < r := by omega
    refine ⟨_, rfl, ⟨y2, hs.trans (by omega) (SimM.clear (f := c) (by omega) hn y2 hir hk (by omega) fun a ha b hb => ?_), fun j hj i' h1 h2 => ?_, ?_, i + 1, by rw [w_in (by omega) (by omega)]; rfl, by omega, by omega, fun i' h1 h2 => ?_⟩, ?_⟩
    · rw [y3 a ha b hb, mval a ha b hb, mval a ha (k + 1) hk, mval a ha i hir]
      have hab := (hn.row ha).get hb
      have hai := (hn.row ha).get hir
      by_cases h1 : a = i
      · subst h1
        simp only [if_true, Int.zero_sub]
        by_cases h2 : b = k + 1
        · subst h2; simp only [if_true]
        · simp only [if_neg h2, Int.add_zero, emm]
      · simp only [if_neg h1, Int.add_zero]
        rw [Int.emod_eq_of_lt hab.1 hab.2, Int.emod_eq_of_lt hai.1 hai.2]
        by_cases h2 : b = k + 1
        · subst h2; simp only [if_true]
        · simp only [if_neg h2, Int.add_zero]
          exact (Int.emod_eq_of_lt hab.1 hab.2).symm
    · simp only []
      rw [y3 i' h2 j (by omega), if_neg (by omega), mval i' h2 j (by omega)]
      by_cases h3 : i' = i
      · rw [if_pos h3, hzn j hj i (by omega) hir, hzn j hj (k + 1) (by omega) hk]
        simp
      · rw [if_neg h3]; exact hzn j hj i' h1 h2
    · simp only []
      rw [y3 (k + 1) hk k hkr, if_neg (by omega), mval (k + 1) hk k hkr, if_neg (by omega)]
      exact he
    · simp only []
      rw [y3 i' (by omega) k hkr, if_neg (by omega), mval i' (by omega) k hkr]
      by_cases h3 : i' = i
      · rw [if_pos h3, he]; exact hcd
      · rw [if_neg h3]; exact h0 i' h1 (by omega)
    · rw [w_in (by omega) (by omega)]; simp only []; omega
  · refine .inr ⟨n, ?_, hn, hs, fun j hj i' h1 h2 => ?_⟩
    · simp only [hl1, show ¬ (i : Int) < (r : Int) by omega, if_false]
    · by_cases h3 : j = k
      · subst h3; exact h0 i' h1 (by omega)
      · exact hzn j (by omega) i' h1 h2
theorem hess_val {a1 m : List (List Int)} (hl1 : a1.length = r) (hr0 : 0 < r) (hm : Mat p r r m) :
    ∃ y, loop (i_field_characteristic_L0 p a1) BIG (m, 1) = some y ∧ Mat p r r y ∧ SimM p r m y ∧ HZ r r y := by
  have hp := isP_le hP
  refine loop_inv (fun s : List (List Int) × Int => Mat p r r s.1 ∧ SimM p r m s.1 ∧ ∃ k : Nat, s.2 = ((k + 1 : Nat) : Int) ∧ k ≤ r ∧ HZ r k s.1)
    (fun s => r + 1 - s.2.toNat) _ (s := (m, 1)) ⟨hm, SimM.refl (by omega) hm, 0, rfl, by omega, fun j hj => by omega⟩ (by rw [BIG_val]; simp only []; omega) ?_
  rintro ⟨n, t⟩ ⟨hn, hs, k, ht, hk, hz⟩
  simp only [] at ht hn hs hz
  subst ht
  unfold i_field_characteristic_L0
  have e1 := hn.1
  have w2 : w64 ((r : Int) - 1) = (r : Int) - 1 := w_in (by omega) (by omega)
  have w3 : w64 (((k + 1 : Nat) : Int) + 1) = ((k + 2 : Nat) : Int) := by rw [w_in (by omega) (by omega)]; omega
  have w3' : ((k + 2 : Nat) : Int) = ((k + 1 + 1 : Nat) : Int) := rfl
  by_cases hkr : k + 2 < r
  · refine .inl ?_
    obtain ⟨b, h1, x, rfl, h2, h3, h4, h5⟩ := find_eq2 hn (k := k) (s := k + 1) (by omega) (by omega) (by omega)
    have l2 : i_field_characteristic_L1 a1 (n, ((k + 1 : Nat) : Int)) = findStep n (k : Int) := by
      funext s
      unfold i_field_characteristic_L1 findStep
      have : w64 (((k + 1 : Nat) : Int) - 1) = (k : Int) := by rw [w_in (by omega) (by omega)]; omega
      simp only [hl1, e1, this]
    have c2 : ((k + 1 : Nat) : Int) < (r : Int) - 1 := by omega
    by_cases hx : x = r
    · subst hx
      simp only [hl1, w2, w3, c2, if_true, l2, h1, some_bind]
      refine ⟨_, rfl, ⟨hn, hs, k + 1, rfl, by omega, fun j hj i' i1 i2 => ?_⟩, by simp only []; omega⟩
      by_cases hjk : j = k
      · subst hjk; exact h5 i' (by omega) i2
      · exact hz j (by omega) i' i1 i2
    have hx' : ¬ (x : Int) = (r : Int) := by omega
    have hxr : x < r := by omega
    have hne := h4 hxr
    have hk1 : k + 1 < r := by omega
    have hM : Mat p r r ((n.set x (gR n (k + 1))).set (k + 1) (gR n x)) := (hn.set hxr (hn.row hk1)).set hk1 (hn.row hxr)
    have mrow : ∀ a, gR ((n.set x (gR n (k + 1))).set (k + 1) (gR n x)) a = gR n (swN (k + 1) x a) := fun a => by
      rw [gR_set (by rw [List.length_set]; omega), gR_set (by omega)]
      unfold swN
      by_cases a1 : a = k + 1
      · rw [if_pos a1, if_pos a1.symm]
      · rw [if_neg a1, if_neg fun e => a1 e.symm]
        by_cases a2 : a = x
        · rw [if_pos a2, if_pos a2.symm]
        · rw [if_neg a2, if_neg fun e => a2 e.symm]
    obtain ⟨z, z1, z2, z3⟩ := cols_val hP hr (m0 := n) (m := (n.set x (gR n (k + 1))).set (k + 1) (gR n x)) (k := k + 1) (x := x) hM hk1 hxr
    have z3' : ∀ a, a < r → ∀ b, b < r → gI (gR z a) b = gI (gR n (swN (k + 1) x a)) (swN (k + 1) x b) := fun a ha b hb => by rw [z3 a ha b hb, mrow]
    have lx : (((n.set x (gR n (k + 1))).set (k + 1) (gR n x)).length : Int) = (r : Int) := by rw [List.length_set, List.length_set, e1]
    have swlow : ∀ j, j ≤ k → swN (k + 1) x j = j := fun j hj => by unfold swN; rw [if_neg (by omega), if_neg (by omega)]
    have hpiv : gI (gR z (k + 1)) k ≠ 0 := by
      rw [z3' _ hk1 _ (by omega), swlow k (Nat.le_refl _)]
      have : swN (k + 1) x (k + 1) = x := by unfold swN; rw [if_pos rfl]
      rw [this]
      exact hne
    have e5 := (z2.row hk1).get (show k < r by omega)
    have hzz : HZ r k z := fun j hj i' i1 i2 => by
      rw [z3' i' i2 j (by omega), swlow j (by omega)]
      refine hz j hj _ ?_ (swN_lt hk1 hxr i2)
      unfold swN
      split
      · omega
      · split <;> omega
    obtain ⟨y, y1, y2, y3, y4⟩ := clear_val hP hr (a1 := a1) (m0 := n) (m := z) (k := k) (d := gI (gR z (k + 1)) k) hl1 z2 hk1 (by omega) e5.2 rfl hzz
    simp only [hl1, w2, w3, c2, if_true, l2, h1, some_bind, hx', if_false, Int.toNat_natCast,
      idxR (show x < n.length by omega), idxR (show k + 1 < n.length by omega), idxR (show k + 1 < (n.set x (gR n (k + 1))).length by rw [List.length_set]; omega), lx, z1, y1]
    exact ⟨_, rfl, ⟨y2, (hs.trans (by omega) (SimM.swap (by omega) hn z2 hk1 hxr z3')).trans (by omega) y3, k + 1, rfl, by omega, y4⟩, by simp only []; omega⟩
  · refine .inr ⟨n, ?_, hn, hs, fun j hj i' i1 i2 => ?_⟩
    · simp only [hl1, w2, show ¬ ((k + 1 : Nat) : Int) < (r : Int) - 1 by omega, if_false]
    · exact hz j (by omega) i' i1 i2
/-- The program's polynomial. -/
theorem char_val {m : List (List Int)} (hr0 : 0 < r) (hm : Mat p r r m) (H : List (List Int) → Nat → Nat → Int)
    (hH : ∀ h, Mat p r r h → HZ r r h → ∀ i j, i < r → j < r → i ≤ j + 1 → p ∣ gI (gR h i) j - H h i j) :
    ∃ y h, i_field_characteristic p m = some y ∧ Vec p (r + 1) y ∧ Mat p r r h ∧ SimM p r m h ∧ HZ r r h ∧ ∀ t, p ∣ gI y t - qN (H h) r t := by
  have hz := hm.sz (by omega) (by omega)
  have e0 := hm.1
  obtain ⟨h, h2, h3, h4, h5⟩ := hess_val hP hr (a1 := m) e0 hr0 hm
  obtain ⟨L, L2, L3, L4, L5⟩ := poly_outer hP hr (a1 := m) e0 h3 (hH h h3 h5)
  have v := L4 r (Nat.le_refl _)
  have w1 : w64 ((r : Int) + 1) = ((r + 1 : Nat) : Int) := by rw [w_in (by omega) (by omega)]; rfl
  have hlen : (List.replicate (r + 1) (0 : Int)).length = r + 1 := by simp
  refine ⟨gR L r, h, ?_, v, h3, h4, h5, L5 r (Nat.le_refl _)⟩
  unfold i_field_characteristic
  rw [e0, w1, chk_bind (by omega), i_cloneRows_eq hz, some_bind, h2, some_bind, L2, some_bind, idxR (by omega), some_bind, Int.toNat_natCast, List.length_replicate]
  congr 1
  rw [List.take_of_length_le (by rw [v.1]; omega), List.drop_of_length_le (by rw [v.1, hlen]; omega), List.append_nil]
end
end Go.Vam

/- Plain laws: inverses of tables. -/
namespace Go.Vam
open Go Go.RowKit
set_option linter.unusedSimpArgs false
set_option linter.unusedVariables false
set_option linter.unusedSectionVars false

/-- The table with the unit behind it. -/
def widem (n : Nat) (a : List (List Int)) : List (List Int) := vecN n fun i => gR a i ++ axis n i
theorem sumN_delta {n i : Nat} (g : Nat → Int) (hi : i < n) : sumN (fun q => (if q = i then 1 else 0) * g q) n = g i := by
  have : sumN (fun q => (if q = i then 1 else 0) * g q) n = sumN (fun q => if q = i then g i else 0) n := by
    refine sumN_congr fun q hq => ?_
    by_cases e : q = i
    · rw [if_pos e, if_pos e, e, Int.one_mul]
    · rw [if_neg e, if_neg e, Int.zero_mul]
  rw [this, sumN_upd (fun _ => 0) i _ n hi rfl, sumN_zero, Int.zero_add]
theorem sumN_delta_r {n i : Nat} (g : Nat → Int) (hi : i < n) : sumN (fun q => g q * (if q = i then 1 else 0)) n = g i := by
  rw [← sumN_delta g hi]
  exact sumN_congr fun q _ => Int.mul_comm ..
section
variable {p : Int} {n : Nat} {a : List (List Int)} (hp : 1 < p) (hn : n ≤ 1000) (ha : Mat p n n a)
include hp hn ha
end
section
variable {p : Int} {n : Nat} {a B : List (List Int)} {ld : Nat → Nat} (hP : isP p = true) (hn0 : 1 ≤ n) (hn : n ≤ 1000) (ha : Mat p n n a) (hB : Ech p (n + n) B ld) (hk : ∀ u, Kr p (n + n) B u ↔ KerP p n (n + n) (widem n a) u)
include hP hn0 hn ha hB hk
end

section
variable {p : Int} {n : Nat} {a : List (List Int)} (hP : isP p = true) (hn0 : 1 ≤ n) (hn : n ≤ 16) (ha : Mat p n n a)
include hP hn0 hn ha
end
end Go.Vam

/- Plain law: FnInverses. -/
namespace Go.Vam
open Go Go.RowKit
set_option linter.unusedSimpArgs false
set_option linter.unusedVariables false
set_option linter.unusedSectionVars false

theorem DrawSquare_eq {c : List Int} (hc : c.length ≤ 4096) (hb : ∀ x ∈ c, 0 ≤ x ∧ x ≤ 255) : ∃ (p : Int) (m : List (List Int)), s_l02DrawSquare c = some (p, m) ∧ -3 ≤ p ∧ p ≤ 17 ∧ tabS m := by
  unfold s_l02DrawSquare
  obtain ⟨h0, e0, S0⟩ := from_eq hc hb
  obtain ⟨n1, a1, h1, e1, l1, u1, S1⟩ := size_eq (h := h0) S0
  obtain ⟨r, a2, h2, e2, r1, r2, S2⟩ := next_eq (h := h1) (n := 24) S1 (by omega) (by omega)
  obtain ⟨x, ex, x1, x2⟩ : ∃ x : Nat, ((if r = 0 then some (w64 ((n1 : Int) + 1)) else some (n1 : Int)) : Option Int) = some (x : Int) ∧ 1 ≤ x ∧ x ≤ 7 := by
    by_cases c0 : r = 0
    · exact ⟨n1 + 1, by rw [if_pos c0, w_in (by omega) (by omega)]; rfl, by omega, by omega⟩
    · exact ⟨n1, by rw [if_neg c0], by omega, by omega⟩
  obtain ⟨p, m, a3, h3, e3, p1, p2, hT, S3⟩ := spoil_eq (h := h2) (r := n1) (k := x) S2 l1 (by omega) x1 x2
  simp only [e0, e1, e2, some_bind, ex, e3]
  exact ⟨p, m, rfl, p1, p2, hT⟩
end Go.Vam

/- Plain laws: a matrix put into its characteristic polynomial, trace and determinant. -/
namespace Go.Vam
open Go Go.RowKit
set_option linter.unusedSimpArgs false
set_option linter.unusedVariables false
set_option linter.unusedSectionVars false

/-- Whole numbers for a Hessenberg matrix; nothing below the diagonal is 0. -/
def liH (p : Int) (r : Nat) (h : List (List Int)) : Nat → Nat → Int := fun i j => if r ≤ i then 0 else if j + 1 < i then 0 else if i = j + 1 ∧ gI (gR h i) j = 0 then p else gI (gR h i) j
theorem liH_0 (p : Int) (r : Nat) (h : List (List Int)) : ∀ i j, r ≤ i → liH p r h i j = 0 := fun i j hi => by unfold liH; rw [if_pos hi]
theorem liH_1 (p : Int) (r : Nat) (h : List (List Int)) : ∀ i j, j + 1 < i → liH p r h i j = 0 := fun i j hi => by
  unfold liH
  split
  · rfl
  · first | rfl | rw [if_pos hi]
theorem liH_ne {p : Int} (hp : 0 < p) (r : Nat) (h : List (List Int)) : ∀ u, u + 1 < r → liH p r h (u + 1) u ≠ 0 := fun u hu => by
  unfold liH
  rw [if_neg (by omega), if_neg (by omega)]
  split
  · omega
  · rename_i h2
    intro e
    exact h2 ⟨rfl, e⟩
theorem liH_c (p : Int) {r : Nat} {h : List (List Int)} {i j : Nat} (hi : i < r) (hij : i ≤ j + 1) : p ∣ gI (gR h i) j - liH p r h i j := by
  unfold liH
  rw [if_neg (by omega), if_neg (by omega)]
  split
  · rename_i h2
    rw [h2.2, Int.zero_sub]
    exact Int.dvd_neg.2 (Int.dvd_refl p)
  · simp
theorem liH_all (p : Int) {r : Nat} {h : List (List Int)} (hz : HZ r r h) {i j : Nat} (hi : i < r) (hj : j < r) : p ∣ gI (gR h i) j - liH p r h i j := by
  by_cases hij : i ≤ j + 1
  · exact liH_c p hi hij
  · rw [liH_1 p r h i j (by omega), hz j hj i (by omega) hi]; simp
section
variable {p : Int} {r : Nat} (hP : isP p = true)
include hP
theorem times_c {a b : List (List Int)} {i k : Nat} (hi : i < r) (hk : k < r) : p ∣ gI (gR (timesm p r r r a b) i) k - sumN (fun j => gI (gR a i) j * gI (gR b j) k) r := by
  rw [timesm_at hi hk]
  exact dvd_mod_sub (by simp)
theorem powm_left {h : List (List Int)} (hh : Mat p r r h) (t : Nat) : powm p r h (t + 1) = timesm p r r r h (powm p r h t) := by
  have hp := isP_le hP
  have := powm_add (p := p) (by omega) r h 1 t
  rw [powm_one (by omega) hh, Nat.add_comm 1 t] at this
  exact this.symm
theorem powm_pw {h : List (List Int)} (hh : Mat p r r h) (hz : HZ r r h) : ∀ (t i j : Nat), i < r → j < r → p ∣ gI (gR (powm p r h t) i) j - pwN r (liH p r h) t (eN j) i
  | 0, i, j, hi, hj => by
    show p ∣ gI (gR (unitm r) i) j - (if i = j then 1 else 0)
    rw [unitm_at hi hj]
    by_cases e : i = j
    · rw [if_pos e, if_pos e.symm]; simp
    · rw [if_neg e, if_neg fun e' => e e'.symm]; simp
  | t + 1, i, j, hi, hj => by
    rw [powm_left hP hh]
    have d1 := times_c hP (a := h) (b := powm p r h t) hi hj
    have d2 : p ∣ sumN (fun l => gI (gR h i) l * gI (gR (powm p r h t) l) j) r - pwN r (liH p r h) (t + 1) (eN j) i := by
      show p ∣ _ - sumN (fun l => liH p r h i l * pwN r (liH p r h) t (eN j) l) r
      exact sumN_cong_dvd fun l hl => dvd_mul_sub (liH_all p hz hi hl) (powm_pw hh hz t l j hl hj)
    have := Int.dvd_add d1 d2
    rwa [show ∀ x y z : Int, x - y + (y - z) = x - z from fun x y z => by omega] at this
/-- The polynomial at a matrix. -/
def pmN (p : Int) (r : Nat) (y : List Int) (a : List (List Int)) (i j : Nat) : Int := sumN (fun t => gI y t * gI (gR (powm p r a t) i) j) (r + 1)
theorem pm_hess {h : List (List Int)} {y : List Int} (hr : 0 < r) (hh : Mat p r r h) (hz : HZ r r h) (hy : ∀ t, p ∣ gI y t - qN (liH p r h) r t) {i j : Nat} (hi : i < r) (hj : j < r) : p ∣ pmN p r y h i j := by
  have hp := isP_le hP
  have h1 : p ∣ pmN p r y h i j - opN r (liH p r h) (r + 1) (qN (liH p r h) r) (eN j) i := sumN_cong_dvd fun t _ => dvd_mul_sub (hy t) (powm_pw hP hh hz t i j hi hj)
  rw [qN_all (liH_0 p r h) (liH_1 p r h) hr (liH_ne (by omega) r h) hj, Int.sub_zero] at h1
  exact h1
theorem sim_pow {a T h : List (List Int)} (hT : Mat p r r T) (e : timesm p r r r a T = timesm p r r r T h) : ∀ t, timesm p r r r (powm p r a t) T = timesm p r r r T (powm p r h t)
  | 0 => by show timesm p r r r (unitm r) T = timesm p r r r T (unitm r); rw [one_times hT, times_one hT]
  | t + 1 => by
    show timesm p r r r (timesm p r r r (powm p r a t) a) T = timesm p r r r T (timesm p r r r (powm p r h t) h)
    rw [timesm_assoc, e, ← timesm_assoc, sim_pow hT e t, timesm_assoc]
theorem pm_sim {a h : List (List Int)} {y : List Int} (hs : SimM p r a h) (h0 : ∀ i j, i < r → j < r → p ∣ pmN p r y h i j) {i j : Nat} (hi : i < r) (hj : j < r) : p ∣ pmN p r y a i j := by
  obtain ⟨T, U, hT, hU, t1, t2, t3⟩ := hs
  have step : ∀ k, k < r → p ∣ sumN (fun j => pmN p r y a i j * gI (gR T j) k) r := by
    intro k hk
    have e1 : sumN (fun j => pmN p r y a i j * gI (gR T j) k) r = sumN (fun t => gI y t * sumN (fun j => gI (gR (powm p r a t) i) j * gI (gR T j) k) r) (r + 1) := by
      unfold pmN
      rw [sumN_congr (fun j _ => (sumN_mulR (gI (gR T j) k) _ _).symm), sumN_comm]
      refine sumN_congr fun t _ => ?_
      rw [← sumN_mulL]
      exact sumN_congr fun j _ => by grind
    have e2 : sumN (fun j => gI (gR T i) j * pmN p r y h j k) r = sumN (fun t => gI y t * sumN (fun j => gI (gR T i) j * gI (gR (powm p r h t) j) k) r) (r + 1) := by
      unfold pmN
      rw [sumN_congr (fun j _ => (sumN_mulL (gI (gR T i) j) _ _).symm), sumN_comm]
      refine sumN_congr fun t _ => ?_
      rw [← sumN_mulL]
      exact sumN_congr fun j _ => by grind
    have d1 : p ∣ sumN (fun j => pmN p r y a i j * gI (gR T j) k) r - sumN (fun j => gI (gR T i) j * pmN p r y h j k) r := by
      rw [e1, e2]
      refine sumN_cong_dvd fun t _ => dvd_mul_sub (by simp) ?_
      have c1 := times_c hP (a := powm p r a t) (b := T) hi hk
      have c2 := times_c hP (a := T) (b := powm p r h t) hi hk
      rw [sim_pow hP hT t3] at c1
      have := Int.dvd_sub c2 c1
      rwa [show ∀ x y z : Int, x - y - (x - z) = z - y from fun x y z => by omega] at this
    have d2 : p ∣ sumN (fun j => gI (gR T i) j * pmN p r y h j k) r := sumN_dvd fun j hjr => Int.dvd_mul_of_dvd_right (h0 j k hjr hk)
    have := Int.dvd_add d1 d2
    rwa [Int.sub_add_cancel] at this
  have e3 : sumN (fun k => sumN (fun l => pmN p r y a i l * gI (gR T l) k) r * gI (gR U k) j) r = sumN (fun l => pmN p r y a i l * sumN (fun k => gI (gR T l) k * gI (gR U k) j) r) r := by
    rw [sumN_congr (fun k _ => (sumN_mulR (gI (gR U k) j) _ _).symm), sumN_comm]
    refine sumN_congr fun l _ => ?_
    rw [← sumN_mulL]
    exact sumN_congr fun k _ => by grind
  have d3 : p ∣ sumN (fun l => pmN p r y a i l * sumN (fun k => gI (gR T l) k * gI (gR U k) j) r) r := by
    rw [← e3]
    exact sumN_dvd fun k hk => Int.dvd_mul_of_dvd_left (step k hk)
  have d4 : p ∣ sumN (fun l => pmN p r y a i l * sumN (fun k => gI (gR T l) k * gI (gR U k) j) r) r - sumN (fun l => pmN p r y a i l * (if l = j then 1 else 0)) r := by
    refine sumN_cong_dvd fun l hl => dvd_mul_sub (by simp) ?_
    have c := times_c hP (a := T) (b := U) hl hj
    rw [t1, unitm_at hl hj] at c
    have e : (if l = j then (1 : Int) else 0) = if j = l then 1 else 0 := by
      by_cases e : l = j
      · rw [if_pos e, if_pos e.symm]
      · rw [if_neg e, if_neg fun e' => e e'.symm]
    rw [e]
    have := Int.dvd_neg.2 c
    rwa [Int.neg_sub] at this
  rw [sumN_delta_r _ hj] at d4
  have := Int.dvd_sub d3 d4
  rwa [show ∀ x y : Int, x - (x - y) = y from fun x y => by omega] at this
/-! ### Trace and determinant -/
def trN (r : Nat) (m : List (List Int)) : Int := sumN (fun i => gI (gR m i) i) r
theorem tr_mul (a b : List (List Int)) : p ∣ trN r (timesm p r r r a b) - trN r (timesm p r r r b a) := by
  have h1 : p ∣ trN r (timesm p r r r a b) - sumN (fun i => sumN (fun j => gI (gR a i) j * gI (gR b j) i) r) r := sumN_cong_dvd fun i hi => times_c hP hi hi
  have h2 : p ∣ trN r (timesm p r r r b a) - sumN (fun i => sumN (fun j => gI (gR b i) j * gI (gR a j) i) r) r := sumN_cong_dvd fun i hi => times_c hP hi hi
  rw [sumN_comm] at h2
  have e : sumN (fun j => sumN (fun i => gI (gR b i) j * gI (gR a j) i) r) r = sumN (fun i => sumN (fun j => gI (gR a i) j * gI (gR b j) i) r) r := sumN_congr fun i _ => sumN_congr fun j _ => Int.mul_comm _ _
  rw [e] at h2
  have := Int.dvd_sub h1 h2
  rwa [show ∀ x y z : Int, x - y - (z - y) = x - z from fun x y z => by omega] at this
theorem sim_trace {a h : List (List Int)} (ha : Mat p r r a) (hh : Mat p r r h) (hs : SimM p r a h) : p ∣ trN r h - trN r a := by
  obtain ⟨T, U, hT, hU, t1, t2, t3⟩ := hs
  have e1 : timesm p r r r U (timesm p r r r a T) = h := by rw [t3, ← timesm_assoc, t2, one_times hh]
  have e2 : timesm p r r r (timesm p r r r a T) U = a := by rw [timesm_assoc, t1, times_one ha]
  have := tr_mul hP (r := r) U (timesm p r r r a T)
  rwa [e1, e2] at this
theorem det_times (a b : List (List Int)) : p ∣ detL r (timesm p r r r a b) - detL r a * detL r b := by
  have h1 := detN_mul (n := r) hP (asN a) (asN b)
  have h2 : p ∣ detL r (timesm p r r r a b) - detN r (mulN r (asN a) (asN b)) := detN_mod r fun i hi j hj => times_c hP hi hj
  have := Int.dvd_add h2 h1
  rwa [show ∀ x y z : Int, x - y + (y - z) = x - z from fun x y z => by omega] at this
theorem det_one : detL r (unitm r) = 1 := by
  unfold detL
  rw [← detN_id r]
  refine detN_congr r fun i hi j hj => ?_
  unfold asN idN
  rw [unitm_at hi hj]
  by_cases e : i = j
  · rw [if_pos e, if_pos e.symm]
  · rw [if_neg e, if_neg fun e' => e e'.symm]
theorem sim_det {a h : List (List Int)} (hs : SimM p r a h) : p ∣ detL r h - detL r a := by
  obtain ⟨T, U, hT, hU, t1, t2, t3⟩ := hs
  have c1 := det_times hP (r := r) a T
  have c2 := det_times hP (r := r) T h
  have c3 := det_times hP (r := r) U T
  rw [t2, det_one hP] at c3
  rw [t3] at c1
  generalize detL r (timesm p r r r T h) = x at c1 c2
  generalize detL r a = A at c1 ⊢
  generalize detL r h = B at c2 ⊢
  generalize detL r T = t at c1 c2 c3
  generalize detL r U = u at c3
  have d1 : p ∣ u * ((x - A * t) - (x - t * B)) := Int.dvd_mul_of_dvd_right (Int.dvd_sub c1 c2)
  have d2 : p ∣ (1 - u * t) * (B - A) := Int.dvd_mul_of_dvd_left c3
  have := Int.dvd_add d1 d2
  have e : u * ((x - A * t) - (x - t * B)) + (1 - u * t) * (B - A) = B - A := by grind
  rwa [e] at this
theorem det_li {h : List (List Int)} (hr : 0 < r) (hz : HZ r r h) : p ∣ detL r h - sgnN r * qN (liH p r h) r 0 := by
  have h1 : p ∣ detL r h - detN r (liH p r h) := detN_mod r fun i hi j hj => liH_all p hz hi hj
  rw [det_hess (liH_0 p r h) (liH_1 p r h) hr] at h1
  exact h1
theorem tr_li {h : List (List Int)} (hz : HZ r r h) : p ∣ trN r h - sumN (fun i => liH p r h i i) r := sumN_cong_dvd fun i hi => liH_all p hz hi hi
end
end Go.Vam

/- Plain law: FnCharacteristics. -/
namespace Go.Vam
open Go Go.RowKit
set_option linter.unusedSimpArgs false
set_option linter.unusedVariables false
set_option linter.unusedSectionVars false

section
variable {p : Int} {r : Nat} {m : List (List Int)} (hP : isP p = true) (hr : r ≤ 16) (hm : Mat p r r m)
include hP hr hm
theorem i_trace_eq : i_field_trace p m = some (trN r m % p) := by
  have hp := isP_le hP
  have e0 := hm.1
  have hb : ∀ k, k ≤ r → 0 ≤ sumN (fun i => gI (gR m i) i) k ∧ sumN (fun i => gI (gR m i) i) k ≤ 13 * k := fun k hk => sumN_bound fun i hi => by
    have := (hm.row (show i < r by omega)).get (show i < r by omega)
    omega
  unfold i_field_trace
  rw [loop_for (b := trN r m) (s := ((0 : Int), (0 : Int))) (fun k => (sumN (fun i => gI (gR m i) i) k, (k : Int))) r (by rw [BIG_val]; omega) rfl]
  · have := hb r (Nat.le_refl _)
    rw [some_bind, i_field_num_eq (by omega) (by omega) (by unfold trN; omega) (by unfold trN; omega)]
    rfl
  · intro k hk
    unfold i_field_trace_L0
    have e1 := (hm.row hk).1
    have e2 := (hm.row hk).get hk
    have := hb k (by omega)
    simp only [e0, lt_cast hk, if_true, idxR (show k < m.length by omega), idxI (show k < (gR m k).length by omega), some_bind]
    rw [w_in (by omega) (by omega), w_in (by omega) (by omega)]
    rfl
  · unfold i_field_trace_L0
    simp only [e0, lt_cast_self, if_false]
    rfl
theorem plus5_eq {a b : List Int} {k : Int} (ha : Vec p r a) (hb : Vec p r b) (hk : 0 ≤ k ∧ k < p) : l_plus5 p a b k = some (vecN r fun j => (gI a j + k * gI b j) % p) := by
  have hp := isP_le hP
  have e1 := ha.1
  have e2 := hb.1
  unfold l_plus5
  rw [if_neg (by omega), map_loop _ r (fun j => (gI a j + k * gI b j) % p) (by rw [BIG_val]; omega)]
  · rfl
  · intro j hj out ho
    unfold l_plus5_L0
    have g1 := ha.get hj
    have g2 := hb.get hj
    have q1 := mul_abs (a := k) (b := gI b j) (A := 13) (B := 13) (by omega) (by omega)
    simp only [e1, lt_cast hj, if_true, idxI (show j < a.length by omega), idxI (show j < b.length by omega), some_bind]
    rw [w_in (x := k * gI b j) (by omega) (by omega), w_in (x := gI a j + k * gI b j) (by omega) (by omega), mod5_eq (by omega) (by omega) (by omega) (by omega), some_bind, chk_bind (by simp only [List.length_cons, List.length_nil]; omega), w_in (by omega) (by omega)]
    rfl
  · intro out ho
    unfold l_plus5_L0
    simp only [e1, lt_cast_self, if_false]
def totM (p : Int) (r : Nat) (y : List Int) (m : List (List Int)) (k : Nat) : List (List Int) := vecN r fun i => vecN r fun j => sumN (fun t => gI y t * gI (gR (powm p r m t) i) j) k % p
theorem tot_mat (y : List Int) (k : Nat) : Mat p r r (totM p r y m k) := Mat.mk' fun i _ => Vec.mk' fun j _ => mod_num (by have := isP_le hP; omega)
theorem tot_0 : loop (l_FnCharacteristics_L0 (p, m)) BIG (List.replicate ((m.length : Int)).toNat [], 0) = some (vecN r fun _ => List.replicate r 0) := by
  have e0 := hm.1
  rw [e0, Int.toNat_natCast]
  refine loop_for (fun k => (vecN r (fun i => if i < k then List.replicate r 0 else []), (k : Int))) r (by rw [BIG_val]; omega) ?_ (fun k hk => ?_) ?_
  · show (List.replicate r [], (0 : Int)) = (_, ((0 : Nat) : Int))
    congr 1
    refine extR (by simp) fun i hi => ?_
    rw [if_neg (by omega)]
    unfold gR
    rw [List.getD_eq_getElem?_getD, List.getElem?_replicate]
    simp [hi]
  · unfold l_FnCharacteristics_L0
    simp only [e0, lt_cast hk, if_true]
    rw [chk_bind ⟨by omega, by omega⟩, idxR (by simp; omega), some_bind, Int.toNat_natCast, Int.toNat_natCast, w_in (by omega) (by omega)]
    congr 3
    refine extR (by simp) fun i hi => ?_
    rw [gR_set (by simp; omega), gR_vecN _ hi]
    by_cases h1 : k = i
    · rw [if_pos h1, if_pos (by omega)]
    · rw [if_neg h1]
      by_cases h2 : i < k
      · rw [if_pos h2, if_pos (by omega)]
      · rw [if_neg h2, if_neg (by omega)]
  · unfold l_FnCharacteristics_L0
    simp only [e0, lt_cast_self, if_false]
    congr 2
    exact vecN_congr fun i hi => by rw [if_pos hi]
theorem tot_step {y : List Int} {c : Int} {k : Nat} (hy : Vec p (r + 1) y) (hk : k ≤ r) :
    loop (l_FnCharacteristics_L2 (p, m) (y, c) (totM p r y m k, (k : Int)) (powm p r m k, 0)) BIG (totM p r y m k, 0) = some (.inl (totM p r y m (k + 1))) := by
  have hp := isP_le hP
  have e0 := hm.1
  have hpm := powm_mat (p := p) (by omega) r m k
  have hyk := hy.get (show k < r + 1 by omega)
  have el := hy.1
  refine loop_for (fun i => (vecN r (fun a => if a < i then gR (totM p r y m (k + 1)) a else gR (totM p r y m k) a), (i : Int))) r (by rw [BIG_val]; omega) ?_ (fun i hi => ?_) ?_
  · show (totM p r y m k, (0 : Int)) = (_, ((0 : Nat) : Int))
    congr 1
    refine extR (by unfold totM; simp) fun a ha => by rw [if_neg (by omega)]
  · unfold l_FnCharacteristics_L2
    have hrow := (tot_mat hP hr hm y k).row hi
    have e1 := hpm.1
    simp only [e0, lt_cast hi, if_true]
    rw [idxR (by simp; omega), some_bind, gR_vecN _ hi, if_neg (by omega), idxR (show i < (powm p r m k).length by omega), some_bind, idxI (show k < y.length by omega), some_bind, plus5_eq hP hr hm hrow (hpm.row hi) hyk, some_bind, if_neg (by simp), Int.toNat_natCast, w_in (by omega) (by omega)]
    congr 3
    refine extR (by simp) fun a ha => ?_
    rw [gR_set (by simp; omega), gR_vecN _ ha]
    by_cases h1 : i = a
    · subst h1
      rw [if_pos rfl, if_pos (by omega)]
      unfold totM
      rw [gR_vecN _ hi, gR_vecN _ hi]
      refine vecN_congr fun j hj => ?_
      rw [gI_vecN _ hj, Int.emod_add_emod]
      rfl
    · rw [if_neg h1]
      by_cases h2 : a < i
      · rw [if_pos h2, if_pos (by omega)]
      · rw [if_neg h2, if_neg (by omega)]
  · unfold l_FnCharacteristics_L2
    simp only [e0, lt_cast_self, if_false]
    congr 3
    refine (extR (by unfold totM; simp) fun a ha => ?_).symm
    rw [if_pos ha]
theorem tot_all {y : List Int} {c : Int} (hi : isMat p m = true) (hl : m.length = wid m) (hr0 : 0 < r) (hy : Vec p (r + 1) y) :
    loop (l_FnCharacteristics_L1 (p, m) (y, c)) BIG ((vecN r fun _ => List.replicate r 0), 0) = some (.inl (totM p r y m (r + 1))) := by
  have hp := isP_le hP
  have e0 := hm.1
  refine loop_for (fun k => (totM p r y m k, (k : Int))) (r + 1) (by rw [BIG_val]; omega) ?_ (fun k hk => ?_) ?_
  · show ((vecN r fun _ => List.replicate r 0), (0 : Int)) = (_, ((0 : Nat) : Int))
    congr 1
    unfold totM
    refine vecN_congr fun i _ => ?_
    rw [show List.replicate r (0 : Int) = vecN r (fun _ => (0 : Int)) by simp [vecN, List.map_const']]
    exact vecN_congr fun j _ => by simp [sumN]
  · unfold l_FnCharacteristics_L1
    have e1 := (powm_mat (p := p) (by omega) r m k).1
    simp only [e0, show (k : Int) ≤ (r : Int) by omega, if_true]
    rw [i_PowerMatrix_val hi hl e0 (by omega), some_bind]
    simp only [not_true_eq_false, if_false, e1, ieq_self, Bool.not_true, some_bind, Bool.false_eq_true]
    rw [tot_step hP hr hm (c := c) hy (by omega), some_bind]
    simp only []
    rw [w_in (by omega) (by omega)]
    rfl
  · unfold l_FnCharacteristics_L1
    simp only [e0, show ¬ ((r + 1 : Nat) : Int) ≤ (r : Int) by omega, if_false]
end
theorem LawCharacteristics {c : List Int} (hc : c.length ≤ 9223372036854775807) (hb : ∀ x ∈ c, 0 ≤ x ∧ x ≤ 255) : l_FnCharacteristics c = some true := by
  unfold l_FnCharacteristics l_big
  rw [some_bind]
  by_cases hbig : (4096 : Int) < (c.length : Int)
  · rw [ilt_true hbig, if_pos rfl]
  rw [ilt_false hbig]
  simp only [Bool.false_eq_true, if_false]
  obtain ⟨p, m, e0, p1, p2, hT⟩ := DrawSquare_eq (c := c) (by omega) hb
  unfold s_DrawCharacteristicPolynomial
  rw [e0, some_bind, some_bind]
  simp only []
  obtain ⟨V, C, e1, e2, hV⟩ := CharacteristicPolynomial_eq (p := p) hT.sz
  simp only [e1, e2, some_bind, not_true_eq_false, if_false, likeI_self hV, Bool.not_true, Bool.false_eq_true]
  by_cases hq : sqC p m = 0
  rotate_left
  · have hC : C = sqC p m := by
      unfold i_CharacteristicPolynomial at e2
      rw [i_checkSquare_eq hT.sz, some_bind, if_pos hq] at e2
      have := Option.some.inj e2
      rw [Prod.mk.injEq] at this
      exact this.2.symm
    rw [if_pos (by rw [hC]; exact hq)]
  obtain ⟨hmi, hl⟩ := sqC_zero hq
  obtain ⟨h1, h2, h3, hP, h4, h5⟩ := isMat_sz hmi
  have hp := isP_le hP
  have hM : Mat p m.length m.length m := by have := h3; rw [← hl] at this; exact this
  obtain ⟨y, h, y1, y2, y3, y4, y5, y6⟩ := char_val hP (r := m.length) (by omega) (m := m) (by omega) hM (liH p m.length) (fun h _ hz i j hi hj hij => liH_c p hi hij)
  have hVC : V = y ∧ C = 0 := by
    unfold i_CharacteristicPolynomial at e2
    rw [i_checkSquare_eq hT.sz, some_bind, if_neg (by rw [hq]; simp), y1, some_bind] at e2
    have := Option.some.inj e2
    rw [Prod.mk.injEq] at this
    exact ⟨this.1.symm, this.2.symm⟩
  obtain ⟨rfl, rfl⟩ := hVC
  obtain ⟨d, d1, _, d2, d3, d4⟩ := det_ok hP hM (by omega) (by omega)
  have htr : i_TraceOf p m = some (trN m.length m % p, 0) := by
    unfold i_TraceOf
    rw [i_checkSquare_eq hT.sz, some_bind, hq]
    simp only [not_true_eq_false, if_false]
    rw [i_trace_eq hP (by omega) hM]
    rfl
  generalize hrr : m.length = r at *
  have hr0 : 0 < r := by omega
  have el := y2.1
  have htn := mod_num (a := trN r m) (p := p) (by omega)
  -- the first and the second coefficient
  have k1 : gI V r = 1 := by
    have g := y2.get (show r < r + 1 by omega)
    have := y6 r
    rw [qN_monic] at this
    have := Int.emod_eq_emod_iff_emod_sub_eq_zero.2 (Int.emod_eq_zero_of_dvd this)
    rwa [Int.emod_eq_of_lt g.1 g.2, Int.emod_eq_of_lt (by omega) (by omega)] at this
  have k2 : gI V (r - 1) = (0 - trN r m % p) % p := by
    have g := y2.get (show r - 1 < r + 1 by omega)
    have q := y6 (r - 1)
    have t1 := sim_trace hP hM y3 y4
    have t2 := tr_li hP y5
    have t3 := qN_trace (liH p r h) (r - 1)
    rw [show r - 1 + 1 = r by omega] at t3
    rw [t3] at q
    have t4 : p ∣ trN r m % p - trN r m := dvd_mod_sub (by simp)
    have : p ∣ gI V (r - 1) - (0 - trN r m % p) := by
      have a1 := Int.dvd_add (Int.dvd_add q (Int.dvd_neg.2 t1)) (Int.dvd_add t2 t4)
      have e : gI V (r - 1) - -sumN (fun i => liH p r h i i) r + -(trN r h - trN r m) + (trN r h - sumN (fun i => liH p r h i i) r + (trN r m % p - trN r m)) = gI V (r - 1) - (0 - trN r m % p) := by omega
      rwa [e] at a1
    have := Int.emod_eq_emod_iff_emod_sub_eq_zero.2 (Int.emod_eq_zero_of_dvd this)
    rwa [Int.emod_eq_of_lt g.1 g.2] at this
  have k3 : p ∣ gI V 0 - sgnN r * d := by
    have q := y6 0
    have t1 := sim_det hP y4
    have t2 := det_li hP hr0 y5
    have a1 : p ∣ sgnN r * ((detL r h - sgnN r * qN (liH p r h) r 0) - (detL r h - detL r m) + (d - detL r m)) := Int.dvd_mul_of_dvd_right (Int.dvd_add (Int.dvd_sub t2 t1) d4)
    have a2 := Int.dvd_sub q a1
    have hs := sgnN_sq r
    have e : gI V 0 - qN (liH p r h) r 0 - sgnN r * ((detL r h - sgnN r * qN (liH p r h) r 0) - (detL r h - detL r m) + (d - detL r m)) = gI V 0 - sgnN r * d + (sgnN r * sgnN r - 1) * qN (liH p r h) r 0 := by grind
    rw [e, hs] at a2
    simpa using a2
  have k4 : ((if ((r : Int)).tmod 2 = 1 then (l_mod5 p (w64 (0 - d))).bind fun v30 => some v30 else some d) : Option Int) = some (gI V 0) := by
    have g := y2.get (show 0 < r + 1 by omega)
    have ht : ((r : Int)).tmod 2 = (r : Int) % 2 := tmod_nn (by omega)
    rw [ht]
    by_cases ho : (r : Int) % 2 = 1
    · have hs : sgnN r = -1 := by unfold sgnN; rw [if_neg (by omega)]
      rw [if_pos ho, w_in (by omega) (by omega), mod5_eq (by omega) (by omega) (by omega) (by omega), some_bind]
      rw [hs] at k3
      have : p ∣ gI V 0 - (0 - d) := by
        have e : gI V 0 - -1 * d = gI V 0 - (0 - d) := by omega
        rwa [e] at k3
      have := Int.emod_eq_emod_iff_emod_sub_eq_zero.2 (Int.emod_eq_zero_of_dvd this)
      rw [Int.emod_eq_of_lt g.1 g.2] at this
      rw [this]
    · have hs : sgnN r = 1 := by unfold sgnN; rw [if_pos (by omega)]
      rw [if_neg ho]
      rw [hs, Int.one_mul] at k3
      have := Int.emod_eq_emod_iff_emod_sub_eq_zero.2 (Int.emod_eq_zero_of_dvd k3)
      rw [Int.emod_eq_of_lt g.1 g.2, Int.emod_eq_of_lt d2 d3] at this
      rw [this]
  have hz : totM p r V m (r + 1) = vecN r fun _ => vecN r fun _ => (0 : Int) := by
    unfold totM
    refine vecN_congr fun i hi => vecN_congr fun j hj => ?_
    exact Int.emod_eq_zero_of_dvd (pm_sim hP y4 (fun i j hi hj => pm_hess hP hr0 y3 y5 y6 hi hj) hi hj)
  have t0 := tot_0 hP (by omega) hM
  have t1 := tot_all hP (by omega) hM (c := 0) hmi (by rw [hrr]; exact hl) hr0 y2
  rw [hrr] at t0
  have t3 : loop (l_FnCharacteristics_L3 (p, m) (totM p r V m (r + 1))) BIG 0 = some (.inl ()) := by
    refine loop_for (s := (0 : Int)) (fun k => (k : Int)) r (by rw [BIG_val]; omega) rfl (fun k hk => ?_) ?_
    · unfold l_FnCharacteristics_L3
      simp only [hrr, lt_cast hk, if_true]
      rw [hz, idxR (by simp; omega), some_bind, gR_vecN _ hk, zero_vec (by omega), some_bind, w_in (by omega) (by omega)]
      simp
    · unfold l_FnCharacteristics_L3
      simp only [hrr, lt_cast_self, if_false]
  have w1 : w64 ((r : Int) + 1) = (r : Int) + 1 := w_in (by omega) (by omega)
  have w2 : w64 ((r : Int) - 1) = ((r - 1 : Nat) : Int) := by rw [w_in (by omega) (by omega)]; omega
  have w3 : w64 (0 - trN r m % p) = 0 - trN r m % p := w_in (by omega) (by omega)
  have w4 := mod5_eq (p := p) (n := 0 - trN r m % p) (by omega) (by omega) (by omega) (by omega)
  have ln : ((V.length : Nat) : Int) = (r : Int) + 1 := by omega
  simp only [htr, d1, some_bind, hrr, not_true_eq_false, if_false, w1, ln, idxI (show r < V.length by omega), k1, w2, idxI (show r - 1 < V.length by omega), w3, w4, k2, ieq_self, Bool.not_true, Bool.false_eq_true, k4, idxI0 (show 0 < V.length by omega)]
  rw [chk_bind ⟨by omega, by omega⟩, t0, some_bind, t1, some_bind]
  simp only []
  rw [t3]
  rfl
end Go.Vam
