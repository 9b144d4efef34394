import Derived.Test.YtcijfjeeggfgmaaPlG0
import Derived.Test.YtcijfjeeggfgmaaFmG0
/- Plain laws: reflections keep the products of vectors. -/
namespace Go.Vam
open Go Go.RowKit
set_option linter.unusedSimpArgs false
set_option linter.unusedVariables false
set_option linter.unusedSectionVars false

/-- The product of vectors, as an integer. -/
def pairS (n : Nat) (w x y : List Int) : Int := sumN (fun k => gI x k * gI y k * gI w k) n
theorem pairp_S (p : Int) (n : Nat) (w x y : List Int) : pairp p n w x y = pairS n w x y % p := rfl
theorem pairS_comm (n : Nat) (w x y : List Int) : pairS n w x y = pairS n w y x := by
  unfold pairS
  exact sumN_congr fun k _ => by rw [Int.mul_comm (gI x k)]
theorem pairS_lin {p : Int} {n : Nat} {w x x' u y : List Int} {c : Int} (h : ∀ k, k < n → gI x' k % p = (gI x k + c * gI u k) % p) : pairS n w x' y % p = (pairS n w x y + c * pairS n w u y) % p := by
  unfold pairS
  rw [← sumN_lin]
  refine sumN_mod fun k hk => ?_
  rw [Int.mul_assoc, mul_mod_l (h k hk)]
  congr 1
  rw [Int.add_mul, Int.mul_assoc, Int.mul_assoc, Int.mul_assoc]
/-- What the reflection in u makes of v. -/
def reflv (p : Int) (n : Nat) (w u v : List Int) : List Int := plusv p n v u (-2 * pairS n w u v * invp p (pairp p n w u u))
theorem reflv_vec {p : Int} (hp : 0 < p) (n : Nat) (w u v : List Int) : Vec p n (reflv p n w u v) := plusv_vec hp ..
theorem reflv_at {p : Int} {n k : Nat} {w u v : List Int} (hk : k < n) : gI (reflv p n w u v) k = (gI v k + (-2 * pairS n w u v * invp p (pairp p n w u u)) * gI u k) % p := plusv_at hk
theorem inv_dvd {p a : Int} (hP : isP p = true) (h0 : a % p ≠ 0) : p ∣ invp p (a % p) * a - 1 := by
  have hp := isP_le hP
  have hn := mod_num (a := a) (p := p) (by omega)
  obtain ⟨_, _, i3⟩ := inv_facts (a := a % p) hP (by omega) hn.2
  rw [← mod_dvd, Int.emod_eq_of_lt (show (0 : Int) ≤ 1 by omega) (by omega), Int.mul_comm, ← i3]
  exact (mul_mod_l (emm a p)).symm
theorem reflv_pair {p : Int} {n : Nat} {w u : List Int} (hP : isP p = true) (hu : pairp p n w u u ≠ 0) (x y : List Int) :
    pairp p n w (reflv p n w u x) (reflv p n w u y) = pairp p n w x y := by
  rw [pairp_S, pairp_S]
  have ht := inv_dvd hP (a := pairS n w u u) hu
  rw [← pairp_S] at ht
  have hx : ∀ k, k < n → gI (reflv p n w u x) k % p = (gI x k + (-2 * pairS n w u x * invp p (pairp p n w u u)) * gI u k) % p := fun k hk => by rw [reflv_at hk, emm]
  have hy : ∀ k, k < n → gI (reflv p n w u y) k % p = (gI y k + (-2 * pairS n w u y * invp p (pairp p n w u u)) * gI u k) % p := fun k hk => by rw [reflv_at hk, emm]
  have h1 := mod_dvd.1 (pairS_lin (w := w) (y := reflv p n w u y) hx)
  have h2 := mod_dvd.1 (pairS_lin (w := w) (y := x) hy)
  have h3 := mod_dvd.1 (pairS_lin (w := w) (y := u) hy)
  rw [pairS_comm n w x (reflv p n w u y), pairS_comm n w u (reflv p n w u y)] at h1
  rw [pairS_comm n w y x, pairS_comm n w u x] at *
  rw [pairS_comm n w y u] at h3
  generalize hX : pairS n w x u = X at *
  generalize hY : pairS n w u y = Y at *
  generalize invp p (pairp p n w u u) = t at *
  generalize pairS n w u u = Q at *
  generalize pairS n w x y = Z at *
  generalize pairS n w (reflv p n w u x) (reflv p n w u y) = A at *
  generalize pairS n w (reflv p n w u y) x = B at *
  generalize pairS n w (reflv p n w u y) u = C at *
  rw [mod_dvd]
  obtain ⟨k1, e1⟩ := h1
  obtain ⟨k2, e2⟩ := h2
  obtain ⟨k3, e3⟩ := h3
  obtain ⟨k4, e4⟩ := ht
  exact ⟨k1 + k2 + (-2 * X * t) * k3 + 4 * X * Y * t * k4, by grind⟩
/-- The reflection's table. -/
def reflm (p : Int) (n : Nat) (w u : List Int) : List (List Int) := turnm n n (vecN n fun k => reflv p n w u (axis n k))
theorem pairS_axis {n k : Nat} {w u : List Int} (hk : k < n) : pairS n w u (axis n k) = gI u k * gI w k := by
  unfold pairS
  rw [sumN_one hk (fun q hq hqk => by rw [gI_axis hk, if_neg hqk]; simp), gI_axis hk, if_pos rfl, Int.mul_one]
theorem reflm_at {p : Int} {n r k : Nat} {w u : List Int} (hr : r < n) (hk : k < n) : gI (gR (reflm p n w u) r) k = ((if r = k then 1 else 0) + (-2 * (gI u k * gI w k) * invp p (pairp p n w u u)) * gI u r) % p := by
  unfold reflm
  rw [turnm_at hk hr, gR_vecN _ hk, reflv_at hr, gI_axis hk, pairS_axis hk]
theorem refl_times {p : Int} {n i : Nat} {w u : List Int} {m : List (List Int)} (hp : 0 < p) (hi : i < n) :
    gR (turnm n n (timesm p n n n (reflm p n w u) m)) i = reflv p n w u (gR (turnm n n m) i) := by
  have hv := (reflv_vec hp n w u (gR (turnm n n m) i)).1
  rw [extI hv (f := gI (reflv p n w u (gR (turnm n n m) i))) fun k _ => rfl]
  refine extI (by unfold turnm; rw [gR_vecN _ hi, vecN_len]) fun r hr => ?_
  rw [turnm_at hr hi, reflv_at hr, turnm_at hr hi]
  unfold timesm
  rw [gR_vecN _ hr, gI_vecN _ hi]
  have e1 : sumN (fun j => gI (gR (reflm p n w u) r) j * gI (gR m j) i) n % p = sumN (fun j => (if r = j then gI (gR m j) i else 0) + (-2 * invp p (pairp p n w u u) * gI u r) * (gI u j * gI (gR m j) i * gI w j)) n % p := by
    refine sumN_mod fun j hj => ?_
    rw [reflm_at hr hj, mul_mod_l (emm _ _)]
    congr 1
    split <;> grind
  rw [e1, sumN_lin, sumN_one hr (fun q hq hqr => if_neg (fun e => hqr e.symm)), if_pos rfl]
  congr 2
  have e2 : sumN (fun k => gI u k * gI (gR m k) i * gI w k) n = pairS n w u (gR (turnm n n m) i) := by
    unfold pairS
    exact sumN_congr fun k hk => by rw [turnm_at hk hi]
  rw [e2]
  grind
/-- A table whose columns have the products of the basis. -/
def IsoT (p : Int) (n : Nat) (w : List Int) (m : List (List Int)) : Prop := ∀ i, i < n → ∀ j, j < n → pairp p n w (gR (turnm n n m) i) (gR (turnm n n m) j) = if i = j then gI w i else 0
theorem IsoT.refl {p : Int} {n : Nat} {w u : List Int} {m : List (List Int)} (hP : isP p = true) (h : IsoT p n w m) (hu : pairp p n w u u ≠ 0) : IsoT p n w (timesm p n n n (reflm p n w u) m) := by
  have hp := isP_le hP
  intro i hi j hj
  rw [refl_times (by omega) hi, refl_times (by omega) hj, reflv_pair hP hu]
  exact h i hi j hj
end Go.Vam

/- Plain laws: decompositions into reflections; HasSquareNorm. -/
namespace Go.Vam
open Go Go.RowKit
set_option linter.unusedSimpArgs false
set_option linter.unusedVariables false
set_option linter.unusedSectionVars false

section
variable {p : Int} {n : Nat} {w u : List Int} (hP : isP p = true) (hn0 : 0 < n) (hn : n ≤ 1000) (hwl : w.length = n) (hw : Vec p n w) (hu : Vec p n u) (hQ : pairp p n w u u ≠ 0)
include hP hn0 hn hwl hw hu hQ
end
/-- Rows of n numbers each. -/
def RowsV (p : Int) (n : Nat) (L : List (List Int)) : Prop := ∀ r ∈ L, Vec p n r
section
variable {p : Int} {n : Nat} {w : List Int} (hP : isP p = true) (hn0 : 0 < n) (hn : n ≤ 1000) (hwl : w.length = n) (hw : Vec p n w) (hz : ∀ k, k < n → gI w k ≠ 0)
include hP hn0 hn hwl hw hz
end
end Go.Vam

/- Plain laws: systems of equations and spans. -/
namespace Go.Vam
open Go Go.RowKit
set_option linter.unusedSimpArgs false
set_option linter.unusedVariables false
set_option linter.unusedSectionVars false

theorem likeI_self {v : List Int} (h : v.length ≤ 1048576) : l_likeInts v v = some true := by
  unfold l_likeInts
  simp only [not_true_eq_false, if_false]
  obtain ⟨b, h1, h2⟩ := any_loop (l_likeInts_L0 v v) v.length (fun _ => false) (fun _ => true) (by rw [BIG_val]; omega)
    (fun k hk _ => by
      unfold l_likeInts_L0
      simp only [lt_cast hk, if_true, idxI hk, some_bind, not_true_eq_false, if_false]
      rw [w_in (by omega) (by omega)]; rfl) (fun k hk hf => by cases hf) (by
      unfold l_likeInts_L0
      simp only [lt_cast_self, if_false])
  rcases h2 with ⟨rfl, _⟩ | ⟨k, _, _, hf, _⟩
  · rw [h1, some_bind]
  · cases hf
end Go.Vam

/- Plain law: FnKernels. -/
namespace Go.Vam
open Go Go.RowKit
set_option linter.unusedSimpArgs false
set_option linter.unusedVariables false
set_option linter.unusedSectionVars false

theorem likeR_self {m : List (List Int)} (h : szM m) : l_likeRows5 m m = some true := by
  unfold l_likeRows5
  simp only [not_true_eq_false, if_false]
  have h1 := h.1
  obtain ⟨b, h1, h2⟩ := any_loop (l_likeRows5_L0 m m) m.length (fun _ => false) (fun _ => true) (by rw [BIG_val]; omega)
    (fun k hk _ => by
      unfold l_likeRows5_L0
      have hr : (gR m k).length ≤ 1048576 := h.2 _ (by rw [← gR_get hk]; exact List.getElem_mem hk)
      simp only [lt_cast hk, if_true, idxR hk, some_bind, likeI_self hr, Bool.true_eq_false, if_false]
      rw [w_in (by omega) (by omega)]; rfl) (fun k hk hf => by cases hf) (by
      unfold l_likeRows5_L0
      simp only [lt_cast_self, if_false])
  rcases h2 with ⟨rfl, _⟩ | ⟨k, _, _, hf, _⟩
  · rw [h1, some_bind]
  · cases hf
end Go.Vam

/- Plain laws: determinants of numbers, by expansion; they are multiplied with tables. -/
namespace Go.Vam
open Go Go.RowKit
set_option linter.unusedSimpArgs false
set_option linter.unusedVariables false
set_option linter.unusedSectionVars false

def skipN (i a : Nat) : Nat := if a < i then a else a + 1
def sgnN (i : Nat) : Int := if i % 2 = 0 then 1 else -1
/-- The determinant of the first n rows and columns, expanded along column 0. -/
def detN : Nat → (Nat → Nat → Int) → Int
  | 0, _ => 1
  | n + 1, M => sumN (fun i => sgnN i * M i 0 * detN n (fun a b => M (skipN i a) (b + 1))) (n + 1)
theorem sgnN_succ (i : Nat) : sgnN (i + 1) = - sgnN i := by
  unfold sgnN
  rcases Nat.mod_two_eq_zero_or_one i with h | h
  · rw [if_neg (by omega), if_pos h]
  · rw [if_pos (by omega), if_neg (by omega)]; rfl
theorem skipN_lt {n i a : Nat} (ha : a < n) : skipN i a < n + 1 := by unfold skipN; split <;> omega
theorem detN_congr : ∀ (n : Nat) {M M' : Nat → Nat → Int}, (∀ i, i < n → ∀ j, j < n → M i j = M' i j) → detN n M = detN n M'
  | 0, _, _, _ => rfl
  | n + 1, M, M', h => by
    unfold detN
    refine sumN_congr fun i hi => ?_
    rw [h i hi 0 (by omega), detN_congr n fun a ha b hb => h _ (skipN_lt ha) (b + 1) (by omega)]
theorem dvd_mul_sub {p a b x y : Int} (h1 : p ∣ a - b) (h2 : p ∣ x - y) : p ∣ a * x - b * y := by
  have e : a * x - b * y = (a - b) * x + b * (x - y) := by rw [Int.sub_mul, Int.mul_sub]; omega
  rw [e]
  exact Int.dvd_add (Int.dvd_mul_of_dvd_left h1) (Int.dvd_mul_of_dvd_right h2)
theorem sumN_cong_dvd {p : Int} {f g : Nat → Int} {n : Nat} (h : ∀ k, k < n → p ∣ f k - g k) : p ∣ sumN f n - sumN g n := by
  rw [← sumN_sub]; exact sumN_dvd h
theorem detN_mod {p : Int} : ∀ (n : Nat) {M M' : Nat → Nat → Int}, (∀ i, i < n → ∀ j, j < n → p ∣ M i j - M' i j) → p ∣ detN n M - detN n M'
  | 0, _, _, _ => by unfold detN; simp
  | n + 1, M, M', h => by
    unfold detN
    refine sumN_cong_dvd fun i hi => ?_
    refine dvd_mul_sub (dvd_mul_sub (by simp) (h i hi 0 (by omega))) (detN_mod n fun a ha b hb => h _ (skipN_lt ha) (b + 1) (by omega))

/-- Row i replaced. -/
def rowU (M : Nat → Nat → Int) (i : Nat) (r : Nat → Int) : Nat → Nat → Int := fun a b => if a = i then r b else M a b
theorem rowU_self (M : Nat → Nat → Int) (i : Nat) : rowU M i (M i) = M := by
  funext a b; unfold rowU; split
  · rename_i h; rw [h]
  · rfl
/-- Where row i stands when row k is left out. -/
def backN (k i : Nat) : Nat := if i < k then i else i - 1
theorem skipN_eq {k i a : Nat} (h : i ≠ k) : skipN k a = i ↔ a = backN k i := by
  unfold skipN backN
  constructor
  · intro e; split at e <;> split <;> omega
  · intro e; split at e <;> split <;> omega
theorem backN_lt {n k i : Nat} (hk : k < n + 1) (hi : i < n + 1) (h : i ≠ k) : backN k i < n := by unfold backN; split <;> omega
theorem minor_rowU {M : Nat → Nat → Int} {i k : Nat} {r : Nat → Int} (h : i ≠ k) : (fun a b => rowU M i r (skipN k a) (b + 1)) = rowU (fun a b => M (skipN k a) (b + 1)) (backN k i) (fun b => r (b + 1)) := by
  funext a b
  unfold rowU
  by_cases e : skipN k a = i
  · rw [if_pos e, if_pos ((skipN_eq h).1 e)]
  · rw [if_neg e, if_neg fun e' => e ((skipN_eq h).2 e')]
theorem minor_rowU_self {M : Nat → Nat → Int} {i : Nat} {r : Nat → Int} : (fun a b => rowU M i r (skipN i a) (b + 1)) = (fun a b => M (skipN i a) (b + 1)) := by
  funext a b
  unfold rowU
  rw [if_neg (by unfold skipN; split <;> omega)]
theorem detN_lin : ∀ (n : Nat) (M : Nat → Nat → Int) (i : Nat) (r s : Nat → Int) (c : Int), i < n →
    detN n (rowU M i (fun b => r b + c * s b)) = detN n (rowU M i r) + c * detN n (rowU M i s)
  | 0, _, _, _, _, _, h => by omega
  | n + 1, M, i, r, s, c, h => by
    unfold detN
    rw [← sumN_lin]
    refine sumN_congr fun k hk => ?_
    by_cases e : i = k
    · subst e
      rw [minor_rowU_self, minor_rowU_self, minor_rowU_self]
      simp only [rowU, if_true]
      grind
    · rw [minor_rowU e, minor_rowU e, minor_rowU e, detN_lin n _ _ (fun b => r (b + 1)) (fun b => s (b + 1)) c (backN_lt hk h e)]
      simp only [rowU, if_neg fun e' : k = i => e e'.symm]
      grind
theorem detN_adj : ∀ (n : Nat) (M : Nat → Nat → Int) (i : Nat), i + 1 < n → (∀ b, M i b = M (i + 1) b) → detN n M = 0
  | 0, _, _, h, _ => by omega
  | n + 1, M, i, h, he => by
    unfold detN
    rw [sumN_two (i := i) (k := i + 1) (by omega) h (by omega) fun k hk h1 h2 => ?_]
    · have e : (fun a b => M (skipN (i + 1) a) (b + 1)) = (fun a b => M (skipN i a) (b + 1)) := by
        funext a b
        by_cases ha : a = i
        · subst ha
          have e1 : skipN (a + 1) a = a := by unfold skipN; rw [if_pos (by omega)]
          have e2 : skipN a a = a + 1 := by unfold skipN; rw [if_neg (by omega)]
          rw [e1, e2]; exact he _
        · have : skipN (i + 1) a = skipN i a := by unfold skipN; split <;> split <;> omega
          rw [this]
      rw [e, sgnN_succ, he 0]
      grind
    · have : detN n (fun a b => M (skipN k a) (b + 1)) = 0 := by
        by_cases hki : k < i
        · refine detN_adj n _ (i - 1) (by omega) fun b => ?_
          have e1 : skipN k (i - 1) = i := by unfold skipN; rw [if_neg (by omega)]; omega
          have e2 : skipN k (i - 1 + 1) = i + 1 := by unfold skipN; rw [if_neg (by omega)]; omega
          simp only [e1, e2]; exact he _
        · refine detN_adj n _ i (by omega) fun b => ?_
          have e1 : skipN k i = i := by unfold skipN; rw [if_pos (by omega)]
          have e2 : skipN k (i + 1) = i + 1 := by unfold skipN; rw [if_pos (by omega)]
          simp only [e1, e2]; exact he _
      rw [this, Int.mul_zero]
theorem detN_swap_of {n i k : Nat} (hi : i < n) (hk : k < n) (hne : i ≠ k) (alt : ∀ M : Nat → Nat → Int, (∀ b, M i b = M k b) → detN n M = 0) (M : Nat → Nat → Int) :
    detN n (rowU (rowU M i (M k)) k (M i)) = - detN n M := by
  have key : ∀ r s : Nat → Int, detN n (rowU (rowU M i r) k s) + detN n (rowU (rowU M i s) k r) = 0 := by
    intro r s
    have h0 := alt (rowU (rowU M i (fun b => r b + 1 * s b)) k (fun b => r b + 1 * s b)) fun b => by
      simp only [rowU, if_true, if_neg hne]
    have h1 := alt (rowU (rowU M i r) k r) fun b => by simp only [rowU, if_true, if_neg hne]
    have h2 := alt (rowU (rowU M i s) k s) fun b => by simp only [rowU, if_true, if_neg hne]
    have cm : ∀ u v : Nat → Int, rowU (rowU M i u) k v = rowU (rowU M k v) i u := by
      intro u v; funext a b; unfold rowU
      by_cases a1 : a = i
      · subst a1; rw [if_neg hne, if_pos rfl, if_pos rfl]
      · simp only [if_neg a1]
    rw [detN_lin n (rowU M i (fun b => r b + 1 * s b)) k r s 1 hk, cm, cm, detN_lin n (rowU M k r) i r s 1 hi, detN_lin n (rowU M k s) i r s 1 hi] at h0
    rw [cm] at h1 h2
    rw [cm, cm]
    omega
  have h := key (M k) (M i)
  have e : rowU (rowU M i (M i)) k (M k) = M := by rw [rowU_self, rowU_self]
  rw [e] at h
  omega
theorem detN_alt {n : Nat} : ∀ (t i : Nat) (M : Nat → Nat → Int), i + 1 + t < n → (∀ b, M i b = M (i + 1 + t) b) → detN n M = 0
  | 0, i, M, h, he => detN_adj n M i h he
  | t + 1, i, M, h, he => by
    have hs := detN_swap_of (n := n) (i := i + 1 + t) (k := i + 1 + (t + 1)) (by omega) h (by omega) (fun M hM => detN_adj n M (i + 1 + t) (by omega) hM) M
    have h0 := detN_alt (n := n) t i (rowU (rowU M (i + 1 + t) (M (i + 1 + (t + 1)))) (i + 1 + (t + 1)) (M (i + 1 + t))) (by omega) fun b => by
      simp only [rowU, if_true, if_neg (show i ≠ i + 1 + (t + 1) by omega), if_neg (show i ≠ i + 1 + t by omega), if_neg (show i + 1 + t ≠ i + 1 + (t + 1) by omega)]
      exact he b
    omega
theorem detN_same {n i k : Nat} (hi : i < n) (hk : k < n) (hne : i ≠ k) (M : Nat → Nat → Int) (he : ∀ b, M i b = M k b) : detN n M = 0 := by
  rcases Nat.lt_or_gt_of_ne hne with h | h
  · exact detN_alt (k - i - 1) i M (by omega) fun b => by rw [he b]; congr 1; omega
  · exact detN_alt (i - k - 1) k M (by omega) fun b => by rw [← he b]; congr 1; omega
/-- Multiples of row k added to all others. -/
theorem detN_clear {n k : Nat} (hk : k < n) (M : Nat → Nat → Int) (c : Nat → Int) : detN n (fun a b => if a = k then M k b else M a b + c a * M k b) = detN n M := by
  have key : ∀ m, m ≤ n → detN n (fun a b => if a = k then M k b else if a < m then M a b + c a * M k b else M a b) = detN n M := by
    intro m
    induction m with
    | zero =>
      intro _
      refine detN_congr n fun a ha b hb => ?_
      by_cases e : a = k
      · rw [if_pos e, e]
      · rw [if_neg e, if_neg (by omega)]
    | succ m ih =>
      intro hm
      rw [← ih (by omega)]
      by_cases e : m = k
      · refine detN_congr n fun a ha b hb => ?_
        by_cases e2 : a = k
        · rw [if_pos e2, if_pos e2]
        · rw [if_neg e2, if_neg e2]
          by_cases e3 : a < m
          · rw [if_pos e3, if_pos (by omega)]
          · rw [if_neg e3, if_neg (by omega)]
      · generalize hH : (fun a b => if a = k then M k b else if a < m then M a b + c a * M k b else M a b) = H
        have h1 := detN_lin n H m (fun b => H m b) (fun b => H k b) (c m) (by omega)
        have h2 : detN n (rowU H m (fun b => H k b)) = 0 := detN_same (i := m) (k := k) (by omega) hk e _ fun b => by
          simp only [rowU, if_true, if_neg fun e' : k = m => e e'.symm]
        have h3 : rowU H m (fun b => H m b) = H := rowU_self H m
        rw [h2, h3, Int.mul_zero, Int.add_zero] at h1
        rw [← h1]
        refine detN_congr n fun a ha b hb => ?_
        unfold rowU
        rw [← hH]
        simp only [if_true]
        by_cases e2 : a = k
        · rw [if_pos e2, if_neg (by omega)]; rw [if_pos e2]
        · rw [if_neg e2]
          by_cases e3 : a = m
          · subst e3
            rw [if_pos (by omega), if_pos rfl, if_neg e2, if_neg (by omega)]
          · rw [if_neg e3, if_neg e2]
            by_cases e4 : a < m
            · rw [if_pos e4, if_pos (by omega)]
            · rw [if_neg e4, if_neg (by omega)]
  rw [← key n (Nat.le_refl n)]
  refine detN_congr n fun a ha b hb => ?_
  by_cases e : a = k
  · rw [if_pos e, if_pos e]
  · rw [if_neg e, if_neg e, if_pos ha]

def mulN (n : Nat) (A B : Nat → Nat → Int) : Nat → Nat → Int := fun a b => sumN (fun j => A a j * B j b) n
def prodN (f : Nat → Int) : Nat → Int
  | 0 => 1
  | k + 1 => prodN f k * f k
/-- The steps of an elimination: what they do to a product's determinant. -/
def QN (p : Int) (n : Nat) (A A' : Nat → Nat → Int) (s : Int) : Prop := (s = 1 ∨ s = -1) ∧ ∀ B, p ∣ detN n (mulN n A' B) - s * detN n (mulN n A B)
theorem QN.refl (p : Int) (n : Nat) (A : Nat → Nat → Int) : QN p n A A 1 := ⟨.inl rfl, fun B => by simp⟩
theorem QN.clear {p : Int} {n k : Nat} {A M : Nat → Nat → Int} {s : Int} (hk : k < n) (h : QN p n A M s) (c : Nat → Int) : QN p n A (fun a b => if a = k then M k b else M a b + c a * M k b) s := by
  refine ⟨h.1, fun B => ?_⟩
  have e : detN n (mulN n (fun a b => if a = k then M k b else M a b + c a * M k b) B) = detN n (mulN n M B) := by
    rw [← detN_clear hk (mulN n M B) c]
    refine detN_congr n fun a ha b hb => ?_
    unfold mulN
    by_cases ea : a = k
    · subst ea
      simp only [if_true]
    · simp only [if_neg ea]
      rw [← sumN_lin]
      refine sumN_congr fun j hj => ?_
      grind
  rw [e]; exact h.2 B
end Go.Vam

/- Plain laws: the programs' determinant is the expansion's. -/
namespace Go.Vam
open Go Go.RowKit
set_option linter.unusedSimpArgs false
set_option linter.unusedVariables false
set_option linter.unusedSectionVars false

def asN (m : List (List Int)) : Nat → Nat → Int := fun a b => gI (gR m a) b
def detL (r : Nat) (m : List (List Int)) : Int := detN r (asN m)
theorem prodN_congr {f g : Nat → Int} : ∀ {n : Nat}, (∀ k, k < n → f k = g k) → prodN f n = prodN g n
  | 0, _ => rfl
  | n + 1, h => by simp only [prodN, prodN_congr (n := n) fun k hk => h k (by omega), h n (by omega)]
/-- What the elimination keeps. -/
def DetInv (p : Int) (r : Nat) (M0 M : List (List Int)) (d : Int) (k : Nat) : Prop :=
  ∃ s : Int, p ∣ detL r M0 - s * detL r M ∧ p ∣ d - s * prodN (fun j => gI (gR M j) j) k
theorem DetInv.refl (p : Int) (r : Nat) (M0 : List (List Int)) : DetInv p r M0 M0 1 0 := ⟨1, by simp, by simp [prodN]⟩
theorem DetInv.clear {p : Int} {r k : Nat} {M0 M y : List (List Int)} {R : List Int} {d : Int} (h : DetInv p r M0 M d k) (hk : k < r) (hMk : gR M k = R) (hy : ∀ j, j < r → gR y j = if k < j then clp p r k R (gR M j) else gR M j) :
    DetInv p r M0 y (d * gI R k % p) (k + 1) := by
  obtain ⟨s, h1, h2⟩ := h
  have e : p ∣ detL r y - detL r M := by
    unfold detL
    rw [← detN_clear hk (asN M) (fun a => if k < a then (p - gI (gR M a) k) * invp p (gI R k) % p else 0)]
    refine detN_mod r fun a ha b hb => ?_
    simp only [asN]
    rw [hy a ha]
    by_cases e1 : a = k
    · rw [if_neg (by omega), if_pos e1, e1]; simp
    · rw [if_neg e1]
      by_cases e2 : k < a
      · rw [if_pos e2, if_pos e2]
        unfold clp
        rw [plusv_at hb, hMk, ← mod_dvd, emm]
      · rw [if_neg e2, if_neg e2]; simp
  have e3 : prodN (fun j => gI (gR y j) j) (k + 1) = prodN (fun j => gI (gR M j) j) k * gI R k := by
    simp only [prodN]
    rw [hy k hk, if_neg (by omega), hMk, prodN_congr (g := fun j => gI (gR M j) j) fun j hj => by rw [hy j (by omega), if_neg (by omega)]]
  refine ⟨s, ?_, ?_⟩
  · have : detL r M0 - s * detL r y = (detL r M0 - s * detL r M) - s * (detL r y - detL r M) := by grind
    rw [this]
    exact Int.dvd_sub h1 (Int.dvd_mul_of_dvd_right e)
  · rw [e3]
    have h3 : p ∣ d * gI R k % p - d * gI R k := by rw [← mod_dvd, emm]
    refine dvd_trans_sub h3 ?_
    have : d * gI R k - s * (prodN (fun j => gI (gR M j) j) k * gI R k) = (d - s * prodN (fun j => gI (gR M j) j) k) * gI R k := by grind
    rw [this]
    exact Int.dvd_mul_of_dvd_left h2

section
variable {p : Int} {r : Nat} (hP : isP p = true) (hr : r ≤ 1048576)
include hP hr
end
end Go.Vam

/- Plain laws: products are associative; turned products; ranks and determinants of products. -/
namespace Go.Vam
open Go Go.RowKit
set_option linter.unusedSimpArgs false
set_option linter.unusedVariables false
set_option linter.unusedSectionVars false

end Go.Vam

/- Plain laws: powers, exponents are added. -/
namespace Go.Vam
open Go Go.RowKit
set_option linter.unusedSimpArgs false
set_option linter.unusedVariables false
set_option linter.unusedSectionVars false

end Go.Vam

/- Plain laws: norms of elements; ConjugationBy. -/
namespace Go.Vam
open Go Go.RowKit
set_option linter.unusedSimpArgs false
set_option linter.unusedVariables false
set_option linter.unusedSectionVars false

theorem sumN_split (f : Nat → Int) (a b : Nat) : sumN f (a + b) = sumN f a + sumN (fun k => f (a + k)) b := by
  induction b with
  | zero => simp [sumN]
  | succ b ih => rw [← Nat.add_assoc]; simp only [sumN]; rw [ih]; omega
/-- The unit's place of a product. -/
theorem mulr_unit {p : Int} : ∀ (n : Nat) (w x y : List Int), gI (mulr p n w x y) 0 % p = sumN (fun k => gI x k * gI y k * axS n w k k) (2 ^ n) % p
  | 0, w, x, y => by
    unfold mulr
    show gI x 0 * gI y 0 % p % p = _
    rw [emm]
    simp [sumN, axS]
  | n + 1, w, x, y => by
    have hpow : 2 ^ (n + 1) = 2 ^ n + 2 ^ n := by rw [Nat.pow_succ]; omega
    have i1 := mulr_unit (p := p) n (w.take n) (x.take (2 ^ n)) (y.take (2 ^ n))
    have i2 := mulr_unit (p := p) n (w.take n) (starv p (2 ^ n) (y.drop (2 ^ n))) (x.drop (2 ^ n))
    have hpos := two_pos n
    unfold mulr
    rw [hpow, sumN_split]
    generalize hd : 2 ^ n = d at i1 i2 hpos ⊢
    rw [gI_append, if_pos (by unfold plusv; rw [vecN_len]; exact hpos), plusv_at hpos, emm]
    have e1 : sumN (fun k => gI (x.take d) k * gI (y.take d) k * axS n (w.take n) k k) d = sumN (fun k => gI x k * gI y k * axS (n + 1) w k k) d := by
      refine sumN_congr fun k hk => ?_
      rw [gI_take hk, gI_take hk]
      conv => rhs; unfold axS
      rw [hd, if_pos hk, if_pos hk]
    have e2 : (gI w n * sumN (fun k => gI (starv p d (y.drop d)) k * gI (x.drop d) k * axS n (w.take n) k k) d) % p = sumN (fun k => gI x (d + k) * gI y (d + k) * axS (n + 1) w (d + k) (d + k)) d % p := by
      rw [← sumN_mulL]
      refine sumN_mod fun k hk => ?_
      conv => rhs; unfold axS
      rw [hd, if_neg (by omega), if_neg (by omega), Nat.add_sub_cancel_left, gI_drop]
      have hs := starv_at (p := p) (a := y.drop d) hk
      rw [gI_drop] at hs
      have a1 : gI w n * (gI (starv p d (y.drop d)) k * gI x (d + k) * axS n (w.take n) k k) = gI (starv p d (y.drop d)) k * (gI w n * gI x (d + k) * axS n (w.take n) k k) := by grind
      rw [a1, mul_mod_l hs]
      congr 1
      grind
    rw [Int.add_emod, i1, Int.mul_emod, i2, ← Int.mul_emod, e2, e1, ← Int.add_emod]
/-- The norm. -/
def nrm (p : Int) (w x : List Int) : Int := sumN (fun k => gI (dgv p w w.length) k * gI x k * gI x k) (2 ^ w.length) % p
section
variable {p : Int} {w x : List Int} (hP : isP p = true) (hl : w.length ≤ 4) (hw : Vec p w.length w) (hx : Vec p (2 ^ w.length) x)
include hP hl hw hx
theorem i_norm_eq : i_Doubling_norm p w x = some (nrm p w x) := by
  have hp := isP_le hP
  have h16 := two_le hl
  have hpos := two_pos w.length
  have hs := starv_vec hp.1 hp.2 (by omega) hpos hx
  have hv := mulp_vec hP hl hw hx hs
  unfold i_Doubling_norm i_Doubling_field
  rw [some_bind, i_field_conjugate_eq hp.1 hp.2 (by omega) hpos hx, some_bind, i_Doubling_times_eq hP hl hw hx hs, some_bind, idxI0 (by rw [hv.1]; exact hpos), some_bind]
  congr 1
  have h0 := hv.get hpos
  rw [← mod_small h0.1 h0.2]
  unfold mulp nrm
  rw [mulr_unit]
  refine sumN_mod fun k hk => ?_
  have h1 := starv_at (p := p) (a := x) hk
  have h2 := dgv_at (p := p) (by omega) w.length w k hk
  have a1 : gI x k * gI (starv p (2 ^ w.length) x) k * axS w.length w k k = gI (starv p (2 ^ w.length) x) k * (gI x k * axS w.length w k k) := by grind
  have a2 : gI (dgv p w w.length) k * gI x k * gI x k = gI (dgv p w w.length) k * (gI x k * gI x k) := by grind
  rw [a1, mul_mod_l h1, a2, mul_mod_l h2]
  congr 1
  grind
end
section
variable {p : Int} {w a b : List Int} (hP : isP p = true) (hl : w.length ≤ 4) (hw : Vec p w.length w) (ha : Vec p (2 ^ w.length) a) (hb : Vec p (2 ^ w.length) b)
include hP hl hw ha hb
end
end Go.Vam

/- Plain law: FnMatrixProducts. -/
namespace Go.Vam
open Go Go.RowKit
set_option linter.unusedSimpArgs false
set_option linter.unusedVariables false
set_option linter.unusedSectionVars false

theorem below_is : g_p_laws_dice_below = s_l01Next := rfl
theorem below_eq {c : List Int} {a h n : Int} (hS : Src c a) (hn : 1 ≤ n) (hn2 : n ≤ 4611686018427387904) :
    ∃ r a' h', g_p_laws_dice_below c a h n = some (r, (c, a', h')) ∧ 0 ≤ r ∧ r < n ∧ Src c a' := by rw [below_is]; exact next_eq hS hn hn2
theorem roll_eq {c : List Int} (k : Int) (hc : c.length ≤ 4096) (hb : ∀ x ∈ c, 0 ≤ x ∧ x ≤ 255) : ∃ h', l_roll c k = some (c, 0, h') ∧ Src c 0 := by
  unfold l_roll
  obtain ⟨b, h1, h', rfl⟩ := loop_inv (step := l_roll_L0 c) (fun s => ∃ (k : Nat) (h' : Int), s = (c, 0, h', (k : Int)) ∧ k ≤ c.length) (fun s => c.length - s.2.2.2.toNat)
    (fun b => ∃ h' : Int, b = (c, (0 : Int), h')) (s := (c, 0, IntKind.u64.wrap ((IntKind.u64.wrap (k * 7681)) + (IntKind.u64.wrap ((c.length : Int)))), 0)) ⟨0, _, rfl, by omega⟩ (by rw [BIG_val]; simp only []; omega) (by
      rintro s ⟨k, h', rfl, hk⟩
      unfold l_roll_L0
      by_cases hkn : k < c.length
      · refine .inl ?_
        simp only [lt_cast hkn, if_true, some_bind, idxI hkn]
        rw [w_in (by omega) (by omega)]
        exact ⟨_, rfl, ⟨k + 1, _, rfl, by omega⟩, by simp only []; omega⟩
      · have : k = c.length := by omega
        subst this
        refine .inr ⟨(c, 0, h'), ?_, h', rfl⟩
        simp)
  rw [h1, some_bind]
  exact ⟨h', rfl, hc, hb, by omega, by omega⟩
section
variable {p : Int} {r n c : Nat} {a b : List (List Int)} (hP : isP p = true) (ha : Mat p r n a) (hr0 : 1 ≤ r) (hr : r ≤ 16) (hn0 : 1 ≤ n) (hn : n ≤ 16)
include hP ha hr0 hr hn0 hn
end
end Go.Vam

/- Plain laws: inverses of tables. -/
namespace Go.Vam
open Go Go.RowKit
set_option linter.unusedSimpArgs false
set_option linter.unusedVariables false
set_option linter.unusedSectionVars false

/-- The table with the unit behind it. -/
def widem (n : Nat) (a : List (List Int)) : List (List Int) := vecN n fun i => gR a i ++ axis n i
section
variable {p : Int} {n : Nat} {a : List (List Int)} (hp : 1 < p) (hn : n ≤ 1000) (ha : Mat p n n a)
include hp hn ha
end
section
variable {p : Int} {n : Nat} {a B : List (List Int)} {ld : Nat → Nat} (hP : isP p = true) (hn0 : 1 ≤ n) (hn : n ≤ 1000) (ha : Mat p n n a) (hB : Ech p (n + n) B ld) (hk : ∀ u, Kr p (n + n) B u ↔ KerP p n (n + n) (widem n a) u)
include hP hn0 hn ha hB hk
end

section
variable {p : Int} {n : Nat} {a : List (List Int)} (hP : isP p = true) (hn0 : 1 ≤ n) (hn : n ≤ 16) (ha : Mat p n n a)
include hP hn0 hn ha
end
end Go.Vam

/- Plain laws: the coordinates of a product; pure elements of few steps anticommute up to their pairing. -/
namespace Go.Vam
open Go Go.RowKit
set_option linter.unusedSimpArgs false
set_option linter.unusedVariables false
set_option linter.unusedSectionVars false

/-- Sums over all places are sums over all places moved. -/
theorem sum_xor (f : Nat → Int) : ∀ n, n ≤ 4 → ∀ m, m < 2 ^ n → ∀ s, sumN (fun i => f (s + (i ^^^ m))) (2 ^ n) = sumN (fun i => f (s + i)) (2 ^ n)
  | 0, _, m, hm, s => by
    have : m = 0 := by simpa using hm
    subst this; simp [sumN]
  | n + 1, hn, m, hm, s => by
    have hpow : 2 ^ (n + 1) = 2 ^ n + 2 ^ n := by rw [Nat.pow_succ]; omega
    have hX := xor_hi n (by omega)
    have ih := sum_xor f n (by omega)
    rw [hpow] at hm ⊢
    rw [sumN_split, sumN_split]
    rcases Nat.lt_or_ge m (2 ^ n) with h | h
    · congr 1
      · exact ih m h s
      · have e : sumN (fun k => f (s + ((2 ^ n + k) ^^^ m))) (2 ^ n) = sumN (fun k => f (s + 2 ^ n + (k ^^^ m))) (2 ^ n) := sumN_congr fun k hk => by rw [(hX k hk m h).2.1, Nat.add_assoc]
        rw [e, ih m h (s + 2 ^ n)]
        exact sumN_congr fun k hk => by rw [Nat.add_assoc]
    · obtain ⟨m', rfl⟩ := Nat.exists_eq_add_of_le h
      have hm' : m' < 2 ^ n := by omega
      have e1 : sumN (fun k => f (s + (k ^^^ (2 ^ n + m')))) (2 ^ n) = sumN (fun k => f (s + 2 ^ n + (k ^^^ m'))) (2 ^ n) := sumN_congr fun k hk => by rw [(hX k hk m' hm').1, Nat.add_assoc]
      have e2 : sumN (fun k => f (s + ((2 ^ n + k) ^^^ (2 ^ n + m')))) (2 ^ n) = sumN (fun k => f (s + (k ^^^ m'))) (2 ^ n) := sumN_congr fun k hk => by rw [(hX k hk m' hm').2.2]
      rw [e1, e2, ih m' hm' (s + 2 ^ n), ih m' hm' s, Int.add_comm]
      congr 1
      exact sumN_congr fun k hk => by rw [Nat.add_assoc]
theorem sum_xor0 (f : Nat → Int) {n m : Nat} (hn : n ≤ 4) (hm : m < 2 ^ n) : sumN (fun i => f (i ^^^ m)) (2 ^ n) = sumN f (2 ^ n) := by
  have := sum_xor f n hn m hm 0
  simpa only [Nat.zero_add] using this
theorem xor_back (i m : Nat) : (i ^^^ m) ^^^ m = i := by rw [Nat.xor_assoc, Nat.xor_self, Nat.xor_zero]

/-- The coordinates of a product. -/
theorem mulr_gen {p : Int} : ∀ (n : Nat), n ≤ 4 → ∀ (w x y : List Int) (m : Nat), m < 2 ^ n → gI (mulr p n w x y) m % p = sumN (fun i => gI x i * gI y (i ^^^ m) * axS n w i (i ^^^ m)) (2 ^ n) % p
  | 0, _, w, x, y, m, hm => by
    have : m = 0 := by simpa using hm
    subst this
    unfold mulr
    show gI x 0 * gI y 0 % p % p = _
    rw [emm]
    simp [sumN, axS]
  | n + 1, hn, w, x, y, m, hm => by
    have hpow : 2 ^ (n + 1) = 2 ^ n + 2 ^ n := by rw [Nat.pow_succ]; omega
    have hX := xor_hi n (by omega)
    have hlt : ∀ a b, a < 2 ^ n → b < 2 ^ n → a ^^^ b < 2 ^ n := fun a b ha hb => xor_lt ha hb
    have hre : ∀ (f : Nat → Int) (m : Nat), m < 2 ^ n → sumN (fun i => f (i ^^^ m)) (2 ^ n) = sumN f (2 ^ n) := fun f m h => sum_xor0 f (by omega) h
    have ih := mulr_gen (p := p) n (by omega) (w.take n)
    unfold mulr
    rw [hpow] at hm
    rw [hpow, sumN_split]
    generalize hd : 2 ^ n = d at hm hX hlt hre ih ⊢
    have hl : ∀ u v k, (plusv p d u v k).length = d := fun u v k => by unfold plusv; rw [vecN_len]
    rcases Nat.lt_or_ge m d with h | h
    · rw [gI_append, if_pos (by rw [hl]; exact h), plusv_at h, emm, Int.add_emod, ih _ _ m h, Int.mul_emod, ih _ _ m h, ← Int.mul_emod]
      have e1 : sumN (fun i => gI (x.take d) i * gI (y.take d) (i ^^^ m) * axS n (w.take n) i (i ^^^ m)) d = sumN (fun i => gI x i * gI y (i ^^^ m) * axS (n + 1) w i (i ^^^ m)) d := by
        refine sumN_congr fun i hi => ?_
        have hx := hlt i m hi h
        rw [gI_take hi, gI_take hx]
        conv => rhs; unfold axS
        rw [hd, if_pos hi, if_pos hx]
      have e2 : (gI w n * sumN (fun i => gI (starv p d (y.drop d)) i * gI (x.drop d) (i ^^^ m) * axS n (w.take n) i (i ^^^ m)) d) % p = sumN (fun i => gI x (d + i) * gI y ((d + i) ^^^ m) * axS (n + 1) w (d + i) ((d + i) ^^^ m)) d % p := by
        rw [← hre (fun i => gI (starv p d (y.drop d)) i * gI (x.drop d) (i ^^^ m) * axS n (w.take n) i (i ^^^ m)) m h, ← sumN_mulL]
        refine sumN_mod fun i hi => ?_
        have hx := hlt i m hi h
        have hb := xor_back i m
        conv => rhs; unfold axS
        rw [hd, (hX i hi m h).2.1, if_neg (by omega), if_neg (by omega), Nat.add_sub_cancel_left, Nat.add_sub_cancel_left, hb, gI_drop]
        have hs := starv_at (p := p) (a := y.drop d) hx
        rw [gI_drop] at hs
        have a1 : gI w n * (gI (starv p d (y.drop d)) (i ^^^ m) * gI x (d + i) * axS n (w.take n) (i ^^^ m) i) = gI (starv p d (y.drop d)) (i ^^^ m) * (gI w n * gI x (d + i) * axS n (w.take n) (i ^^^ m) i) := by grind
        rw [a1, mul_mod_l hs]
        congr 1
        grind
      rw [e2, e1, ← Int.add_emod]
    · obtain ⟨m', rfl⟩ := Nat.exists_eq_add_of_le h
      have hm' : m' < d := by omega
      rw [gI_append, if_neg (by rw [hl]; omega), hl, Nat.add_sub_cancel_left, plusv_at hm', emm, Int.add_emod, ih _ _ m' hm', Int.mul_emod, ih _ _ m' hm', ← Int.mul_emod, Int.one_mul]
      have e1 : sumN (fun i => gI (y.drop d) i * gI (x.take d) (i ^^^ m') * axS n (w.take n) i (i ^^^ m')) d = sumN (fun i => gI x i * gI y (i ^^^ (d + m')) * axS (n + 1) w i (i ^^^ (d + m'))) d := by
        rw [← hre (fun i => gI (y.drop d) i * gI (x.take d) (i ^^^ m') * axS n (w.take n) i (i ^^^ m')) m' hm']
        refine sumN_congr fun i hi => ?_
        have hx := hlt i m' hi hm'
        have hb := xor_back i m'
        conv => rhs; unfold axS
        rw [hd, (hX i hi m' hm').1, if_pos hi, if_neg (by omega), Nat.add_sub_cancel_left, hb, gI_drop, gI_take hi]
        grind
      have e2 : sumN (fun i => gI (x.drop d) i * gI (starv p d (y.take d)) (i ^^^ m') * axS n (w.take n) i (i ^^^ m')) d % p = sumN (fun i => gI x (d + i) * gI y ((d + i) ^^^ (d + m')) * axS (n + 1) w (d + i) ((d + i) ^^^ (d + m'))) d % p := by
        refine sumN_mod fun i hi => ?_
        have hx := hlt i m' hi hm'
        conv => rhs; unfold axS
        rw [hd, (hX i hi m' hm').2.2, if_neg (by omega), if_pos hx, Nat.add_sub_cancel_left, gI_drop]
        have hs := starv_at (p := p) (a := y.take d) hx
        rw [gI_take hx] at hs
        have a1 : gI x (d + i) * gI (starv p d (y.take d)) (i ^^^ m') * axS n (w.take n) i (i ^^^ m') = gI (starv p d (y.take d)) (i ^^^ m') * (gI x (d + i) * axS n (w.take n) i (i ^^^ m')) := by grind
        rw [a1, mul_mod_l hs]
        congr 1
        grind
      rw [e2, e1, ← Int.add_emod]

/-! ### The sign of a product of axes, apart from the steps' numbers -/
def sgF : Nat → Nat → Nat → Int
  | 0, _, _ => 1
  | n + 1, i, j =>
    if i < 2 ^ n then (if j < 2 ^ n then sgF n i j else sgF n (j - 2 ^ n) i)
    else (if j < 2 ^ n then sgs j * sgF n (i - 2 ^ n) j else sgs (j - 2 ^ n) * sgF n (j - 2 ^ n) (i - 2 ^ n))
/-- The product of the steps' numbers named by the digits. -/
def wpF (w : List Int) : Nat → Nat → Int
  | 0, _ => 1
  | n + 1, m => (if m < 2 ^ n then 1 else gI w n) * wpF w n (m % 2 ^ n)
theorem wpF_take {w : List Int} {N : Nat} : ∀ n, n ≤ N → ∀ m, wpF (w.take N) n m = wpF w n m
  | 0, _, _ => rfl
  | n + 1, h, m => by
    unfold wpF
    rw [wpF_take n (by omega), gI_take (by omega)]
theorem and_lt' : ∀ n, n ≤ 4 → ∀ i, i < 2 ^ n → ∀ j, j < 2 ^ n → i &&& j < 2 ^ n := fun n _ i hi j hj => Nat.lt_of_le_of_lt Nat.and_le_left hi
theorem and_hi : ∀ n, n < 4 → ∀ i, i < 2 ^ n → ∀ j, j < 2 ^ n → i &&& (2 ^ n + j) = (i &&& j) ∧ (2 ^ n + i) &&& j = (i &&& j) ∧ (2 ^ n + i) &&& (2 ^ n + j) = 2 ^ n + (i &&& j) := by decide
theorem axS_split : ∀ n, n ≤ 4 → ∀ (w : List Int) i j, i < 2 ^ n → j < 2 ^ n → axS n w i j = sgF n i j * wpF w n (i &&& j)
  | 0, _, w, i, j, _, _ => rfl
  | n + 1, hn, w, i, j, hi, hj => by
    have hpow : 2 ^ (n + 1) = 2 ^ n + 2 ^ n := by rw [Nat.pow_succ]; omega
    rw [hpow] at hi hj
    have ih := axS_split n (by omega) (w.take n)
    have hA := and_hi n (by omega)
    have hL := and_lt' n (by omega)
    have hw := wpF_take (w := w) (N := n) n (Nat.le_refl _)
    unfold axS sgF wpF
    generalize hd : 2 ^ n = d at hi hj ih hA hL ⊢
    rcases Nat.lt_or_ge i d with h1 | h1 <;> rcases Nat.lt_or_ge j d with h2 | h2
    · have h3 := hL i h1 j h2
      rw [if_pos h1, if_pos h2, if_pos h1, if_pos h2, if_pos h3, Int.one_mul, Nat.mod_eq_of_lt h3, ih i j h1 h2, hw]
    · obtain ⟨j', rfl⟩ := Nat.exists_eq_add_of_le h2
      have h3 := hL i h1 j' (by omega)
      rw [if_pos h1, if_neg (by omega), if_pos h1, if_neg (by omega), Nat.add_sub_cancel_left, (hA i h1 j' (by omega)).1, if_pos h3, Int.one_mul, Nat.mod_eq_of_lt h3, ih j' i (by omega) h1, hw, Nat.and_comm]
    · obtain ⟨i', rfl⟩ := Nat.exists_eq_add_of_le h1
      have h3 := hL i' (by omega) j h2
      rw [if_neg (by omega), if_pos h2, if_neg (by omega), if_pos h2, Nat.add_sub_cancel_left, (hA i' (by omega) j h2).2.1, if_pos h3, Int.one_mul, Nat.mod_eq_of_lt h3, ih i' j (by omega) h2, hw, Int.mul_assoc]
    · obtain ⟨i', rfl⟩ := Nat.exists_eq_add_of_le h1
      obtain ⟨j', rfl⟩ := Nat.exists_eq_add_of_le h2
      have h3 := hL i' (by omega) j' (by omega)
      have h4 : (d + (i' &&& j')) % d = i' &&& j' := by rw [Nat.add_mod_left, Nat.mod_eq_of_lt h3]
      rw [if_neg (by omega), if_neg (by omega), if_neg (by omega), if_neg (by omega), Nat.add_sub_cancel_left, Nat.add_sub_cancel_left, (hA i' (by omega) j' (by omega)).2.2, if_neg (by omega), h4, ih j' i' (by omega) (by omega), hw, Nat.and_comm j' i']
      grind
theorem wpF_self (w : List Int) : ∀ n, n ≤ 4 → ∀ i, i < 2 ^ n → ∀ k, k < 2 ^ n → wpF w n (i &&& k) * wpF w n (i &&& (i ^^^ k)) = wpF w n (i &&& i)
  | 0, _, i, _, k, _ => rfl
  | n + 1, hn, i, hi, k, hk => by
    have hpow : 2 ^ (n + 1) = 2 ^ n + 2 ^ n := by rw [Nat.pow_succ]; omega
    rw [hpow] at hi hk
    have ih := wpF_self w n (by omega)
    have hA := and_hi n (by omega)
    have hX := xor_hi n (by omega)
    have hL := and_lt' n (by omega)
    have hlt : ∀ a b, a < 2 ^ n → b < 2 ^ n → a ^^^ b < 2 ^ n := fun a b ha hb => xor_lt ha hb
    unfold wpF
    generalize hd : 2 ^ n = d at hi hk ih hA hX hL hlt ⊢
    have hm : ∀ m, m < d → (d + m) % d = m := fun m hm => by rw [Nat.add_mod_left, Nat.mod_eq_of_lt hm]
    have lo : ∀ m, m < d → (if m < d then (1 : Int) else gI w n) * wpF w n (m % d) = wpF w n m := fun m h => by rw [if_pos h, Int.one_mul, Nat.mod_eq_of_lt h]
    have up : ∀ m, m < d → (if d + m < d then (1 : Int) else gI w n) * wpF w n ((d + m) % d) = gI w n * wpF w n m := fun m h => by rw [if_neg (by omega), hm m h]
    have e : ∀ x, x < d + d → ∃ y, y < d ∧ (x = y ∨ x = d + y) := fun x hx => by
      rcases Nat.lt_or_ge x d with h | h
      · exact ⟨x, h, .inl rfl⟩
      · exact ⟨x - d, by omega, .inr (by omega)⟩
    obtain ⟨i', i1, i2⟩ := e i hi
    obtain ⟨k', k1, k2⟩ := e k hk
    have key := ih i' i1 k' k1
    have a2 := hL i' i1 k' k1
    have a4 := hlt i' k' i1 k1
    have a5 := hL i' i1 _ a4
    have a6 := hL i' i1 i' i1
    rcases i2 with rfl | rfl <;> rcases k2 with rfl | rfl <;>
      simp only [(hA _ i1 _ k1).1, (hA _ i1 _ k1).2.1, (hA _ i1 _ k1).2.2, (hA _ i1 _ i1).2.2, (hX _ i1 _ k1).1, (hX _ i1 _ k1).2.1, (hX _ i1 _ k1).2.2,
        (hA _ i1 _ a4).1, (hA _ i1 _ a4).2.1, (hA _ i1 _ a4).2.2, lo _ a2, lo _ a5, lo _ a6, up _ a2, up _ a5, up _ a6] <;> grind
end Go.Vam

/- Plain law: FnMultiplicationMatrices. -/
namespace Go.Vam
open Go Go.RowKit
set_option linter.unusedSimpArgs false
set_option linter.unusedVariables false
set_option linter.unusedSectionVars false

section
variable {p : Int} {w x : List Int} (hP : isP p = true) (hl : w.length ≤ 4) (hw : Vec p w.length w) (hx : Vec p (2 ^ w.length) x)
include hP hl hw hx
end
theorem draw_steps {c : List Int} {a h p : Int} {k : Nat} (hS : Src c a) (hP : isP p = true) (hk : k ≤ 8) : ∃ (v : List Int) (a' h' : Int), loop s_l11Draw_L0 BIG (c, a, h, p, [], (k : Int)) = some (c, a', h', p, v) ∧ v.length = k ∧ Src c a' := by
  have hp := isP_le hP
  obtain ⟨b, h1, v, a', h', rfl, h3, h4⟩ := loop_inv (step := s_l11Draw_L0) (fun s => ∃ (j : Nat) (a' h' : Int) (out : List Int), s = (c, a', h', p, out, ((k - j : Nat) : Int)) ∧ j ≤ k ∧ out.length = j ∧ Src c a') (fun s => s.2.2.2.2.2.toNat)
    (fun b => ∃ v a' h', b = (c, a', h', p, v) ∧ v.length = k ∧ Src c a') (s := (c, a, h, p, [], (k : Int))) ⟨0, a, h, [], rfl, by omega, rfl, hS⟩ (by rw [BIG_val]; simp only []; omega) (by
      rintro s ⟨j, a', h', out, rfl, hj, hv, hS'⟩
      unfold s_l11Draw_L0
      by_cases hjk : j < k
      · refine .inl ?_
        have e0 : (0 : Int) < ((k - j : Nat) : Int) := by omega
        obtain ⟨r, a2, h2, e, r1, r2, S2⟩ := next_eq (h := h') (n := 2) hS' (by omega) (by omega)
        have w1 : w64 (p - 1) = p - 1 := w_in (by omega) (by omega)
        have w2 : w64 (((k - j : Nat) : Int) - 1) = ((k - (j + 1) : Nat) : Int) := by rw [w_in (by omega) (by omega)]; omega
        simp only [e0, if_true, e, some_bind, w1, w2]
        by_cases c0 : r = 0
        · simp only [c0, if_true]
          rw [chk_bind (by simp only [List.length_cons, List.length_nil]; omega), some_bind]
          exact ⟨_, rfl, ⟨j + 1, a2, h2, _, rfl, by omega, by rw [List.length_append]; simp; omega, S2⟩, by simp only []; omega⟩
        · obtain ⟨r3, a3, h3, e3, p3, q3, S3⟩ := next_eq (h := h2) (n := p - 1) S2 (by omega) (by omega)
          simp only [c0, if_false, e3, some_bind]
          rw [chk_bind (by simp only [List.length_cons, List.length_nil]; omega), some_bind]
          exact ⟨_, rfl, ⟨j + 1, a3, h3, _, rfl, by omega, by rw [List.length_append]; simp; omega, S3⟩, by simp only []; omega⟩
      · have : j = k := by omega
        subst this
        refine .inr ⟨(c, a', h', p, out), ?_, out, a', h', rfl, hv, hS'⟩
        simp)
  exact ⟨v, a', h', h1, h3, h4⟩
theorem draw_doubling {c : List Int} {a h m : Int} (hS : Src c a) (hm : 0 ≤ m) (hm2 : m ≤ 8) : ∃ (p : Int) (w : List Int) (a' h' : Int), s_l11Draw c a h m = some ((p, w), (c, a', h')) ∧ isP p = true ∧ w.length ≤ 4 ∧ Src c a' := by
  unfold s_l11Draw
  obtain ⟨p, a1, h1, e1, m1, S1⟩ := pick_eq (h := h) (l := [3, 5, 7, 11, 13]) hS (by simp) (by simp)
  obtain ⟨k, a2, h2, e2, m2, S2⟩ := pick_eq (h := h1) (l := [0, 1, 2, 2, 3, 3, 3, 4]) S1 (by simp) (by simp)
  have hP : isP p = true := by
    simp only [List.mem_cons, List.not_mem_nil, or_false] at m1
    unfold isP
    rcases m1 with rfl | rfl | rfl | rfl | rfl <;> decide
  have hk : 0 ≤ k ∧ k ≤ 4 := by
    simp only [List.mem_cons, List.not_mem_nil, or_false] at m2
    omega
  obtain ⟨q, hq, hq4⟩ : ∃ q : Nat, imin m k = (q : Int) ∧ q ≤ 4 := by
    unfold imin
    split
    · exact ⟨k.toNat, by omega, by omega⟩
    · exact ⟨m.toNat, by omega, by omega⟩
  obtain ⟨v, a3, h3, e3, l3, S3⟩ := draw_steps (h := h2) (k := q) S2 hP (by omega)
  simp only [e1, e2, some_bind, hq, e3]
  exact ⟨p, v, a3, h3, rfl, hP, by omega, S3⟩
theorem draw_any {c : List Int} {a h m : Int} (hS : Src c a) (hm : 0 ≤ m) (hm2 : m ≤ 8) : ∃ (p : Int) (w : List Int) (a' h' : Int), s_l11DrawAny c a h m = some ((p, w), (c, a', h')) ∧ 0 ≤ p ∧ p ≤ 17 ∧ w.length ≤ 5 ∧ Src c a' := by
  unfold s_l11DrawAny
  obtain ⟨p, w, a1, h1, e1, hP, hl, S1⟩ := draw_doubling (h := h) hS hm hm2
  have hp := isP_le hP
  obtain ⟨r, a2, h2, e2, r1, r2, S2⟩ := next_eq (h := h1) (n := 30) S1 (by omega) (by omega)
  simp only [e1, some_bind, e2]
  by_cases c0 : r = 0
  · obtain ⟨x, a3, h3, e3, m3, S3⟩ := pick_eq (h := h2) (l := [2, 9, 17, 0]) S2 (by simp) (by simp)
    simp only [c0, if_true, e3, some_bind]
    have hx : 0 ≤ x ∧ x ≤ 17 := by
      simp only [List.mem_cons, List.not_mem_nil, or_false] at m3
      omega
    exact ⟨x, w, a3, h3, rfl, hx.1, hx.2, by omega, S3⟩
  simp only [c0, if_false]
  by_cases c1 : r = 1
  · obtain ⟨x, a3, h3, e3, m3, S3⟩ := pick_eq (h := h2) (l := [0, p]) S2 (by simp) (by simp)
    simp only [c1, if_true, e3, some_bind]
    rw [chk_bind (by simp only [List.length_cons, List.length_nil]; omega), some_bind]
    exact ⟨p, _, a3, h3, rfl, by omega, by omega, by rw [List.length_append]; simp; omega, S3⟩
  simp only [c1, if_false]
  by_cases c2 : r = 2
  · obtain ⟨b, g1, v, rfl, g2⟩ := loop_inv (step := s_l11DrawAny_L0) (fun s => ∃ v : List Int, s = (p, v) ∧ v.length ≤ 5) (fun s => 5 - s.2.length) (fun b => ∃ v : List Int, b = (p, v) ∧ v.length ≤ 5) (s := (p, w)) ⟨w, rfl, by omega⟩ (by rw [BIG_val]; simp only []; omega) (by
      rintro s ⟨v, rfl, hv⟩
      unfold s_l11DrawAny_L0
      by_cases h5 : (v.length : Int) < 5
      · refine .inl ?_
        simp only [h5, if_true]
        rw [chk_bind (by simp only [List.length_cons, List.length_nil]; omega)]
        exact ⟨_, rfl, ⟨_, rfl, by rw [List.length_append]; simp; omega⟩, by simp only [List.length_append, List.length_cons, List.length_nil]; omega⟩
      · refine .inr ⟨(p, v), ?_, v, rfl, hv⟩
        simp only [h5, if_false])
    simp only [c2, if_true, g1, some_bind]
    exact ⟨p, v, a2, h2, rfl, by omega, by omega, g2, S2⟩
  simp only [c2, if_false, some_bind]
  exact ⟨p, w, a2, h2, rfl, by omega, by omega, by omega, S2⟩
theorem same9_is : l_same9 = l_likeRows5 := rfl
theorem same9_self {m : List (List Int)} (h : szM m) : l_same9 m m = some true := by rw [same9_is]; exact likeR_self h
end Go.Vam

/- Plain law: FnMultiplicationMatrices, the end. -/
namespace Go.Vam
open Go Go.RowKit
set_option linter.unusedSimpArgs false
set_option linter.unusedVariables false
set_option linter.unusedSectionVars false

def elC (p : Int) (w x : List Int) : Int := if isDb p w then (if elB p (2 ^ w.length) x then 0 else 2) else 1
theorem elC_of {p : Int} {w x : List Int} (h1 : isDb p w = true) (h2 : Vec p (2 ^ w.length) x) : elC p w x = 0 := by
  unfold elC; rw [if_pos h1, if_pos (elB_iff.2 h2)]
section
variable {p : Int} {w x : List Int} (hw : w.length ≤ 1048576) (hx : x.length ≤ 1048576)
include hw hx
theorem sz_one : szM [x] := ⟨by simp, fun y hy => by simp only [List.mem_cons, List.not_mem_nil, or_false] at hy; rw [hy]; exact hx⟩
theorem i_check_one : i_checkElements p w [x] = some (elC p w x) := by
  rw [i_checkElements_eq hw (sz_one hw hx)]; unfold elC; simp
end
section
variable {p : Int} {w x : List Int} (hD : isDb p w = true) (hx : Vec p (2 ^ w.length) x)
include hD hx
theorem times9_ok {y : List Int} (hy : Vec p (2 ^ w.length) y) : l_times9 p w x y = some (mulp p w x y) := by
  obtain ⟨hP, hl, hw, _⟩ := isDb_iff hD
  have h16 := two_le hl
  have e := hx.1
  have e2 := hy.1
  have hsz : szM [x, y] := ⟨by simp, fun z hz => by
    simp only [List.mem_cons, List.not_mem_nil, or_false] at hz
    rcases hz with rfl | rfl <;> omega⟩
  have hall : [x, y].all (elB p (2 ^ w.length)) = true := by simp [elB_iff.2 hx, elB_iff.2 hy]
  unfold l_times9 i_DoubleTimes
  rw [i_checkElements_eq (by omega) hsz, some_bind, if_pos hD]
  simp only [hall, if_true, not_true_eq_false, if_false, i_Doubling_times_eq hP hl hw hx hy, some_bind]
end
section
variable {p : Int} {w a b : List Int} (hP : isP p = true) (hl : w.length ≤ 3) (hw : Vec p w.length w) (ha : Vec p (2 ^ w.length) a) (hb : Vec p (2 ^ w.length) b) (ha0 : gI a 0 = 0) (hb0 : gI b 0 = 0)
include hP hl hw ha hb ha0 hb0
end
end Go.Vam

/- Plain law: FnInverses. -/
namespace Go.Vam
open Go Go.RowKit
set_option linter.unusedSimpArgs false
set_option linter.unusedVariables false
set_option linter.unusedSectionVars false

end Go.Vam

/- Plain laws: triples. -/
namespace Go.Vam
open Go Go.RowKit
set_option linter.unusedSimpArgs false
set_option linter.unusedVariables false
set_option linter.unusedSectionVars false

/-! ### The laws' helpers -/
section
variable {a b c : List (List Int)}
end

/-! ### UnitTriple -/
section
variable {p : Int} {w a b : List Int} (hP : isP p = true) (hl : w.length ≤ 4) (hw : Vec p w.length w) (ha : Vec p (2 ^ w.length) a) (hb : Vec p (2 ^ w.length) b)
include hP hl hw ha hb
end
abbrev gT3 (l : List (List (List Int) × List (List Int) × List (List Int))) (k : Nat) : List (List Int) × List (List Int) × List (List Int) := l.getD k ([], [], [])
def szTs (l : List (List (List Int) × List (List Int) × List (List Int))) : Prop := l.length ≤ 1024 ∧ ∀ x ∈ l, szM x.1 ∧ szM x.2.1 ∧ szM x.2.2
theorem szTs.at {l : List (List (List Int) × List (List Int) × List (List Int))} (h : szTs l) {k : Nat} (hk : k < l.length) : szM (gT3 l k).1 ∧ szM (gT3 l k).2.1 ∧ szM (gT3 l k).2.2 := by
  have := h.2 _ (List.getElem_mem hk)
  rwa [getD_get hk ([], [], [])] at this
section
variable {p : Int} {w : List Int} {l : List (List (List Int) × List (List Int) × List (List Int))} (hw : w.length ≤ 1048576) (hz : szTs l)
include hw hz
end
end Go.Vam

/- Plain laws: triples, turned and multiplied. -/
namespace Go.Vam
open Go Go.RowKit
set_option linter.unusedSimpArgs false
set_option linter.unusedVariables false
set_option linter.unusedSectionVars false

end Go.Vam

/- Plain laws: loops: whether a table is one; its nucleus and its centre. -/
namespace Go.Vam
open Go Go.RowKit
set_option linter.unusedSimpArgs false
set_option linter.unusedVariables false
set_option linter.unusedSectionVars false

/-- A loop that leaves at the first index that fails; its state hangs on the index. -/
theorem all_loopS {σ B : Type} (step : σ → Option (σ ⊕ (Unit ⊕ B))) (n : Nat) (f : Nat → Bool) (st : Nat → σ) (r : B) (hn : n < BIG)
    (hs : ∀ k, k < n → (∀ j, j < k → f j = true) → f k = true → step (st k) = some (.inl (st (k + 1)))) (hb : ∀ k, k < n → (∀ j, j < k → f j = true) → f k = false → step (st k) = some (.inr (.inr r)))
    (he : (∀ j, j < n → f j = true) → step (st n) = some (.inr (.inl ()))) : loop step BIG (st 0) = some (if (List.range n).all f then .inl () else .inr r) := by
  have key : ∀ d k m, k + d = n → d < m → (∀ j, j < k → f j = true) → loop step m (st k) = some (if (List.range n).all f then .inl () else .inr r) := by
    intro d
    induction d with
    | zero =>
      intro k m hk hm ha
      obtain ⟨m, rfl⟩ : ∃ m', m = m' + 1 := ⟨m - 1, by omega⟩
      have : k = n := by omega
      subst this
      have hall : (List.range k).all f = true := by
        rw [List.all_eq_true]
        intro x hx
        exact ha x (List.mem_range.1 hx)
      simp only [loop, he ha, hall, if_true]
    | succ d ih =>
      intro k m hk hm ha
      obtain ⟨m, rfl⟩ : ∃ m', m = m' + 1 := ⟨m - 1, by omega⟩
      cases hf : f k with
      | true =>
        simp only [loop, hs k (by omega) ha hf]
        refine ih (k + 1) m (by omega) (by omega) fun j hj => ?_
        rcases Nat.lt_succ_iff_lt_or_eq.1 hj with h | rfl
        · exact ha j h
        · exact hf
      | false =>
        have hall : (List.range n).all f = false := by
          rw [List.all_eq_false]
          exact ⟨k, List.mem_range.2 (by omega), by simp [hf]⟩
        simp only [loop, hb k (by omega) ha hf, hall, Bool.false_eq_true, if_false]
  exact key n 0 BIG (by omega) hn fun j hj => by omega

/-- The marks of what has been seen. -/
def marks (n : Nat) (f : Nat → Int) (j : Nat) : List Bool := (List.range n).map fun v : Nat => (List.range j).any fun k => decide (f k = (v : Int))
theorem marks_len (n : Nat) (f : Nat → Int) (j : Nat) : (marks n f j).length = n := by simp [marks]
theorem marks_zero (n : Nat) (f : Nat → Int) : marks n f 0 = List.replicate n false := by
  unfold marks
  apply List.ext_getElem
  · simp
  · intro i h1 h2; simp
theorem marks_get {n : Nat} {f : Nat → Int} {j : Nat} {x : Int} (h : 0 ≤ x ∧ x ≤ (n : Int) - 1) : idx (marks n f j) x = some ((List.range j).any fun k => decide (f k = x)) := by
  obtain ⟨v, rfl⟩ := Int.eq_ofNat_of_zero_le h.1
  have hv : v < n := by omega
  have : idx (marks n f j) ((v : Nat) : Int) = some ((marks n f j).getD v false) := idxD (by rw [marks_len]; exact hv) false
  rw [this]
  simp [marks, hv]
theorem marks_set {n : Nat} {f : Nat → Int} {j : Nat} (h : 0 ≤ f j ∧ f j ≤ (n : Int) - 1) : (marks n f j).set (f j).toNat true = marks n f (j + 1) := by
  unfold marks
  apply List.ext_getElem
  · simp
  · intro i h1 h2
    simp only [List.length_map, List.length_range, List.length_set] at h1 h2
    rw [List.getElem_set]
    simp only [List.getElem_map, List.getElem_range, List.range_succ, List.any_append, List.any_cons, List.any_nil, Bool.or_false]
    by_cases e : (f j).toNat = i
    · rw [if_pos e]
      have : f j = (i : Int) := by omega
      simp [this]
    · rw [if_neg e]
      have : ¬ f j = (i : Int) := by omega
      simp [this]
/-- The entry at j is a number of the loop that has not been seen. -/
def okB (n : Nat) (f : Nat → Int) (j : Nat) : Bool := (decide (0 ≤ f j) && decide (f j ≤ (n : Int) - 1)) && !((List.range j).any fun k => decide (f k = f j))
def onceB (n : Nat) (f : Nat → Int) : Bool := (List.range n).all (okB n f)
theorem okB_rng {n : Nat} {f : Nat → Int} {j : Nat} (h : okB n f j = true) : 0 ≤ f j ∧ f j ≤ (n : Int) - 1 := by
  unfold okB at h
  simp only [Bool.and_eq_true, decide_eq_true_eq] at h
  exact h.1
theorem i_isOnce_eq {r : List Int} {n : Nat} (hr : r.length = n) (hn : n ≤ 1048576) : i_isOnce r = some (onceB n (gI r)) := by
  unfold i_isOnce
  rw [chk_bind (by omega)]
  have key := all_loopS (i_isOnce_L0 r) n (okB n (gI r)) (fun k => (marks n (gI r) k, (k : Int))) false (by rw [BIG_val]; omega) ?_ ?_ ?_
  · have e0 : (List.replicate (r.length : Int).toNat false, (0 : Int)) = (marks n (gI r) 0, ((0 : Nat) : Int)) := by rw [marks_zero, hr]; rfl
    rw [e0, key, some_bind]
    unfold onceB
    cases (List.range n).all (okB n (gI r)) <;> rfl
  · intro k hk _ hf
    unfold i_isOnce_L0
    have hrng := okB_rng hf
    have hseen : ((List.range k).any fun j => decide (gI r j = gI r k)) = false := by
      unfold okB at hf
      simp only [Bool.and_eq_true, Bool.not_eq_true'] at hf
      exact hf.2
    unfold i_length_I
    simp only [hr, show (k : Int) < (n : Int) by omega, if_true, idxI (show k < r.length by omega), some_bind, i_inRange_eq, w_in (x := (n : Int) - 1) (by omega) (by omega), show decide (0 ≤ gI r k) = true from decide_eq_true hrng.1, show decide (gI r k ≤ (n : Int) - 1) = true from decide_eq_true hrng.2,
      Bool.and_self, Bool.true_eq_false, if_false, marks_get hrng, hseen, Bool.false_eq_true, marks_set hrng, w_in (x := (k : Int) + 1) (by omega) (by omega)]
    rfl
  · intro k hk _ hf
    unfold i_isOnce_L0 i_length_I
    simp only [hr, show (k : Int) < (n : Int) by omega, if_true, idxI (show k < r.length by omega), some_bind, i_inRange_eq, w_in (x := (n : Int) - 1) (by omega) (by omega)]
    cases hrg : (decide (0 ≤ gI r k) && decide (gI r k ≤ (n : Int) - 1)) with
    | false => simp
    | true =>
      have hrng : 0 ≤ gI r k ∧ gI r k ≤ (n : Int) - 1 := by simpa using hrg
      have hseen : ((List.range k).any fun j => decide (gI r j = gI r k)) = true := by
        unfold okB at hf
        rw [hrg] at hf
        simpa using hf
      simp only [Bool.true_eq_false, if_false, marks_get hrng, hseen, some_bind, if_true]
  · intro _
    unfold i_isOnce_L0
    simp [hr]

/-! ### Whether a table is a loop -/
def rowB (a : List (List Int)) (i : Nat) : Bool :=
  onceB a.length (gI (gR a i)) && onceB a.length (fun k => gI (gR a k) i) && (decide (gI (gR a 0) i = (i : Int)) && decide (gI (gR a i) 0 = (i : Int)))
def isLp (a : List (List Int)) : Bool :=
  (decide (1 ≤ (a.length : Int)) && decide ((a.length : Int) ≤ 128)) && ((List.range a.length).all (fun i => decide ((gR a i).length = a.length)) && (List.range a.length).all (rowB a))

theorem i_lenrows {a : List (List Int)} (hn : a.length ≤ 1048576) : loop (i_IsLoop_L0 a) BIG 0 = some (if (List.range a.length).all (fun i => decide ((gR a i).length = a.length)) then .inl () else .inr false) := by
  refine all_loop _ a.length _ false (by rw [BIG_val]; omega) ?_ ?_ ?_
  · intro k hk hf
    have hf' : (gR a k).length = a.length := by simpa using hf
    unfold i_IsLoop_L0
    simp only [show (k : Int) < (a.length : Int) by omega, if_true, idxR hk, some_bind, hf', not_true_eq_false, if_false]
    rw [w_in (by omega) (by omega)]; rfl
  · intro k hk hf
    have hf' : ¬ (gR a k).length = a.length := by simpa using hf
    unfold i_IsLoop_L0
    simp only [show (k : Int) < (a.length : Int) by omega, if_true, idxR hk, some_bind, show ¬ ((gR a k).length : Int) = (a.length : Int) by omega, not_false_eq_true]
  · unfold i_IsLoop_L0
    simp

section
variable {a : List (List Int)} (hn : a.length ≤ 128) (hl : ∀ i, i < a.length → (gR a i).length = a.length)
include hn hl
end
theorem onceB_rng {n : Nat} {f : Nat → Int} (h : onceB n f = true) {j : Nat} (hj : j < n) : 0 ≤ f j ∧ f j ≤ (n : Int) - 1 :=
  okB_rng (List.all_eq_true.1 h j (List.mem_range.2 hj))
theorem onceB_congr {n : Nat} {f g : Nat → Int} (h : ∀ j, j < n → f j = g j) : onceB n f = onceB n g := by
  unfold onceB
  rw [Bool.eq_iff_iff]
  simp only [List.all_eq_true, List.mem_range]
  have key : ∀ x, x < n → okB n f x = okB n g x := fun x hx => by
    unfold okB
    rw [h x hx]
    congr 2
    rw [Bool.eq_iff_iff]
    simp only [List.any_eq_true, List.mem_range, decide_eq_true_eq]
    constructor
    · rintro ⟨k, hk, e⟩; exact ⟨k, hk, by rw [← h k (by omega)]; exact e⟩
    · rintro ⟨k, hk, e⟩; exact ⟨k, hk, by rw [h k (by omega)]; exact e⟩
  exact ⟨fun H x hx => by rw [← key x hx]; exact H x hx, fun H x hx => by rw [key x hx]; exact H x hx⟩
theorem contains_once {m : List (List Int)} {n : Nat} (hm : m.length ≤ 1048576) (hn : n ≤ 1048576) (hr : ∀ k, k < m.length → (gR m k).length = n) :
    g_slices_ContainsFunc_LLI_LI_of_i_IsLoop_c1 m = some (!(List.range m.length).all fun k => onceB n (gI (gR m k))) := by
  unfold g_slices_ContainsFunc_LLI_LI_of_i_IsLoop_c1 g_slices_IndexFunc_LLI_LI_of_i_IsLoop_c1
  have core : ∀ k, k < m.length → i_IsLoop_c1 (gR m k) = some (!onceB n (gI (gR m k))) := fun k hk => by
    unfold i_IsLoop_c1
    rw [i_isOnce_eq (hr k hk) hn, some_bind]
  obtain ⟨b, h1, h2⟩ := any_loop (g_slices_IndexFunc_LLI_LI_of_i_IsLoop_c1_L0 m) m.length (fun k => !onceB n (gI (gR m k))) (fun k => (k : Int)) (by rw [BIG_val]; omega)
    (fun k hk hf => by
      unfold g_slices_IndexFunc_LLI_LI_of_i_IsLoop_c1_L0
      simp only [show (k : Int) < (m.length : Int) by omega, if_true, idxR hk, some_bind, core k hk, hf, Bool.false_eq_true, if_false]
      rw [w_in (by omega) (by omega)]; rfl) (fun k hk hf => by
      unfold g_slices_IndexFunc_LLI_LI_of_i_IsLoop_c1_L0
      simp only [show (k : Int) < (m.length : Int) by omega, if_true, idxR hk, some_bind, core k hk, hf]) (by
      unfold g_slices_IndexFunc_LLI_LI_of_i_IsLoop_c1_L0
      simp)
  rw [not_all, h1]
  rcases h2 with ⟨rfl, h3⟩ | ⟨k, hk, rfl, hf, h3, _⟩
  · rw [h3]; simp [ile]
  · rw [h3]; simp [ile]
theorem i_IsLoop_eq {a : List (List Int)} (hz : a.length ≤ 1048576) : i_IsLoop a = some (isLp a) := by
  unfold i_IsLoop isLp
  by_cases hA : (a.length : Int) < 1
  · have : decide (1 ≤ (a.length : Int)) = false := decide_eq_false (by omega)
    simp [hA, this]
  by_cases hB : (128 : Int) < (a.length : Int)
  · have : decide ((a.length : Int) ≤ 128) = false := decide_eq_false (by omega)
    simp [hA, this, ilt_true hB]
  have hd : (decide (1 ≤ (a.length : Int)) && decide ((a.length : Int) ≤ 128)) = true := by simp; omega
  have hn : a.length ≤ 128 := by omega
  rw [hd, i_lenrows hz]
  simp only [hA, if_false, some_bind, ilt_false hB, Bool.false_eq_true]
  cases h1 : (List.range a.length).all (fun i => decide ((gR a i).length = a.length)) with
  | false => simp
  | true =>
    have hl : ∀ i, i < a.length → (gR a i).length = a.length := fun i hi => by
      have := List.all_eq_true.1 h1 i (List.mem_range.2 hi)
      simpa using this
    let f : Nat → Bool := fun i => onceB a.length (gI (gR a i)) && (decide (gI (gR a 0) i = (i : Int)) && decide (gI (gR a i) 0 = (i : Int)))
    have key : loop (i_IsLoop_L1 a) BIG 0 = some (if (List.range a.length).all f then .inl () else .inr false) := by
      have body : ∀ k, k < a.length → i_IsLoop_L1 a (k : Int) = if f k then some (.inl ((k + 1 : Nat) : Int)) else some (.inr (.inr false)) := by
        intro k hk
        unfold i_IsLoop_L1
        have l0 := hl 0 (by omega)
        have lk := hl k hk
        simp only [show (k : Int) < (a.length : Int) by omega, if_true, idxR hk, some_bind, idxI0 (show 0 < (gR a k).length by omega), idxR0 (show 0 < a.length by omega), idxI (show k < (gR a 0).length by omega), i_isOnce_eq lk hz, f]
        by_cases c2 : gI (gR a k) 0 = (k : Int)
        · by_cases c1 : gI (gR a 0) k = (k : Int)
          · simp only [c1, c2, not_true_eq_false, if_false, some_bind, decide_true, Bool.and_self, Bool.and_true]
            cases onceB a.length (gI (gR a k)) with
            | true =>
              simp only [Bool.not_true, Bool.false_eq_true, if_false, if_true, w_in (x := (k : Int) + 1) (by omega) (by omega)]
              rfl
            | false => simp
          · simp [c1, c2]
        · simp [c2]
      refine all_loop _ a.length f false (by rw [BIG_val]; omega) ?_ ?_ ?_
      · intro k hk hf
        rw [body k hk, if_pos hf]
      · intro k hk hf
        rw [body k hk, if_neg (by simp [hf])]
      · unfold i_IsLoop_L1
        simp
    simp only [if_true, some_bind, key, Bool.true_and]
    have hrow : (List.range a.length).all (rowB a) = ((List.range a.length).all f && (List.range a.length).all fun k => onceB a.length (fun j => gI (gR a j) k)) := by
      rw [Bool.eq_iff_iff]
      simp only [Bool.and_eq_true, List.all_eq_true, rowB, f]
      exact ⟨fun h => ⟨fun x hx => ⟨(h x hx).1.1, (h x hx).2⟩, fun x hx => (h x hx).1.2⟩, fun h x hx => ⟨⟨(h.1 x hx).1, h.2 x hx⟩, (h.1 x hx).2⟩⟩
    rw [hrow]
    cases hf : (List.range a.length).all f with
    | false => simp
    | true =>
      have hm : Mat (a.length : Int) a.length a.length a := ⟨rfl, fun i hi => ⟨hl i hi, fun k hk => by
        have h3 := List.all_eq_true.1 hf i (List.mem_range.2 hi)
        simp only [f, Bool.and_eq_true] at h3
        have := onceB_rng h3.1 hk
        exact ⟨this.1, by omega⟩⟩⟩
      have ht := i_transpose_eq (show 0 < a.length by omega) hz hz hm
      have hlen : (turnm a.length a.length a).length = a.length := by unfold turnm; exact vecN_len _ _
      have hrr : ∀ k, k < (turnm a.length a.length a).length → (gR (turnm a.length a.length a) k).length = a.length := fun k hk => by
        rw [hlen] at hk
        unfold turnm
        rw [gR_vecN _ hk]
        exact vecN_len _ _
      simp only [if_true, ht, some_bind, contains_once (by rw [hlen]; exact hz) hz hrr, Bool.not_not, Bool.true_and]
      congr 1
      rw [hlen, Bool.eq_iff_iff]
      simp only [List.all_eq_true, List.mem_range]
      have : ∀ k, k < a.length → onceB a.length (gI (gR (turnm a.length a.length a) k)) = onceB a.length (fun j => gI (gR a j) k) := fun k hk => onceB_congr fun j hj => turnm_at hj hk
      exact ⟨fun h x hx => by rw [← this x hx]; exact h x hx, fun h x hx => by rw [this x hx]; exact h x hx⟩
section
variable {a : List (List Int)} (hn : a.length ≤ 128) (hm : Mat (a.length : Int) a.length a.length a)
include hn hm
end

section
variable {a : List (List Int)} (hn : a.length ≤ 128) (hm : Mat (a.length : Int) a.length a.length a)
include hn hm
end

end Go.Vam

/- Plain laws: AutomorphismFrom. -/
namespace Go.Vam
open Go Go.RowKit
set_option linter.unusedSimpArgs false
set_option linter.unusedVariables false
set_option linter.unusedSectionVars false

theorem axS_zero : ∀ (n : Nat) (w : List Int) (j : Nat), j < 2 ^ n → axS n w 0 j = 1 ∧ axS n w j 0 = 1
  | 0, w, j, h => by
    have : j = 0 := by simp at h; omega
    subst this
    exact ⟨rfl, rfl⟩
  | n + 1, w, j, h => by
    have hpos : 0 < 2 ^ n := Nat.two_pow_pos n
    rw [Nat.pow_succ] at h
    by_cases hj : j < 2 ^ n
    · have ih := axS_zero n (w.take n) j hj
      exact ⟨by simp only [axS, if_pos hpos, if_pos hj, ih.1], by simp only [axS, if_pos hpos, if_pos hj, ih.2]⟩
    · have ih := axS_zero n (w.take n) (j - 2 ^ n) (by omega)
      exact ⟨by simp only [axS, if_pos hpos, if_neg hj, ih.2], by simp only [axS, if_pos hpos, if_neg hj, ih.2, sgs, if_true, Int.mul_one]⟩
section
variable {p : Int} {w : List Int} (hP : isP p = true) (hl : w.length ≤ 4) (hw : Vec p w.length w)
include hP hl hw
theorem one_mulp {x : List Int} (hx : Vec p (2 ^ w.length) x) : mulp p w (axis (2 ^ w.length) 0) x = x := by
  have hp := isP_le hP
  have hpos := two_pos w.length
  have hv := mulp_vec hP hl hw (axis_vec (by omega) hpos) hx
  have e1 : mulp p w (axis (2 ^ w.length) 0) x = vecN (2 ^ w.length) (gI x) := extI hv.1 fun m hm => by
    have h2 := hv.get hm
    have h1 : gI (mulp p w (axis (2 ^ w.length) 0) x) m % p = _ := mulr_gen (p := p) w.length hl w (axis (2 ^ w.length) 0) x m hm
    rw [Int.emod_eq_of_lt h2.1 h2.2] at h1
    rw [h1, sumN_one hpos (fun q hq hqi => by rw [gI_axis hpos, if_neg hqi]; simp), Nat.zero_xor, gI_axis hpos, if_pos rfl, (axS_zero w.length w m hm).1]
    have h3 := hx.get hm
    simp only [Int.one_mul, Int.mul_one]
    exact Int.emod_eq_of_lt h3.1 h3.2
  have e2 : x = vecN (2 ^ w.length) (gI x) := extI hx.1 fun m _ => rfl
  rw [e1]; exact e2.symm
end
section
variable {p : Int} {w : List Int} {a : List (List Int)} (hP : isP p = true) (hl : w.length ≤ 3) (hw : Vec p w.length w) (hal : a.length = w.length) (ha : ∀ k, k < a.length → Vec p (2 ^ w.length) (gR a k))
include hP hl hw hal ha
end

end Go.Vam

/- Plain laws: the decomposition of an orthogonal matrix. -/
namespace Go.Vam
open Go Go.RowKit
set_option linter.unusedSimpArgs false
set_option linter.unusedVariables false

theorem RowsV.small {p : Int} {n : Nat} {L : List (List Int)} (h : RowsV p n L) (hn : n ≤ 100) (hl : L.length ≤ 2 * n) : smallM L := by
  have hm : Mat p L.length n L := ⟨rfl, fun i hi => h _ (by rw [← gR_get hi]; exact List.getElem_mem _)⟩
  exact smallM.of hm (by omega) (by omega)

end Go.Vam

/- Plain laws: counts of norms, the search of units. -/
namespace Go.Vam
open Go Go.RowKit
set_option linter.unusedSimpArgs false
set_option linter.unusedVariables false
set_option linter.unusedSectionVars false

/-! ### How many lists have a sum of squares -/
def cntU (p : Int) : List Int → Int → Int
  | [], n => if n % p = 0 then 1 else 0
  | d :: r, n => sumN (fun a => cntU p r (n - d * (a : Int) * (a : Int))) p.toNat
/-- The lists that go on with x, in order. -/
def lstU (p : Int) : List Int → Int → List Int → List (List Int)
  | [], n, x => if n % p = 0 then [x] else []
  | d :: r, n, x => (List.range p.toNat).flatMap fun (a : Nat) => lstU p r (n - d * (a : Int) * (a : Int)) (x ++ [(a : Int)])
theorem sub_mod_eq {p n m e : Int} (h : n % p = m % p) : (n - e) % p = (m - e) % p := by rw [Int.sub_emod, h, ← Int.sub_emod]
theorem cntU_mod {p : Int} : ∀ {l : List Int} {n m : Int}, n % p = m % p → cntU p l n = cntU p l m
  | [], n, m, h => by unfold cntU; rw [h]
  | d :: r, n, m, h => by unfold cntU; exact sumN_congr fun a _ => cntU_mod (sub_mod_eq h)
theorem lstU_mod {p : Int} : ∀ {l : List Int} {n m : Int} {x : List Int}, n % p = m % p → lstU p l n x = lstU p l m x
  | [], n, m, x, h => by unfold lstU; rw [h]
  | d :: r, n, m, x, h => by
    unfold lstU
    congr 1
    funext a
    exact lstU_mod (sub_mod_eq h)
theorem sum_range (f : Nat → Nat) (n : Nat) : (((List.range n).map f).sum : Int) = sumN (fun a => (f a : Int)) n := by
  induction n with
  | zero => rfl
  | succ n ih => rw [List.range_succ, List.map_append, List.sum_append, Int.natCast_add, ih]; simp [sumN]
theorem lstU_len {p : Int} : ∀ (l : List Int) (n : Int) (x : List Int), ((lstU p l n x).length : Int) = cntU p l n
  | [], n, x => by unfold lstU cntU; split <;> rfl
  | d :: r, n, x => by
    unfold lstU cntU
    rw [List.length_flatMap, sum_range]
    exact sumN_congr fun a _ => lstU_len r _ _
theorem cntU_le {p : Int} (hp : 0 ≤ p) (hp2 : p ≤ 13) : ∀ (l : List Int) (n : Int), 0 ≤ cntU p l n ∧ cntU p l n ≤ 13 ^ l.length
  | [], n => by unfold cntU; split <;> simp
  | d :: r, n => by
    unfold cntU
    have := sumN_bound (f := fun a => cntU p r (n - d * (a : Int) * (a : Int))) (b := 13 ^ r.length) (n := p.toNat) fun a _ => cntU_le hp hp2 r _
    refine ⟨this.1, Int.le_trans this.2 ?_⟩
    rw [List.length_cons, Int.pow_succ]
    have h1 : (0 : Int) ≤ 13 ^ r.length := Int.pow_nonneg (by decide)
    exact Int.mul_le_mul_of_nonneg_left (by omega) h1
theorem cntU_snoc {p : Int} (d : Int) : ∀ (l : List Int) (n : Int), cntU p (l ++ [d]) n = sumN (fun a => cntU p l (n - d * (a : Int) * (a : Int))) p.toNat
  | [], n => rfl
  | e :: r, n => by
    show sumN (fun b => cntU p (r ++ [d]) (n - e * (b : Int) * (b : Int))) p.toNat = sumN (fun a => sumN (fun b => cntU p r (n - d * (a : Int) * (a : Int) - e * (b : Int) * (b : Int))) p.toNat) p.toNat
    rw [sumN_comm]
    refine sumN_congr fun b _ => ?_
    rw [cntU_snoc d r]
    refine sumN_congr fun a _ => ?_
    congr 1
    omega

/-! ### Scattering -/
def scB (p d : Int) (c : Nat → Int) (n a k : Nat) : Int := if ((n : Int) + d * (a : Int) * (a : Int)) % p = (k : Int) then c n else 0
def scA (p d : Int) (c : Nat → Int) (n a k : Nat) : Int := sumN (fun b => scB p d c n b k) a
def scO (p d : Int) (c : Nat → Int) (n k : Nat) : Int := sumN (fun m => scA p d c m p.toNat k) n
theorem scO_all {p d : Int} (hp : 0 < p) (c : Nat → Int) {k : Nat} (hk : k < p.toNat) : scO p d c p.toNat k = sumN (fun a => c (((k : Int) - d * (a : Int) * (a : Int)) % p).toNat) p.toNat := by
  unfold scO scA
  rw [sumN_comm]
  refine sumN_congr fun a _ => ?_
  have hm := mod_num (p := p) (a := (k : Int) - d * (a : Int) * (a : Int)) hp
  have hmt : (((k : Int) - d * (a : Int) * (a : Int)) % p).toNat < p.toNat := by omega
  rw [sumN_one hmt]
  · unfold scB
    rw [if_pos]
    rw [show ((((k : Int) - d * (a : Int) * (a : Int)) % p).toNat : Int) = ((k : Int) - d * (a : Int) * (a : Int)) % p by omega, Int.emod_add_emod]
    rw [show (k : Int) - d * (a : Int) * (a : Int) + d * (a : Int) * (a : Int) = k by omega]
    exact Int.emod_eq_of_lt (by omega) (by omega)
  · intro q hq hne
    unfold scB
    rw [if_neg]
    intro h
    apply hne
    have h1 : ((k : Int) - d * (a : Int) * (a : Int)) % p = (q : Int) := by
      rw [← h, Int.emod_sub_emod]
      rw [show (q : Int) + d * (a : Int) * (a : Int) - d * (a : Int) * (a : Int) = q by omega]
      exact Int.emod_eq_of_lt (by omega) (by omega)
    omega
theorem scA_le {p d : Int} {c : Nat → Int} {n : Nat} {b : Int} (hb : 0 ≤ b) (hc : 0 ≤ c n ∧ c n ≤ b) (a k : Nat) : 0 ≤ scA p d c n a k ∧ scA p d c n a k ≤ b * a :=
  sumN_bound fun q _ => by unfold scB; split <;> omega
theorem scO_le {p d : Int} {c : Nat → Int} {b : Int} (hb : 0 ≤ b) (n : Nat) (hc : ∀ m, m < n → 0 ≤ c m ∧ c m ≤ b) (k : Nat) : 0 ≤ scO p d c n k ∧ scO p d c n k ≤ b * p.toNat * n :=
  sumN_bound fun m hm => scA_le hb (hc m hm) _ _
theorem vecN_bump {n q : Nat} {f : Nat → Int} {c : Int} : (vecN n f).set q (f q + c) = vecN n fun k => f k + if q = k then c else 0 := by
  refine extI (by simp) fun k hk => ?_
  rw [← gI_get (by simpa using hk), List.getElem_set]
  split
  · rename_i e; subst e; simp
  · rename_i e
    rw [vecN_get]; simp [e]
def rwU (p : Int) (l : List Int) : List Int := vecN p.toNat fun k => cntU p l (k : Int)
theorem rwU_step {p d : Int} (hp : 0 < p) (l : List Int) (l' : List Int) (h : ∀ n, cntU p l' n = sumN (fun a => cntU p l (n - d * (a : Int) * (a : Int))) p.toNat) :
    (vecN p.toNat fun k => scO p d (fun n => cntU p l (n : Int)) p.toNat k) = rwU p l' := by
  refine vecN_congr fun k hk => ?_
  rw [scO_all hp _ hk, h]
  refine sumN_congr fun a _ => cntU_mod ?_
  have hm := mod_num (p := p) (a := (k : Int) - d * (a : Int) * (a : Int)) hp
  rw [show ((((k : Int) - d * (a : Int) * (a : Int)) % p).toNat : Int) = ((k : Int) - d * (a : Int) * (a : Int)) % p by omega, emm]

theorem dsq {d a : Int} (h1 : 0 ≤ d) (h2 : d ≤ 13) (h3 : 0 ≤ a) (h4 : a ≤ 13) : 0 ≤ d * a ∧ d * a ≤ 169 ∧ 0 ≤ d * a * a ∧ d * a * a ≤ 2197 := by
  have e1 : 0 ≤ d * a := Int.mul_nonneg h1 h3
  have e2 : d * a ≤ 13 * 13 := Int.mul_le_mul h2 h4 h3 (by decide)
  have e3 : 0 ≤ d * a * a := Int.mul_nonneg e1 h3
  have e4 : d * a * a ≤ 169 * 13 := Int.mul_le_mul (by omega) h4 h3 (by decide)
  omega
theorem vecN_zero (n : Nat) : vecN n (fun _ => (0 : Int)) = List.replicate n 0 := by simp [vecN, List.map_const']

section
variable {p : Int} (hP : isP p = true)
include hP
theorem rwU_nil : (List.replicate p.toNat (0 : Int)).set 0 1 = rwU p [] := by
  have hp := isP_le hP
  refine extI (by simp) fun k hk => ?_
  rw [gI_set (by simp; omega)]
  unfold cntU
  by_cases h : k = 0
  · subst h; simp
  · have : (k : Int) % p = k := Int.emod_eq_of_lt (by omega) (by omega)
    rw [if_neg (fun e => h e.symm), this, if_neg (by omega), ← gI_get (by simp; omega)]
    simp
theorem cnt_small {l : List Int} (hl : l.length ≤ 8) (n : Int) : 0 ≤ cntU p l n ∧ cntU p l n ≤ 815730721 := by
  have hp := isP_le hP
  have h := cntU_le (by omega) hp.2 l n
  have key : ∀ k : Nat, k < 9 → (13 : Int) ^ k ≤ 815730721 := by decide
  have := key l.length (by omega)
  omega
/-- The numbers that stand while a row is scattered. -/
theorem sc_small {d : Int} {c : Nat → Int} (hc : ∀ m, m < p.toNat → 0 ≤ c m ∧ c m ≤ 815730721) {n a : Nat} (hn : n < p.toNat) (ha : a ≤ p.toNat) (k : Nat) :
    0 ≤ scO p d c n k + scA p d c n a k ∧ scO p d c n k + scA p d c n a k ≤ 1000000000000 := by
  have hp := isP_le hP
  have h1 := scO_le (p := p) (d := d) (b := 815730721) (by decide) n (fun m hm => hc m (by omega)) k
  have h2 := scA_le (p := p) (d := d) (b := 815730721) (by decide) (hc n hn) a k
  have e1 : (815730721 * (p.toNat : Int)) * (n : Int) ≤ (815730721 * 13) * 13 := Int.mul_le_mul (Int.mul_le_mul_of_nonneg_left (by omega) (by decide)) (by omega) (by omega) (by decide)
  omega
theorem s_l12Counts_eq {l : List Int} (hl : l.length ≤ 8) (hd : Vec p l.length l) : s_l12Counts p l = some (rwU p l) := by
  have hp := isP_le hP
  unfold s_l12Counts
  rw [chk_bind ⟨by omega, by omega⟩, some_bind, idxI0 (by simp; omega), some_bind, rwU_nil hP]
  rw [loop_for (b := rwU p l) (fun i => (rwU p (l.take i), (i : Int))) l.length (by rw [BIG_val]; omega) (by simp)]
  · rfl
  · intro i hi
    unfold s_l12Counts_L0
    have hdi := hd.get hi
    have hc : ∀ m, m < p.toNat → 0 ≤ cntU p (l.take i) (m : Int) ∧ cntU p (l.take i) (m : Int) ≤ 815730721 := fun m _ => cnt_small hP (by simp; omega) _
    simp only [lt_cast hi, if_true]
    rw [chk_bind ⟨by omega, by omega⟩]
    rw [loop_for (b := rwU p (l.take (i + 1))) (fun n => (vecN p.toNat (scO p (gI l i) (fun n => cntU p (l.take i) (n : Int)) n), (n : Int))) p.toNat (by rw [BIG_val]; omega) (by
      rw [← vecN_zero]; rfl)]
    · rw [some_bind, w_in (by omega) (by omega)]; rfl
    · intro n hn
      unfold s_l12Counts_L1
      rw [if_pos (by omega)]
      rw [loop_for (b := vecN p.toNat (scO p (gI l i) (fun n => cntU p (l.take i) (n : Int)) (n + 1))) (fun a => (vecN p.toNat (fun k => scO p (gI l i) (fun n => cntU p (l.take i) (n : Int)) n k + scA p (gI l i) (fun n => cntU p (l.take i) (n : Int)) n a k), (a : Int))) p.toNat (by rw [BIG_val]; omega) (by
        simp [scA, sumN])]
      · rw [some_bind, w_in (by omega) (by omega)]; rfl
      · intro a ha
        unfold s_l12Counts_L2
        have hs := dsq hdi.1 (by omega) (a := (a : Int)) (by omega) (by omega)
        rw [if_pos (by omega)]
        simp only [idxI hi, some_bind]
        rw [w_in (x := gI l i * (a : Int)) (by omega) (by omega), w_in (x := gI l i * (a : Int) * (a : Int)) (by omega) (by omega), w_in (x := (n : Int) + gI l i * (a : Int) * (a : Int)) (by omega) (by omega), s_l01Mod_eq (by omega) (by omega) (by omega) (by omega), some_bind]
        obtain ⟨q, hq, hqP⟩ : ∃ q : Nat, ((n : Int) + gI l i * (a : Int) * (a : Int)) % p = (q : Int) ∧ q < p.toNat := by
          have hm := mod_num (p := p) (a := (n : Int) + gI l i * (a : Int) * (a : Int)) (by omega)
          exact ⟨(((n : Int) + gI l i * (a : Int) * (a : Int)) % p).toNat, by omega, by omega⟩
        rw [hq, idxI (k := q) (by simpa using hqP), some_bind, gI_vecN _ hqP, idxI (k := n) (by unfold rwU; simpa using hn), some_bind]
        have e1 : gI (rwU p (l.take i)) n = cntU p (l.take i) (n : Int) := by unfold rwU; rw [gI_vecN _ hn]
        have b1 := sc_small hP (d := gI l i) hc hn (a := a) (by omega) q
        have b2 := hc n hn
        rw [e1, w_in (by omega) (by omega), Int.toNat_natCast, w_in (x := (a : Int) + 1) (by omega) (by omega), vecN_bump (f := fun k => scO p (gI l i) (fun n => cntU p (l.take i) (n : Int)) n k + scA p (gI l i) (fun n => cntU p (l.take i) (n : Int)) n a k)]
        congr 3
        refine vecN_congr fun k hk => ?_
        have e2 : scA p (gI l i) (fun n => cntU p (l.take i) (n : Int)) n (a + 1) k = scA p (gI l i) (fun n => cntU p (l.take i) (n : Int)) n a k + (if q = k then cntU p (l.take i) (n : Int) else 0) := by
          show scA p (gI l i) (fun n => cntU p (l.take i) (n : Int)) n a k + scB p (gI l i) (fun n => cntU p (l.take i) (n : Int)) n a k = _
          congr 1
          unfold scB
          rw [hq]
          simp only [Int.natCast_inj]
        rw [e2]
        omega
      · unfold s_l12Counts_L2
        rw [if_neg (by omega)]
        rfl
    · unfold s_l12Counts_L1
      rw [if_neg (by omega), rwU_step (p := p) (d := gI l i) (by omega) (l.take i) (l.take (i + 1))]
      intro m
      rw [← cntU_snoc]
      congr 1
      rw [List.take_add_one, List.getElem?_eq_getElem hi, gI_get hi]
      rfl
  · unfold s_l12Counts_L0
    simp only [lt_cast_self, if_false, List.take_length]

variable {w : List Int} (hl : w.length ≤ 3) (hw : Vec p w.length w)
def mtU (p : Int) (dl : List Int) (t : Nat) : List (List Int) := vecN (dl.length + 1) fun j => if dl.length - t ≤ j then rwU p (dl.drop j) else []
include hl hw
theorem i_normCounts_eq : i_Doubling_normCounts p w = some (vecN (2 ^ w.length + 1) fun j => rwU p ((dgv p w w.length).drop j)) := by
  have hp := isP_le hP
  have hdv := dgv_vec (p := p) (by omega) w w.length
  have hL8 : 2 ^ w.length ≤ 8 := Nat.pow_le_pow_right (by decide) hl
  unfold i_Doubling_normCounts
  rw [i_diag_eq hP (by omega) hw, some_bind]
  have hlen := hdv.1
  have hdv : Vec p (dgv p w w.length).length (dgv p w w.length) := by rw [hlen]; exact hdv
  rw [← hlen] at hL8 ⊢
  clear hlen
  generalize dgv p w w.length = dl at hdv hL8 ⊢
  have hset : ∀ (m : List (List Int)) (i j : Nat) (r : List Int), i < m.length → gR (m.set i r) j = if i = j then r else gR m j := fun m i j r hi => by
    unfold gR
    simp only [List.getD_eq_getElem?_getD, List.getElem?_set]
    split <;> simp_all
  have hP1 : w64 ((dl.length : Int) + 1) = ((dl.length + 1 : Nat) : Int) := by rw [w_in (by omega) (by omega)]; omega
  rw [hP1, Int.toNat_natCast, chk_bind ⟨by omega, by omega⟩, some_bind, chk_bind ⟨by omega, by omega⟩, idxR (by simp), some_bind, some_bind, idxR (by simp), some_bind, Int.toNat_natCast, hset _ _ _ _ (by simp), if_pos rfl, idxI0 (by simp; omega), some_bind, rwU_nil hP]
  have h0 : ((List.replicate (dl.length + 1) ([] : List Int)).set dl.length (List.replicate p.toNat 0)).set dl.length (rwU p []) = mtU p dl 0 := by
    refine extR (by simp) fun j hj => ?_
    rw [hset _ _ _ _ (by simp)]
    by_cases e : dl.length = j
    · subst e; simp
    · rw [if_neg e, hset _ _ _ _ (by simp), if_neg e, if_neg (by omega)]
      unfold gR
      rw [List.getD_eq_getElem?_getD, List.getElem?_replicate]
      simp [hj]
  rw [h0]
  rw [loop_for (b := mtU p dl dl.length) (fun t => (mtU p dl t, (dl.length : Int) - 1 - (t : Int))) dl.length (by rw [BIG_val]; omega) (by rw [w_in (by omega) (by omega)]; simp)]
  · rw [some_bind]
    congr 1
    exact vecN_congr fun j hj => by rw [if_pos (by omega)]
  · intro t ht
    obtain ⟨i, hi⟩ : ∃ i : Nat, i + t + 1 = dl.length := ⟨dl.length - 1 - t, by omega⟩
    have ei : (dl.length : Int) - 1 - (t : Int) = (i : Int) := by omega
    have ei' : (dl.length : Int) - 1 - ((t + 1 : Nat) : Int) = (i : Int) - 1 := by omega
    have hmt : (mtU p dl t).length = dl.length + 1 := by unfold mtU; simp
    have hdi := hdv.get (k := i) (by omega)
    have hc : ∀ m, m < p.toNat → 0 ≤ cntU p (dl.drop (i + 1)) (m : Int) ∧ cntU p (dl.drop (i + 1)) (m : Int) ≤ 815730721 := fun m _ => cnt_small hP (by simp; omega) _
    have hrow : gR ((mtU p dl t).set i (List.replicate p.toNat 0)) (i + 1) = rwU p (dl.drop (i + 1)) := by
      rw [hset _ _ _ _ (by omega), if_neg (by omega)]
      unfold mtU
      rw [gR_vecN _ (by omega), if_pos (by omega)]
    have hrl : (rwU p (dl.drop (i + 1))).length = p.toNat := by unfold rwU; simp
    simp only [ei, ei']
    unfold i_Doubling_normCounts_L0
    simp only
    rw [if_pos (by omega), chk_bind ⟨by omega, by omega⟩, idxR (by omega), some_bind, some_bind, Int.toNat_natCast, show w64 ((i : Int) + 1) = ((i + 1 : Nat) : Int) by rw [w_in (by omega) (by omega)]; omega, idxR (by simp; omega), some_bind, hrow]
    rw [loop_for (b := (mtU p dl t).set i (rwU p (dl.drop i))) (fun n => ((mtU p dl t).set i (vecN p.toNat (scO p (gI dl i) (fun n => cntU p (dl.drop (i + 1)) (n : Int)) n)), (n : Int))) p.toNat (by rw [BIG_val]; omega) (by
      rw [← vecN_zero]; rfl)]
    · rw [some_bind, w_in (by omega) (by omega)]
      congr 3
      refine extR (by simp [hmt]) fun j hj => ?_
      rw [hset _ _ _ _ (by omega)]
      unfold mtU
      rw [gR_vecN _ hj]
      by_cases e : i = j
      · rw [if_pos e, if_pos (by omega), e]
      · rw [if_neg e]
        by_cases e2 : dl.length - t ≤ j
        · rw [if_pos e2, if_pos (by omega)]
        · rw [if_neg e2, if_neg (by omega)]
    · intro n hn
      unfold i_Doubling_normCounts_L1
      simp only
      rw [if_pos (by omega), idxI (by omega), some_bind]
      have e1 : gI (rwU p (dl.drop (i + 1))) n = cntU p (dl.drop (i + 1)) (n : Int) := by unfold rwU; rw [gI_vecN _ hn]
      rw [loop_for (b := (mtU p dl t).set i (vecN p.toNat (scO p (gI dl i) (fun n => cntU p (dl.drop (i + 1)) (n : Int)) (n + 1)))) (fun a => ((mtU p dl t).set i (vecN p.toNat (fun k => scO p (gI dl i) (fun n => cntU p (dl.drop (i + 1)) (n : Int)) n k + scA p (gI dl i) (fun n => cntU p (dl.drop (i + 1)) (n : Int)) n a k)), (a : Int))) p.toNat (by rw [BIG_val]; omega) (by
        simp [scA, sumN])]
      · rw [some_bind, w_in (by omega) (by omega)]; rfl
      · intro a ha
        unfold i_Doubling_normCounts_L2 i_Doubling_field
        have hs := dsq hdi.1 (by omega) (a := (a : Int)) (by omega) (by omega)
        simp only
        rw [if_pos (by omega), idxR (by simp; omega), some_bind, hset _ _ _ _ (by omega), if_pos rfl, some_bind, idxI (by omega), some_bind]
        rw [w_in (x := gI dl i * (a : Int)) (by omega) (by omega), w_in (x := gI dl i * (a : Int) * (a : Int)) (by omega) (by omega), w_in (x := (n : Int) + gI dl i * (a : Int) * (a : Int)) (by omega) (by omega), i_field_num_eq (by omega) (by omega) (by omega) (by omega), some_bind]
        obtain ⟨q, hq, hqP⟩ : ∃ q : Nat, ((n : Int) + gI dl i * (a : Int) * (a : Int)) % p = (q : Int) ∧ q < p.toNat := by
          have hm := mod_num (p := p) (a := (n : Int) + gI dl i * (a : Int) * (a : Int)) (by omega)
          exact ⟨(((n : Int) + gI dl i * (a : Int) * (a : Int)) % p).toNat, by omega, by omega⟩
        rw [hq, idxI (k := q) (by simpa using hqP), some_bind, gI_vecN _ hqP]
        have b1 := sc_small hP (d := gI dl i) hc hn (a := a) (by omega) q
        have b2 := hc n hn
        rw [e1, w_in (by omega) (by omega), Int.toNat_natCast, Int.toNat_natCast, w_in (x := (a : Int) + 1) (by omega) (by omega), vecN_bump (f := fun k => scO p (gI dl i) (fun n => cntU p (dl.drop (i + 1)) (n : Int)) n k + scA p (gI dl i) (fun n => cntU p (dl.drop (i + 1)) (n : Int)) n a k), List.set_set]
        congr 4
        refine vecN_congr fun k hk => ?_
        have e2 : scA p (gI dl i) (fun n => cntU p (dl.drop (i + 1)) (n : Int)) n (a + 1) k = scA p (gI dl i) (fun n => cntU p (dl.drop (i + 1)) (n : Int)) n a k + (if q = k then cntU p (dl.drop (i + 1)) (n : Int) else 0) := by
          show scA p (gI dl i) (fun n => cntU p (dl.drop (i + 1)) (n : Int)) n a k + scB p (gI dl i) (fun n => cntU p (dl.drop (i + 1)) (n : Int)) n a k = _
          congr 1
          unfold scB
          rw [hq]
          simp only [Int.natCast_inj]
        rw [e2]
        omega
      · unfold i_Doubling_normCounts_L2
        simp only
        rw [if_neg (by omega)]
        rfl
    · unfold i_Doubling_normCounts_L1
      simp only
      rw [if_neg (by omega), rwU_step (p := p) (d := gI dl i) (by omega) (dl.drop (i + 1)) (dl.drop i)]
      intro m
      rw [List.drop_eq_getElem_cons (show i < dl.length by omega), gI_get (show i < dl.length by omega)]
      rfl
  · unfold i_Doubling_normCounts_L0
    simp only
    rw [if_neg (by omega)]
end
end Go.Vam

/- Plain laws: UnitsOf. -/
namespace Go.Vam
open Go Go.RowKit
set_option linter.unusedSimpArgs false
set_option linter.unusedVariables false
set_option linter.unusedSectionVars false

theorem flat_succ {α : Type} (F : Nat → List α) (a : Nat) : (List.range (a + 1)).flatMap F = (List.range a).flatMap F ++ F a := by
  rw [List.range_succ, List.flatMap_append]; simp
theorem flat_le {α : Type} (F : Nat → List α) {a : Nat} : ∀ {b : Nat}, a ≤ b → ((List.range a).flatMap F).length ≤ ((List.range b).flatMap F).length
  | 0, h => by have : a = 0 := by omega
               subst this; exact Nat.le_refl _
  | b + 1, h => by
    rcases Nat.lt_or_ge a (b + 1) with h1 | h1
    · rw [flat_succ, List.length_append]
      have := flat_le F (a := a) (b := b) (by omega)
      omega
    · have : a = b + 1 := by omega
      subst this; exact Nat.le_refl _
theorem gR_head {a b : List (List Int)} (h : 0 < a.length) : gR (a ++ b) 0 = gR a 0 := by
  unfold gR
  cases a with
  | nil => simp at h
  | cons x r => rfl

section
variable {p : Int} (hP : isP p = true) {dl : List Int} (hdv : Vec p dl.length dl) (hL8 : dl.length ≤ 8)
include hP hdv hL8
theorem lst_zero {l : List Int} {n : Int} {x : List Int} (h : cntU p l n = 0) : lstU p l n x = [] := by
  have := lstU_len (p := p) l n x
  rw [h] at this
  exact List.length_eq_zero_iff.1 (by omega)
theorem search_eq : ∀ (r N : Nat) (n : Int) (pre : List Int) (out : List (List Int)), dl.length - pre.length = r → pre.length ≤ dl.length → r < N → 0 ≤ n → n < p →
    out.length + (lstU p (dl.drop pre.length) n pre).length ≤ 129 → s_l13Search N p dl n pre out = some (out ++ lstU p (dl.drop pre.length) n pre) := by
  have hp := isP_le hP
  intro r
  induction r with
  | zero =>
    intro N n pre out hr hk hN h0 h1 hb
    cases N with
    | zero => omega
    | succ N =>
      show s_l13Search_b (s_l13Search N) p dl n pre out = _
      unfold s_l13Search_b
      rw [if_neg (by omega), if_pos (by omega)]
      have e : dl.drop pre.length = [] := by rw [List.drop_eq_nil_iff]; omega
      rw [e] at hb ⊢
      unfold lstU at hb ⊢
      rw [Int.emod_eq_of_lt h0 h1] at hb ⊢
      by_cases hz : n = 0
      · rw [if_pos hz] at hb ⊢
        rw [if_pos hz, chk_bind (by simp at hb ⊢; omega), some_bind]
      · rw [if_neg hz] at hb ⊢
        rw [if_neg hz, some_bind, List.append_nil]
  | succ r ih =>
    intro N n pre out hr hk hN h0 h1 hb
    cases N with
    | zero => omega
    | succ N =>
      have hlt : pre.length < dl.length := by omega
      have hd := hdv.get hlt
      show s_l13Search_b (s_l13Search N) p dl n pre out = _
      unfold s_l13Search_b
      have hvd : Vec p (dl.drop pre.length).length (dl.drop pre.length) := by
        refine ⟨rfl, fun k hk => ?_⟩
        rw [gI_drop]
        exact hdv.get (by simp at hk; omega)
      rw [if_neg (by omega), if_neg (by omega), chk_bind ⟨by omega, by omega⟩, Int.toNat_natCast, s_l12Counts_eq hP (by simp; omega) hvd, some_bind]
      obtain ⟨m, rfl⟩ : ∃ m : Nat, n = (m : Int) := ⟨n.toNat, by omega⟩
      rw [idxI (by unfold rwU; simp; omega), some_bind]
      have e1 : gI (rwU p (dl.drop pre.length)) m = cntU p (dl.drop pre.length) (m : Int) := by unfold rwU; rw [gI_vecN _ (by omega)]
      rw [e1]
      by_cases hz : cntU p (dl.drop pre.length) (m : Int) = 0
      · rw [if_pos hz, lst_zero hP hdv hL8 hz, List.append_nil]
      · rw [if_neg hz]
        have hcons : dl.drop pre.length = gI dl pre.length :: dl.drop (pre.length + 1) := by
          rw [List.drop_eq_getElem_cons hlt, gI_get hlt]
        rw [hcons] at hb ⊢
        unfold lstU at hb ⊢
        generalize hF : (fun (a : Nat) => lstU p (dl.drop (pre.length + 1)) ((m : Int) - gI dl pre.length * (a : Int) * (a : Int)) (pre ++ [(a : Int)])) = F at hb ⊢
        rw [loop_for (b := out ++ (List.range p.toNat).flatMap F) (fun a => (out ++ (List.range a).flatMap F, (a : Int))) p.toNat (by rw [BIG_val]; omega) (by simp)]
        · rfl
        · intro a ha
          unfold s_l13Search_L0
          have hs := dsq hd.1 (by omega) (a := (a : Int)) (by omega) (by omega)
          have hm := mod_num (p := p) (a := (m : Int) - gI dl pre.length * (a : Int) * (a : Int)) (by omega)
          have hle := flat_le F (show a + 1 ≤ p.toNat by omega)
          have hFa : F a = lstU p (dl.drop (pre ++ [(a : Int)]).length) (((m : Int) - gI dl pre.length * (a : Int) * (a : Int)) % p) (pre ++ [(a : Int)]) := by
            rw [← hF]
            simp only [List.length_append, List.length_cons, List.length_nil]
            exact lstU_mod (emm _ _).symm
          rw [flat_succ] at hle ⊢
          simp only [List.length_append] at hle
          simp only
          rw [if_pos (by omega), idxI hlt, some_bind, w_in (x := gI dl pre.length * (a : Int)) (by omega) (by omega), w_in (x := gI dl pre.length * (a : Int) * (a : Int)) (by omega) (by omega), w_in (x := (m : Int) - gI dl pre.length * (a : Int) * (a : Int)) (by omega) (by omega),
            s_l01Mod_eq (by omega) (by omega) (by omega) (by omega), some_bind, s_l01Own_eq (by omega), some_bind, chk_bind (by simp; omega)]
          rw [ih N _ (pre ++ [(a : Int)]) _ (by simp; omega) (by simp; omega) (by omega) hm.1 hm.2 (by rw [← hFa]; simp only [List.length_append]; omega), some_bind, ← hFa, w_in (by omega) (by omega), List.append_assoc]
          rfl
        · unfold s_l13Search_L0
          simp only
          rw [if_neg (by omega)]
/-- The impl's search. -/
theorem grow_eq {one : List Int} {w : List Int} {T : List (List Int)} (hT : T = vecN (dl.length + 1) fun j => rwU p (dl.drop j)) : ∀ (r N : Nat) (n : Int) (pre : List Int) (out : List (List Int)), dl.length - pre.length = r → pre.length ≤ dl.length → r < N → 0 ≤ n → n < p →
    out.length + (lstU p (dl.drop pre.length) n pre).length ≤ 1000000 → 0 < out.length → gR out 0 = one →
    i_Doubling_units_c1 N pre n T dl out p w = some (out ++ (lstU p (dl.drop pre.length) n pre).filter fun x => !decide (x = one)) := by
  have hp := isP_le hP
  have hTl : T.length = dl.length + 1 := by rw [hT]; simp
  have hrow : ∀ k, k ≤ dl.length → gR T k = rwU p (dl.drop k) := fun k hk => by rw [hT, gR_vecN _ (by omega)]
  intro r
  induction r with
  | zero =>
    intro N n pre out hr hk hN h0 h1 hb hpos hone
    cases N with
    | zero => omega
    | succ N =>
      show i_Doubling_units_c1_b (i_Doubling_units_c1 N) pre n T dl out p w = _
      unfold i_Doubling_units_c1_b
      rw [idxR (by omega), some_bind, hrow _ hk]
      obtain ⟨m, rfl⟩ : ∃ m : Nat, n = (m : Int) := ⟨n.toNat, by omega⟩
      rw [idxI (by unfold rwU; simp; omega), some_bind]
      have e1 : gI (rwU p (dl.drop pre.length)) m = cntU p (dl.drop pre.length) (m : Int) := by unfold rwU; rw [gI_vecN _ (by omega)]
      rw [e1]
      have e : dl.drop pre.length = [] := by rw [List.drop_eq_nil_iff]; omega
      rw [e] at hb ⊢
      unfold lstU cntU at *
      rw [Int.emod_eq_of_lt h0 h1] at hb ⊢
      by_cases hz : (m : Int) = 0
      · rw [if_pos hz] at hb ⊢
        simp only [if_pos hz, Int.reduceEq, if_false]
        rw [if_pos (by omega), idxR0 hpos, some_bind, hone, slicesEqual_eq (by omega), some_bind]
        by_cases hq : pre = one
        · simp [hq]
        · have hc : chk (out.length ≤ 1099511627775) = some () := chk_ok (by simp at hb; omega)
          simp [hq, clone_eq (v := pre) (by omega), hc]
      · rw [if_neg hz] at hb ⊢
        have hm0 : m ≠ 0 := by omega
        simp [hm0]
  | succ r ih =>
    intro N n pre out hr hk hN h0 h1 hb hpos hone
    cases N with
    | zero => omega
    | succ N =>
      have hlt : pre.length < dl.length := by omega
      have hd := hdv.get hlt
      show i_Doubling_units_c1_b (i_Doubling_units_c1 N) pre n T dl out p w = _
      unfold i_Doubling_units_c1_b
      rw [idxR (by omega), some_bind, hrow _ hk]
      obtain ⟨m, rfl⟩ : ∃ m : Nat, n = (m : Int) := ⟨n.toNat, by omega⟩
      rw [idxI (by unfold rwU; simp; omega), some_bind]
      have e1 : gI (rwU p (dl.drop pre.length)) m = cntU p (dl.drop pre.length) (m : Int) := by unfold rwU; rw [gI_vecN _ (by omega)]
      rw [e1]
      by_cases hz : cntU p (dl.drop pre.length) (m : Int) = 0
      · rw [if_pos hz, lst_zero hP hdv hL8 hz]; simp
      · rw [if_neg hz, if_neg (by omega)]
        have hcons : dl.drop pre.length = gI dl pre.length :: dl.drop (pre.length + 1) := by
          rw [List.drop_eq_getElem_cons hlt, gI_get hlt]
        rw [hcons] at hb ⊢
        unfold lstU at hb ⊢
        generalize hF : (fun (a : Nat) => lstU p (dl.drop (pre.length + 1)) ((m : Int) - gI dl pre.length * (a : Int) * (a : Int)) (pre ++ [(a : Int)])) = F at hb ⊢
        rw [loop_for (b := out ++ ((List.range p.toNat).flatMap F).filter fun x => !decide (x = one)) (fun a => (out ++ ((List.range a).flatMap F).filter fun x => !decide (x = one), (a : Int))) p.toNat (by rw [BIG_val]; omega) (by simp)]
        · rfl
        · intro a ha
          unfold i_Doubling_units_c1_L0 i_Doubling_field
          have hs := dsq hd.1 (by omega) (a := (a : Int)) (by omega) (by omega)
          have hm := mod_num (p := p) (a := (m : Int) - gI dl pre.length * (a : Int) * (a : Int)) (by omega)
          have hle := flat_le F (show a + 1 ≤ p.toNat by omega)
          have hFa : F a = lstU p (dl.drop (pre ++ [(a : Int)]).length) (((m : Int) - gI dl pre.length * (a : Int) * (a : Int)) % p) (pre ++ [(a : Int)]) := by
            rw [← hF]
            simp only [List.length_append, List.length_cons, List.length_nil]
            exact lstU_mod (emm _ _).symm
          have hfl : (((List.range a).flatMap F).filter fun x => !decide (x = one)).length ≤ ((List.range a).flatMap F).length := List.length_filter_le ..
          rw [flat_succ] at hle ⊢
          simp only [List.length_append] at hle
          simp only
          rw [if_pos (by omega), clone_eq (by omega), some_bind, chk_bind (by simp; omega), some_bind, idxI hlt, some_bind, w_in (x := gI dl pre.length * (a : Int)) (by omega) (by omega), w_in (x := gI dl pre.length * (a : Int) * (a : Int)) (by omega) (by omega), w_in (x := (m : Int) - gI dl pre.length * (a : Int) * (a : Int)) (by omega) (by omega),
            i_field_num_eq (by omega) (by omega) (by omega) (by omega), some_bind]
          rw [ih N _ (pre ++ [(a : Int)]) _ (by simp; omega) (by simp; omega) (by omega) hm.1 hm.2 (by rw [← hFa]; simp only [List.length_append]; omega) (by simp only [List.length_append]; omega) (by rw [gR_head hpos]; exact hone), some_bind, ← hFa, w_in (by omega) (by omega), List.append_assoc, List.filter_append]
          rfl
        · unfold i_Doubling_units_c1_L0
          simp only
          rw [if_neg (by omega)]
end

section
variable {p : Int} {w : List Int} (hP : isP p = true) (hl : w.length ≤ 3) (hw : Vec p w.length w)
def fndU (p : Int) (w : List Int) : List (List Int) := lstU p (dgv p w w.length) 1 []
/-- The units: the unit first. -/
def untU (p : Int) (w : List Int) : List (List Int) := axis (2 ^ w.length) 0 :: (fndU p w).filter fun x => !decide (x = axis (2 ^ w.length) 0)
theorem lstU_rows {p : Int} : ∀ (l : List Int) (n : Int) (x : List Int), ∀ y ∈ lstU p l n x, y.length = x.length + l.length
  | [], n, x, y, h => by
    unfold lstU at h
    split at h
    · simp only [List.mem_cons, List.not_mem_nil, or_false] at h; subst h; simp
    · cases h
  | d :: r, n, x, y, h => by
    unfold lstU at h
    obtain ⟨a, _, h2⟩ := List.mem_flatMap.1 h
    have := lstU_rows r _ _ y h2
    simp at this ⊢
    omega
include hP hl hw
theorem i_element0 : i_Doubling_element p w 0 = some (axis (2 ^ w.length) 0) := by
  unfold i_Doubling_element
  rw [i_Doubling_size_eq (by omega), some_bind, i_unit_eq (by have := two_le (n := w.length) (by omega); omega), some_bind, idxR0 (by unfold unitm; rw [vecN_len]; exact two_pos _), some_bind]
  unfold unitm
  rw [gR_vecN _ (two_pos _)]
  rfl
theorem s_l13Units_eq (hc : cntU p (dgv p w w.length) 1 ≤ 128) : s_l13Units p w = some (untU p w) := by
  have hp := isP_le hP
  have hdv := dgv_vec (p := p) (by omega) w w.length
  have hL8 : 2 ^ w.length ≤ 8 := Nat.pow_le_pow_right (by decide) hl
  have hlen := hdv.1
  have hdv : Vec p (dgv p w w.length).length (dgv p w w.length) := by rw [hlen]; exact hdv
  have hfl := lstU_len (p := p) (dgv p w w.length) 1 []
  unfold s_l13Units
  rw [show (0 : Int) = ((0 : Nat) : Int) from rfl, s_l11One_eq (by omega) (two_pos _), some_bind, s_diag_eq hP (by omega) hw, some_bind, search_eq hP hdv (by omega) (dgv p w w.length).length BIG 1 [] [] (by simp) (by simp) (by rw [BIG_val]; omega) (by omega) (by omega) (by simp; omega), some_bind]
  simp only [List.length_nil, List.drop_zero, List.nil_append]
  show (loop (s_l13Units_L0 (fndU p w)) BIG ([axis (2 ^ w.length) 0], 0)).bind _ = _
  have hff : ((fndU p w).length : Int) ≤ 128 := by unfold fndU; omega
  rw [loop_for (b := untU p w) (fun i => (axis (2 ^ w.length) 0 :: ((fndU p w).take i).filter fun x => !decide (x = axis (2 ^ w.length) 0), (i : Int))) (fndU p w).length (by rw [BIG_val]; omega) (by simp)]
  · rfl
  · intro i hi
    unfold s_l13Units_L0
    have hr := lstU_rows _ _ _ _ (show gR (fndU p w) i ∈ fndU p w by rw [← gR_get hi]; exact List.getElem_mem _)
    have hfi : (((fndU p w).take i).filter fun x => !decide (x = axis (2 ^ w.length) 0)).length ≤ 128 := Nat.le_trans (List.length_filter_le ..) (by simp; omega)
    have hc1 : chk ((((fndU p w).take i).filter fun x => !decide (x = axis (2 ^ w.length) 0)).length + 1 + 1 ≤ 1099511627776) = some () := chk_ok (by omega)
    simp only [lt_cast hi, if_true, idxR hi, some_bind]
    rw [idxR0 (by simp), some_bind, s_l01Same_eq (by simp at hr; omega), some_bind, List.take_add_one, List.getElem?_eq_getElem hi, gR_get hi]
    have e0 : gR (axis (2 ^ w.length) 0 :: ((fndU p w).take i).filter fun x => !decide (x = axis (2 ^ w.length) 0)) 0 = axis (2 ^ w.length) 0 := rfl
    rw [e0, w_in (by omega) (by omega)]
    by_cases hq : gR (fndU p w) i = axis (2 ^ w.length) 0
    · simp [hq]
    · simp only [hq, decide_false, if_true, List.length_cons, List.length_nil]
      rw [hc1]
      simp [hq]
  · unfold s_l13Units_L0
    simp only [lt_cast_self, if_false, List.take_length]
    rfl
theorem untU_rows {x : List Int} (h : x ∈ untU p w) : x.length = 2 ^ w.length := by
  have hp := isP_le hP
  have hdv := dgv_vec (p := p) (by omega) w w.length
  rcases List.mem_cons.1 h with rfl | h
  · simp [axis]
  · have := lstU_rows _ _ _ x (List.mem_filter.1 h).1
    rw [hdv.1] at this
    simpa using this
theorem untU_small (hc : cntU p (dgv p w w.length) 1 ≤ 128) : smallM (untU p w) := by
  have hfl := lstU_len (p := p) (dgv p w w.length) 1 []
  have hL8 : 2 ^ w.length ≤ 8 := Nat.pow_le_pow_right (by decide) hl
  have hn : (untU p w).length ≤ 129 := by
    unfold untU
    have : ((fndU p w).filter fun x => !decide (x = axis (2 ^ w.length) 0)).length ≤ (fndU p w).length := List.length_filter_le ..
    unfold fndU at this ⊢
    simp only [List.length_cons]
    omega
  have hr : ∀ x ∈ untU p w, x.length ≤ 8 := fun x hx => by rw [untU_rows hP hl hw hx]; exact hL8
  have key : ∀ m : List (List Int), (∀ x ∈ m, x.length ≤ 8) → rowsum m ≤ 8 * m.length := by
    intro m
    induction m with
    | nil => intro _; simp [rowsum]
    | cons x r ih =>
      intro h
      rw [rowsum_cons, List.length_cons]
      have h1 := ih fun y hy => h y (List.mem_cons_of_mem _ hy)
      have h2 := h x List.mem_cons_self
      omega
  have := key _ hr
  exact ⟨by omega, fun x hx => by have := hr x hx; omega, by omega⟩
end
def unC (p : Int) (w : List Int) : Int := if isDb p w then (if 3 < w.length then 5 else if 128 < cntU p (dgv p w w.length) 1 then 3 else 0) else 1
def unV (p : Int) (w : List Int) : List (List Int) := if unC p w = 0 then untU p w else []
theorem unC_zero {p : Int} {w : List Int} (h : unC p w = 0) : isDb p w = true ∧ w.length ≤ 3 ∧ cntU p (dgv p w w.length) 1 ≤ 128 := by
  unfold unC at h
  split at h
  · split at h
    · cases h
    · split at h
      · cases h
      · exact ⟨‹_›, by omega, by omega⟩
  · cases h
theorem Small_eq {p : Int} {w : List Int} (hw : w.length ≤ 1048576) : s_l13Small p w = some (unV p w, unC p w) ∧ i_Doubling_units p w = some (unV p w, unC p w) := by
  unfold s_l13Small i_Doubling_units
  rw [s_l11Is_eq hw, i_IsDoubling_eq hw, some_bind, some_bind]
  by_cases hD : isDb p w = true
  · obtain ⟨hP, hl4, hv, _⟩ := isDb_iff hD
    have hp := isP_le hP
    simp only [hD, Bool.true_eq_false, if_false]
    by_cases h3 : 3 < w.length
    · have e : unC p w = 5 := by unfold unC; rw [if_pos hD, if_pos h3]
      have ev : unV p w = [] := by unfold unV; rw [e]; rfl
      rw [if_pos (by omega), if_pos (by omega), e, ev]
      exact ⟨rfl, rfl⟩
    · have hl : w.length ≤ 3 := by omega
      have hdv := dgv_vec (p := p) (by omega) w w.length
      have hL8 : 2 ^ w.length ≤ 8 := Nat.pow_le_pow_right (by decide) hl
      have hlen := hdv.1
      have hdv : Vec p (dgv p w w.length).length (dgv p w w.length) := by rw [hlen]; exact hdv
      rw [if_neg (by omega), if_neg (by omega), s_diag_eq hP hl4 hv, some_bind, s_l12Counts_eq hP (by omega) hdv, some_bind, i_normCounts_eq hP hl hv, some_bind, i_diag_eq hP hl4 hv, some_bind]
      have e0 : gR (vecN (2 ^ w.length + 1) fun j => rwU p ((dgv p w w.length).drop j)) 0 = rwU p (dgv p w w.length) := by rw [gR_vecN _ (by omega)]; rfl
      have e1 : gI (rwU p (dgv p w w.length)) 1 = cntU p (dgv p w w.length) 1 := by unfold rwU; rw [gI_vecN _ (by omega)]; rfl
      have e2 : idx (rwU p (dgv p w w.length)) 1 = some (cntU p (dgv p w w.length) 1) := by
        rw [show (1 : Int) = ((1 : Nat) : Int) from rfl, idxI (by unfold rwU; simp; omega), e1]; rfl
      rw [idxR0 (by simp), some_bind, e0, e2, some_bind, some_bind]
      by_cases h128 : 128 < cntU p (dgv p w w.length) 1
      · have e : unC p w = 3 := by unfold unC; rw [if_pos hD, if_neg h3, if_pos h128]
        have ev : unV p w = [] := by unfold unV; rw [e]; rfl
        rw [if_pos h128, if_pos h128, e, ev]
        exact ⟨rfl, rfl⟩
      · have e : unC p w = 0 := by unfold unC; rw [if_pos hD, if_neg h3, if_neg h128]
        have ev : unV p w = untU p w := by unfold unV; rw [if_pos e]
        have hfl := lstU_len (p := p) (dgv p w w.length) 1 []
        rw [if_neg h128, if_neg h128, e, ev, s_l13Units_eq hP hl hv (by omega), some_bind, i_element0 hP hl hv, some_bind,
          grow_eq (one := axis (2 ^ w.length) 0) hP hdv (by omega) (by rw [hlen]) (dgv p w w.length).length BIG 1 [] [axis (2 ^ w.length) 0] (by simp) (by simp) (by rw [BIG_val]; omega) (by omega) (by omega) (by simp; omega) (by simp) rfl, some_bind]
        exact ⟨rfl, rfl⟩
  · have hD' : isDb p w = false := by simpa using hD
    have e : unC p w = 1 := by unfold unC; rw [if_neg hD]
    have ev : unV p w = [] := by unfold unV; rw [e]; rfl
    simp only [hD', if_true, e, ev]
    exact ⟨trivial, trivial⟩
theorem unV_small {p : Int} {w : List Int} : smallM (unV p w) := by
  unfold unV
  split
  · rename_i h
    obtain ⟨hD, hl, hc⟩ := unC_zero h
    obtain ⟨hP, hl4, hv, _⟩ := isDb_iff hD
    exact untU_small hP hl hv hc
  · exact smallM.nil
end Go.Vam

/- Plain law: FnExactUnitsOf. -/
namespace Go.Vam
open Go Go.RowKit
set_option linter.unusedSimpArgs false
set_option linter.unusedVariables false

end Go.Vam
