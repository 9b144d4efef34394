import Derived.Test.YtcijfjeeggfgmaaPlG0
import Derived.Test.YtcijfjeeggfgmaaFmG0
/- Plain laws: ranks, kernels and how many vectors they have. -/
namespace Go.Vam
open Go Go.RowKit
set_option linter.unusedSimpArgs false
set_option linter.unusedVariables false
set_option linter.unusedSectionVars false

theorem sumN_add (f g : Nat → Int) (n : Nat) : sumN (fun q => f q + g q) n = sumN f n + sumN g n := by
  have := sumN_lin f g 1 n
  simp only [Int.one_mul] at this
  exact this
theorem sumN_mulL (k : Int) (f : Nat → Int) (n : Nat) : sumN (fun q => k * f q) n = k * sumN f n := by
  have := sumN_lin (fun _ => 0) f k n
  simp only [Int.zero_add, sumN_zero] at this
  exact this
theorem sumN_mulR (k : Int) (f : Nat → Int) (n : Nat) : sumN (fun q => f q * k) n = sumN f n * k := by
  rw [Int.mul_comm, ← sumN_mulL]
  exact sumN_congr fun q _ => Int.mul_comm _ _
theorem sumN_comm (f : Nat → Nat → Int) (m : Nat) : ∀ n, sumN (fun i => sumN (fun j => f i j) m) n = sumN (fun j => sumN (fun i => f i j) n) m
  | 0 => by simp only [sumN]; rw [sumN_zero]
  | n + 1 => by
    simp only [sumN]
    rw [sumN_add, sumN_comm f m n]
theorem sumN_dvd {p : Int} {f : Nat → Int} : ∀ {n : Nat}, (∀ k, k < n → p ∣ f k) → p ∣ sumN f n
  | 0, _ => Int.dvd_zero p
  | n + 1, h => by
    simp only [sumN]
    exact Int.dvd_add (sumN_dvd fun k hk => h k (by omega)) (h n (by omega))
theorem sumN_sub (f g : Nat → Int) (n : Nat) : sumN (fun q => f q - g q) n = sumN f n - sumN g n := by
  have := sumN_lin f g (-1) n
  have e : sumN (fun q => f q - g q) n = sumN (fun q => f q + -1 * g q) n := sumN_congr fun q _ => by omega
  rw [e, this]; omega
theorem dvd_trans_sub {p a b c : Int} (h1 : p ∣ a - b) (h2 : p ∣ b - c) : p ∣ a - c := by
  have := Int.dvd_add h1 h2
  rwa [show a - b + (b - c) = a - c by omega] at this
section
variable {p : Int} {n : Nat} {B : List (List Int)} {ld : Nat → Nat} (h : Ech p n B ld)
include h
theorem Ech.at_lead (g : Nat → Int) (q : Nat) : sumN (fun j => if ld j = q then g j else 0) B.length = if isLd B.length ld q = true then g (rowOf ld q B.length) else 0 := by
  by_cases hq : isLd B.length ld q = true
  · rw [if_pos hq]
    obtain ⟨a1, a2⟩ := rowOf_spec (isLd_iff.1 hq)
    rw [sumN_one a1 (fun j hj hne => if_neg fun e => hne (h.inj hj a1 (by rw [e, a2]))), if_pos a2]
  · rw [if_neg hq, sumN_congr (g := fun _ => 0) fun j hj => if_neg fun e => hq (isLd_iff.2 ⟨j, hj, e⟩)]
    exact sumN_zero _
/-- A sum over all places: those without a lead, and the leads. -/
theorem Ech.split (g : Nat → Int) : sumN g n = sumN (fun q => if isLd B.length ld q = true then 0 else g q) n + sumN (fun j => g (ld j)) B.length := by
  have e1 : sumN (fun j => g (ld j)) B.length = sumN (fun j => sumN (fun q => if ld j = q then g q else 0) n) B.length :=
    sumN_congr fun j hj => by rw [sumN_one (h.lt j hj) (fun q _ hq => if_neg fun e => hq e.symm), if_pos rfl]
  rw [e1, sumN_comm, ← sumN_add]
  refine sumN_congr fun q hq => ?_
  have e2 : sumN (fun j => if ld j = q then g q else 0) B.length = if isLd B.length ld q = true then g q else 0 := h.at_lead (fun _ => g q) q
  rw [e2]
  split <;> omega
end
end Go.Vam

/- Plain laws: the equations of derivations; both programs' bases of derivations are one. -/
namespace Go.Vam
open Go Go.RowKit
set_option linter.unusedSimpArgs false
set_option linter.unusedVariables false
set_option linter.unusedSectionVars false

theorem gR_append {x y : List (List Int)} {k : Nat} : gR (x ++ y) k = if k < x.length then gR x k else gR y (k - x.length) := by
  unfold gR
  rw [List.getD_eq_getElem?_getD, List.getElem?_append]
  by_cases h : k < x.length
  · rw [if_pos h, if_pos h, List.getD_eq_getElem?_getD]
  · rw [if_neg h, if_neg h, List.getD_eq_getElem?_getD]
theorem Mat.append {p : Int} {a b c : Nat} {x y : List (List Int)} (hx : Mat p a c x) (hy : Mat p b c y) : Mat p (a + b) c (x ++ y) := by
  have h1 := hx.1
  refine ⟨by rw [List.length_append, hx.1, hy.1], fun i hi => ?_⟩
  rw [gR_append]
  split
  · exact hx.2 i (by omega)
  · exact hy.2 (i - x.length) (by omega)
section
variable {p : Int} {w : List Int} (hP : isP p = true) (hl : w.length ≤ 4) (hw : Vec p w.length w)
include hP hl hw
end
end Go.Vam

/- Plain laws: what is drawn from a code. -/
namespace Go.Vam
open Go Go.RowKit
set_option linter.unusedSimpArgs false
set_option linter.unusedVariables false
set_option linter.unusedSectionVars false

/-- A table that is not large. -/
def tabS (m : List (List Int)) : Prop := m.length ≤ 17 ∧ ∀ x ∈ m, x.length ≤ 18
theorem tabS.sz {m : List (List Int)} (h : tabS m) : szM m := ⟨by have := h.1; omega, fun r hr => by have := h.2 r hr; omega⟩
theorem tabS.of {p : Int} {r k : Nat} {m : List (List Int)} (h : Mat p r k m) (hr : r ≤ 17) (hk : k ≤ 18) : tabS m := by
  refine ⟨by rw [h.1]; exact hr, fun x hx => ?_⟩
  obtain ⟨i, hi, rfl⟩ := List.getElem_of_mem hx
  have e := (h.2 i (by have := h.1; omega)).1
  rw [← gR_get hi] at e
  omega
theorem tabS.set {m : List (List Int)} (h : tabS m) (i : Nat) {x : List Int} (hx : x.length ≤ 18) : tabS (m.set i x) := by
  refine ⟨by rw [List.length_set]; exact h.1, fun y hy => ?_⟩
  rcases List.mem_or_eq_of_mem_set hy with h1 | h1
  · exact h.2 y h1
  · rw [h1]; exact hx
end Go.Vam

/- Plain laws: reflections keep the products of vectors. -/
namespace Go.Vam
open Go Go.RowKit
set_option linter.unusedSimpArgs false
set_option linter.unusedVariables false
set_option linter.unusedSectionVars false

/-- The product of vectors, as an integer. -/
def pairS (n : Nat) (w x y : List Int) : Int := sumN (fun k => gI x k * gI y k * gI w k) n
theorem pairp_S (p : Int) (n : Nat) (w x y : List Int) : pairp p n w x y = pairS n w x y % p := rfl
theorem pairS_comm (n : Nat) (w x y : List Int) : pairS n w x y = pairS n w y x := by
  unfold pairS
  exact sumN_congr fun k _ => by rw [Int.mul_comm (gI x k)]
theorem pairS_lin {p : Int} {n : Nat} {w x x' u y : List Int} {c : Int} (h : ∀ k, k < n → gI x' k % p = (gI x k + c * gI u k) % p) : pairS n w x' y % p = (pairS n w x y + c * pairS n w u y) % p := by
  unfold pairS
  rw [← sumN_lin]
  refine sumN_mod fun k hk => ?_
  rw [Int.mul_assoc, mul_mod_l (h k hk)]
  congr 1
  rw [Int.add_mul, Int.mul_assoc, Int.mul_assoc, Int.mul_assoc]
/-- What the reflection in u makes of v. -/
def reflv (p : Int) (n : Nat) (w u v : List Int) : List Int := plusv p n v u (-2 * pairS n w u v * invp p (pairp p n w u u))
theorem reflv_vec {p : Int} (hp : 0 < p) (n : Nat) (w u v : List Int) : Vec p n (reflv p n w u v) := plusv_vec hp ..
theorem reflv_at {p : Int} {n k : Nat} {w u v : List Int} (hk : k < n) : gI (reflv p n w u v) k = (gI v k + (-2 * pairS n w u v * invp p (pairp p n w u u)) * gI u k) % p := plusv_at hk
theorem inv_dvd {p a : Int} (hP : isP p = true) (h0 : a % p ≠ 0) : p ∣ invp p (a % p) * a - 1 := by
  have hp := isP_le hP
  have hn := mod_num (a := a) (p := p) (by omega)
  obtain ⟨_, _, i3⟩ := inv_facts (a := a % p) hP (by omega) hn.2
  rw [← mod_dvd, Int.emod_eq_of_lt (show (0 : Int) ≤ 1 by omega) (by omega), Int.mul_comm, ← i3]
  exact (mul_mod_l (emm a p)).symm
theorem reflv_pair {p : Int} {n : Nat} {w u : List Int} (hP : isP p = true) (hu : pairp p n w u u ≠ 0) (x y : List Int) :
    pairp p n w (reflv p n w u x) (reflv p n w u y) = pairp p n w x y := by
  rw [pairp_S, pairp_S]
  have ht := inv_dvd hP (a := pairS n w u u) hu
  rw [← pairp_S] at ht
  have hx : ∀ k, k < n → gI (reflv p n w u x) k % p = (gI x k + (-2 * pairS n w u x * invp p (pairp p n w u u)) * gI u k) % p := fun k hk => by rw [reflv_at hk, emm]
  have hy : ∀ k, k < n → gI (reflv p n w u y) k % p = (gI y k + (-2 * pairS n w u y * invp p (pairp p n w u u)) * gI u k) % p := fun k hk => by rw [reflv_at hk, emm]
  have h1 := mod_dvd.1 (pairS_lin (w := w) (y := reflv p n w u y) hx)
  have h2 := mod_dvd.1 (pairS_lin (w := w) (y := x) hy)
  have h3 := mod_dvd.1 (pairS_lin (w := w) (y := u) hy)
  rw [pairS_comm n w x (reflv p n w u y), pairS_comm n w u (reflv p n w u y)] at h1
  rw [pairS_comm n w y x, pairS_comm n w u x] at *
  rw [pairS_comm n w y u] at h3
  generalize hX : pairS n w x u = X at *
  generalize hY : pairS n w u y = Y at *
  generalize invp p (pairp p n w u u) = t at *
  generalize pairS n w u u = Q at *
  generalize pairS n w x y = Z at *
  generalize pairS n w (reflv p n w u x) (reflv p n w u y) = A at *
  generalize pairS n w (reflv p n w u y) x = B at *
  generalize pairS n w (reflv p n w u y) u = C at *
  rw [mod_dvd]
  obtain ⟨k1, e1⟩ := h1
  obtain ⟨k2, e2⟩ := h2
  obtain ⟨k3, e3⟩ := h3
  obtain ⟨k4, e4⟩ := ht
  exact ⟨k1 + k2 + (-2 * X * t) * k3 + 4 * X * Y * t * k4, by grind⟩
/-- The reflection's table. -/
def reflm (p : Int) (n : Nat) (w u : List Int) : List (List Int) := turnm n n (vecN n fun k => reflv p n w u (axis n k))
theorem pairS_axis {n k : Nat} {w u : List Int} (hk : k < n) : pairS n w u (axis n k) = gI u k * gI w k := by
  unfold pairS
  rw [sumN_one hk (fun q hq hqk => by rw [gI_axis hk, if_neg hqk]; simp), gI_axis hk, if_pos rfl, Int.mul_one]
theorem reflm_at {p : Int} {n r k : Nat} {w u : List Int} (hr : r < n) (hk : k < n) : gI (gR (reflm p n w u) r) k = ((if r = k then 1 else 0) + (-2 * (gI u k * gI w k) * invp p (pairp p n w u u)) * gI u r) % p := by
  unfold reflm
  rw [turnm_at hk hr, gR_vecN _ hk, reflv_at hr, gI_axis hk, pairS_axis hk]
theorem refl_times {p : Int} {n i : Nat} {w u : List Int} {m : List (List Int)} (hp : 0 < p) (hi : i < n) :
    gR (turnm n n (timesm p n n n (reflm p n w u) m)) i = reflv p n w u (gR (turnm n n m) i) := by
  have hv := (reflv_vec hp n w u (gR (turnm n n m) i)).1
  rw [extI hv (f := gI (reflv p n w u (gR (turnm n n m) i))) fun k _ => rfl]
  refine extI (by unfold turnm; rw [gR_vecN _ hi, vecN_len]) fun r hr => ?_
  rw [turnm_at hr hi, reflv_at hr, turnm_at hr hi]
  unfold timesm
  rw [gR_vecN _ hr, gI_vecN _ hi]
  have e1 : sumN (fun j => gI (gR (reflm p n w u) r) j * gI (gR m j) i) n % p = sumN (fun j => (if r = j then gI (gR m j) i else 0) + (-2 * invp p (pairp p n w u u) * gI u r) * (gI u j * gI (gR m j) i * gI w j)) n % p := by
    refine sumN_mod fun j hj => ?_
    rw [reflm_at hr hj, mul_mod_l (emm _ _)]
    congr 1
    split <;> grind
  rw [e1, sumN_lin, sumN_one hr (fun q hq hqr => if_neg (fun e => hqr e.symm)), if_pos rfl]
  congr 2
  have e2 : sumN (fun k => gI u k * gI (gR m k) i * gI w k) n = pairS n w u (gR (turnm n n m) i) := by
    unfold pairS
    exact sumN_congr fun k hk => by rw [turnm_at hk hi]
  rw [e2]
  grind
/-- A table whose columns have the products of the basis. -/
def IsoT (p : Int) (n : Nat) (w : List Int) (m : List (List Int)) : Prop := ∀ i, i < n → ∀ j, j < n → pairp p n w (gR (turnm n n m) i) (gR (turnm n n m) j) = if i = j then gI w i else 0
theorem IsoT.refl {p : Int} {n : Nat} {w u : List Int} {m : List (List Int)} (hP : isP p = true) (h : IsoT p n w m) (hu : pairp p n w u u ≠ 0) : IsoT p n w (timesm p n n n (reflm p n w u) m) := by
  have hp := isP_le hP
  intro i hi j hj
  rw [refl_times (by omega) hi, refl_times (by omega) hj, reflv_pair hP hu]
  exact h i hi j hj
end Go.Vam

/- Plain laws: decompositions into reflections; HasSquareNorm. -/
namespace Go.Vam
open Go Go.RowKit
set_option linter.unusedSimpArgs false
set_option linter.unusedVariables false
set_option linter.unusedSectionVars false

section
variable {p : Int} {n : Nat} {w u : List Int} (hP : isP p = true) (hn0 : 0 < n) (hn : n ≤ 1000) (hwl : w.length = n) (hw : Vec p n w) (hu : Vec p n u) (hQ : pairp p n w u u ≠ 0)
include hP hn0 hn hwl hw hu hQ
end
/-- Rows of n numbers each. -/
def RowsV (p : Int) (n : Nat) (L : List (List Int)) : Prop := ∀ r ∈ L, Vec p n r
section
variable {p : Int} {n : Nat} {w : List Int} (hP : isP p = true) (hn0 : 0 < n) (hn : n ≤ 1000) (hwl : w.length = n) (hw : Vec p n w) (hz : ∀ k, k < n → gI w k ≠ 0)
include hP hn0 hn hwl hw hz
end
end Go.Vam

/- Plain laws: systems of equations and spans. -/
namespace Go.Vam
open Go Go.RowKit
set_option linter.unusedSimpArgs false
set_option linter.unusedVariables false
set_option linter.unusedSectionVars false

end Go.Vam

/- Plain law: FnKernels. -/
namespace Go.Vam
open Go Go.RowKit
set_option linter.unusedSimpArgs false
set_option linter.unusedVariables false
set_option linter.unusedSectionVars false

end Go.Vam

/- Plain laws: determinants of numbers, by expansion; they are multiplied with tables. -/
namespace Go.Vam
open Go Go.RowKit
set_option linter.unusedSimpArgs false
set_option linter.unusedVariables false
set_option linter.unusedSectionVars false

def skipN (i a : Nat) : Nat := if a < i then a else a + 1
def sgnN (i : Nat) : Int := if i % 2 = 0 then 1 else -1
/-- The determinant of the first n rows and columns, expanded along column 0. -/
def detN : Nat → (Nat → Nat → Int) → Int
  | 0, _ => 1
  | n + 1, M => sumN (fun i => sgnN i * M i 0 * detN n (fun a b => M (skipN i a) (b + 1))) (n + 1)
theorem sgnN_succ (i : Nat) : sgnN (i + 1) = - sgnN i := by
  unfold sgnN
  rcases Nat.mod_two_eq_zero_or_one i with h | h
  · rw [if_neg (by omega), if_pos h]
  · rw [if_pos (by omega), if_neg (by omega)]; rfl
theorem skipN_lt {n i a : Nat} (ha : a < n) : skipN i a < n + 1 := by unfold skipN; split <;> omega
theorem detN_congr : ∀ (n : Nat) {M M' : Nat → Nat → Int}, (∀ i, i < n → ∀ j, j < n → M i j = M' i j) → detN n M = detN n M'
  | 0, _, _, _ => rfl
  | n + 1, M, M', h => by
    unfold detN
    refine sumN_congr fun i hi => ?_
    rw [h i hi 0 (by omega), detN_congr n fun a ha b hb => h _ (skipN_lt ha) (b + 1) (by omega)]
theorem dvd_mul_sub {p a b x y : Int} (h1 : p ∣ a - b) (h2 : p ∣ x - y) : p ∣ a * x - b * y := by
  have e : a * x - b * y = (a - b) * x + b * (x - y) := by rw [Int.sub_mul, Int.mul_sub]; omega
  rw [e]
  exact Int.dvd_add (Int.dvd_mul_of_dvd_left h1) (Int.dvd_mul_of_dvd_right h2)
theorem sumN_cong_dvd {p : Int} {f g : Nat → Int} {n : Nat} (h : ∀ k, k < n → p ∣ f k - g k) : p ∣ sumN f n - sumN g n := by
  rw [← sumN_sub]; exact sumN_dvd h
theorem detN_mod {p : Int} : ∀ (n : Nat) {M M' : Nat → Nat → Int}, (∀ i, i < n → ∀ j, j < n → p ∣ M i j - M' i j) → p ∣ detN n M - detN n M'
  | 0, _, _, _ => by unfold detN; simp
  | n + 1, M, M', h => by
    unfold detN
    refine sumN_cong_dvd fun i hi => ?_
    refine dvd_mul_sub (dvd_mul_sub (by simp) (h i hi 0 (by omega))) (detN_mod n fun a ha b hb => h _ (skipN_lt ha) (b + 1) (by omega))

/-- Row i replaced. -/
def rowU (M : Nat → Nat → Int) (i : Nat) (r : Nat → Int) : Nat → Nat → Int := fun a b => if a = i then r b else M a b
theorem rowU_self (M : Nat → Nat → Int) (i : Nat) : rowU M i (M i) = M := by
  funext a b; unfold rowU; split
  · rename_i h; rw [h]
  · rfl
/-- Where row i stands when row k is left out. -/
def backN (k i : Nat) : Nat := if i < k then i else i - 1
theorem skipN_eq {k i a : Nat} (h : i ≠ k) : skipN k a = i ↔ a = backN k i := by
  unfold skipN backN
  constructor
  · intro e; split at e <;> split <;> omega
  · intro e; split at e <;> split <;> omega
theorem backN_lt {n k i : Nat} (hk : k < n + 1) (hi : i < n + 1) (h : i ≠ k) : backN k i < n := by unfold backN; split <;> omega
theorem minor_rowU {M : Nat → Nat → Int} {i k : Nat} {r : Nat → Int} (h : i ≠ k) : (fun a b => rowU M i r (skipN k a) (b + 1)) = rowU (fun a b => M (skipN k a) (b + 1)) (backN k i) (fun b => r (b + 1)) := by
  funext a b
  unfold rowU
  by_cases e : skipN k a = i
  · rw [if_pos e, if_pos ((skipN_eq h).1 e)]
  · rw [if_neg e, if_neg fun e' => e ((skipN_eq h).2 e')]
theorem minor_rowU_self {M : Nat → Nat → Int} {i : Nat} {r : Nat → Int} : (fun a b => rowU M i r (skipN i a) (b + 1)) = (fun a b => M (skipN i a) (b + 1)) := by
  funext a b
  unfold rowU
  rw [if_neg (by unfold skipN; split <;> omega)]
theorem detN_lin : ∀ (n : Nat) (M : Nat → Nat → Int) (i : Nat) (r s : Nat → Int) (c : Int), i < n →
    detN n (rowU M i (fun b => r b + c * s b)) = detN n (rowU M i r) + c * detN n (rowU M i s)
  | 0, _, _, _, _, _, h => by omega
  | n + 1, M, i, r, s, c, h => by
    unfold detN
    rw [← sumN_lin]
    refine sumN_congr fun k hk => ?_
    by_cases e : i = k
    · subst e
      rw [minor_rowU_self, minor_rowU_self, minor_rowU_self]
      simp only [rowU, if_true]
      grind
    · rw [minor_rowU e, minor_rowU e, minor_rowU e, detN_lin n _ _ (fun b => r (b + 1)) (fun b => s (b + 1)) c (backN_lt hk h e)]
      simp only [rowU, if_neg fun e' : k = i => e e'.symm]
      grind
theorem detN_adj : ∀ (n : Nat) (M : Nat → Nat → Int) (i : Nat), i + 1 < n → (∀ b, M i b = M (i + 1) b) → detN n M = 0
  | 0, _, _, h, _ => by omega
  | n + 1, M, i, h, he => by
    unfold detN
    rw [sumN_two (i := i) (k := i + 1) (by omega) h (by omega) fun k hk h1 h2 => ?_]
    · have e : (fun a b => M (skipN (i + 1) a) (b + 1)) = (fun a b => M (skipN i a) (b + 1)) := by
        funext a b
        by_cases ha : a = i
        · subst ha
          have e1 : skipN (a + 1) a = a := by unfold skipN; rw [if_pos (by omega)]
          have e2 : skipN a a = a + 1 := by unfold skipN; rw [if_neg (by omega)]
          rw [e1, e2]; exact he _
        · have : skipN (i + 1) a = skipN i a := by unfold skipN; split <;> split <;> omega
          rw [this]
      rw [e, sgnN_succ, he 0]
      grind
    · have : detN n (fun a b => M (skipN k a) (b + 1)) = 0 := by
        by_cases hki : k < i
        · refine detN_adj n _ (i - 1) (by omega) fun b => ?_
          have e1 : skipN k (i - 1) = i := by unfold skipN; rw [if_neg (by omega)]; omega
          have e2 : skipN k (i - 1 + 1) = i + 1 := by unfold skipN; rw [if_neg (by omega)]; omega
          simp only [e1, e2]; exact he _
        · refine detN_adj n _ i (by omega) fun b => ?_
          have e1 : skipN k i = i := by unfold skipN; rw [if_pos (by omega)]
          have e2 : skipN k (i + 1) = i + 1 := by unfold skipN; rw [if_pos (by omega)]
          simp only [e1, e2]; exact he _
      rw [this, Int.mul_zero]
theorem detN_swap_of {n i k : Nat} (hi : i < n) (hk : k < n) (hne : i ≠ k) (alt : ∀ M : Nat → Nat → Int, (∀ b, M i b = M k b) → detN n M = 0) (M : Nat → Nat → Int) :
    detN n (rowU (rowU M i (M k)) k (M i)) = - detN n M := by
  have key : ∀ r s : Nat → Int, detN n (rowU (rowU M i r) k s) + detN n (rowU (rowU M i s) k r) = 0 := by
    intro r s
    have h0 := alt (rowU (rowU M i (fun b => r b + 1 * s b)) k (fun b => r b + 1 * s b)) fun b => by
      simp only [rowU, if_true, if_neg hne]
    have h1 := alt (rowU (rowU M i r) k r) fun b => by simp only [rowU, if_true, if_neg hne]
    have h2 := alt (rowU (rowU M i s) k s) fun b => by simp only [rowU, if_true, if_neg hne]
    have cm : ∀ u v : Nat → Int, rowU (rowU M i u) k v = rowU (rowU M k v) i u := by
      intro u v; funext a b; unfold rowU
      by_cases a1 : a = i
      · subst a1; rw [if_neg hne, if_pos rfl, if_pos rfl]
      · simp only [if_neg a1]
    rw [detN_lin n (rowU M i (fun b => r b + 1 * s b)) k r s 1 hk, cm, cm, detN_lin n (rowU M k r) i r s 1 hi, detN_lin n (rowU M k s) i r s 1 hi] at h0
    rw [cm] at h1 h2
    rw [cm, cm]
    omega
  have h := key (M k) (M i)
  have e : rowU (rowU M i (M i)) k (M k) = M := by rw [rowU_self, rowU_self]
  rw [e] at h
  omega
theorem detN_alt {n : Nat} : ∀ (t i : Nat) (M : Nat → Nat → Int), i + 1 + t < n → (∀ b, M i b = M (i + 1 + t) b) → detN n M = 0
  | 0, i, M, h, he => detN_adj n M i h he
  | t + 1, i, M, h, he => by
    have hs := detN_swap_of (n := n) (i := i + 1 + t) (k := i + 1 + (t + 1)) (by omega) h (by omega) (fun M hM => detN_adj n M (i + 1 + t) (by omega) hM) M
    have h0 := detN_alt (n := n) t i (rowU (rowU M (i + 1 + t) (M (i + 1 + (t + 1)))) (i + 1 + (t + 1)) (M (i + 1 + t))) (by omega) fun b => by
      simp only [rowU, if_true, if_neg (show i ≠ i + 1 + (t + 1) by omega), if_neg (show i ≠ i + 1 + t by omega), if_neg (show i + 1 + t ≠ i + 1 + (t + 1) by omega)]
      exact he b
    omega
theorem detN_same {n i k : Nat} (hi : i < n) (hk : k < n) (hne : i ≠ k) (M : Nat → Nat → Int) (he : ∀ b, M i b = M k b) : detN n M = 0 := by
  rcases Nat.lt_or_gt_of_ne hne with h | h
  · exact detN_alt (k - i - 1) i M (by omega) fun b => by rw [he b]; congr 1; omega
  · exact detN_alt (i - k - 1) k M (by omega) fun b => by rw [← he b]; congr 1; omega
/-- Multiples of row k added to all others. -/
theorem detN_clear {n k : Nat} (hk : k < n) (M : Nat → Nat → Int) (c : Nat → Int) : detN n (fun a b => if a = k then M k b else M a b + c a * M k b) = detN n M := by
  have key : ∀ m, m ≤ n → detN n (fun a b => if a = k then M k b else if a < m then M a b + c a * M k b else M a b) = detN n M := by
    intro m
    induction m with
    | zero =>
      intro _
      refine detN_congr n fun a ha b hb => ?_
      by_cases e : a = k
      · rw [if_pos e, e]
      · rw [if_neg e, if_neg (by omega)]
    | succ m ih =>
      intro hm
      rw [← ih (by omega)]
      by_cases e : m = k
      · refine detN_congr n fun a ha b hb => ?_
        by_cases e2 : a = k
        · rw [if_pos e2, if_pos e2]
        · rw [if_neg e2, if_neg e2]
          by_cases e3 : a < m
          · rw [if_pos e3, if_pos (by omega)]
          · rw [if_neg e3, if_neg (by omega)]
      · generalize hH : (fun a b => if a = k then M k b else if a < m then M a b + c a * M k b else M a b) = H
        have h1 := detN_lin n H m (fun b => H m b) (fun b => H k b) (c m) (by omega)
        have h2 : detN n (rowU H m (fun b => H k b)) = 0 := detN_same (i := m) (k := k) (by omega) hk e _ fun b => by
          simp only [rowU, if_true, if_neg fun e' : k = m => e e'.symm]
        have h3 : rowU H m (fun b => H m b) = H := rowU_self H m
        rw [h2, h3, Int.mul_zero, Int.add_zero] at h1
        rw [← h1]
        refine detN_congr n fun a ha b hb => ?_
        unfold rowU
        rw [← hH]
        simp only [if_true]
        by_cases e2 : a = k
        · rw [if_pos e2, if_neg (by omega)]; rw [if_pos e2]
        · rw [if_neg e2]
          by_cases e3 : a = m
          · subst e3
            rw [if_pos (by omega), if_pos rfl, if_neg e2, if_neg (by omega)]
          · rw [if_neg e3, if_neg e2]
            by_cases e4 : a < m
            · rw [if_pos e4, if_pos (by omega)]
            · rw [if_neg e4, if_neg (by omega)]
  rw [← key n (Nat.le_refl n)]
  refine detN_congr n fun a ha b hb => ?_
  by_cases e : a = k
  · rw [if_pos e, if_pos e]
  · rw [if_neg e, if_neg e, if_pos ha]

def mulN (n : Nat) (A B : Nat → Nat → Int) : Nat → Nat → Int := fun a b => sumN (fun j => A a j * B j b) n
def prodN (f : Nat → Int) : Nat → Int
  | 0 => 1
  | k + 1 => prodN f k * f k
/-- The steps of an elimination: what they do to a product's determinant. -/
def QN (p : Int) (n : Nat) (A A' : Nat → Nat → Int) (s : Int) : Prop := (s = 1 ∨ s = -1) ∧ ∀ B, p ∣ detN n (mulN n A' B) - s * detN n (mulN n A B)
theorem QN.refl (p : Int) (n : Nat) (A : Nat → Nat → Int) : QN p n A A 1 := ⟨.inl rfl, fun B => by simp⟩
theorem QN.clear {p : Int} {n k : Nat} {A M : Nat → Nat → Int} {s : Int} (hk : k < n) (h : QN p n A M s) (c : Nat → Int) : QN p n A (fun a b => if a = k then M k b else M a b + c a * M k b) s := by
  refine ⟨h.1, fun B => ?_⟩
  have e : detN n (mulN n (fun a b => if a = k then M k b else M a b + c a * M k b) B) = detN n (mulN n M B) := by
    rw [← detN_clear hk (mulN n M B) c]
    refine detN_congr n fun a ha b hb => ?_
    unfold mulN
    by_cases ea : a = k
    · subst ea
      simp only [if_true]
    · simp only [if_neg ea]
      rw [← sumN_lin]
      refine sumN_congr fun j hj => ?_
      grind
  rw [e]; exact h.2 B
end Go.Vam

/- Plain laws: the programs' determinant is the expansion's. -/
namespace Go.Vam
open Go Go.RowKit
set_option linter.unusedSimpArgs false
set_option linter.unusedVariables false
set_option linter.unusedSectionVars false

def asN (m : List (List Int)) : Nat → Nat → Int := fun a b => gI (gR m a) b
def detL (r : Nat) (m : List (List Int)) : Int := detN r (asN m)
theorem prodN_congr {f g : Nat → Int} : ∀ {n : Nat}, (∀ k, k < n → f k = g k) → prodN f n = prodN g n
  | 0, _ => rfl
  | n + 1, h => by simp only [prodN, prodN_congr (n := n) fun k hk => h k (by omega), h n (by omega)]
/-- What the elimination keeps. -/
def DetInv (p : Int) (r : Nat) (M0 M : List (List Int)) (d : Int) (k : Nat) : Prop :=
  ∃ s : Int, p ∣ detL r M0 - s * detL r M ∧ p ∣ d - s * prodN (fun j => gI (gR M j) j) k
theorem DetInv.refl (p : Int) (r : Nat) (M0 : List (List Int)) : DetInv p r M0 M0 1 0 := ⟨1, by simp, by simp [prodN]⟩
theorem DetInv.clear {p : Int} {r k : Nat} {M0 M y : List (List Int)} {R : List Int} {d : Int} (h : DetInv p r M0 M d k) (hk : k < r) (hMk : gR M k = R) (hy : ∀ j, j < r → gR y j = if k < j then clp p r k R (gR M j) else gR M j) :
    DetInv p r M0 y (d * gI R k % p) (k + 1) := by
  obtain ⟨s, h1, h2⟩ := h
  have e : p ∣ detL r y - detL r M := by
    unfold detL
    rw [← detN_clear hk (asN M) (fun a => if k < a then (p - gI (gR M a) k) * invp p (gI R k) % p else 0)]
    refine detN_mod r fun a ha b hb => ?_
    simp only [asN]
    rw [hy a ha]
    by_cases e1 : a = k
    · rw [if_neg (by omega), if_pos e1, e1]; simp
    · rw [if_neg e1]
      by_cases e2 : k < a
      · rw [if_pos e2, if_pos e2]
        unfold clp
        rw [plusv_at hb, hMk, ← mod_dvd, emm]
      · rw [if_neg e2, if_neg e2]; simp
  have e3 : prodN (fun j => gI (gR y j) j) (k + 1) = prodN (fun j => gI (gR M j) j) k * gI R k := by
    simp only [prodN]
    rw [hy k hk, if_neg (by omega), hMk, prodN_congr (g := fun j => gI (gR M j) j) fun j hj => by rw [hy j (by omega), if_neg (by omega)]]
  refine ⟨s, ?_, ?_⟩
  · have : detL r M0 - s * detL r y = (detL r M0 - s * detL r M) - s * (detL r y - detL r M) := by grind
    rw [this]
    exact Int.dvd_sub h1 (Int.dvd_mul_of_dvd_right e)
  · rw [e3]
    have h3 : p ∣ d * gI R k % p - d * gI R k := by rw [← mod_dvd, emm]
    refine dvd_trans_sub h3 ?_
    have : d * gI R k - s * (prodN (fun j => gI (gR M j) j) k * gI R k) = (d - s * prodN (fun j => gI (gR M j) j) k) * gI R k := by grind
    rw [this]
    exact Int.dvd_mul_of_dvd_left h2

section
variable {p : Int} {r : Nat} (hP : isP p = true) (hr : r ≤ 1048576)
include hP hr
end
end Go.Vam

/- Plain laws: products are associative; turned products; ranks and determinants of products. -/
namespace Go.Vam
open Go Go.RowKit
set_option linter.unusedSimpArgs false
set_option linter.unusedVariables false
set_option linter.unusedSectionVars false

end Go.Vam

/- Plain laws: powers, exponents are added. -/
namespace Go.Vam
open Go Go.RowKit
set_option linter.unusedSimpArgs false
set_option linter.unusedVariables false
set_option linter.unusedSectionVars false

end Go.Vam

/- Plain laws: norms of elements; ConjugationBy. -/
namespace Go.Vam
open Go Go.RowKit
set_option linter.unusedSimpArgs false
set_option linter.unusedVariables false
set_option linter.unusedSectionVars false

theorem sumN_split (f : Nat → Int) (a b : Nat) : sumN f (a + b) = sumN f a + sumN (fun k => f (a + k)) b := by
  induction b with
  | zero => simp [sumN]
  | succ b ih => rw [← Nat.add_assoc]; simp only [sumN]; rw [ih]; omega
/-- The unit's place of a product. -/
theorem mulr_unit {p : Int} : ∀ (n : Nat) (w x y : List Int), gI (mulr p n w x y) 0 % p = sumN (fun k => gI x k * gI y k * axS n w k k) (2 ^ n) % p
  | 0, w, x, y => by
    unfold mulr
    show gI x 0 * gI y 0 % p % p = _
    rw [emm]
    simp [sumN, axS]
  | n + 1, w, x, y => by
    have hpow : 2 ^ (n + 1) = 2 ^ n + 2 ^ n := by rw [Nat.pow_succ]; omega
    have i1 := mulr_unit (p := p) n (w.take n) (x.take (2 ^ n)) (y.take (2 ^ n))
    have i2 := mulr_unit (p := p) n (w.take n) (starv p (2 ^ n) (y.drop (2 ^ n))) (x.drop (2 ^ n))
    have hpos := two_pos n
    unfold mulr
    rw [hpow, sumN_split]
    generalize hd : 2 ^ n = d at i1 i2 hpos ⊢
    rw [gI_append, if_pos (by unfold plusv; rw [vecN_len]; exact hpos), plusv_at hpos, emm]
    have e1 : sumN (fun k => gI (x.take d) k * gI (y.take d) k * axS n (w.take n) k k) d = sumN (fun k => gI x k * gI y k * axS (n + 1) w k k) d := by
      refine sumN_congr fun k hk => ?_
      rw [gI_take hk, gI_take hk]
      conv => rhs; unfold axS
      rw [hd, if_pos hk, if_pos hk]
    have e2 : (gI w n * sumN (fun k => gI (starv p d (y.drop d)) k * gI (x.drop d) k * axS n (w.take n) k k) d) % p = sumN (fun k => gI x (d + k) * gI y (d + k) * axS (n + 1) w (d + k) (d + k)) d % p := by
      rw [← sumN_mulL]
      refine sumN_mod fun k hk => ?_
      conv => rhs; unfold axS
      rw [hd, if_neg (by omega), if_neg (by omega), Nat.add_sub_cancel_left, gI_drop]
      have hs := starv_at (p := p) (a := y.drop d) hk
      rw [gI_drop] at hs
      have a1 : gI w n * (gI (starv p d (y.drop d)) k * gI x (d + k) * axS n (w.take n) k k) = gI (starv p d (y.drop d)) k * (gI w n * gI x (d + k) * axS n (w.take n) k k) := by grind
      rw [a1, mul_mod_l hs]
      congr 1
      grind
    rw [Int.add_emod, i1, Int.mul_emod, i2, ← Int.mul_emod, e2, e1, ← Int.add_emod]
/-- The norm. -/
def nrm (p : Int) (w x : List Int) : Int := sumN (fun k => gI (dgv p w w.length) k * gI x k * gI x k) (2 ^ w.length) % p
section
variable {p : Int} {w x : List Int} (hP : isP p = true) (hl : w.length ≤ 4) (hw : Vec p w.length w) (hx : Vec p (2 ^ w.length) x)
include hP hl hw hx
theorem i_norm_eq : i_Doubling_norm p w x = some (nrm p w x) := by
  have hp := isP_le hP
  have h16 := two_le hl
  have hpos := two_pos w.length
  have hs := starv_vec hp.1 hp.2 (by omega) hpos hx
  have hv := mulp_vec hP hl hw hx hs
  unfold i_Doubling_norm i_Doubling_field
  rw [some_bind, i_field_conjugate_eq hp.1 hp.2 (by omega) hpos hx, some_bind, i_Doubling_times_eq hP hl hw hx hs, some_bind, idxI0 (by rw [hv.1]; exact hpos), some_bind]
  congr 1
  have h0 := hv.get hpos
  rw [← mod_small h0.1 h0.2]
  unfold mulp nrm
  rw [mulr_unit]
  refine sumN_mod fun k hk => ?_
  have h1 := starv_at (p := p) (a := x) hk
  have h2 := dgv_at (p := p) (by omega) w.length w k hk
  have a1 : gI x k * gI (starv p (2 ^ w.length) x) k * axS w.length w k k = gI (starv p (2 ^ w.length) x) k * (gI x k * axS w.length w k k) := by grind
  have a2 : gI (dgv p w w.length) k * gI x k * gI x k = gI (dgv p w w.length) k * (gI x k * gI x k) := by grind
  rw [a1, mul_mod_l h1, a2, mul_mod_l h2]
  congr 1
  grind
end
section
variable {p : Int} {w a b : List Int} (hP : isP p = true) (hl : w.length ≤ 4) (hw : Vec p w.length w) (ha : Vec p (2 ^ w.length) a) (hb : Vec p (2 ^ w.length) b)
include hP hl hw ha hb
end
end Go.Vam

/- Plain law: FnMatrixProducts. -/
namespace Go.Vam
open Go Go.RowKit
set_option linter.unusedSimpArgs false
set_option linter.unusedVariables false
set_option linter.unusedSectionVars false

section
variable {p : Int} {r n c : Nat} {a b : List (List Int)} (hP : isP p = true) (ha : Mat p r n a) (hr0 : 1 ≤ r) (hr : r ≤ 16) (hn0 : 1 ≤ n) (hn : n ≤ 16)
include hP ha hr0 hr hn0 hn
end
end Go.Vam

/- Plain laws: inverses of tables. -/
namespace Go.Vam
open Go Go.RowKit
set_option linter.unusedSimpArgs false
set_option linter.unusedVariables false
set_option linter.unusedSectionVars false

/-- The table with the unit behind it. -/
def widem (n : Nat) (a : List (List Int)) : List (List Int) := vecN n fun i => gR a i ++ axis n i
section
variable {p : Int} {n : Nat} {a : List (List Int)} (hp : 1 < p) (hn : n ≤ 1000) (ha : Mat p n n a)
include hp hn ha
end
section
variable {p : Int} {n : Nat} {a B : List (List Int)} {ld : Nat → Nat} (hP : isP p = true) (hn0 : 1 ≤ n) (hn : n ≤ 1000) (ha : Mat p n n a) (hB : Ech p (n + n) B ld) (hk : ∀ u, Kr p (n + n) B u ↔ KerP p n (n + n) (widem n a) u)
include hP hn0 hn ha hB hk
end

section
variable {p : Int} {n : Nat} {a : List (List Int)} (hP : isP p = true) (hn0 : 1 ≤ n) (hn : n ≤ 16) (ha : Mat p n n a)
include hP hn0 hn ha
end
end Go.Vam

/- Plain laws: the coordinates of a product; pure elements of few steps anticommute up to their pairing. -/
namespace Go.Vam
open Go Go.RowKit
set_option linter.unusedSimpArgs false
set_option linter.unusedVariables false
set_option linter.unusedSectionVars false

/-- Sums over all places are sums over all places moved. -/
theorem sum_xor (f : Nat → Int) : ∀ n, n ≤ 4 → ∀ m, m < 2 ^ n → ∀ s, sumN (fun i => f (s + (i ^^^ m))) (2 ^ n) = sumN (fun i => f (s + i)) (2 ^ n)
  | 0, _, m, hm, s => by
    have : m = 0 := by simpa using hm
    subst this; simp [sumN]
  | n + 1, hn, m, hm, s => by
    have hpow : 2 ^ (n + 1) = 2 ^ n + 2 ^ n := by rw [Nat.pow_succ]; omega
    have hX := xor_hi n (by omega)
    have ih := sum_xor f n (by omega)
    rw [hpow] at hm ⊢
    rw [sumN_split, sumN_split]
    rcases Nat.lt_or_ge m (2 ^ n) with h | h
    · congr 1
      · exact ih m h s
      · have e : sumN (fun k => f (s + ((2 ^ n + k) ^^^ m))) (2 ^ n) = sumN (fun k => f (s + 2 ^ n + (k ^^^ m))) (2 ^ n) := sumN_congr fun k hk => by rw [(hX k hk m h).2.1, Nat.add_assoc]
        rw [e, ih m h (s + 2 ^ n)]
        exact sumN_congr fun k hk => by rw [Nat.add_assoc]
    · obtain ⟨m', rfl⟩ := Nat.exists_eq_add_of_le h
      have hm' : m' < 2 ^ n := by omega
      have e1 : sumN (fun k => f (s + (k ^^^ (2 ^ n + m')))) (2 ^ n) = sumN (fun k => f (s + 2 ^ n + (k ^^^ m'))) (2 ^ n) := sumN_congr fun k hk => by rw [(hX k hk m' hm').1, Nat.add_assoc]
      have e2 : sumN (fun k => f (s + ((2 ^ n + k) ^^^ (2 ^ n + m')))) (2 ^ n) = sumN (fun k => f (s + (k ^^^ m'))) (2 ^ n) := sumN_congr fun k hk => by rw [(hX k hk m' hm').2.2]
      rw [e1, e2, ih m' hm' (s + 2 ^ n), ih m' hm' s, Int.add_comm]
      congr 1
      exact sumN_congr fun k hk => by rw [Nat.add_assoc]
theorem sum_xor0 (f : Nat → Int) {n m : Nat} (hn : n ≤ 4) (hm : m < 2 ^ n) : sumN (fun i => f (i ^^^ m)) (2 ^ n) = sumN f (2 ^ n) := by
  have := sum_xor f n hn m hm 0
  simpa only [Nat.zero_add] using this
theorem xor_back (i m : Nat) : (i ^^^ m) ^^^ m = i := by rw [Nat.xor_assoc, Nat.xor_self, Nat.xor_zero]

/-- The coordinates of a product. -/
theorem mulr_gen {p : Int} : ∀ (n : Nat), n ≤ 4 → ∀ (w x y : List Int) (m : Nat), m < 2 ^ n → gI (mulr p n w x y) m % p = sumN (fun i => gI x i * gI y (i ^^^ m) * axS n w i (i ^^^ m)) (2 ^ n) % p
  | 0, _, w, x, y, m, hm => by
    have : m = 0 := by simpa using hm
    subst this
    unfold mulr
    show gI x 0 * gI y 0 % p % p = _
    rw [emm]
    simp [sumN, axS]
  | n + 1, hn, w, x, y, m, hm => by
    have hpow : 2 ^ (n + 1) = 2 ^ n + 2 ^ n := by rw [Nat.pow_succ]; omega
    have hX := xor_hi n (by omega)
    have hlt : ∀ a b, a < 2 ^ n → b < 2 ^ n → a ^^^ b < 2 ^ n := fun a b ha hb => xor_lt ha hb
    have hre : ∀ (f : Nat → Int) (m : Nat), m < 2 ^ n → sumN (fun i => f (i ^^^ m)) (2 ^ n) = sumN f (2 ^ n) := fun f m h => sum_xor0 f (by omega) h
    have ih := mulr_gen (p := p) n (by omega) (w.take n)
    unfold mulr
    rw [hpow] at hm
    rw [hpow, sumN_split]
    generalize hd : 2 ^ n = d at hm hX hlt hre ih ⊢
    have hl : ∀ u v k, (plusv p d u v k).length = d := fun u v k => by unfold plusv; rw [vecN_len]
    rcases Nat.lt_or_ge m d with h | h
    · rw [gI_append, if_pos (by rw [hl]; exact h), plusv_at h, emm, Int.add_emod, ih _ _ m h, Int.mul_emod, ih _ _ m h, ← Int.mul_emod]
      have e1 : sumN (fun i => gI (x.take d) i * gI (y.take d) (i ^^^ m) * axS n (w.take n) i (i ^^^ m)) d = sumN (fun i => gI x i * gI y (i ^^^ m) * axS (n + 1) w i (i ^^^ m)) d := by
        refine sumN_congr fun i hi => ?_
        have hx := hlt i m hi h
        rw [gI_take hi, gI_take hx]
        conv => rhs; unfold axS
        rw [hd, if_pos hi, if_pos hx]
      have e2 : (gI w n * sumN (fun i => gI (starv p d (y.drop d)) i * gI (x.drop d) (i ^^^ m) * axS n (w.take n) i (i ^^^ m)) d) % p = sumN (fun i => gI x (d + i) * gI y ((d + i) ^^^ m) * axS (n + 1) w (d + i) ((d + i) ^^^ m)) d % p := by
        rw [← hre (fun i => gI (starv p d (y.drop d)) i * gI (x.drop d) (i ^^^ m) * axS n (w.take n) i (i ^^^ m)) m h, ← sumN_mulL]
        refine sumN_mod fun i hi => ?_
        have hx := hlt i m hi h
        have hb := xor_back i m
        conv => rhs; unfold axS
        rw [hd, (hX i hi m h).2.1, if_neg (by omega), if_neg (by omega), Nat.add_sub_cancel_left, Nat.add_sub_cancel_left, hb, gI_drop]
        have hs := starv_at (p := p) (a := y.drop d) hx
        rw [gI_drop] at hs
        have a1 : gI w n * (gI (starv p d (y.drop d)) (i ^^^ m) * gI x (d + i) * axS n (w.take n) (i ^^^ m) i) = gI (starv p d (y.drop d)) (i ^^^ m) * (gI w n * gI x (d + i) * axS n (w.take n) (i ^^^ m) i) := by grind
        rw [a1, mul_mod_l hs]
        congr 1
        grind
      rw [e2, e1, ← Int.add_emod]
    · obtain ⟨m', rfl⟩ := Nat.exists_eq_add_of_le h
      have hm' : m' < d := by omega
      rw [gI_append, if_neg (by rw [hl]; omega), hl, Nat.add_sub_cancel_left, plusv_at hm', emm, Int.add_emod, ih _ _ m' hm', Int.mul_emod, ih _ _ m' hm', ← Int.mul_emod, Int.one_mul]
      have e1 : sumN (fun i => gI (y.drop d) i * gI (x.take d) (i ^^^ m') * axS n (w.take n) i (i ^^^ m')) d = sumN (fun i => gI x i * gI y (i ^^^ (d + m')) * axS (n + 1) w i (i ^^^ (d + m'))) d := by
        rw [← hre (fun i => gI (y.drop d) i * gI (x.take d) (i ^^^ m') * axS n (w.take n) i (i ^^^ m')) m' hm']
        refine sumN_congr fun i hi => ?_
        have hx := hlt i m' hi hm'
        have hb := xor_back i m'
        conv => rhs; unfold axS
        rw [hd, (hX i hi m' hm').1, if_pos hi, if_neg (by omega), Nat.add_sub_cancel_left, hb, gI_drop, gI_take hi]
        grind
      have e2 : sumN (fun i => gI (x.drop d) i * gI (starv p d (y.take d)) (i ^^^ m') * axS n (w.take n) i (i ^^^ m')) d % p = sumN (fun i => gI x (d + i) * gI y ((d + i) ^^^ (d + m')) * axS (n + 1) w (d + i) ((d + i) ^^^ (d + m'))) d % p := by
        refine sumN_mod fun i hi => ?_
        have hx := hlt i m' hi hm'
        conv => rhs; unfold axS
        rw [hd, (hX i hi m' hm').2.2, if_neg (by omega), if_pos hx, Nat.add_sub_cancel_left, gI_drop]
        have hs := starv_at (p := p) (a := y.take d) hx
        rw [gI_take hx] at hs
        have a1 : gI x (d + i) * gI (starv p d (y.take d)) (i ^^^ m') * axS n (w.take n) i (i ^^^ m') = gI (starv p d (y.take d)) (i ^^^ m') * (gI x (d + i) * axS n (w.take n) i (i ^^^ m')) := by grind
        rw [a1, mul_mod_l hs]
        congr 1
        grind
      rw [e2, e1, ← Int.add_emod]

/-! ### The sign of a product of axes, apart from the steps' numbers -/
def sgF : Nat → Nat → Nat → Int
  | 0, _, _ => 1
  | n + 1, i, j =>
    if i < 2 ^ n then (if j < 2 ^ n then sgF n i j else sgF n (j - 2 ^ n) i)
    else (if j < 2 ^ n then sgs j * sgF n (i - 2 ^ n) j else sgs (j - 2 ^ n) * sgF n (j - 2 ^ n) (i - 2 ^ n))
/-- The product of the steps' numbers named by the digits. -/
def wpF (w : List Int) : Nat → Nat → Int
  | 0, _ => 1
  | n + 1, m => (if m < 2 ^ n then 1 else gI w n) * wpF w n (m % 2 ^ n)
theorem wpF_take {w : List Int} {N : Nat} : ∀ n, n ≤ N → ∀ m, wpF (w.take N) n m = wpF w n m
  | 0, _, _ => rfl
  | n + 1, h, m => by
    unfold wpF
    rw [wpF_take n (by omega), gI_take (by omega)]
theorem and_lt' : ∀ n, n ≤ 4 → ∀ i, i < 2 ^ n → ∀ j, j < 2 ^ n → i &&& j < 2 ^ n := fun n _ i hi j hj => Nat.lt_of_le_of_lt Nat.and_le_left hi
theorem and_hi : ∀ n, n < 4 → ∀ i, i < 2 ^ n → ∀ j, j < 2 ^ n → i &&& (2 ^ n + j) = (i &&& j) ∧ (2 ^ n + i) &&& j = (i &&& j) ∧ (2 ^ n + i) &&& (2 ^ n + j) = 2 ^ n + (i &&& j) := by decide
theorem axS_split : ∀ n, n ≤ 4 → ∀ (w : List Int) i j, i < 2 ^ n → j < 2 ^ n → axS n w i j = sgF n i j * wpF w n (i &&& j)
  | 0, _, w, i, j, _, _ => rfl
  | n + 1, hn, w, i, j, hi, hj => by
    have hpow : 2 ^ (n + 1) = 2 ^ n + 2 ^ n := by rw [Nat.pow_succ]; omega
    rw [hpow] at hi hj
    have ih := axS_split n (by omega) (w.take n)
    have hA := and_hi n (by omega)
    have hL := and_lt' n (by omega)
    have hw := wpF_take (w := w) (N := n) n (Nat.le_refl _)
    unfold axS sgF wpF
    generalize hd : 2 ^ n = d at hi hj ih hA hL ⊢
    rcases Nat.lt_or_ge i d with h1 | h1 <;> rcases Nat.lt_or_ge j d with h2 | h2
    · have h3 := hL i h1 j h2
      rw [if_pos h1, if_pos h2, if_pos h1, if_pos h2, if_pos h3, Int.one_mul, Nat.mod_eq_of_lt h3, ih i j h1 h2, hw]
    · obtain ⟨j', rfl⟩ := Nat.exists_eq_add_of_le h2
      have h3 := hL i h1 j' (by omega)
      rw [if_pos h1, if_neg (by omega), if_pos h1, if_neg (by omega), Nat.add_sub_cancel_left, (hA i h1 j' (by omega)).1, if_pos h3, Int.one_mul, Nat.mod_eq_of_lt h3, ih j' i (by omega) h1, hw, Nat.and_comm]
    · obtain ⟨i', rfl⟩ := Nat.exists_eq_add_of_le h1
      have h3 := hL i' (by omega) j h2
      rw [if_neg (by omega), if_pos h2, if_neg (by omega), if_pos h2, Nat.add_sub_cancel_left, (hA i' (by omega) j h2).2.1, if_pos h3, Int.one_mul, Nat.mod_eq_of_lt h3, ih i' j (by omega) h2, hw, Int.mul_assoc]
    · obtain ⟨i', rfl⟩ := Nat.exists_eq_add_of_le h1
      obtain ⟨j', rfl⟩ := Nat.exists_eq_add_of_le h2
      have h3 := hL i' (by omega) j' (by omega)
      have h4 : (d + (i' &&& j')) % d = i' &&& j' := by rw [Nat.add_mod_left, Nat.mod_eq_of_lt h3]
      rw [if_neg (by omega), if_neg (by omega), if_neg (by omega), if_neg (by omega), Nat.add_sub_cancel_left, Nat.add_sub_cancel_left, (hA i' (by omega) j' (by omega)).2.2, if_neg (by omega), h4, ih j' i' (by omega) (by omega), hw, Nat.and_comm j' i']
      grind
theorem wpF_self (w : List Int) : ∀ n, n ≤ 4 → ∀ i, i < 2 ^ n → ∀ k, k < 2 ^ n → wpF w n (i &&& k) * wpF w n (i &&& (i ^^^ k)) = wpF w n (i &&& i)
  | 0, _, i, _, k, _ => rfl
  | n + 1, hn, i, hi, k, hk => by
    have hpow : 2 ^ (n + 1) = 2 ^ n + 2 ^ n := by rw [Nat.pow_succ]; omega
    rw [hpow] at hi hk
    have ih := wpF_self w n (by omega)
    have hA := and_hi n (by omega)
    have hX := xor_hi n (by omega)
    have hL := and_lt' n (by omega)
    have hlt : ∀ a b, a < 2 ^ n → b < 2 ^ n → a ^^^ b < 2 ^ n := fun a b ha hb => xor_lt ha hb
    unfold wpF
    generalize hd : 2 ^ n = d at hi hk ih hA hX hL hlt ⊢
    have hm : ∀ m, m < d → (d + m) % d = m := fun m hm => by rw [Nat.add_mod_left, Nat.mod_eq_of_lt hm]
    have lo : ∀ m, m < d → (if m < d then (1 : Int) else gI w n) * wpF w n (m % d) = wpF w n m := fun m h => by rw [if_pos h, Int.one_mul, Nat.mod_eq_of_lt h]
    have up : ∀ m, m < d → (if d + m < d then (1 : Int) else gI w n) * wpF w n ((d + m) % d) = gI w n * wpF w n m := fun m h => by rw [if_neg (by omega), hm m h]
    have e : ∀ x, x < d + d → ∃ y, y < d ∧ (x = y ∨ x = d + y) := fun x hx => by
      rcases Nat.lt_or_ge x d with h | h
      · exact ⟨x, h, .inl rfl⟩
      · exact ⟨x - d, by omega, .inr (by omega)⟩
    obtain ⟨i', i1, i2⟩ := e i hi
    obtain ⟨k', k1, k2⟩ := e k hk
    have key := ih i' i1 k' k1
    have a2 := hL i' i1 k' k1
    have a4 := hlt i' k' i1 k1
    have a5 := hL i' i1 _ a4
    have a6 := hL i' i1 i' i1
    rcases i2 with rfl | rfl <;> rcases k2 with rfl | rfl <;>
      simp only [(hA _ i1 _ k1).1, (hA _ i1 _ k1).2.1, (hA _ i1 _ k1).2.2, (hA _ i1 _ i1).2.2, (hX _ i1 _ k1).1, (hX _ i1 _ k1).2.1, (hX _ i1 _ k1).2.2,
        (hA _ i1 _ a4).1, (hA _ i1 _ a4).2.1, (hA _ i1 _ a4).2.2, lo _ a2, lo _ a5, lo _ a6, up _ a2, up _ a5, up _ a6] <;> grind
end Go.Vam

/- Plain law: FnMultiplicationMatrices. -/
namespace Go.Vam
open Go Go.RowKit
set_option linter.unusedSimpArgs false
set_option linter.unusedVariables false
set_option linter.unusedSectionVars false

section
variable {p : Int} {w x : List Int} (hP : isP p = true) (hl : w.length ≤ 4) (hw : Vec p w.length w) (hx : Vec p (2 ^ w.length) x)
include hP hl hw hx
end
end Go.Vam

/- Plain law: FnMultiplicationMatrices, the end. -/
namespace Go.Vam
open Go Go.RowKit
set_option linter.unusedSimpArgs false
set_option linter.unusedVariables false
set_option linter.unusedSectionVars false

section
variable {p : Int} {w x : List Int} (hw : w.length ≤ 1048576) (hx : x.length ≤ 1048576)
include hw hx
end
section
variable {p : Int} {w x : List Int} (hD : isDb p w = true) (hx : Vec p (2 ^ w.length) x)
include hD hx
end
section
variable {p : Int} {w a b : List Int} (hP : isP p = true) (hl : w.length ≤ 3) (hw : Vec p w.length w) (ha : Vec p (2 ^ w.length) a) (hb : Vec p (2 ^ w.length) b) (ha0 : gI a 0 = 0) (hb0 : gI b 0 = 0)
include hP hl hw ha hb ha0 hb0
end
end Go.Vam

/- Plain law: FnInverses. -/
namespace Go.Vam
open Go Go.RowKit
set_option linter.unusedSimpArgs false
set_option linter.unusedVariables false
set_option linter.unusedSectionVars false

end Go.Vam

/- Plain laws: triples. -/
namespace Go.Vam
open Go Go.RowKit
set_option linter.unusedSimpArgs false
set_option linter.unusedVariables false
set_option linter.unusedSectionVars false

/-! ### The laws' helpers -/
section
variable {a b c : List (List Int)}
end

/-! ### UnitTriple -/
section
variable {p : Int} {w a b : List Int} (hP : isP p = true) (hl : w.length ≤ 4) (hw : Vec p w.length w) (ha : Vec p (2 ^ w.length) a) (hb : Vec p (2 ^ w.length) b)
include hP hl hw ha hb
end
abbrev gT3 (l : List (List (List Int) × List (List Int) × List (List Int))) (k : Nat) : List (List Int) × List (List Int) × List (List Int) := l.getD k ([], [], [])
def szTs (l : List (List (List Int) × List (List Int) × List (List Int))) : Prop := l.length ≤ 1024 ∧ ∀ x ∈ l, szM x.1 ∧ szM x.2.1 ∧ szM x.2.2
theorem szTs.at {l : List (List (List Int) × List (List Int) × List (List Int))} (h : szTs l) {k : Nat} (hk : k < l.length) : szM (gT3 l k).1 ∧ szM (gT3 l k).2.1 ∧ szM (gT3 l k).2.2 := by
  have := h.2 _ (List.getElem_mem hk)
  rwa [getD_get hk ([], [], [])] at this
section
variable {p : Int} {w : List Int} {l : List (List (List Int) × List (List Int) × List (List Int))} (hw : w.length ≤ 1048576) (hz : szTs l)
include hw hz
end
end Go.Vam

/- Plain laws: triples, turned and multiplied. -/
namespace Go.Vam
open Go Go.RowKit
set_option linter.unusedSimpArgs false
set_option linter.unusedVariables false
set_option linter.unusedSectionVars false

end Go.Vam

/- Plain laws: loops: whether a table is one; its nucleus and its centre. -/
namespace Go.Vam
open Go Go.RowKit
set_option linter.unusedSimpArgs false
set_option linter.unusedVariables false
set_option linter.unusedSectionVars false

section
variable {a : List (List Int)} (hn : a.length ≤ 128) (hl : ∀ i, i < a.length → (gR a i).length = a.length)
include hn hl
end
section
variable {a : List (List Int)} (hn : a.length ≤ 128) (hm : Mat (a.length : Int) a.length a.length a)
include hn hm
end

section
variable {a : List (List Int)} (hn : a.length ≤ 128) (hm : Mat (a.length : Int) a.length a.length a)
include hn hm
end

end Go.Vam

/- Plain laws: AutomorphismFrom. -/
namespace Go.Vam
open Go Go.RowKit
set_option linter.unusedSimpArgs false
set_option linter.unusedVariables false
set_option linter.unusedSectionVars false

section
variable {p : Int} {w : List Int} (hP : isP p = true) (hl : w.length ≤ 4) (hw : Vec p w.length w)
include hP hl hw
end
section
variable {p : Int} {w : List Int} {a : List (List Int)} (hP : isP p = true) (hl : w.length ≤ 3) (hw : Vec p w.length w) (hal : a.length = w.length) (ha : ∀ k, k < a.length → Vec p (2 ^ w.length) (gR a k))
include hP hl hw hal ha
end

end Go.Vam

/- Plain laws: the decomposition of an orthogonal matrix. -/
namespace Go.Vam
open Go Go.RowKit
set_option linter.unusedSimpArgs false
set_option linter.unusedVariables false

theorem RowsV.small {p : Int} {n : Nat} {L : List (List Int)} (h : RowsV p n L) (hn : n ≤ 100) (hl : L.length ≤ 2 * n) : smallM L := by
  have hm : Mat p L.length n L := ⟨rfl, fun i hi => h _ (by rw [← gR_get hi]; exact List.getElem_mem _)⟩
  exact smallM.of hm (by omega) (by omega)

end Go.Vam

/- Plain laws: counts of norms, the search of units. -/
namespace Go.Vam
open Go Go.RowKit
set_option linter.unusedSimpArgs false
set_option linter.unusedVariables false
set_option linter.unusedSectionVars false

/-! ### How many lists have a sum of squares -/
def cntU (p : Int) : List Int → Int → Int
  | [], n => if n % p = 0 then 1 else 0
  | d :: r, n => sumN (fun a => cntU p r (n - d * (a : Int) * (a : Int))) p.toNat
/-- The lists that go on with x, in order. -/
def lstU (p : Int) : List Int → Int → List Int → List (List Int)
  | [], n, x => if n % p = 0 then [x] else []
  | d :: r, n, x => (List.range p.toNat).flatMap fun (a : Nat) => lstU p r (n - d * (a : Int) * (a : Int)) (x ++ [(a : Int)])
theorem sub_mod_eq {p n m e : Int} (h : n % p = m % p) : (n - e) % p = (m - e) % p := by rw [Int.sub_emod, h, ← Int.sub_emod]
theorem cntU_mod {p : Int} : ∀ {l : List Int} {n m : Int}, n % p = m % p → cntU p l n = cntU p l m
  | [], n, m, h => by unfold cntU; rw [h]
  | d :: r, n, m, h => by unfold cntU; exact sumN_congr fun a _ => cntU_mod (sub_mod_eq h)
theorem lstU_mod {p : Int} : ∀ {l : List Int} {n m : Int} {x : List Int}, n % p = m % p → lstU p l n x = lstU p l m x
  | [], n, m, x, h => by unfold lstU; rw [h]
  | d :: r, n, m, x, h => by
    unfold lstU
    congr 1
    funext a
    exact lstU_mod (sub_mod_eq h)
theorem sum_range (f : Nat → Nat) (n : Nat) : (((List.range n).map f).sum : Int) = sumN (fun a => (f a : Int)) n := by
  induction n with
  | zero => rfl
  | succ n ih => rw [List.range_succ, List.map_append, List.sum_append, Int.natCast_add, ih]; simp [sumN]
theorem lstU_len {p : Int} : ∀ (l : List Int) (n : Int) (x : List Int), ((lstU p l n x).length : Int) = cntU p l n
  | [], n, x => by unfold lstU cntU; split <;> rfl
  | d :: r, n, x => by
    unfold lstU cntU
    rw [List.length_flatMap, sum_range]
    exact sumN_congr fun a _ => lstU_len r _ _
theorem cntU_le {p : Int} (hp : 0 ≤ p) (hp2 : p ≤ 13) : ∀ (l : List Int) (n : Int), 0 ≤ cntU p l n ∧ cntU p l n ≤ 13 ^ l.length
  | [], n => by unfold cntU; split <;> simp
  | d :: r, n => by
    unfold cntU
    have := sumN_bound (f := fun a => cntU p r (n - d * (a : Int) * (a : Int))) (b := 13 ^ r.length) (n := p.toNat) fun a _ => cntU_le hp hp2 r _
    refine ⟨this.1, Int.le_trans this.2 ?_⟩
    rw [List.length_cons, Int.pow_succ]
    have h1 : (0 : Int) ≤ 13 ^ r.length := Int.pow_nonneg (by decide)
    exact Int.mul_le_mul_of_nonneg_left (by omega) h1
theorem cntU_snoc {p : Int} (d : Int) : ∀ (l : List Int) (n : Int), cntU p (l ++ [d]) n = sumN (fun a => cntU p l (n - d * (a : Int) * (a : Int))) p.toNat
  | [], n => rfl
  | e :: r, n => by
    show sumN (fun b => cntU p (r ++ [d]) (n - e * (b : Int) * (b : Int))) p.toNat = sumN (fun a => sumN (fun b => cntU p r (n - d * (a : Int) * (a : Int) - e * (b : Int) * (b : Int))) p.toNat) p.toNat
    rw [sumN_comm]
    refine sumN_congr fun b _ => ?_
    rw [cntU_snoc d r]
    refine sumN_congr fun a _ => ?_
    congr 1
    omega

/-! ### Scattering -/
def scB (p d : Int) (c : Nat → Int) (n a k : Nat) : Int := if ((n : Int) + d * (a : Int) * (a : Int)) % p = (k : Int) then c n else 0
def scA (p d : Int) (c : Nat → Int) (n a k : Nat) : Int := sumN (fun b => scB p d c n b k) a
def scO (p d : Int) (c : Nat → Int) (n k : Nat) : Int := sumN (fun m => scA p d c m p.toNat k) n
theorem scO_all {p d : Int} (hp : 0 < p) (c : Nat → Int) {k : Nat} (hk : k < p.toNat) : scO p d c p.toNat k = sumN (fun a => c (((k : Int) - d * (a : Int) * (a : Int)) % p).toNat) p.toNat := by
  unfold scO scA
  rw [sumN_comm]
  refine sumN_congr fun a _ => ?_
  have hm := mod_num (p := p) (a := (k : Int) - d * (a : Int) * (a : Int)) hp
  have hmt : (((k : Int) - d * (a : Int) * (a : Int)) % p).toNat < p.toNat := by omega
  rw [sumN_one hmt]
  · unfold scB
    rw [if_pos]
    rw [show ((((k : Int) - d * (a : Int) * (a : Int)) % p).toNat : Int) = ((k : Int) - d * (a : Int) * (a : Int)) % p by omega, Int.emod_add_emod]
    rw [show (k : Int) - d * (a : Int) * (a : Int) + d * (a : Int) * (a : Int) = k by omega]
    exact Int.emod_eq_of_lt (by omega) (by omega)
  · intro q hq hne
    unfold scB
    rw [if_neg]
    intro h
    apply hne
    have h1 : ((k : Int) - d * (a : Int) * (a : Int)) % p = (q : Int) := by
      rw [← h, Int.emod_sub_emod]
      rw [show (q : Int) + d * (a : Int) * (a : Int) - d * (a : Int) * (a : Int) = q by omega]
      exact Int.emod_eq_of_lt (by omega) (by omega)
    omega
theorem scA_le {p d : Int} {c : Nat → Int} {n : Nat} {b : Int} (hb : 0 ≤ b) (hc : 0 ≤ c n ∧ c n ≤ b) (a k : Nat) : 0 ≤ scA p d c n a k ∧ scA p d c n a k ≤ b * a :=
  sumN_bound fun q _ => by unfold scB; split <;> omega
theorem scO_le {p d : Int} {c : Nat → Int} {b : Int} (hb : 0 ≤ b) (n : Nat) (hc : ∀ m, m < n → 0 ≤ c m ∧ c m ≤ b) (k : Nat) : 0 ≤ scO p d c n k ∧ scO p d c n k ≤ b * p.toNat * n :=
  sumN_bound fun m hm => scA_le hb (hc m hm) _ _
theorem vecN_bump {n q : Nat} {f : Nat → Int} {c : Int} : (vecN n f).set q (f q + c) = vecN n fun k => f k + if q = k then c else 0 := by
  refine extI (by simp) fun k hk => ?_
  rw [← gI_get (by simpa using hk), List.getElem_set]
  split
  · rename_i e; subst e; simp
  · rename_i e
    rw [vecN_get]; simp [e]
def rwU (p : Int) (l : List Int) : List Int := vecN p.toNat fun k => cntU p l (k : Int)
theorem rwU_step {p d : Int} (hp : 0 < p) (l : List Int) (l' : List Int) (h : ∀ n, cntU p l' n = sumN (fun a => cntU p l (n - d * (a : Int) * (a : Int))) p.toNat) :
    (vecN p.toNat fun k => scO p d (fun n => cntU p l (n : Int)) p.toNat k) = rwU p l' := by
  refine vecN_congr fun k hk => ?_
  rw [scO_all hp _ hk, h]
  refine sumN_congr fun a _ => cntU_mod ?_
  have hm := mod_num (p := p) (a := (k : Int) - d * (a : Int) * (a : Int)) hp
  rw [show ((((k : Int) - d * (a : Int) * (a : Int)) % p).toNat : Int) = ((k : Int) - d * (a : Int) * (a : Int)) % p by omega, emm]

theorem dsq {d a : Int} (h1 : 0 ≤ d) (h2 : d ≤ 13) (h3 : 0 ≤ a) (h4 : a ≤ 13) : 0 ≤ d * a ∧ d * a ≤ 169 ∧ 0 ≤ d * a * a ∧ d * a * a ≤ 2197 := by
  have e1 : 0 ≤ d * a := Int.mul_nonneg h1 h3
  have e2 : d * a ≤ 13 * 13 := Int.mul_le_mul h2 h4 h3 (by decide)
  have e3 : 0 ≤ d * a * a := Int.mul_nonneg e1 h3
  have e4 : d * a * a ≤ 169 * 13 := Int.mul_le_mul (by omega) h4 h3 (by decide)
  omega
theorem vecN_zero (n : Nat) : vecN n (fun _ => (0 : Int)) = List.replicate n 0 := by simp [vecN, List.map_const']

section
variable {p : Int} (hP : isP p = true)
include hP
theorem rwU_nil : (List.replicate p.toNat (0 : Int)).set 0 1 = rwU p [] := by
  have hp := isP_le hP
  refine extI (by simp) fun k hk => ?_
  rw [gI_set (by simp; omega)]
  unfold cntU
  by_cases h : k = 0
  · subst h; simp
  · have : (k : Int) % p = k := Int.emod_eq_of_lt (by omega) (by omega)
    rw [if_neg (fun e => h e.symm), this, if_neg (by omega), ← gI_get (by simp; omega)]
    simp
theorem cnt_small {l : List Int} (hl : l.length ≤ 8) (n : Int) : 0 ≤ cntU p l n ∧ cntU p l n ≤ 815730721 := by
  have hp := isP_le hP
  have h := cntU_le (by omega) hp.2 l n
  have key : ∀ k : Nat, k < 9 → (13 : Int) ^ k ≤ 815730721 := by decide
  have := key l.length (by omega)
  omega
/-- The numbers that stand while a row is scattered. -/
theorem sc_small {d : Int} {c : Nat → Int} (hc : ∀ m, m < p.toNat → 0 ≤ c m ∧ c m ≤ 815730721) {n a : Nat} (hn : n < p.toNat) (ha : a ≤ p.toNat) (k : Nat) :
    0 ≤ scO p d c n k + scA p d c n a k ∧ scO p d c n k + scA p d c n a k ≤ 1000000000000 := by
  have hp := isP_le hP
  have h1 := scO_le (p := p) (d := d) (b := 815730721) (by decide) n (fun m hm => hc m (by omega)) k
  have h2 := scA_le (p := p) (d := d) (b := 815730721) (by decide) (hc n hn) a k
  have e1 : (815730721 * (p.toNat : Int)) * (n : Int) ≤ (815730721 * 13) * 13 := Int.mul_le_mul (Int.mul_le_mul_of_nonneg_left (by omega) (by decide)) (by omega) (by omega) (by decide)
  omega
theorem s_l12Counts_eq {l : List Int} (hl : l.length ≤ 8) (hd : Vec p l.length l) : s_l12Counts p l = some (rwU p l) := by
  have hp := isP_le hP
  unfold s_l12Counts
  rw [chk_bind ⟨by omega, by omega⟩, some_bind, idxI0 (by simp; omega), some_bind, rwU_nil hP]
  rw [loop_for (b := rwU p l) (fun i => (rwU p (l.take i), (i : Int))) l.length (by rw [BIG_val]; omega) (by simp)]
  · rfl
  · intro i hi
    unfold s_l12Counts_L0
    have hdi := hd.get hi
    have hc : ∀ m, m < p.toNat → 0 ≤ cntU p (l.take i) (m : Int) ∧ cntU p (l.take i) (m : Int) ≤ 815730721 := fun m _ => cnt_small hP (by simp; omega) _
    simp only [lt_cast hi, if_true]
    rw [chk_bind ⟨by omega, by omega⟩]
    rw [loop_for (b := rwU p (l.take (i + 1))) (fun n => (vecN p.toNat (scO p (gI l i) (fun n => cntU p (l.take i) (n : Int)) n), (n : Int))) p.toNat (by rw [BIG_val]; omega) (by
      rw [← vecN_zero]; rfl)]
    · rw [some_bind, w_in (by omega) (by omega)]; rfl
    · intro n hn
      unfold s_l12Counts_L1
      rw [if_pos (by omega)]
      rw [loop_for (b := vecN p.toNat (scO p (gI l i) (fun n => cntU p (l.take i) (n : Int)) (n + 1))) (fun a => (vecN p.toNat (fun k => scO p (gI l i) (fun n => cntU p (l.take i) (n : Int)) n k + scA p (gI l i) (fun n => cntU p (l.take i) (n : Int)) n a k), (a : Int))) p.toNat (by rw [BIG_val]; omega) (by
        simp [scA, sumN])]
      · rw [some_bind, w_in (by omega) (by omega)]; rfl
      · intro a ha
        unfold s_l12Counts_L2
        have hs := dsq hdi.1 (by omega) (a := (a : Int)) (by omega) (by omega)
        rw [if_pos (by omega)]
        simp only [idxI hi, some_bind]
        rw [w_in (x := gI l i * (a : Int)) (by omega) (by omega), w_in (x := gI l i * (a : Int) * (a : Int)) (by omega) (by omega), w_in (x := (n : Int) + gI l i * (a : Int) * (a : Int)) (by omega) (by omega), s_l01Mod_eq (by omega) (by omega) (by omega) (by omega), some_bind]
        obtain ⟨q, hq, hqP⟩ : ∃ q : Nat, ((n : Int) + gI l i * (a : Int) * (a : Int)) % p = (q : Int) ∧ q < p.toNat := by
          have hm := mod_num (p := p) (a := (n : Int) + gI l i * (a : Int) * (a : Int)) (by omega)
          exact ⟨(((n : Int) + gI l i * (a : Int) * (a : Int)) % p).toNat, by omega, by omega⟩
        rw [hq, idxI (k := q) (by simpa using hqP), some_bind, gI_vecN _ hqP, idxI (k := n) (by unfold rwU; simpa using hn), some_bind]
        have e1 : gI (rwU p (l.take i)) n = cntU p (l.take i) (n : Int) := by unfold rwU; rw [gI_vecN _ hn]
        have b1 := sc_small hP (d := gI l i) hc hn (a := a) (by omega) q
        have b2 := hc n hn
        rw [e1, w_in (by omega) (by omega), Int.toNat_natCast, w_in (x := (a : Int) + 1) (by omega) (by omega), vecN_bump (f := fun k => scO p (gI l i) (fun n => cntU p (l.take i) (n : Int)) n k + scA p (gI l i) (fun n => cntU p (l.take i) (n : Int)) n a k)]
        congr 3
        refine vecN_congr fun k hk => ?_
        have e2 : scA p (gI l i) (fun n => cntU p (l.take i) (n : Int)) n (a + 1) k = scA p (gI l i) (fun n => cntU p (l.take i) (n : Int)) n a k + (if q = k then cntU p (l.take i) (n : Int) else 0) := by
          show scA p (gI l i) (fun n => cntU p (l.take i) (n : Int)) n a k + scB p (gI l i) (fun n => cntU p (l.take i) (n : Int)) n a k = _
          congr 1
          unfold scB
          rw [hq]
          simp only [Int.natCast_inj]
        rw [e2]
        omega
      · unfold s_l12Counts_L2
        rw [if_neg (by omega)]
        rfl
    · unfold s_l12Counts_L1
      rw [if_neg (by omega), rwU_step (p := p) (d := gI l i) (by omega) (l.take i) (l.take (i + 1))]
      intro m
      rw [← cntU_snoc]
      congr 1
      rw [List.take_add_one, List.getElem?_eq_getElem hi, gI_get hi]
      rfl
  · unfold s_l12Counts_L0
    simp only [lt_cast_self, if_false, List.take_length]

variable {w : List Int} (hl : w.length ≤ 3) (hw : Vec p w.length w)
def mtU (p : Int) (dl : List Int) (t : Nat) : List (List Int) := vecN (dl.length + 1) fun j => if dl.length - t ≤ j then rwU p (dl.drop j) else []
include hl hw
theorem i_normCounts_eq : i_Doubling_normCounts p w = some (vecN (2 ^ w.length + 1) fun j => rwU p ((dgv p w w.length).drop j)) := by
  have hp := isP_le hP
  have hdv := dgv_vec (p := p) (by omega) w w.length
  have hL8 : 2 ^ w.length ≤ 8 := Nat.pow_le_pow_right (by decide) hl
  unfold i_Doubling_normCounts
  rw [i_diag_eq hP (by omega) hw, some_bind]
  have hlen := hdv.1
  have hdv : Vec p (dgv p w w.length).length (dgv p w w.length) := by rw [hlen]; exact hdv
  rw [← hlen] at hL8 ⊢
  clear hlen
  generalize dgv p w w.length = dl at hdv hL8 ⊢
  have hset : ∀ (m : List (List Int)) (i j : Nat) (r : List Int), i < m.length → gR (m.set i r) j = if i = j then r else gR m j := fun m i j r hi => by
    unfold gR
    simp only [List.getD_eq_getElem?_getD, List.getElem?_set]
    split <;> simp_all
  have hP1 : w64 ((dl.length : Int) + 1) = ((dl.length + 1 : Nat) : Int) := by rw [w_in (by omega) (by omega)]; omega
  rw [hP1, Int.toNat_natCast, chk_bind ⟨by omega, by omega⟩, some_bind, chk_bind ⟨by omega, by omega⟩, idxR (by simp), some_bind, some_bind, idxR (by simp), some_bind, Int.toNat_natCast, hset _ _ _ _ (by simp), if_pos rfl, idxI0 (by simp; omega), some_bind, rwU_nil hP]
  have h0 : ((List.replicate (dl.length + 1) ([] : List Int)).set dl.length (List.replicate p.toNat 0)).set dl.length (rwU p []) = mtU p dl 0 := by
    refine extR (by simp) fun j hj => ?_
    rw [hset _ _ _ _ (by simp)]
    by_cases e : dl.length = j
    · subst e; simp
    · rw [if_neg e, hset _ _ _ _ (by simp), if_neg e, if_neg (by omega)]
      unfold gR
      rw [List.getD_eq_getElem?_getD, List.getElem?_replicate]
      simp [hj]
  rw [h0]
  rw [loop_for (b := mtU p dl dl.length) (fun t => (mtU p dl t, (dl.length : Int) - 1 - (t : Int))) dl.length (by rw [BIG_val]; omega) (by rw [w_in (by omega) (by omega)]; simp)]
  · rw [some_bind]
    congr 1
    exact vecN_congr fun j hj => by rw [if_pos (by omega)]
  · intro t ht
    obtain ⟨i, hi⟩ : ∃ i : Nat, i + t + 1 = dl.length := ⟨dl.length - 1 - t, by omega⟩
    have ei : (dl.length : Int) - 1 - (t : Int) = (i : Int) := by omega
    have ei' : (dl.length : Int) - 1 - ((t + 1 : Nat) : Int) = (i : Int) - 1 := by omega
    have hmt : (mtU p dl t).length = dl.length + 1 := by unfold mtU; simp
    have hdi := hdv.get (k := i) (by omega)
    have hc : ∀ m, m < p.toNat → 0 ≤ cntU p (dl.drop (i + 1)) (m : Int) ∧ cntU p (dl.drop (i + 1)) (m : Int) ≤ 815730721 := fun m _ => cnt_small hP (by simp; omega) _
    have hrow : gR ((mtU p dl t).set i (List.replicate p.toNat 0)) (i + 1) = rwU p (dl.drop (i + 1)) := by
      rw [hset _ _ _ _ (by omega), if_neg (by omega)]
      unfold mtU
      rw [gR_vecN _ (by omega), if_pos (by omega)]
    have hrl : (rwU p (dl.drop (i + 1))).length = p.toNat := by unfold rwU; simp
    simp only [ei, ei']
    unfold i_Doubling_normCounts_L0
    simp only
    rw [if_pos (by omega), chk_bind ⟨by omega, by omega⟩, idxR (by omega), some_bind, some_bind, Int.toNat_natCast, show w64 ((i : Int) + 1) = ((i + 1 : Nat) : Int) by rw [w_in (by omega) (by omega)]; omega, idxR (by simp; omega), some_bind, hrow]
    rw [loop_for (b := (mtU p dl t).set i (rwU p (dl.drop i))) (fun n => ((mtU p dl t).set i (vecN p.toNat (scO p (gI dl i) (fun n => cntU p (dl.drop (i + 1)) (n : Int)) n)), (n : Int))) p.toNat (by rw [BIG_val]; omega) (by
      rw [← vecN_zero]; rfl)]
    · rw [some_bind, w_in (by omega) (by omega)]
      congr 3
      refine extR (by simp [hmt]) fun j hj => ?_
      rw [hset _ _ _ _ (by omega)]
      unfold mtU
      rw [gR_vecN _ hj]
      by_cases e : i = j
      · rw [if_pos e, if_pos (by omega), e]
      · rw [if_neg e]
        by_cases e2 : dl.length - t ≤ j
        · rw [if_pos e2, if_pos (by omega)]
        · rw [if_neg e2, if_neg (by omega)]
    · intro n hn
      unfold i_Doubling_normCounts_L1
      simp only
      rw [if_pos (by omega), idxI (by omega), some_bind]
      have e1 : gI (rwU p (dl.drop (i + 1))) n = cntU p (dl.drop (i + 1)) (n : Int) := by unfold rwU; rw [gI_vecN _ hn]
      rw [loop_for (b := (mtU p dl t).set i (vecN p.toNat (scO p (gI dl i) (fun n => cntU p (dl.drop (i + 1)) (n : Int)) (n + 1)))) (fun a => ((mtU p dl t).set i (vecN p.toNat (fun k => scO p (gI dl i) (fun n => cntU p (dl.drop (i + 1)) (n : Int)) n k + scA p (gI dl i) (fun n => cntU p (dl.drop (i + 1)) (n : Int)) n a k)), (a : Int))) p.toNat (by rw [BIG_val]; omega) (by
        simp [scA, sumN])]
      · rw [some_bind, w_in (by omega) (by omega)]; rfl
      · intro a ha
        unfold i_Doubling_normCounts_L2 i_Doubling_field
        have hs := dsq hdi.1 (by omega) (a := (a : Int)) (by omega) (by omega)
        simp only
        rw [if_pos (by omega), idxR (by simp; omega), some_bind, hset _ _ _ _ (by omega), if_pos rfl, some_bind, idxI (by omega), some_bind]
        rw [w_in (x := gI dl i * (a : Int)) (by omega) (by omega), w_in (x := gI dl i * (a : Int) * (a : Int)) (by omega) (by omega), w_in (x := (n : Int) + gI dl i * (a : Int) * (a : Int)) (by omega) (by omega), i_field_num_eq (by omega) (by omega) (by omega) (by omega), some_bind]
        obtain ⟨q, hq, hqP⟩ : ∃ q : Nat, ((n : Int) + gI dl i * (a : Int) * (a : Int)) % p = (q : Int) ∧ q < p.toNat := by
          have hm := mod_num (p := p) (a := (n : Int) + gI dl i * (a : Int) * (a : Int)) (by omega)
          exact ⟨(((n : Int) + gI dl i * (a : Int) * (a : Int)) % p).toNat, by omega, by omega⟩
        rw [hq, idxI (k := q) (by simpa using hqP), some_bind, gI_vecN _ hqP]
        have b1 := sc_small hP (d := gI dl i) hc hn (a := a) (by omega) q
        have b2 := hc n hn
        rw [e1, w_in (by omega) (by omega), Int.toNat_natCast, Int.toNat_natCast, w_in (x := (a : Int) + 1) (by omega) (by omega), vecN_bump (f := fun k => scO p (gI dl i) (fun n => cntU p (dl.drop (i + 1)) (n : Int)) n k + scA p (gI dl i) (fun n => cntU p (dl.drop (i + 1)) (n : Int)) n a k), List.set_set]
        congr 4
        refine vecN_congr fun k hk => ?_
        have e2 : scA p (gI dl i) (fun n => cntU p (dl.drop (i + 1)) (n : Int)) n (a + 1) k = scA p (gI dl i) (fun n => cntU p (dl.drop (i + 1)) (n : Int)) n a k + (if q = k then cntU p (dl.drop (i + 1)) (n : Int) else 0) := by
          show scA p (gI dl i) (fun n => cntU p (dl.drop (i + 1)) (n : Int)) n a k + scB p (gI dl i) (fun n => cntU p (dl.drop (i + 1)) (n : Int)) n a k = _
          congr 1
          unfold scB
          rw [hq]
          simp only [Int.natCast_inj]
        rw [e2]
        omega
      · unfold i_Doubling_normCounts_L2
        simp only
        rw [if_neg (by omega)]
        rfl
    · unfold i_Doubling_normCounts_L1
      simp only
      rw [if_neg (by omega), rwU_step (p := p) (d := gI dl i) (by omega) (dl.drop (i + 1)) (dl.drop i)]
      intro m
      rw [List.drop_eq_getElem_cons (show i < dl.length by omega), gI_get (show i < dl.length by omega)]
      rfl
  · unfold i_Doubling_normCounts_L0
    simp only
    rw [if_neg (by omega)]
end
end Go.Vam

/- Plain laws: UnitsOf. -/
namespace Go.Vam
open Go Go.RowKit
set_option linter.unusedSimpArgs false
set_option linter.unusedVariables false
set_option linter.unusedSectionVars false

theorem flat_succ {α : Type} (F : Nat → List α) (a : Nat) : (List.range (a + 1)).flatMap F = (List.range a).flatMap F ++ F a := by
  rw [List.range_succ, List.flatMap_append]; simp
theorem flat_le {α : Type} (F : Nat → List α) {a : Nat} : ∀ {b : Nat}, a ≤ b → ((List.range a).flatMap F).length ≤ ((List.range b).flatMap F).length
  | 0, h => by have : a = 0 := by omega
               subst this; exact Nat.le_refl _
  | b + 1, h => by
    rcases Nat.lt_or_ge a (b + 1) with h1 | h1
    · rw [flat_succ, List.length_append]
      have := flat_le F (a := a) (b := b) (by omega)
      omega
    · have : a = b + 1 := by omega
      subst this; exact Nat.le_refl _
theorem gR_head {a b : List (List Int)} (h : 0 < a.length) : gR (a ++ b) 0 = gR a 0 := by
  unfold gR
  cases a with
  | nil => simp at h
  | cons x r => rfl

section
variable {p : Int} (hP : isP p = true) {dl : List Int} (hdv : Vec p dl.length dl) (hL8 : dl.length ≤ 8)
include hP hdv hL8
theorem lst_zero {l : List Int} {n : Int} {x : List Int} (h : cntU p l n = 0) : lstU p l n x = [] := by
  have := lstU_len (p := p) l n x
  rw [h] at this
  exact List.length_eq_zero_iff.1 (by omega)
theorem search_eq : ∀ (r N : Nat) (n : Int) (pre : List Int) (out : List (List Int)), dl.length - pre.length = r → pre.length ≤ dl.length → r < N → 0 ≤ n → n < p →
    out.length + (lstU p (dl.drop pre.length) n pre).length ≤ 129 → s_l13Search N p dl n pre out = some (out ++ lstU p (dl.drop pre.length) n pre) := by
  have hp := isP_le hP
  intro r
  induction r with
  | zero =>
    intro N n pre out hr hk hN h0 h1 hb
    cases N with
    | zero => omega
    | succ N =>
      show s_l13Search_b (s_l13Search N) p dl n pre out = _
      unfold s_l13Search_b
      rw [if_neg (by omega), if_pos (by omega)]
      have e : dl.drop pre.length = [] := by rw [List.drop_eq_nil_iff]; omega
      rw [e] at hb ⊢
      unfold lstU at hb ⊢
      rw [Int.emod_eq_of_lt h0 h1] at hb ⊢
      by_cases hz : n = 0
      · rw [if_pos hz] at hb ⊢
        rw [if_pos hz, chk_bind (by simp at hb ⊢; omega), some_bind]
      · rw [if_neg hz] at hb ⊢
        rw [if_neg hz, some_bind, List.append_nil]
  | succ r ih =>
    intro N n pre out hr hk hN h0 h1 hb
    cases N with
    | zero => omega
    | succ N =>
      have hlt : pre.length < dl.length := by omega
      have hd := hdv.get hlt
      show s_l13Search_b (s_l13Search N) p dl n pre out = _
      unfold s_l13Search_b
      have hvd : Vec p (dl.drop pre.length).length (dl.drop pre.length) := by
        refine ⟨rfl, fun k hk => ?_⟩
        rw [gI_drop]
        exact hdv.get (by simp at hk; omega)
      rw [if_neg (by omega), if_neg (by omega), chk_bind ⟨by omega, by omega⟩, Int.toNat_natCast, s_l12Counts_eq hP (by simp; omega) hvd, some_bind]
      obtain ⟨m, rfl⟩ : ∃ m : Nat, n = (m : Int) := ⟨n.toNat, by omega⟩
      rw [idxI (by unfold rwU; simp; omega), some_bind]
      have e1 : gI (rwU p (dl.drop pre.length)) m = cntU p (dl.drop pre.length) (m : Int) := by unfold rwU; rw [gI_vecN _ (by omega)]
      rw [e1]
      by_cases hz : cntU p (dl.drop pre.length) (m : Int) = 0
      · rw [if_pos hz, lst_zero hP hdv hL8 hz, List.append_nil]
      · rw [if_neg hz]
        have hcons : dl.drop pre.length = gI dl pre.length :: dl.drop (pre.length + 1) := by
          rw [List.drop_eq_getElem_cons hlt, gI_get hlt]
        rw [hcons] at hb ⊢
        unfold lstU at hb ⊢
        generalize hF : (fun (a : Nat) => lstU p (dl.drop (pre.length + 1)) ((m : Int) - gI dl pre.length * (a : Int) * (a : Int)) (pre ++ [(a : Int)])) = F at hb ⊢
        rw [loop_for (b := out ++ (List.range p.toNat).flatMap F) (fun a => (out ++ (List.range a).flatMap F, (a : Int))) p.toNat (by rw [BIG_val]; omega) (by simp)]
        · rfl
        · intro a ha
          unfold s_l13Search_L0
          have hs := dsq hd.1 (by omega) (a := (a : Int)) (by omega) (by omega)
          have hm := mod_num (p := p) (a := (m : Int) - gI dl pre.length * (a : Int) * (a : Int)) (by omega)
          have hle := flat_le F (show a + 1 ≤ p.toNat by omega)
          have hFa : F a = lstU p (dl.drop (pre ++ [(a : Int)]).length) (((m : Int) - gI dl pre.length * (a : Int) * (a : Int)) % p) (pre ++ [(a : Int)]) := by
            rw [← hF]
            simp only [List.length_append, List.length_cons, List.length_nil]
            exact lstU_mod (emm _ _).symm
          rw [flat_succ] at hle ⊢
          simp only [List.length_append] at hle
          simp only
          rw [if_pos (by omega), idxI hlt, some_bind, w_in (x := gI dl pre.length * (a : Int)) (by omega) (by omega), w_in (x := gI dl pre.length * (a : Int) * (a : Int)) (by omega) (by omega), w_in (x := (m : Int) - gI dl pre.length * (a : Int) * (a : Int)) (by omega) (by omega),
            s_l01Mod_eq (by omega) (by omega) (by omega) (by omega), some_bind, s_l01Own_eq (by omega), some_bind, chk_bind (by simp; omega)]
          rw [ih N _ (pre ++ [(a : Int)]) _ (by simp; omega) (by simp; omega) (by omega) hm.1 hm.2 (by rw [← hFa]; simp only [List.length_append]; omega), some_bind, ← hFa, w_in (by omega) (by omega), List.append_assoc]
          rfl
        · unfold s_l13Search_L0
          simp only
          rw [if_neg (by omega)]
/-- The impl's search. -/
theorem grow_eq {one : List Int} {w : List Int} {T : List (List Int)} (hT : T = vecN (dl.length + 1) fun j => rwU p (dl.drop j)) : ∀ (r N : Nat) (n : Int) (pre : List Int) (out : List (List Int)), dl.length - pre.length = r → pre.length ≤ dl.length → r < N → 0 ≤ n → n < p →
    out.length + (lstU p (dl.drop pre.length) n pre).length ≤ 1000000 → 0 < out.length → gR out 0 = one →
    i_Doubling_units_c1 N pre n T dl out p w = some (out ++ (lstU p (dl.drop pre.length) n pre).filter fun x => !decide (x = one)) := by
  have hp := isP_le hP
  have hTl : T.length = dl.length + 1 := by rw [hT]; simp
  have hrow : ∀ k, k ≤ dl.length → gR T k = rwU p (dl.drop k) := fun k hk => by rw [hT, gR_vecN _ (by omega)]
  intro r
  induction r with
  | zero =>
    intro N n pre out hr hk hN h0 h1 hb hpos hone
    cases N with
    | zero => omega
    | succ N =>
      show i_Doubling_units_c1_b (i_Doubling_units_c1 N) pre n T dl out p w = _
      unfold i_Doubling_units_c1_b
      rw [idxR (by omega), some_bind, hrow _ hk]
      obtain ⟨m, rfl⟩ : ∃ m : Nat, n = (m : Int) := ⟨n.toNat, by omega⟩
      rw [idxI (by unfold rwU; simp; omega), some_bind]
      have e1 : gI (rwU p (dl.drop pre.length)) m = cntU p (dl.drop pre.length) (m : Int) := by unfold rwU; rw [gI_vecN _ (by omega)]
      rw [e1]
      have e : dl.drop pre.length = [] := by rw [List.drop_eq_nil_iff]; omega
      rw [e] at hb ⊢
      unfold lstU cntU at *
      rw [Int.emod_eq_of_lt h0 h1] at hb ⊢
      by_cases hz : (m : Int) = 0
      · rw [if_pos hz] at hb ⊢
        simp only [if_pos hz, Int.reduceEq, if_false]
        rw [if_pos (by omega), idxR0 hpos, some_bind, hone, slicesEqual_eq (by omega), some_bind]
        by_cases hq : pre = one
        · simp [hq]
        · have hc : chk (out.length ≤ 1099511627775) = some () := chk_ok (by simp at hb; omega)
          simp [hq, clone_eq (v := pre) (by omega), hc]
      · rw [if_neg hz] at hb ⊢
        have hm0 : m ≠ 0 := by omega
        simp [hm0]
  | succ r ih =>
    intro N n pre out hr hk hN h0 h1 hb hpos hone
    cases N with
    | zero => omega
    | succ N =>
      have hlt : pre.length < dl.length := by omega
      have hd := hdv.get hlt
      show i_Doubling_units_c1_b (i_Doubling_units_c1 N) pre n T dl out p w = _
      unfold i_Doubling_units_c1_b
      rw [idxR (by omega), some_bind, hrow _ hk]
      obtain ⟨m, rfl⟩ : ∃ m : Nat, n = (m : Int) := ⟨n.toNat, by omega⟩
      rw [idxI (by unfold rwU; simp; omega), some_bind]
      have e1 : gI (rwU p (dl.drop pre.length)) m = cntU p (dl.drop pre.length) (m : Int) := by unfold rwU; rw [gI_vecN _ (by omega)]
      rw [e1]
      by_cases hz : cntU p (dl.drop pre.length) (m : Int) = 0
      · rw [if_pos hz, lst_zero hP hdv hL8 hz]; simp
      · rw [if_neg hz, if_neg (by omega)]
        have hcons : dl.drop pre.length = gI dl pre.length :: dl.drop (pre.length + 1) := by
          rw [List.drop_eq_getElem_cons hlt, gI_get hlt]
        rw [hcons] at hb ⊢
        unfold lstU at hb ⊢
        generalize hF : (fun (a : Nat) => lstU p (dl.drop (pre.length + 1)) ((m : Int) - gI dl pre.length * (a : Int) * (a : Int)) (pre ++ [(a : Int)])) = F at hb ⊢
        rw [loop_for (b := out ++ ((List.range p.toNat).flatMap F).filter fun x => !decide (x = one)) (fun a => (out ++ ((List.range a).flatMap F).filter fun x => !decide (x = one), (a : Int))) p.toNat (by rw [BIG_val]; omega) (by simp)]
        · rfl
        · intro a ha
          unfold i_Doubling_units_c1_L0 i_Doubling_field
          have hs := dsq hd.1 (by omega) (a := (a : Int)) (by omega) (by omega)
          have hm := mod_num (p := p) (a := (m : Int) - gI dl pre.length * (a : Int) * (a : Int)) (by omega)
          have hle := flat_le F (show a + 1 ≤ p.toNat by omega)
          have hFa : F a = lstU p (dl.drop (pre ++ [(a : Int)]).length) (((m : Int) - gI dl pre.length * (a : Int) * (a : Int)) % p) (pre ++ [(a : Int)]) := by
            rw [← hF]
            simp only [List.length_append, List.length_cons, List.length_nil]
            exact lstU_mod (emm _ _).symm
          have hfl : (((List.range a).flatMap F).filter fun x => !decide (x = one)).length ≤ ((List.range a).flatMap F).length := List.length_filter_le ..
          rw [flat_succ] at hle ⊢
          simp only [List.length_append] at hle
          simp only
          rw [if_pos (by omega), clone_eq (by omega), some_bind, chk_bind (by simp; omega), some_bind, idxI hlt, some_bind, w_in (x := gI dl pre.length * (a : Int)) (by omega) (by omega), w_in (x := gI dl pre.length * (a : Int) * (a : Int)) (by omega) (by omega), w_in (x := (m : Int) - gI dl pre.length * (a : Int) * (a : Int)) (by omega) (by omega),
            i_field_num_eq (by omega) (by omega) (by omega) (by omega), some_bind]
          rw [ih N _ (pre ++ [(a : Int)]) _ (by simp; omega) (by simp; omega) (by omega) hm.1 hm.2 (by rw [← hFa]; simp only [List.length_append]; omega) (by simp only [List.length_append]; omega) (by rw [gR_head hpos]; exact hone), some_bind, ← hFa, w_in (by omega) (by omega), List.append_assoc, List.filter_append]
          rfl
        · unfold i_Doubling_units_c1_L0
          simp only
          rw [if_neg (by omega)]
end

section
variable {p : Int} {w : List Int} (hP : isP p = true) (hl : w.length ≤ 3) (hw : Vec p w.length w)
def fndU (p : Int) (w : List Int) : List (List Int) := lstU p (dgv p w w.length) 1 []
/-- The units: the unit first. -/
def untU (p : Int) (w : List Int) : List (List Int) := axis (2 ^ w.length) 0 :: (fndU p w).filter fun x => !decide (x = axis (2 ^ w.length) 0)
theorem lstU_rows {p : Int} : ∀ (l : List Int) (n : Int) (x : List Int), ∀ y ∈ lstU p l n x, y.length = x.length + l.length
  | [], n, x, y, h => by
    unfold lstU at h
    split at h
    · simp only [List.mem_cons, List.not_mem_nil, or_false] at h; subst h; simp
    · cases h
  | d :: r, n, x, y, h => by
    unfold lstU at h
    obtain ⟨a, _, h2⟩ := List.mem_flatMap.1 h
    have := lstU_rows r _ _ y h2
    simp at this ⊢
    omega
include hP hl hw
theorem i_element0 : i_Doubling_element p w 0 = some (axis (2 ^ w.length) 0) := by
  unfold i_Doubling_element
  rw [i_Doubling_size_eq (by omega), some_bind, i_unit_eq (by have := two_le (n := w.length) (by omega); omega), some_bind, idxR0 (by unfold unitm; rw [vecN_len]; exact two_pos _), some_bind]
  unfold unitm
  rw [gR_vecN _ (two_pos _)]
  rfl
theorem s_l13Units_eq (hc : cntU p (dgv p w w.length) 1 ≤ 128) : s_l13Units p w = some (untU p w) := by
  have hp := isP_le hP
  have hdv := dgv_vec (p := p) (by omega) w w.length
  have hL8 : 2 ^ w.length ≤ 8 := Nat.pow_le_pow_right (by decide) hl
  have hlen := hdv.1
  have hdv : Vec p (dgv p w w.length).length (dgv p w w.length) := by rw [hlen]; exact hdv
  have hfl := lstU_len (p := p) (dgv p w w.length) 1 []
  unfold s_l13Units
  rw [show (0 : Int) = ((0 : Nat) : Int) from rfl, s_l11One_eq (by omega) (two_pos _), some_bind, s_diag_eq hP (by omega) hw, some_bind, search_eq hP hdv (by omega) (dgv p w w.length).length BIG 1 [] [] (by simp) (by simp) (by rw [BIG_val]; omega) (by omega) (by omega) (by simp; omega), some_bind]
  simp only [List.length_nil, List.drop_zero, List.nil_append]
  show (loop (s_l13Units_L0 (fndU p w)) BIG ([axis (2 ^ w.length) 0], 0)).bind _ = _
  have hff : ((fndU p w).length : Int) ≤ 128 := by unfold fndU; omega
  rw [loop_for (b := untU p w) (fun i => (axis (2 ^ w.length) 0 :: ((fndU p w).take i).filter fun x => !decide (x = axis (2 ^ w.length) 0), (i : Int))) (fndU p w).length (by rw [BIG_val]; omega) (by simp)]
  · rfl
  · intro i hi
    unfold s_l13Units_L0
    have hr := lstU_rows _ _ _ _ (show gR (fndU p w) i ∈ fndU p w by rw [← gR_get hi]; exact List.getElem_mem _)
    have hfi : (((fndU p w).take i).filter fun x => !decide (x = axis (2 ^ w.length) 0)).length ≤ 128 := Nat.le_trans (List.length_filter_le ..) (by simp; omega)
    have hc1 : chk ((((fndU p w).take i).filter fun x => !decide (x = axis (2 ^ w.length) 0)).length + 1 + 1 ≤ 1099511627776) = some () := chk_ok (by omega)
    simp only [lt_cast hi, if_true, idxR hi, some_bind]
    rw [idxR0 (by simp), some_bind, s_l01Same_eq (by simp at hr; omega), some_bind, List.take_add_one, List.getElem?_eq_getElem hi, gR_get hi]
    have e0 : gR (axis (2 ^ w.length) 0 :: ((fndU p w).take i).filter fun x => !decide (x = axis (2 ^ w.length) 0)) 0 = axis (2 ^ w.length) 0 := rfl
    rw [e0, w_in (by omega) (by omega)]
    by_cases hq : gR (fndU p w) i = axis (2 ^ w.length) 0
    · simp [hq]
    · simp only [hq, decide_false, if_true, List.length_cons, List.length_nil]
      rw [hc1]
      simp [hq]
  · unfold s_l13Units_L0
    simp only [lt_cast_self, if_false, List.take_length]
    rfl
end
def unC (p : Int) (w : List Int) : Int := if isDb p w then (if 3 < w.length then 5 else if 128 < cntU p (dgv p w w.length) 1 then 3 else 0) else 1
def unV (p : Int) (w : List Int) : List (List Int) := if unC p w = 0 then untU p w else []
theorem unC_zero {p : Int} {w : List Int} (h : unC p w = 0) : isDb p w = true ∧ w.length ≤ 3 ∧ cntU p (dgv p w w.length) 1 ≤ 128 := by
  unfold unC at h
  split at h
  · split at h
    · cases h
    · split at h
      · cases h
      · exact ⟨‹_›, by omega, by omega⟩
  · cases h
theorem Small_eq {p : Int} {w : List Int} (hw : w.length ≤ 1048576) : s_l13Small p w = some (unV p w, unC p w) ∧ i_Doubling_units p w = some (unV p w, unC p w) := by
  unfold s_l13Small i_Doubling_units
  rw [s_l11Is_eq hw, i_IsDoubling_eq hw, some_bind, some_bind]
  by_cases hD : isDb p w = true
  · obtain ⟨hP, hl4, hv, _⟩ := isDb_iff hD
    have hp := isP_le hP
    simp only [hD, Bool.true_eq_false, if_false]
    by_cases h3 : 3 < w.length
    · have e : unC p w = 5 := by unfold unC; rw [if_pos hD, if_pos h3]
      have ev : unV p w = [] := by unfold unV; rw [e]; rfl
      rw [if_pos (by omega), if_pos (by omega), e, ev]
      exact ⟨rfl, rfl⟩
    · have hl : w.length ≤ 3 := by omega
      have hdv := dgv_vec (p := p) (by omega) w w.length
      have hL8 : 2 ^ w.length ≤ 8 := Nat.pow_le_pow_right (by decide) hl
      have hlen := hdv.1
      have hdv : Vec p (dgv p w w.length).length (dgv p w w.length) := by rw [hlen]; exact hdv
      rw [if_neg (by omega), if_neg (by omega), s_diag_eq hP hl4 hv, some_bind, s_l12Counts_eq hP (by omega) hdv, some_bind, i_normCounts_eq hP hl hv, some_bind, i_diag_eq hP hl4 hv, some_bind]
      have e0 : gR (vecN (2 ^ w.length + 1) fun j => rwU p ((dgv p w w.length).drop j)) 0 = rwU p (dgv p w w.length) := by rw [gR_vecN _ (by omega)]; rfl
      have e1 : gI (rwU p (dgv p w w.length)) 1 = cntU p (dgv p w w.length) 1 := by unfold rwU; rw [gI_vecN _ (by omega)]; rfl
      have e2 : idx (rwU p (dgv p w w.length)) 1 = some (cntU p (dgv p w w.length) 1) := by
        rw [show (1 : Int) = ((1 : Nat) : Int) from rfl, idxI (by unfold rwU; simp; omega), e1]; rfl
      rw [idxR0 (by simp), some_bind, e0, e2, some_bind, some_bind]
      by_cases h128 : 128 < cntU p (dgv p w w.length) 1
      · have e : unC p w = 3 := by unfold unC; rw [if_pos hD, if_neg h3, if_pos h128]
        have ev : unV p w = [] := by unfold unV; rw [e]; rfl
        rw [if_pos h128, if_pos h128, e, ev]
        exact ⟨rfl, rfl⟩
      · have e : unC p w = 0 := by unfold unC; rw [if_pos hD, if_neg h3, if_neg h128]
        have ev : unV p w = untU p w := by unfold unV; rw [if_pos e]
        have hfl := lstU_len (p := p) (dgv p w w.length) 1 []
        rw [if_neg h128, if_neg h128, e, ev, s_l13Units_eq hP hl hv (by omega), some_bind, i_element0 hP hl hv, some_bind,
          grow_eq (one := axis (2 ^ w.length) 0) hP hdv (by omega) (by rw [hlen]) (dgv p w w.length).length BIG 1 [] [axis (2 ^ w.length) 0] (by simp) (by simp) (by rw [BIG_val]; omega) (by omega) (by omega) (by simp; omega) (by simp) rfl, some_bind]
        exact ⟨rfl, rfl⟩
  · have hD' : isDb p w = false := by simpa using hD
    have e : unC p w = 1 := by unfold unC; rw [if_neg hD]
    have ev : unV p w = [] := by unfold unV; rw [e]; rfl
    simp only [hD', if_true, e, ev]
    exact ⟨trivial, trivial⟩
end Go.Vam

/- Plain law: FnExactUnitsOf. -/
namespace Go.Vam
open Go Go.RowKit
set_option linter.unusedSimpArgs false
set_option linter.unusedVariables false

end Go.Vam

/- Plain laws: the norm of a product; LoopOfUnits. -/
namespace Go.Vam
open Go Go.RowKit
set_option linter.unusedSimpArgs false
set_option linter.unusedVariables false
set_option linter.unusedSectionVars false

/-! ### The norm of a product -/
theorem wpF_six (w : List Int) : ∀ n, n ≤ 4 → ∀ i, i < 2 ^ n → ∀ j, j < 2 ^ n → ∀ k, k < 2 ^ n →
    wpF w n (i ^^^ k) * (wpF w n (i &&& k) * wpF w n (j &&& (i ^^^ (j ^^^ k)))) = wpF w n (j ^^^ k) * (wpF w n (i &&& (i ^^^ (j ^^^ k))) * wpF w n (j &&& k))
  | 0, _, i, _, j, _, k, _ => rfl
  | n + 1, hn, i, hi, j, hj, k, hk => by
    have hpow : 2 ^ (n + 1) = 2 ^ n + 2 ^ n := by rw [Nat.pow_succ]; omega
    rw [hpow] at hi hj hk
    have ih := wpF_six w n (by omega)
    have hA := and_hi n (by omega)
    have hX := xor_hi n (by omega)
    have hL := and_lt' n (by omega)
    have hlt : ∀ a b, a < 2 ^ n → b < 2 ^ n → a ^^^ b < 2 ^ n := fun a b ha hb => xor_lt ha hb
    unfold wpF
    generalize hd : 2 ^ n = d at hi hj hk ih hA hX hL hlt ⊢
    have hm : ∀ m, m < d → (d + m) % d = m := fun m hm => by rw [Nat.add_mod_left, Nat.mod_eq_of_lt hm]
    have lo : ∀ m, m < d → (if m < d then (1 : Int) else gI w n) * wpF w n (m % d) = wpF w n m := fun m h => by rw [if_pos h, Int.one_mul, Nat.mod_eq_of_lt h]
    have up : ∀ m, m < d → (if d + m < d then (1 : Int) else gI w n) * wpF w n ((d + m) % d) = gI w n * wpF w n m := fun m h => by rw [if_neg (by omega), hm m h]
    have e : ∀ x, x < d + d → ∃ y, y < d ∧ (x = y ∨ x = d + y) := fun x hx => by
      rcases Nat.lt_or_ge x d with h | h
      · exact ⟨x, h, .inl rfl⟩
      · exact ⟨x - d, by omega, .inr (by omega)⟩
    obtain ⟨i', i1, i2⟩ := e i hi
    obtain ⟨j', j1, j2⟩ := e j hj
    obtain ⟨k', k1, k2⟩ := e k hk
    have key := ih i' i1 j' j1 k' k1
    have a1 := hL j' j1 k' k1
    have a2 := hL i' i1 k' k1
    have a3 := hlt j' k' j1 k1
    have a4 := hlt i' k' i1 k1
    have a7 := hlt i' _ i1 a3
    have a8 := hL j' j1 _ a7
    have a9 := hL i' i1 _ a7
    rcases i2 with rfl | rfl <;> rcases j2 with rfl | rfl <;> rcases k2 with rfl | rfl <;>
      simp only [(hX _ j1 _ k1).1, (hX _ j1 _ k1).2.1, (hX _ j1 _ k1).2.2, (hX _ i1 _ k1).1, (hX _ i1 _ k1).2.1, (hX _ i1 _ k1).2.2, (hX _ i1 _ a3).1, (hX _ i1 _ a3).2.1, (hX _ i1 _ a3).2.2,
        (hA _ i1 _ k1).1, (hA _ i1 _ k1).2.1, (hA _ i1 _ k1).2.2, (hA _ j1 _ k1).1, (hA _ j1 _ k1).2.1, (hA _ j1 _ k1).2.2, (hA _ i1 _ a7).1, (hA _ i1 _ a7).2.1, (hA _ i1 _ a7).2.2, (hA _ j1 _ a7).1, (hA _ j1 _ a7).2.1, (hA _ j1 _ a7).2.2,
        lo _ a1, lo _ a2, lo _ a3, lo _ a4, lo _ a8, lo _ a9, up _ a1, up _ a2, up _ a3, up _ a4, up _ a8, up _ a9] <;> grind
def nmB (n i j k : Nat) : Bool := decide (i = j) || decide (sgs (i ^^^ k) * sgF n (i ^^^ k) (i ^^^ k) * (sgF n i k * sgF n j (i ^^^ (j ^^^ k))) + sgs (j ^^^ k) * sgF n (j ^^^ k) (j ^^^ k) * (sgF n i (i ^^^ (j ^^^ k)) * sgF n j k) = 0)
theorem nmB_all : ∀ n, n < 4 → ∀ i, i < 2 ^ n → ∀ j, j < 2 ^ n → ∀ k, k < 2 ^ n → nmB n i j k = true := by decide +kernel
def ndB (n i k : Nat) : Bool := decide (sgs (i ^^^ k) * sgF n (i ^^^ k) (i ^^^ k) * (sgF n i k * sgF n i k) = sgs i * sgF n i i * (sgs k * sgF n k k))
theorem ndB_all : ∀ n, n < 4 → ∀ i, i < 2 ^ n → ∀ k, k < 2 ^ n → ndB n i k = true := by decide +kernel
def dD (n : Nat) (w : List Int) (m : Nat) : Int := sgs m * axS n w m m
theorem dD_split {n : Nat} (hn : n ≤ 4) (w : List Int) {m : Nat} (hm : m < 2 ^ n) : dD n w m = sgs m * sgF n m m * wpF w n m := by
  unfold dD
  rw [axS_split n hn w m m hm hm, Nat.and_self, Int.mul_assoc]
theorem axS_off {n : Nat} (hn : n ≤ 3) (w : List Int) {i j k : Nat} (hi : i < 2 ^ n) (hj : j < 2 ^ n) (hk : k < 2 ^ n) (hij : i ≠ j) :
    dD n w (i ^^^ k) * (axS n w i k * axS n w j (i ^^^ (j ^^^ k))) + dD n w (j ^^^ k) * (axS n w i (i ^^^ (j ^^^ k)) * axS n w j k) = 0 := by
  have hjk := xor_lt hj hk
  have hik := xor_lt hi hk
  have hl := xor_lt hi hjk
  have h1 := nmB_all n (by omega) i hi j hj k hk
  unfold nmB at h1
  simp only [Bool.or_eq_true, decide_eq_true_eq, hij, false_or] at h1
  have h2 := wpF_six w n (by omega) i hi j hj k hk
  rw [dD_split (by omega) w hik, dD_split (by omega) w hjk, axS_split n (by omega) w i k hi hk, axS_split n (by omega) w j _ hj hl, axS_split n (by omega) w i _ hi hl, axS_split n (by omega) w j k hj hk]
  generalize sgF n i k = s1 at h1 ⊢
  generalize sgF n j (i ^^^ (j ^^^ k)) = s2 at h1 ⊢
  generalize sgF n i (i ^^^ (j ^^^ k)) = s3 at h1 ⊢
  generalize sgF n j k = s4 at h1 ⊢
  generalize sgs (i ^^^ k) * sgF n (i ^^^ k) (i ^^^ k) = s5 at h1 ⊢
  generalize sgs (j ^^^ k) * sgF n (j ^^^ k) (j ^^^ k) = s6 at h1 ⊢
  generalize wpF w n (i ^^^ k) = a1 at h2 ⊢
  generalize wpF w n (i &&& k) = a2 at h2 ⊢
  generalize wpF w n (j &&& (i ^^^ (j ^^^ k))) = a3 at h2 ⊢
  generalize wpF w n (j ^^^ k) = a4 at h2 ⊢
  generalize wpF w n (i &&& (i ^^^ (j ^^^ k))) = a5 at h2 ⊢
  generalize wpF w n (j &&& k) = a6 at h2 ⊢
  have h3 : s5 * a1 * (s1 * a2 * (s2 * a3)) + s6 * a4 * (s3 * a5 * (s4 * a6)) = s5 * (s1 * s2) * (a1 * (a2 * a3)) + s6 * (s3 * s4) * (a4 * (a5 * a6)) := by grind
  rw [h3, h2, ← Int.add_mul, h1, Int.zero_mul]
theorem axS_dia {n : Nat} (hn : n ≤ 3) (w : List Int) {i k : Nat} (hi : i < 2 ^ n) (hk : k < 2 ^ n) :
    dD n w (i ^^^ k) * (axS n w i k * axS n w i k) = dD n w i * dD n w k := by
  have hik := xor_lt hi hk
  have h1 := ndB_all n (by omega) i hi k hk
  unfold ndB at h1
  simp only [decide_eq_true_eq] at h1
  have b1 := wpF_self w n (by omega) i hi k hk
  have b2 := wpF_self w n (by omega) k hk i hi
  have b3 := wpF_self w n (by omega) (i ^^^ k) hik i hi
  have hx : (i ^^^ k) ^^^ i = k := by rw [Nat.xor_comm i k, Nat.xor_assoc, Nat.xor_self, Nat.xor_zero]
  rw [hx] at b3
  rw [Nat.and_self] at b1 b2 b3
  rw [Nat.and_comm k i, Nat.xor_comm k i] at b2
  rw [Nat.and_comm (i ^^^ k) i, Nat.and_comm (i ^^^ k) k] at b3
  rw [dD_split (by omega) w hik, dD_split (by omega) w hi, dD_split (by omega) w hk, axS_split n (by omega) w i k hi hk]
  generalize sgF n i k = s1 at h1 ⊢
  generalize sgs (i ^^^ k) * sgF n (i ^^^ k) (i ^^^ k) = s5 at h1 ⊢
  generalize sgs i * sgF n i i = s6 at h1 ⊢
  generalize sgs k * sgF n k k = s7 at h1 ⊢
  rw [← b1, ← b2, ← b3]
  generalize wpF w n (i &&& k) = a1
  generalize wpF w n (i &&& (i ^^^ k)) = a2
  generalize wpF w n (k &&& (i ^^^ k)) = a3
  have e1 : s5 * (a2 * a3) * (s1 * a1 * (s1 * a1)) = s5 * (s1 * s1) * (a1 * a1 * (a2 * a3)) := by grind
  have e2 : s6 * (a1 * a2) * (s7 * (a1 * a3)) = s6 * s7 * (a1 * a1 * (a2 * a3)) := by grind
  rw [e1, e2, h1]
theorem sumN_mul (f g : Nat → Int) (m n : Nat) : sumN f m * sumN g n = sumN (fun i => sumN (fun j => f i * g j) n) m := by
  rw [← sumN_mulR]
  exact sumN_congr fun i _ => (sumN_mulL _ _ _).symm
theorem norm_mul {n : Nat} (hn : n ≤ 3) (w x y : List Int) :
    sumN (fun m => dD n w m * (sumN (fun i => gI x i * gI y (i ^^^ m) * axS n w i (i ^^^ m)) (2 ^ n) * sumN (fun i => gI x i * gI y (i ^^^ m) * axS n w i (i ^^^ m)) (2 ^ n))) (2 ^ n) =
    sumN (fun i => dD n w i * (gI x i * gI x i)) (2 ^ n) * sumN (fun k => dD n w k * (gI y k * gI y k)) (2 ^ n) := by
  have s1 : ∀ m, dD n w m * (sumN (fun i => gI x i * gI y (i ^^^ m) * axS n w i (i ^^^ m)) (2 ^ n) * sumN (fun i => gI x i * gI y (i ^^^ m) * axS n w i (i ^^^ m)) (2 ^ n)) =
      sumN (fun i => sumN (fun j => dD n w m * (gI x i * gI y (i ^^^ m) * axS n w i (i ^^^ m) * (gI x j * gI y (j ^^^ m) * axS n w j (j ^^^ m)))) (2 ^ n)) (2 ^ n) := fun m => by
    rw [sumN_mul, ← sumN_mulL]
    exact sumN_congr fun i _ => (sumN_mulL _ _ _).symm
  rw [sumN_congr fun m _ => s1 m, sumN_comm, sumN_mul]
  refine sumN_congr fun i hi => ?_
  rw [sumN_comm]
  have off : ∀ j, j < 2 ^ n → j ≠ i → sumN (fun m => dD n w m * (gI x i * gI y (i ^^^ m) * axS n w i (i ^^^ m) * (gI x j * gI y (j ^^^ m) * axS n w j (j ^^^ m)))) (2 ^ n) = 0 := by
    intro j hj hji
    have hc := xor_lt hi hj
    rw [← sum_xor0 (fun m => dD n w m * (gI x i * gI y (i ^^^ m) * axS n w i (i ^^^ m) * (gI x j * gI y (j ^^^ m) * axS n w j (j ^^^ m)))) (show n ≤ 4 by omega) hi]
    have e1 : ∀ k, i ^^^ (k ^^^ i) = k := fun k => by rw [Nat.xor_comm k i, ← Nat.xor_assoc, Nat.xor_self, Nat.zero_xor]
    have e2 : ∀ k, j ^^^ (k ^^^ i) = i ^^^ (j ^^^ k) := fun k => by rw [← Nat.xor_assoc, Nat.xor_comm]
    simp only [e1, e2]
    have dbl : sumN (fun k => dD n w (k ^^^ i) * (gI x i * gI y k * axS n w i k * (gI x j * gI y (i ^^^ (j ^^^ k)) * axS n w j (i ^^^ (j ^^^ k))))) (2 ^ n) +
        sumN (fun k => dD n w (k ^^^ i) * (gI x i * gI y k * axS n w i k * (gI x j * gI y (i ^^^ (j ^^^ k)) * axS n w j (i ^^^ (j ^^^ k))))) (2 ^ n) = 0 := by
      conv =>
        lhs; arg 2
        rw [← sum_xor0 (fun k => dD n w (k ^^^ i) * (gI x i * gI y k * axS n w i k * (gI x j * gI y (i ^^^ (j ^^^ k)) * axS n w j (i ^^^ (j ^^^ k))))) (show n ≤ 4 by omega) hc]
      rw [← sumN_add]
      rw [sumN_congr (g := fun _ => 0)]
      · exact sumN_zero _
      intro k hk
      have f1 : k ^^^ (i ^^^ j) = i ^^^ (j ^^^ k) := by rw [Nat.xor_comm, Nat.xor_assoc]
      have f2 : i ^^^ (j ^^^ (i ^^^ (j ^^^ k))) = k := by
        rw [← Nat.xor_assoc j i, Nat.xor_comm j i, Nat.xor_assoc i j, ← Nat.xor_assoc i i, Nat.xor_self, Nat.zero_xor, ← Nat.xor_assoc, Nat.xor_self, Nat.zero_xor]
      have f3 : (i ^^^ (j ^^^ k)) ^^^ i = j ^^^ k := by rw [Nat.xor_comm, ← Nat.xor_assoc, Nat.xor_self, Nat.zero_xor]
      rw [f1, f2, f3, Nat.xor_comm k i]
      have h := axS_off hn w hi hj hk (fun e => hji e.symm)
      have e3 : dD n w (i ^^^ k) * (gI x i * gI y k * axS n w i k * (gI x j * gI y (i ^^^ (j ^^^ k)) * axS n w j (i ^^^ (j ^^^ k)))) + dD n w (j ^^^ k) * (gI x i * gI y (i ^^^ (j ^^^ k)) * axS n w i (i ^^^ (j ^^^ k)) * (gI x j * gI y k * axS n w j k)) =
          gI x i * gI x j * (gI y k * gI y (i ^^^ (j ^^^ k))) * (dD n w (i ^^^ k) * (axS n w i k * axS n w j (i ^^^ (j ^^^ k))) + dD n w (j ^^^ k) * (axS n w i (i ^^^ (j ^^^ k)) * axS n w j k)) := by grind
      rw [e3, h, Int.mul_zero]
    omega
  rw [sumN_one hi off]
  rw [← sum_xor0 (fun m => dD n w m * (gI x i * gI y (i ^^^ m) * axS n w i (i ^^^ m) * (gI x i * gI y (i ^^^ m) * axS n w i (i ^^^ m)))) (show n ≤ 4 by omega) hi]
  refine sumN_congr fun k hk => ?_
  have e1 : i ^^^ (k ^^^ i) = k := by rw [Nat.xor_comm k i, ← Nat.xor_assoc, Nat.xor_self, Nat.zero_xor]
  rw [e1, Nat.xor_comm k i]
  have h := axS_dia hn w hi hk
  have e3 : dD n w (i ^^^ k) * (gI x i * gI y k * axS n w i k * (gI x i * gI y k * axS n w i k)) = gI x i * gI x i * (gI y k * gI y k) * (dD n w (i ^^^ k) * (axS n w i k * axS n w i k)) := by grind
  rw [e3, h]
  grind
theorem nrm_dD {p : Int} (hp : 1 < p) (w x : List Int) : nrm p w x = sumN (fun k => dD w.length w k * (gI x k * gI x k)) (2 ^ w.length) % p := by
  unfold nrm
  refine sumN_mod fun k hk => ?_
  rw [Int.mul_assoc]
  exact mul_mod_l (dgv_at hp w.length w k hk)
theorem nrm_mulp {p : Int} (hp : 1 < p) {w : List Int} (hl : w.length ≤ 3) (x y : List Int) : nrm p w (mulp p w x y) = (nrm p w x * nrm p w y) % p := by
  rw [nrm_dD hp, nrm_dD hp, nrm_dD hp, ← Int.mul_emod, ← norm_mul hl]
  refine sumN_mod fun m hm => ?_
  refine mul_mod_r ?_
  have h := mulr_gen (p := p) w.length (by omega) w x y m hm
  unfold mulp
  rw [Int.mul_emod, h, ← Int.mul_emod]
end Go.Vam

/- Plain law: LoopOfUnits. -/
namespace Go.Vam
open Go Go.RowKit
set_option linter.unusedSimpArgs false
set_option linter.unusedVariables false
set_option linter.unusedSectionVars false

theorem sumN_head (f : Nat → Int) (n : Nat) : sumN f (n + 1) = f 0 + sumN (fun k => f (k + 1)) n := by
  rw [Nat.add_comm n 1, sumN_split]
  simp only [sumN, Int.zero_add]
  congr 1
  exact sumN_congr fun k _ => by rw [Nat.add_comm]
/-- The sum of squares. -/
def sqS (l v : List Int) : Int := sumN (fun k => gI l k * gI v k * gI v k) l.length
theorem mem_lstU {p : Int} (hp : 0 < p) : ∀ (l : List Int) (n : Int) (x y : List Int), y ∈ lstU p l n x ↔ ∃ v, y = x ++ v ∧ Vec p l.length v ∧ (n - sqS l v) % p = 0
  | [], n, x, y => by
    unfold lstU
    constructor
    · intro h
      split at h
      · simp only [List.mem_cons, List.not_mem_nil, or_false] at h
        exact ⟨[], by simpa using h, ⟨rfl, fun k hk => absurd hk (by simp)⟩, by simpa [sqS, sumN] using ‹n % p = 0›⟩
      · cases h
    · rintro ⟨v, rfl, hv, hs⟩
      have : v = [] := List.length_eq_zero_iff.1 hv.1
      subst this
      have hs' : n % p = 0 := by simpa [sqS, sumN] using hs
      rw [if_pos hs']
      simp
  | d :: r, n, x, y => by
    unfold lstU
    rw [List.mem_flatMap]
    constructor
    · rintro ⟨a, ha, h⟩
      obtain ⟨v, rfl, hv, hs⟩ := (mem_lstU hp r _ _ y).1 h
      have haP := List.mem_range.1 ha
      refine ⟨(a : Int) :: v, by simp, ⟨by simp [hv.1], fun k hk => ?_⟩, ?_⟩
      · cases k with
        | zero => show 0 ≤ (a : Int) ∧ (a : Int) < p; omega
        | succ k => exact hv.get (by simpa using hk)
      · have : n - sqS (d :: r) ((a : Int) :: v) = n - d * (a : Int) * (a : Int) - sqS r v := by
          unfold sqS
          rw [List.length_cons, sumN_head]
          show n - (d * (a : Int) * (a : Int) + sumN (fun k => gI r k * gI v k * gI v k) r.length) = _
          omega
        rw [this]
        exact hs
    · rintro ⟨v, rfl, hv, hs⟩
      cases v with
      | nil => simp [Vec] at hv
      | cons a v =>
        have h0 := hv.get (k := 0) (by simp)
        have h0' : 0 ≤ a ∧ a < p := h0
        obtain ⟨b, rfl⟩ : ∃ b : Nat, a = (b : Int) := ⟨a.toNat, by omega⟩
        refine ⟨b, List.mem_range.2 (by omega), (mem_lstU hp r _ _ _).2 ⟨v, by simp, ⟨by simpa using hv.1, fun k hk => hv.get (k := k + 1) (by simpa using hk)⟩, ?_⟩⟩
        have : n - sqS (d :: r) ((b : Int) :: v) = n - d * (b : Int) * (b : Int) - sqS r v := by
          unfold sqS
          rw [List.length_cons, sumN_head]
          show n - (d * (b : Int) * (b : Int) + sumN (fun k => gI r k * gI v k * gI v k) r.length) = _
          omega
        rw [← this]
        exact hs
theorem axS_00 : ∀ (n : Nat) (w : List Int), axS n w 0 0 = 1
  | 0, _ => rfl
  | n + 1, w => by
    unfold axS
    rw [if_pos (two_pos n), if_pos (two_pos n)]
    exact axS_00 n _
section
variable {p : Int} {w : List Int} (hP : isP p = true) (hl : w.length ≤ 3) (hw : Vec p w.length w)
include hP hl hw
theorem nrm_one : nrm p w (axis (2 ^ w.length) 0) = 1 := by
  have hp := isP_le hP
  have h1 := norm_axis hP (by omega) hw (two_pos w.length)
  have h2 := i_norm_eq hP (by omega) hw (axis_vec (p := p) (by omega) (two_pos w.length))
  rw [h1] at h2
  rw [← Option.some.inj h2]
  have h3 := dgv_at (p := p) (by omega) w.length w 0 (two_pos _)
  have h4 := (dgv_vec (p := p) (by omega) w w.length).get (two_pos _)
  rw [axS_00] at h3
  rw [Int.emod_eq_of_lt h4.1 h4.2] at h3
  rw [h3]
  show (1 * 1 : Int) % p = 1
  exact Int.emod_eq_of_lt (by omega) (by omega)
theorem mem_untU {x : List Int} : x ∈ untU p w ↔ Vec p (2 ^ w.length) x ∧ nrm p w x = 1 := by
  have hp := isP_le hP
  have hlen := (dgv_vec (p := p) (by omega) w w.length).1
  have key : x ∈ fndU p w ↔ Vec p (2 ^ w.length) x ∧ nrm p w x = 1 := by
    unfold fndU
    rw [mem_lstU (by omega), hlen]
    have hs : sqS (dgv p w w.length) x % p = nrm p w x := by unfold sqS nrm; rw [hlen]
    constructor
    · rintro ⟨v, rfl, hv, h⟩
      refine ⟨hv, ?_⟩
      rw [← hs]
      have h3 : (sqS (dgv p w w.length) x) % p = 1 % p := by
        have := Int.emod_eq_emod_iff_emod_sub_eq_zero.2 h
        exact this.symm
      rw [h3]
      exact Int.emod_eq_of_lt (by omega) (by omega)
    · rintro ⟨hv, hn⟩
      refine ⟨x, rfl, hv, ?_⟩
      rw [hn] at hs
      refine Int.emod_eq_emod_iff_emod_sub_eq_zero.1 ?_
      rw [hs]
      exact Int.emod_eq_of_lt (by omega) (by omega)
  unfold untU
  rw [List.mem_cons, List.mem_filter, key]
  constructor
  · rintro (rfl | ⟨h, _⟩)
    · exact ⟨axis_vec (by omega) (two_pos _), nrm_one hP hl hw⟩
    · exact h
  · intro h
    by_cases e : x = axis (2 ^ w.length) 0
    · exact .inl e
    · exact .inr ⟨h, by simpa using e⟩
theorem untU_mul {x y : List Int} (hx : x ∈ untU p w) (hy : y ∈ untU p w) : mulp p w x y ∈ untU p w := by
  have hp := isP_le hP
  obtain ⟨x1, x2⟩ := (mem_untU hP hl hw).1 hx
  obtain ⟨y1, y2⟩ := (mem_untU hP hl hw).1 hy
  refine (mem_untU hP hl hw).2 ⟨mulp_vec hP (by omega) hw x1 y1, ?_⟩
  rw [nrm_mulp (by omega) hl, x2, y2]
  exact Int.emod_eq_of_lt (by omega) (by omega)
end
/-- Where an element stands. -/
def fxU (U : List (List Int)) (z : List Int) : Nat := U.findIdx fun y => decide (y = z)
theorem fxU_spec {U : List (List Int)} {z : List Int} (h : z ∈ U) : fxU U z < U.length ∧ gR U (fxU U z) = z ∧ ∀ j, j < fxU U z → gR U j ≠ z := by
  have h1 : fxU U z < U.length := List.findIdx_lt_length_of_exists ⟨z, h, by simp⟩
  refine ⟨h1, ?_, fun j hj => ?_⟩
  · have := List.findIdx_getElem (p := fun y => decide (y = z)) (xs := U) (w := h1)
    rw [← gR_get h1]
    exact of_decide_eq_true this
  · have := List.not_of_lt_findIdx (p := fun y => decide (y = z)) (xs := U) hj
    rw [gR_get (show j < U.length by omega)] at this
    simpa using this
def lpU (p : Int) (w : List Int) (U : List (List Int)) : List (List Int) := vecN U.length fun i => vecN U.length fun j => ((fxU U (mulp p w (gR U i) (gR U j)) : Nat) : Int)
section
variable {p : Int} {w : List Int} {U : List (List Int)} {C : Int} (hP : isP p = true) (hl : w.length ≤ 3) (hw : Vec p w.length w) (hU : U.length ≤ 1000) (hv : ∀ i, i < U.length → Vec p (2 ^ w.length) (gR U i))
  (hc : ∀ i j, i < U.length → j < U.length → mulp p w (gR U i) (gR U j) ∈ U)
include hP hl hw hU hv hc
theorem s_loopU : loop (s_LoopOfUnits_L0 p w (U, C)) BIG ([], 0) = some (lpU p w U) := by
  have h8 : 2 ^ w.length ≤ 16 := two_le (by omega)
  refine map_loop _ U.length _ (by rw [BIG_val]; omega) (fun i hi out ho => ?_) fun out ho => ?_
  · unfold s_LoopOfUnits_L0
    simp only [lt_cast hi, if_true]
    rw [map_loop (s_LoopOfUnits_L1 p w (U, C) (out, (i : Int))) U.length (fun j => ((fxU U (mulp p w (gR U i) (gR U j)) : Nat) : Int)) (by rw [BIG_val]; omega) (fun j hj o2 ho2 => ?_) fun o2 ho2 => ?_]
    · rw [some_bind, chk_bind (by simp; omega), w_in (by omega) (by omega)]
      rfl
    · obtain ⟨f1, f2, f3⟩ := fxU_spec (hc i j hi hj)
      unfold s_LoopOfUnits_L1
      simp only [lt_cast hj, if_true, idxR hi, idxR hj, some_bind]
      rw [s_l11Times_eq hP (by omega) hw (hv i hi) (hv j hj), some_bind]
      rw [loop_for (s := (0 : Int)) (b := ((fxU U (mulp p w (gR U i) (gR U j)) : Nat) : Int)) (fun k => (k : Int)) (fxU U (mulp p w (gR U i) (gR U j))) (by rw [BIG_val]; omega) rfl]
      · rw [some_bind, chk_bind (by simp; omega), w_in (by omega) (by omega)]
        rfl
      · intro k hk
        unfold s_LoopOfUnits_L2
        have := (hv k (by omega)).1
        simp only [idxR (show k < U.length by omega), some_bind]
        rw [s_l01Same_eq (by omega), some_bind, w_in (by omega) (by omega)]
        simp [f3 k hk]
      · unfold s_LoopOfUnits_L2
        have := (hv _ f1).1
        simp only [idxR f1, some_bind]
        rw [s_l01Same_eq (by omega), some_bind, f2]
        simp
    · unfold s_LoopOfUnits_L1
      simp only [lt_cast_self, if_false]
  · unfold s_LoopOfUnits_L0
    simp only [lt_cast_self, if_false]
theorem i_loopU : loop (i_LoopOfUnits_L0 p w (U, C)) BIG ([], 0) = some (lpU p w U) := by
  have h8 : 2 ^ w.length ≤ 16 := two_le (by omega)
  refine map_loop _ U.length _ (by rw [BIG_val]; omega) (fun i hi out ho => ?_) fun out ho => ?_
  · unfold i_LoopOfUnits_L0
    simp only [lt_cast hi, if_true, idxR hi, some_bind]
    rw [map_loop (i_LoopOfUnits_L1 p w (U, C) (gR U i)) U.length (fun j => ((fxU U (mulp p w (gR U i) (gR U j)) : Nat) : Int)) (by rw [BIG_val]; omega) (fun j hj o2 ho2 => ?_) fun o2 ho2 => ?_]
    · rw [some_bind, chk_bind (by simp; omega), w_in (by omega) (by omega)]
      rfl
    · obtain ⟨f1, f2, f3⟩ := fxU_spec (hc i j hi hj)
      unfold i_LoopOfUnits_L1 g_slices_IndexFunc_LLI_LI_of_i_LoopOfUnits_c1
      simp only [lt_cast hj, if_true, idxR hj, some_bind]
      rw [i_Doubling_times_eq hP (by omega) hw (hv i hi) (hv j hj), some_bind]
      rw [loop_for (s := (0 : Int)) (b := (Sum.inr ((fxU U (mulp p w (gR U i) (gR U j)) : Nat) : Int) : Unit ⊕ Int)) (fun k => (k : Int)) (fxU U (mulp p w (gR U i) (gR U j))) (by rw [BIG_val]; omega) rfl]
      · rw [some_bind]
        simp only [some_bind]
        rw [chk_bind (by simp; omega), w_in (by omega) (by omega)]
        rfl
      · intro k hk
        unfold g_slices_IndexFunc_LLI_LI_of_i_LoopOfUnits_c1_L0 i_LoopOfUnits_c1
        have := (hv k (by omega)).1
        simp only [lt_cast (show k < U.length by omega), if_true, idxR (show k < U.length by omega), some_bind]
        rw [slicesEqual_eq (by omega), some_bind, some_bind, w_in (by omega) (by omega)]
        simp [f3 k hk]
      · unfold g_slices_IndexFunc_LLI_LI_of_i_LoopOfUnits_c1_L0 i_LoopOfUnits_c1
        have := (hv _ f1).1
        simp only [lt_cast f1, if_true, idxR f1, some_bind]
        rw [slicesEqual_eq (by omega), some_bind, some_bind, f2]
        simp
    · unfold i_LoopOfUnits_L1
      simp only [lt_cast_self, if_false]
  · unfold i_LoopOfUnits_L0
    simp only [lt_cast_self, if_false]
theorem lpU_small (hn : U.length ≤ 200) : smallM (lpU p w U) := by
  refine smallM.of (p := 1000) (r := U.length) (c := U.length) (Mat.mk' fun i hi => Vec.mk' fun j hj => ?_) (by omega) (by omega)
  have := (fxU_spec (hc i j hi hj)).1
  omega
end
theorem LoopOfUnits_eq {p : Int} {w : List Int} (hw : w.length ≤ 1048576) : ∃ V C, s_LoopOfUnits p w = some (V, C) ∧ i_LoopOfUnits p w = some (V, C) ∧ smallM V := by
  obtain ⟨h1, h2⟩ := Small_eq (p := p) hw
  unfold s_LoopOfUnits i_LoopOfUnits
  rw [h1, h2, some_bind, some_bind]
  by_cases h0 : unC p w = 0
  · obtain ⟨hD, hl, hcn⟩ := unC_zero h0
    obtain ⟨hP, hl4, hv, _⟩ := isDb_iff hD
    have ev : unV p w = untU p w := by unfold unV; rw [if_pos h0]
    have hfl := lstU_len (p := p) (dgv p w w.length) 1 []
    have hn : (untU p w).length ≤ 129 := by
      unfold untU
      have : ((fndU p w).filter fun x => !decide (x = axis (2 ^ w.length) 0)).length ≤ (fndU p w).length := List.length_filter_le ..
      unfold fndU at this ⊢
      simp only [List.length_cons]
      omega
    have hm : ∀ i, i < (untU p w).length → gR (untU p w) i ∈ untU p w := fun i hi => by rw [← gR_get hi]; exact List.getElem_mem _
    have hvv : ∀ i, i < (untU p w).length → Vec p (2 ^ w.length) (gR (untU p w) i) := fun i hi => ((mem_untU hP hl hv).1 (hm i hi)).1
    have hcc : ∀ i j, i < (untU p w).length → j < (untU p w).length → mulp p w (gR (untU p w) i) (gR (untU p w) j) ∈ untU p w := fun i j hi hj => untU_mul hP hl hv (hm i hi) (hm j hj)
    simp only [h0, not_true_eq_false, if_false, ev]
    rw [s_loopU (C := 0) hP hl hv (by omega) hvv hcc, i_loopU (C := 0) hP hl hv (by omega) hvv hcc]
    exact ⟨_, _, rfl, rfl, lpU_small hP hl hv (by omega) hvv hcc (by omega)⟩
  · simp only [h0, not_false_eq_true, if_true]
    exact ⟨_, _, rfl, rfl, smallM.nil⟩
theorem LawLoopOfUnits {p : Int} {w : List Int} (hw : lenI w) : l_FnExactLoopOfUnits p w = some true := by
  unfold l_FnExactLoopOfUnits
  rw [szDb_eq hw (by omega) (by omega), some_bind]
  by_cases h1 : ((w.length : Nat) : Int) ≤ 1048576
  · have hs : szv w.length 1048576 = 1048576 - ((w.length : Nat) : Int) := by unfold szv; rw [if_pos h1]
    rw [hs, if_neg (by omega)]
    have hw' : w.length ≤ 1048576 := by omega
    obtain ⟨V, C, e3, e4, z1, z2, z3⟩ := LoopOfUnits_eq (p := p) hw'
    have e2 := toDb_eq (p := p) hw'
    have e5 := eqDb_self (p := p) hw'
    have e7 := eqM_self ⟨z1, z2⟩
    have e8 := markDb_1 (p := p) hw'
    have e10 := markM_1 z1 z3
    have e11 := heldM_1 z1 z3
    simp only [e2, e3, e4, e5, e7, e8, e10, e11, some_bind, Bool.true_eq_false, Bool.false_eq_true, if_false, if_true, ieq_self, Bool.not_true, natneg, not_true_eq_false, bne_self_eq_false]
  · have hs : szv w.length 1048576 = -1 := by unfold szv; rw [if_neg h1]
    rw [hs, if_pos (by omega)]
end Go.Vam
