import Derived.Test.YtjkknabmfdodeaaPlG0
import Derived.Test.YtjkknabmfdodeaaFnG
import Derived.Test.YtjkknabmfdodeaaFnE
import Derived.Test.YtjkknabmfdodeaaFnH
import Derived.Test.YtjkknabmfdodeaaFnI
import Derived.Test.YtjkknabmfdodeaaFnJ
import Derived.Test.YtjkknabmfdodeaaFnK
import Derived.Test.YtjkknabmfdodeaaFnM
/- Plain laws: ranks, kernels and how many vectors they have. -/
namespace Go.Vam
open Go Go.RowKit
set_option linter.unusedSimpArgs false
set_option linter.unusedVariables false
set_option linter.unusedSectionVars false

theorem sumN_add (f g : Nat → Int) (n : Nat) : sumN (fun q => f q + g q) n = sumN f n + sumN g n := by
  have := sumN_lin f g 1 n
  simp only [Int.one_mul] at this
  exact this
theorem sumN_comm (f : Nat → Nat → Int) (m : Nat) : ∀ n, sumN (fun i => sumN (fun j => f i j) m) n = sumN (fun j => sumN (fun i => f i j) n) m
  | 0 => by simp only [sumN]; rw [sumN_zero]
  | n + 1 => by
    simp only [sumN]
    rw [sumN_add, sumN_comm f m n]
theorem sumN_dvd {p : Int} {f : Nat → Int} : ∀ {n : Nat}, (∀ k, k < n → p ∣ f k) → p ∣ sumN f n
  | 0, _ => Int.dvd_zero p
  | n + 1, h => by
    simp only [sumN]
    exact Int.dvd_add (sumN_dvd fun k hk => h k (by omega)) (h n (by omega))
theorem sumN_sub (f g : Nat → Int) (n : Nat) : sumN (fun q => f q - g q) n = sumN f n - sumN g n := by
  have := sumN_lin f g (-1) n
  have e : sumN (fun q => f q - g q) n = sumN (fun q => f q + -1 * g q) n := sumN_congr fun q _ => by omega
  rw [e, this]; omega
theorem dvd_trans_sub {p a b c : Int} (h1 : p ∣ a - b) (h2 : p ∣ b - c) : p ∣ a - c := by
  have := Int.dvd_add h1 h2
  rwa [show a - b + (b - c) = a - c by omega] at this
section
variable {p : Int} {n : Nat} {B : List (List Int)} {ld : Nat → Nat} (h : Ech p n B ld)
include h
theorem Ech.at_lead (g : Nat → Int) (q : Nat) : sumN (fun j => if ld j = q then g j else 0) B.length = if isLd B.length ld q = true then g (rowOf ld q B.length) else 0 := by
  by_cases hq : isLd B.length ld q = true
  · rw [if_pos hq]
    obtain ⟨a1, a2⟩ := rowOf_spec (isLd_iff.1 hq)
    rw [sumN_one a1 (fun j hj hne => if_neg fun e => hne (h.inj hj a1 (by rw [e, a2]))), if_pos a2]
  · rw [if_neg hq, sumN_congr (g := fun _ => 0) fun j hj => if_neg fun e => hq (isLd_iff.2 ⟨j, hj, e⟩)]
    exact sumN_zero _
/-- A sum over all places: those without a lead, and the leads. -/
theorem Ech.split (g : Nat → Int) : sumN g n = sumN (fun q => if isLd B.length ld q = true then 0 else g q) n + sumN (fun j => g (ld j)) B.length := by
  have e1 : sumN (fun j => g (ld j)) B.length = sumN (fun j => sumN (fun q => if ld j = q then g q else 0) n) B.length :=
    sumN_congr fun j hj => by rw [sumN_one (h.lt j hj) (fun q _ hq => if_neg fun e => hq e.symm), if_pos rfl]
  rw [e1, sumN_comm, ← sumN_add]
  refine sumN_congr fun q hq => ?_
  have e2 : sumN (fun j => if ld j = q then g q else 0) B.length = if isLd B.length ld q = true then g q else 0 := h.at_lead (fun _ => g q) q
  rw [e2]
  split <;> omega
end
end Go.Vam

/- Plain laws: the equations of derivations; both programs' bases of derivations are one. -/
namespace Go.Vam
open Go Go.RowKit
set_option linter.unusedSimpArgs false
set_option linter.unusedVariables false
set_option linter.unusedSectionVars false

theorem gR_append {x y : List (List Int)} {k : Nat} : gR (x ++ y) k = if k < x.length then gR x k else gR y (k - x.length) := by
  unfold gR
  rw [List.getD_eq_getElem?_getD, List.getElem?_append]
  by_cases h : k < x.length
  · rw [if_pos h, if_pos h, List.getD_eq_getElem?_getD]
  · rw [if_neg h, if_neg h, List.getD_eq_getElem?_getD]
theorem Mat.append {p : Int} {a b c : Nat} {x y : List (List Int)} (hx : Mat p a c x) (hy : Mat p b c y) : Mat p (a + b) c (x ++ y) := by
  have h1 := hx.1
  refine ⟨by rw [List.length_append, hx.1, hy.1], fun i hi => ?_⟩
  rw [gR_append]
  split
  · exact hx.2 i (by omega)
  · exact hy.2 (i - x.length) (by omega)
section
variable {p : Int} {w : List Int} (hP : isP p = true) (hl : w.length ≤ 4) (hw : Vec p w.length w)
include hP hl hw
end
end Go.Vam

/- Plain laws: what is drawn from a code. -/
namespace Go.Vam
open Go Go.RowKit
set_option linter.unusedSimpArgs false
set_option linter.unusedVariables false
set_option linter.unusedSectionVars false

/-- A table that is not large. -/
def tabS (m : List (List Int)) : Prop := m.length ≤ 17 ∧ ∀ x ∈ m, x.length ≤ 18
theorem tabS.sz {m : List (List Int)} (h : tabS m) : szM m := ⟨by have := h.1; omega, fun r hr => by have := h.2 r hr; omega⟩
theorem tabS.of {p : Int} {r k : Nat} {m : List (List Int)} (h : Mat p r k m) (hr : r ≤ 17) (hk : k ≤ 18) : tabS m := by
  refine ⟨by rw [h.1]; exact hr, fun x hx => ?_⟩
  obtain ⟨i, hi, rfl⟩ := List.getElem_of_mem hx
  have e := (h.2 i (by have := h.1; omega)).1
  rw [← gR_get hi] at e
  omega
theorem tabS.set {m : List (List Int)} (h : tabS m) (i : Nat) {x : List Int} (hx : x.length ≤ 18) : tabS (m.set i x) := by
  refine ⟨by rw [List.length_set]; exact h.1, fun y hy => ?_⟩
  rcases List.mem_or_eq_of_mem_set hy with h1 | h1
  · exact h.2 y h1
  · rw [h1]; exact hx
end Go.Vam

/- Plain laws: reflections keep the products of vectors. -/
namespace Go.Vam
open Go Go.RowKit
set_option linter.unusedSimpArgs false
set_option linter.unusedVariables false
set_option linter.unusedSectionVars false

/-- The product of vectors, as an integer. -/
def pairS (n : Nat) (w x y : List Int) : Int := sumN (fun k => gI x k * gI y k * gI w k) n
theorem pairp_S (p : Int) (n : Nat) (w x y : List Int) : pairp p n w x y = pairS n w x y % p := rfl
theorem pairS_comm (n : Nat) (w x y : List Int) : pairS n w x y = pairS n w y x := by
  unfold pairS
  exact sumN_congr fun k _ => by rw [Int.mul_comm (gI x k)]
theorem pairS_lin {p : Int} {n : Nat} {w x x' u y : List Int} {c : Int} (h : ∀ k, k < n → gI x' k % p = (gI x k + c * gI u k) % p) : pairS n w x' y % p = (pairS n w x y + c * pairS n w u y) % p := by
  unfold pairS
  rw [← sumN_lin]
  refine sumN_mod fun k hk => ?_
  rw [Int.mul_assoc, mul_mod_l (h k hk)]
  congr 1
  rw [Int.add_mul, Int.mul_assoc, Int.mul_assoc, Int.mul_assoc]
/-- What the reflection in u makes of v. -/
def reflv (p : Int) (n : Nat) (w u v : List Int) : List Int := plusv p n v u (-2 * pairS n w u v * invp p (pairp p n w u u))
theorem reflv_vec {p : Int} (hp : 0 < p) (n : Nat) (w u v : List Int) : Vec p n (reflv p n w u v) := plusv_vec hp ..
theorem reflv_at {p : Int} {n k : Nat} {w u v : List Int} (hk : k < n) : gI (reflv p n w u v) k = (gI v k + (-2 * pairS n w u v * invp p (pairp p n w u u)) * gI u k) % p := plusv_at hk
theorem inv_dvd {p a : Int} (hP : isP p = true) (h0 : a % p ≠ 0) : p ∣ invp p (a % p) * a - 1 := by
  have hp := isP_le hP
  have hn := mod_num (a := a) (p := p) (by omega)
  obtain ⟨_, _, i3⟩ := inv_facts (a := a % p) hP (by omega) hn.2
  rw [← mod_dvd, Int.emod_eq_of_lt (show (0 : Int) ≤ 1 by omega) (by omega), Int.mul_comm, ← i3]
  exact (mul_mod_l (emm a p)).symm
theorem reflv_pair {p : Int} {n : Nat} {w u : List Int} (hP : isP p = true) (hu : pairp p n w u u ≠ 0) (x y : List Int) :
    pairp p n w (reflv p n w u x) (reflv p n w u y) = pairp p n w x y := by
  rw [pairp_S, pairp_S]
  have ht := inv_dvd hP (a := pairS n w u u) hu
  rw [← pairp_S] at ht
  have hx : ∀ k, k < n → gI (reflv p n w u x) k % p = (gI x k + (-2 * pairS n w u x * invp p (pairp p n w u u)) * gI u k) % p := fun k hk => by rw [reflv_at hk, emm]
  have hy : ∀ k, k < n → gI (reflv p n w u y) k % p = (gI y k + (-2 * pairS n w u y * invp p (pairp p n w u u)) * gI u k) % p := fun k hk => by rw [reflv_at hk, emm]
  have h1 := mod_dvd.1 (pairS_lin (w := w) (y := reflv p n w u y) hx)
  have h2 := mod_dvd.1 (pairS_lin (w := w) (y := x) hy)
  have h3 := mod_dvd.1 (pairS_lin (w := w) (y := u) hy)
  rw [pairS_comm n w x (reflv p n w u y), pairS_comm n w u (reflv p n w u y)] at h1
  rw [pairS_comm n w y x, pairS_comm n w u x] at *
  rw [pairS_comm n w y u] at h3
  generalize hX : pairS n w x u = X at *
  generalize hY : pairS n w u y = Y at *
  generalize invp p (pairp p n w u u) = t at *
  generalize pairS n w u u = Q at *
  generalize pairS n w x y = Z at *
  generalize pairS n w (reflv p n w u x) (reflv p n w u y) = A at *
  generalize pairS n w (reflv p n w u y) x = B at *
  generalize pairS n w (reflv p n w u y) u = C at *
  rw [mod_dvd]
  obtain ⟨k1, e1⟩ := h1
  obtain ⟨k2, e2⟩ := h2
  obtain ⟨k3, e3⟩ := h3
  obtain ⟨k4, e4⟩ := ht
  exact ⟨k1 + k2 + (-2 * X * t) * k3 + 4 * X * Y * t * k4, by grind⟩
/-- The reflection's table. -/
def reflm (p : Int) (n : Nat) (w u : List Int) : List (List Int) := turnm n n (vecN n fun k => reflv p n w u (axis n k))
theorem pairS_axis {n k : Nat} {w u : List Int} (hk : k < n) : pairS n w u (axis n k) = gI u k * gI w k := by
  unfold pairS
  rw [sumN_one hk (fun q hq hqk => by rw [gI_axis hk, if_neg hqk]; simp), gI_axis hk, if_pos rfl, Int.mul_one]
theorem reflm_at {p : Int} {n r k : Nat} {w u : List Int} (hr : r < n) (hk : k < n) : gI (gR (reflm p n w u) r) k = ((if r = k then 1 else 0) + (-2 * (gI u k * gI w k) * invp p (pairp p n w u u)) * gI u r) % p := by
  unfold reflm
  rw [turnm_at hk hr, gR_vecN _ hk, reflv_at hr, gI_axis hk, pairS_axis hk]
theorem refl_times {p : Int} {n i : Nat} {w u : List Int} {m : List (List Int)} (hp : 0 < p) (hi : i < n) :
    gR (turnm n n (timesm p n n n (reflm p n w u) m)) i = reflv p n w u (gR (turnm n n m) i) := by
  have hv := (reflv_vec hp n w u (gR (turnm n n m) i)).1
  rw [extI hv (f := gI (reflv p n w u (gR (turnm n n m) i))) fun k _ => rfl]
  refine extI (by unfold turnm; rw [gR_vecN _ hi, vecN_len]) fun r hr => ?_
  rw [turnm_at hr hi, reflv_at hr, turnm_at hr hi]
  unfold timesm
  rw [gR_vecN _ hr, gI_vecN _ hi]
  have e1 : sumN (fun j => gI (gR (reflm p n w u) r) j * gI (gR m j) i) n % p = sumN (fun j => (if r = j then gI (gR m j) i else 0) + (-2 * invp p (pairp p n w u u) * gI u r) * (gI u j * gI (gR m j) i * gI w j)) n % p := by
    refine sumN_mod fun j hj => ?_
    rw [reflm_at hr hj, mul_mod_l (emm _ _)]
    congr 1
    split <;> grind
  rw [e1, sumN_lin, sumN_one hr (fun q hq hqr => if_neg (fun e => hqr e.symm)), if_pos rfl]
  congr 2
  have e2 : sumN (fun k => gI u k * gI (gR m k) i * gI w k) n = pairS n w u (gR (turnm n n m) i) := by
    unfold pairS
    exact sumN_congr fun k hk => by rw [turnm_at hk hi]
  rw [e2]
  grind
/-- A table whose columns have the products of the basis. -/
def IsoT (p : Int) (n : Nat) (w : List Int) (m : List (List Int)) : Prop := ∀ i, i < n → ∀ j, j < n → pairp p n w (gR (turnm n n m) i) (gR (turnm n n m) j) = if i = j then gI w i else 0
theorem IsoT.refl {p : Int} {n : Nat} {w u : List Int} {m : List (List Int)} (hP : isP p = true) (h : IsoT p n w m) (hu : pairp p n w u u ≠ 0) : IsoT p n w (timesm p n n n (reflm p n w u) m) := by
  have hp := isP_le hP
  intro i hi j hj
  rw [refl_times (by omega) hi, refl_times (by omega) hj, reflv_pair hP hu]
  exact h i hi j hj
end Go.Vam

/- Plain laws: decompositions into reflections; HasSquareNorm. -/
namespace Go.Vam
open Go Go.RowKit
set_option linter.unusedSimpArgs false
set_option linter.unusedVariables false
set_option linter.unusedSectionVars false

section
variable {p : Int} {n : Nat} {w u : List Int} (hP : isP p = true) (hn0 : 0 < n) (hn : n ≤ 1000) (hwl : w.length = n) (hw : Vec p n w) (hu : Vec p n u) (hQ : pairp p n w u u ≠ 0)
include hP hn0 hn hwl hw hu hQ
end
section
variable {p : Int} {n : Nat} {w : List Int} (hP : isP p = true) (hn0 : 0 < n) (hn : n ≤ 1000) (hwl : w.length = n) (hw : Vec p n w) (hz : ∀ k, k < n → gI w k ≠ 0)
include hP hn0 hn hwl hw hz
end
end Go.Vam

/- Plain laws: systems of equations and spans. -/
namespace Go.Vam
open Go Go.RowKit
set_option linter.unusedSimpArgs false
set_option linter.unusedVariables false
set_option linter.unusedSectionVars false

end Go.Vam

/- Plain law: FnKernels. -/
namespace Go.Vam
open Go Go.RowKit
set_option linter.unusedSimpArgs false
set_option linter.unusedVariables false
set_option linter.unusedSectionVars false

end Go.Vam

/- Plain laws: determinants of numbers, by expansion; they are multiplied with tables. -/
namespace Go.Vam
open Go Go.RowKit
set_option linter.unusedSimpArgs false
set_option linter.unusedVariables false
set_option linter.unusedSectionVars false

def skipN (i a : Nat) : Nat := if a < i then a else a + 1
def sgnN (i : Nat) : Int := if i % 2 = 0 then 1 else -1
/-- The determinant of the first n rows and columns, expanded along column 0. -/
def detN : Nat → (Nat → Nat → Int) → Int
  | 0, _ => 1
  | n + 1, M => sumN (fun i => sgnN i * M i 0 * detN n (fun a b => M (skipN i a) (b + 1))) (n + 1)
theorem sgnN_succ (i : Nat) : sgnN (i + 1) = - sgnN i := by
  unfold sgnN
  rcases Nat.mod_two_eq_zero_or_one i with h | h
  · rw [if_neg (by omega), if_pos h]
  · rw [if_pos (by omega), if_neg (by omega)]; rfl
theorem skipN_lt {n i a : Nat} (ha : a < n) : skipN i a < n + 1 := by unfold skipN; split <;> omega
theorem detN_congr : ∀ (n : Nat) {M M' : Nat → Nat → Int}, (∀ i, i < n → ∀ j, j < n → M i j = M' i j) → detN n M = detN n M'
  | 0, _, _, _ => rfl
  | n + 1, M, M', h => by
    unfold detN
    refine sumN_congr fun i hi => ?_
    rw [h i hi 0 (by omega), detN_congr n fun a ha b hb => h _ (skipN_lt ha) (b + 1) (by omega)]
theorem dvd_mul_sub {p a b x y : Int} (h1 : p ∣ a - b) (h2 : p ∣ x - y) : p ∣ a * x - b * y := by
  have e : a * x - b * y = (a - b) * x + b * (x - y) := by rw [Int.sub_mul, Int.mul_sub]; omega
  rw [e]
  exact Int.dvd_add (Int.dvd_mul_of_dvd_left h1) (Int.dvd_mul_of_dvd_right h2)
theorem sumN_cong_dvd {p : Int} {f g : Nat → Int} {n : Nat} (h : ∀ k, k < n → p ∣ f k - g k) : p ∣ sumN f n - sumN g n := by
  rw [← sumN_sub]; exact sumN_dvd h
theorem detN_mod {p : Int} : ∀ (n : Nat) {M M' : Nat → Nat → Int}, (∀ i, i < n → ∀ j, j < n → p ∣ M i j - M' i j) → p ∣ detN n M - detN n M'
  | 0, _, _, _ => by unfold detN; simp
  | n + 1, M, M', h => by
    unfold detN
    refine sumN_cong_dvd fun i hi => ?_
    refine dvd_mul_sub (dvd_mul_sub (by simp) (h i hi 0 (by omega))) (detN_mod n fun a ha b hb => h _ (skipN_lt ha) (b + 1) (by omega))

/-- Row i replaced. -/
def rowU (M : Nat → Nat → Int) (i : Nat) (r : Nat → Int) : Nat → Nat → Int := fun a b => if a = i then r b else M a b
theorem rowU_self (M : Nat → Nat → Int) (i : Nat) : rowU M i (M i) = M := by
  funext a b; unfold rowU; split
  · rename_i h; rw [h]
  · rfl
/-- Where row i stands when row k is left out. -/
def backN (k i : Nat) : Nat := if i < k then i else i - 1
theorem skipN_eq {k i a : Nat} (h : i ≠ k) : skipN k a = i ↔ a = backN k i := by
  unfold skipN backN
  constructor
  · intro e; split at e <;> split <;> omega
  · intro e; split at e <;> split <;> omega
theorem backN_lt {n k i : Nat} (hk : k < n + 1) (hi : i < n + 1) (h : i ≠ k) : backN k i < n := by unfold backN; split <;> omega
theorem minor_rowU {M : Nat → Nat → Int} {i k : Nat} {r : Nat → Int} (h : i ≠ k) : (fun a b => rowU M i r (skipN k a) (b + 1)) = rowU (fun a b => M (skipN k a) (b + 1)) (backN k i) (fun b => r (b + 1)) := by
  funext a b
  unfold rowU
  by_cases e : skipN k a = i
  · rw [if_pos e, if_pos ((skipN_eq h).1 e)]
  · rw [if_neg e, if_neg fun e' => e ((skipN_eq h).2 e')]
theorem minor_rowU_self {M : Nat → Nat → Int} {i : Nat} {r : Nat → Int} : (fun a b => rowU M i r (skipN i a) (b + 1)) = (fun a b => M (skipN i a) (b + 1)) := by
  funext a b
  unfold rowU
  rw [if_neg (by unfold skipN; split <;> omega)]
theorem detN_lin : ∀ (n : Nat) (M : Nat → Nat → Int) (i : Nat) (r s : Nat → Int) (c : Int), i < n →
    detN n (rowU M i (fun b => r b + c * s b)) = detN n (rowU M i r) + c * detN n (rowU M i s)
  | 0, _, _, _, _, _, h => by omega
  | n + 1, M, i, r, s, c, h => by
    unfold detN
    rw [← sumN_lin]
    refine sumN_congr fun k hk => ?_
    by_cases e : i = k
    · subst e
      rw [minor_rowU_self, minor_rowU_self, minor_rowU_self]
      simp only [rowU, if_true]
      grind
    · rw [minor_rowU e, minor_rowU e, minor_rowU e, detN_lin n _ _ (fun b => r (b + 1)) (fun b => s (b + 1)) c (backN_lt hk h e)]
      simp only [rowU, if_neg fun e' : k = i => e e'.symm]
      grind
theorem detN_adj : ∀ (n : Nat) (M : Nat → Nat → Int) (i : Nat), i + 1 < n → (∀ b, M i b = M (i + 1) b) → detN n M = 0
  | 0, _, _, h, _ => by omega
  | n + 1, M, i, h, he => by
    unfold detN
    rw [sumN_two (i := i) (k := i + 1) (by omega) h (by omega) fun k hk h1 h2 => ?_]
    · have e : (fun a b => M (skipN (i + 1) a) (b + 1)) = (fun a b => M (skipN i a) (b + 1)) := by
        funext a b
        by_cases ha : a = i
        · subst ha
          have e1 : skipN (a + 1) a = a := by unfold skipN; rw [if_pos (by omega)]
          have e2 : skipN a a = a + 1 := by unfold skipN; rw [if_neg (by omega)]
          rw [e1, e2]; exact he _
        · have : skipN (i + 1) a = skipN i a := by unfold skipN; split <;> split <;> omega
          rw [this]
      rw [e, sgnN_succ, he 0]
      grind
    · have : detN n (fun a b => M (skipN k a) (b + 1)) = 0 := by
        by_cases hki : k < i
        · refine detN_adj n _ (i - 1) (by omega) fun b => ?_
          have e1 : skipN k (i - 1) = i := by unfold skipN; rw [if_neg (by omega)]; omega
          have e2 : skipN k (i - 1 + 1) = i + 1 := by unfold skipN; rw [if_neg (by omega)]; omega
          simp only [e1, e2]; exact he _
        · refine detN_adj n _ i (by omega) fun b => ?_
          have e1 : skipN k i = i := by unfold skipN; rw [if_pos (by omega)]
          have e2 : skipN k (i + 1) = i + 1 := by unfold skipN; rw [if_pos (by omega)]
          simp only [e1, e2]; exact he _
      rw [this, Int.mul_zero]
theorem detN_swap_of {n i k : Nat} (hi : i < n) (hk : k < n) (hne : i ≠ k) (alt : ∀ M : Nat → Nat → Int, (∀ b, M i b = M k b) → detN n M = 0) (M : Nat → Nat → Int) :
    detN n (rowU (rowU M i (M k)) k (M i)) = - detN n M := by
  have key : ∀ r s : Nat → Int, detN n (rowU (rowU M i r) k s) + detN n (rowU (rowU M i s) k r) = 0 := by
    intro r s
    have h0 := alt (rowU (rowU M i (fun b => r b + 1 * s b)) k (fun b => r b + 1 * s b)) fun b => by
      simp only [rowU, if_true, if_neg hne]
    have h1 := alt (rowU (rowU M i r) k r) fun b => by simp only [rowU, if_true, if_neg hne]
    have h2 := alt (rowU (rowU M i s) k s) fun b => by simp only [rowU, if_true, if_neg hne]
    have cm : ∀ u v : Nat → Int, rowU (rowU M i u) k v = rowU (rowU M k v) i u := by
      intro u v; funext a b; unfold rowU
      by_cases a1 : a = i
      · subst a1; rw [if_neg hne, if_pos rfl, if_pos rfl]
      · simp only [if_neg a1]
    rw [detN_lin n (rowU M i (fun b => r b + 1 * s b)) k r s 1 hk, cm, cm, detN_lin n (rowU M k r) i r s 1 hi, detN_lin n (rowU M k s) i r s 1 hi] at h0
    rw [cm] at h1 h2
    rw [cm, cm]
    omega
  have h := key (M k) (M i)
  have e : rowU (rowU M i (M i)) k (M k) = M := by rw [rowU_self, rowU_self]
  rw [e] at h
  omega
theorem detN_alt {n : Nat} : ∀ (t i : Nat) (M : Nat → Nat → Int), i + 1 + t < n → (∀ b, M i b = M (i + 1 + t) b) → detN n M = 0
  | 0, i, M, h, he => detN_adj n M i h he
  | t + 1, i, M, h, he => by
    have hs := detN_swap_of (n := n) (i := i + 1 + t) (k := i + 1 + (t + 1)) (by omega) h (by omega) (fun M hM => detN_adj n M (i + 1 + t) (by omega) hM) M
    have h0 := detN_alt (n := n) t i (rowU (rowU M (i + 1 + t) (M (i + 1 + (t + 1)))) (i + 1 + (t + 1)) (M (i + 1 + t))) (by omega) fun b => by
      simp only [rowU, if_true, if_neg (show i ≠ i + 1 + (t + 1) by omega), if_neg (show i ≠ i + 1 + t by omega), if_neg (show i + 1 + t ≠ i + 1 + (t + 1) by omega)]
      exact he b
    omega
theorem detN_same {n i k : Nat} (hi : i < n) (hk : k < n) (hne : i ≠ k) (M : Nat → Nat → Int) (he : ∀ b, M i b = M k b) : detN n M = 0 := by
  rcases Nat.lt_or_gt_of_ne hne with h | h
  · exact detN_alt (k - i - 1) i M (by omega) fun b => by rw [he b]; congr 1; omega
  · exact detN_alt (i - k - 1) k M (by omega) fun b => by rw [← he b]; congr 1; omega
/-- Multiples of row k added to all others. -/
theorem detN_clear {n k : Nat} (hk : k < n) (M : Nat → Nat → Int) (c : Nat → Int) : detN n (fun a b => if a = k then M k b else M a b + c a * M k b) = detN n M := by
  have key : ∀ m, m ≤ n → detN n (fun a b => if a = k then M k b else if a < m then M a b + c a * M k b else M a b) = detN n M := by
    intro m
    induction m with
    | zero =>
      intro _
      refine detN_congr n fun a ha b hb => ?_
      by_cases e : a = k
      · rw [if_pos e, e]
      · rw [if_neg e, if_neg (by omega)]
    | succ m ih =>
      intro hm
      rw [← ih (by omega)]
      by_cases e : m = k
      · refine detN_congr n fun a ha b hb => ?_
        by_cases e2 : a = k
        · rw [if_pos e2, if_pos e2]
        · rw [if_neg e2, if_neg e2]
          by_cases e3 : a < m
          · rw [if_pos e3, if_pos (by omega)]
          · rw [if_neg e3, if_neg (by omega)]
      · generalize hH : (fun a b => if a = k then M k b else if a < m then M a b + c a * M k b else M a b) = H
        have h1 := detN_lin n H m (fun b => H m b) (fun b => H k b) (c m) (by omega)
        have h2 : detN n (rowU H m (fun b => H k b)) = 0 := detN_same (i := m) (k := k) (by omega) hk e _ fun b => by
          simp only [rowU, if_true, if_neg fun e' : k = m => e e'.symm]
        have h3 : rowU H m (fun b => H m b) = H := rowU_self H m
        rw [h2, h3, Int.mul_zero, Int.add_zero] at h1
        rw [← h1]
        refine detN_congr n fun a ha b hb => ?_
        unfold rowU
        rw [← hH]
        simp only [if_true]
        by_cases e2 : a = k
        · rw [if_pos e2, if_neg (by omega)]; rw [if_pos e2]
        · rw [if_neg e2]
          by_cases e3 : a = m
          · subst e3
            rw [if_pos (by omega), if_pos rfl, if_neg e2, if_neg (by omega)]
          · rw [if_neg e3, if_neg e2]
            by_cases e4 : a < m
            · rw [if_pos e4, if_pos (by omega)]
            · rw [if_neg e4, if_neg (by omega)]
  rw [← key n (Nat.le_refl n)]
  refine detN_congr n fun a ha b hb => ?_
  by_cases e : a = k
  · rw [if_pos e, if_pos e]
  · rw [if_neg e, if_neg e, if_pos ha]

def mulN (n : Nat) (A B : Nat → Nat → Int) : Nat → Nat → Int := fun a b => sumN (fun j => A a j * B j b) n
def prodN (f : Nat → Int) : Nat → Int
  | 0 => 1
  | k + 1 => prodN f k * f k
/-- The steps of an elimination: what they do to a product's determinant. -/
def QN (p : Int) (n : Nat) (A A' : Nat → Nat → Int) (s : Int) : Prop := (s = 1 ∨ s = -1) ∧ ∀ B, p ∣ detN n (mulN n A' B) - s * detN n (mulN n A B)
theorem QN.refl (p : Int) (n : Nat) (A : Nat → Nat → Int) : QN p n A A 1 := ⟨.inl rfl, fun B => by simp⟩
theorem QN.clear {p : Int} {n k : Nat} {A M : Nat → Nat → Int} {s : Int} (hk : k < n) (h : QN p n A M s) (c : Nat → Int) : QN p n A (fun a b => if a = k then M k b else M a b + c a * M k b) s := by
  refine ⟨h.1, fun B => ?_⟩
  have e : detN n (mulN n (fun a b => if a = k then M k b else M a b + c a * M k b) B) = detN n (mulN n M B) := by
    rw [← detN_clear hk (mulN n M B) c]
    refine detN_congr n fun a ha b hb => ?_
    unfold mulN
    by_cases ea : a = k
    · subst ea
      simp only [if_true]
    · simp only [if_neg ea]
      rw [← sumN_lin]
      refine sumN_congr fun j hj => ?_
      grind
  rw [e]; exact h.2 B
end Go.Vam

/- Plain laws: the programs' determinant is the expansion's. -/
namespace Go.Vam
open Go Go.RowKit
set_option linter.unusedSimpArgs false
set_option linter.unusedVariables false
set_option linter.unusedSectionVars false

def asN (m : List (List Int)) : Nat → Nat → Int := fun a b => gI (gR m a) b
def detL (r : Nat) (m : List (List Int)) : Int := detN r (asN m)
theorem prodN_congr {f g : Nat → Int} : ∀ {n : Nat}, (∀ k, k < n → f k = g k) → prodN f n = prodN g n
  | 0, _ => rfl
  | n + 1, h => by simp only [prodN, prodN_congr (n := n) fun k hk => h k (by omega), h n (by omega)]
/-- What the elimination keeps. -/
def DetInv (p : Int) (r : Nat) (M0 M : List (List Int)) (d : Int) (k : Nat) : Prop :=
  ∃ s : Int, p ∣ detL r M0 - s * detL r M ∧ p ∣ d - s * prodN (fun j => gI (gR M j) j) k
theorem DetInv.refl (p : Int) (r : Nat) (M0 : List (List Int)) : DetInv p r M0 M0 1 0 := ⟨1, by simp, by simp [prodN]⟩
theorem DetInv.clear {p : Int} {r k : Nat} {M0 M y : List (List Int)} {R : List Int} {d : Int} (h : DetInv p r M0 M d k) (hk : k < r) (hMk : gR M k = R) (hy : ∀ j, j < r → gR y j = if k < j then clp p r k R (gR M j) else gR M j) :
    DetInv p r M0 y (d * gI R k % p) (k + 1) := by
  obtain ⟨s, h1, h2⟩ := h
  have e : p ∣ detL r y - detL r M := by
    unfold detL
    rw [← detN_clear hk (asN M) (fun a => if k < a then (p - gI (gR M a) k) * invp p (gI R k) % p else 0)]
    refine detN_mod r fun a ha b hb => ?_
    simp only [asN]
    rw [hy a ha]
    by_cases e1 : a = k
    · rw [if_neg (by omega), if_pos e1, e1]; simp
    · rw [if_neg e1]
      by_cases e2 : k < a
      · rw [if_pos e2, if_pos e2]
        unfold clp
        rw [plusv_at hb, hMk, ← mod_dvd, emm]
      · rw [if_neg e2, if_neg e2]; simp
  have e3 : prodN (fun j => gI (gR y j) j) (k + 1) = prodN (fun j => gI (gR M j) j) k * gI R k := by
    simp only [prodN]
    rw [hy k hk, if_neg (by omega), hMk, prodN_congr (g := fun j => gI (gR M j) j) fun j hj => by rw [hy j (by omega), if_neg (by omega)]]
  refine ⟨s, ?_, ?_⟩
  · have : detL r M0 - s * detL r y = (detL r M0 - s * detL r M) - s * (detL r y - detL r M) := by grind
    rw [this]
    exact Int.dvd_sub h1 (Int.dvd_mul_of_dvd_right e)
  · rw [e3]
    have h3 : p ∣ d * gI R k % p - d * gI R k := by rw [← mod_dvd, emm]
    refine dvd_trans_sub h3 ?_
    have : d * gI R k - s * (prodN (fun j => gI (gR M j) j) k * gI R k) = (d - s * prodN (fun j => gI (gR M j) j) k) * gI R k := by grind
    rw [this]
    exact Int.dvd_mul_of_dvd_left h2

section
variable {p : Int} {r : Nat} (hP : isP p = true) (hr : r ≤ 1048576)
include hP hr
end
end Go.Vam

/- Plain laws: products are associative; turned products; ranks and determinants of products. -/
namespace Go.Vam
open Go Go.RowKit
set_option linter.unusedSimpArgs false
set_option linter.unusedVariables false
set_option linter.unusedSectionVars false

end Go.Vam

/- Plain laws: powers, exponents are added. -/
namespace Go.Vam
open Go Go.RowKit
set_option linter.unusedSimpArgs false
set_option linter.unusedVariables false
set_option linter.unusedSectionVars false

end Go.Vam

/- Plain laws: norms of elements; ConjugationBy. -/
namespace Go.Vam
open Go Go.RowKit
set_option linter.unusedSimpArgs false
set_option linter.unusedVariables false
set_option linter.unusedSectionVars false

section
variable {p : Int} {w x : List Int} (hP : isP p = true) (hl : w.length ≤ 4) (hw : Vec p w.length w) (hx : Vec p (2 ^ w.length) x)
include hP hl hw hx
end
section
variable {p : Int} {w a b : List Int} (hP : isP p = true) (hl : w.length ≤ 4) (hw : Vec p w.length w) (ha : Vec p (2 ^ w.length) a) (hb : Vec p (2 ^ w.length) b)
include hP hl hw ha hb
end
end Go.Vam

/- Plain law: FnMatrixProducts. -/
namespace Go.Vam
open Go Go.RowKit
set_option linter.unusedSimpArgs false
set_option linter.unusedVariables false
set_option linter.unusedSectionVars false

section
variable {p : Int} {r n c : Nat} {a b : List (List Int)} (hP : isP p = true) (ha : Mat p r n a) (hr0 : 1 ≤ r) (hr : r ≤ 16) (hn0 : 1 ≤ n) (hn : n ≤ 16)
include hP ha hr0 hr hn0 hn
end
end Go.Vam

/- Plain laws: inverses of tables. -/
namespace Go.Vam
open Go Go.RowKit
set_option linter.unusedSimpArgs false
set_option linter.unusedVariables false
set_option linter.unusedSectionVars false

/-- The table with the unit behind it. -/
def widem (n : Nat) (a : List (List Int)) : List (List Int) := vecN n fun i => gR a i ++ axis n i
section
variable {p : Int} {n : Nat} {a : List (List Int)} (hp : 1 < p) (hn : n ≤ 1000) (ha : Mat p n n a)
include hp hn ha
end
section
variable {p : Int} {n : Nat} {a B : List (List Int)} {ld : Nat → Nat} (hP : isP p = true) (hn0 : 1 ≤ n) (hn : n ≤ 1000) (ha : Mat p n n a) (hB : Ech p (n + n) B ld) (hk : ∀ u, Kr p (n + n) B u ↔ KerP p n (n + n) (widem n a) u)
include hP hn0 hn ha hB hk
end

section
variable {p : Int} {n : Nat} {a : List (List Int)} (hP : isP p = true) (hn0 : 1 ≤ n) (hn : n ≤ 16) (ha : Mat p n n a)
include hP hn0 hn ha
end
end Go.Vam

/- Plain laws: the coordinates of a product; pure elements of few steps anticommute up to their pairing. -/
namespace Go.Vam
open Go Go.RowKit
set_option linter.unusedSimpArgs false
set_option linter.unusedVariables false
set_option linter.unusedSectionVars false

end Go.Vam

/- Plain law: FnMultiplicationMatrices. -/
namespace Go.Vam
open Go Go.RowKit
set_option linter.unusedSimpArgs false
set_option linter.unusedVariables false
set_option linter.unusedSectionVars false

section
variable {p : Int} {w x : List Int} (hP : isP p = true) (hl : w.length ≤ 4) (hw : Vec p w.length w) (hx : Vec p (2 ^ w.length) x)
include hP hl hw hx
end
end Go.Vam

/- Plain law: FnMultiplicationMatrices, the end. -/
namespace Go.Vam
open Go Go.RowKit
set_option linter.unusedSimpArgs false
set_option linter.unusedVariables false
set_option linter.unusedSectionVars false

section
variable {p : Int} {w x : List Int} (hw : w.length ≤ 1048576) (hx : x.length ≤ 1048576)
include hw hx
end
section
variable {p : Int} {w x : List Int} (hD : isDb p w = true) (hx : Vec p (2 ^ w.length) x)
include hD hx
end
section
variable {p : Int} {w a b : List Int} (hP : isP p = true) (hl : w.length ≤ 3) (hw : Vec p w.length w) (ha : Vec p (2 ^ w.length) a) (hb : Vec p (2 ^ w.length) b) (ha0 : gI a 0 = 0) (hb0 : gI b 0 = 0)
include hP hl hw ha hb ha0 hb0
end
end Go.Vam

/- Plain law: FnInverses. -/
namespace Go.Vam
open Go Go.RowKit
set_option linter.unusedSimpArgs false
set_option linter.unusedVariables false
set_option linter.unusedSectionVars false

end Go.Vam

/- Plain laws: triples. -/
namespace Go.Vam
open Go Go.RowKit
set_option linter.unusedSimpArgs false
set_option linter.unusedVariables false
set_option linter.unusedSectionVars false

/-! ### The laws' helpers -/
section
variable {a b c : List (List Int)}
theorem szTr_eq {left : Int} (ha : lenM a) (hb : lenM b) (hc : lenM c) (h0 : 0 ≤ left) (h1 : left ≤ 1048576) :
    l_szTriple a b c left = some (szv (a.length + rowsum a + (b.length + rowsum b) + (c.length + rowsum c)) left) := by
  unfold l_szTriple
  rw [szM_eq ha h0 h1, some_bind]
  by_cases e1 : ((a.length + rowsum a : Nat) : Int) ≤ left
  · have s1 : szv (a.length + rowsum a) left = left - ((a.length + rowsum a : Nat) : Int) := by unfold szv; rw [if_pos e1]
    rw [s1, if_neg (by omega), szM_eq hb (by omega) (by omega), some_bind]
    by_cases e2 : ((b.length + rowsum b : Nat) : Int) ≤ left - ((a.length + rowsum a : Nat) : Int)
    · have s2 : szv (b.length + rowsum b) (left - ((a.length + rowsum a : Nat) : Int)) = left - ((a.length + rowsum a : Nat) : Int) - ((b.length + rowsum b : Nat) : Int) := by unfold szv; rw [if_pos e2]
      rw [s2, if_neg (by omega), szM_eq hc (by omega) (by omega), some_bind]
      by_cases e3 : ((c.length + rowsum c : Nat) : Int) ≤ left - ((a.length + rowsum a : Nat) : Int) - ((b.length + rowsum b : Nat) : Int)
      · have s3 : szv (c.length + rowsum c) (left - ((a.length + rowsum a : Nat) : Int) - ((b.length + rowsum b : Nat) : Int)) = left - ((a.length + rowsum a : Nat) : Int) - ((b.length + rowsum b : Nat) : Int) - ((c.length + rowsum c : Nat) : Int) := by unfold szv; rw [if_pos e3]
        rw [s3, if_neg (by omega)]
        unfold szv
        rw [if_pos (by omega)]
        congr 1; omega
      · have s3 : szv (c.length + rowsum c) (left - ((a.length + rowsum a : Nat) : Int) - ((b.length + rowsum b : Nat) : Int)) = -1 := by unfold szv; rw [if_neg e3]
        rw [s3, if_pos (by omega)]
        unfold szv
        rw [if_neg (by omega)]
    · have s2 : szv (b.length + rowsum b) (left - ((a.length + rowsum a : Nat) : Int)) = -1 := by unfold szv; rw [if_neg e2]
      rw [s2, if_pos (by omega)]
      unfold szv
      rw [if_neg (by omega)]
  · have s1 : szv (a.length + rowsum a) left = -1 := by unfold szv; rw [if_neg e1]
    rw [s1, if_pos (by omega)]
    unfold szv
    rw [if_neg (by omega)]
theorem toTr_eq (ha : szM a) (hb : szM b) (hc : szM c) : l_toTriple a b c = some (a, b, c) := by
  unfold l_toTriple
  rw [toM_eq ha.1 ha.2, some_bind, toM_eq hb.1 hb.2, some_bind, toM_eq hc.1 hc.2, some_bind]
theorem eqTr_self (ha : szM a) (hb : szM b) (hc : szM c) : l_eqTriple a b c a b c = some true := by
  unfold l_eqTriple
  simp only [eqM_self ha, eqM_self hb, eqM_self hc, some_bind, Bool.true_eq_false, if_false]
theorem markTr_eq {k : Nat} (ha : szM a) (hb : szM b) (hc : szM c) (h : k + rowsum a + rowsum b + rowsum c ≤ 1073741824) :
    l_markTriple_m a b c (k : Int) = some (((k + rowsum a + rowsum b + rowsum c : Nat) : Int), (mrkM k a, mrkM (k + rowsum a) b, mrkM (k + rowsum a + rowsum b) c)) := by
  unfold l_markTriple_m
  have h1 := ha.1; have h2 := hb.1; have h3 := hc.1
  rw [markM_eq (by omega) (by omega), some_bind, markM_eq (by omega) (by omega), some_bind, markM_eq (by omega) (by omega), some_bind]
theorem heldTr_eq {k : Nat} (ha : szM a) (hb : szM b) (hc : szM c) (h : k + rowsum a + rowsum b + rowsum c ≤ 1073741824) :
    l_heldTriple (mrkM k a) (mrkM (k + rowsum a) b) (mrkM (k + rowsum a + rowsum b) c) (k : Int) = some ((k + rowsum a + rowsum b + rowsum c : Nat) : Int) := by
  unfold l_heldTriple
  have h1 := ha.1; have h2 := hb.1; have h3 := hc.1
  rw [heldM_eq (by omega) (by omega), some_bind, if_neg (by omega), heldM_eq (by omega) (by omega), some_bind, if_neg (by omega), heldM_eq (by omega) (by omega), some_bind, if_neg (by omega)]
theorem markTr_1 (ha : smallM a) (hb : smallM b) (hc : smallM c) : l_markTriple_m a b c 1 = some (((1 + rowsum a + rowsum b + rowsum c : Nat) : Int), (mrkM 1 a, mrkM (1 + rowsum a) b, mrkM (1 + rowsum a + rowsum b) c)) :=
  markTr_eq (k := 1) ⟨ha.1, ha.2.1⟩ ⟨hb.1, hb.2.1⟩ ⟨hc.1, hc.2.1⟩ (by have := ha.2.2; have := hb.2.2; have := hc.2.2; omega)
theorem heldTr_1 (ha : smallM a) (hb : smallM b) (hc : smallM c) : l_heldTriple (mrkM 1 a) (mrkM (1 + rowsum a) b) (mrkM (1 + rowsum a + rowsum b) c) 1 = some ((1 + rowsum a + rowsum b + rowsum c : Nat) : Int) :=
  heldTr_eq (k := 1) ⟨ha.1, ha.2.1⟩ ⟨hb.1, hb.2.1⟩ ⟨hc.1, hc.2.1⟩ (by have := ha.2.2; have := hb.2.2; have := hc.2.2; omega)
end

/-! ### UnitTriple -/
section
variable {p : Int} {w a b : List Int} (hP : isP p = true) (hl : w.length ≤ 4) (hw : Vec p w.length w) (ha : Vec p (2 ^ w.length) a) (hb : Vec p (2 ^ w.length) b)
include hP hl hw ha hb
end
/-! ### RotateTriple and TimesTriple -/
def flat3 (l : List (List (List Int) × List (List Int) × List (List Int))) : List (List (List Int)) := l.flatMap fun x => [x.1, x.2.1, x.2.2]
abbrev gT3 (l : List (List (List Int) × List (List Int) × List (List Int))) (k : Nat) : List (List Int) × List (List Int) × List (List Int) := l.getD k ([], [], [])
def szTs (l : List (List (List Int) × List (List Int) × List (List Int))) : Prop := l.length ≤ 1024 ∧ ∀ x ∈ l, szM x.1 ∧ szM x.2.1 ∧ szM x.2.2
theorem szTs.at {l : List (List (List Int) × List (List Int) × List (List Int))} (h : szTs l) {k : Nat} (hk : k < l.length) : szM (gT3 l k).1 ∧ szM (gT3 l k).2.1 ∧ szM (gT3 l k).2.2 := by
  have := h.2 _ (List.getElem_mem hk)
  rwa [getD_get hk ([], [], [])] at this
theorem flat3_sz {l : List (List (List Int) × List (List Int) × List (List Int))} (h : szTs l) : ∀ m ∈ flat3 l, szM m := by
  intro m hm
  obtain ⟨x, hx, hm⟩ := List.mem_flatMap.1 hm
  have := h.2 x hx
  simp only [List.mem_cons, List.not_mem_nil, or_false] at hm
  rcases hm with rfl | rfl | rfl
  · exact this.1
  · exact this.2.1
  · exact this.2.2
theorem flat3_len (l : List (List (List Int) × List (List Int) × List (List Int))) : (flat3 l).length = 3 * l.length := by
  induction l with
  | nil => rfl
  | cons x l ih =>
    unfold flat3 at ih ⊢
    simp only [List.flatMap_cons, List.length_append, List.length_cons, List.length_nil, ih]
    omega
section
variable {p : Int} {w : List Int} {l : List (List (List Int) × List (List Int) × List (List Int))} (hw : w.length ≤ 1048576) (hz : szTs l)
include hw hz
theorem i_checkTriples_eq : i_checkTriples p w l = some (thC p w [] (flat3 l)) := by
  unfold i_checkTriples
  have hl := hz.1
  have key := fold_loop (i_checkTriples_L0 l) l.length (fun k s => s ++ [(gT3 l k).1, (gT3 l k).2.1, (gT3 l k).2.2]) [] (fun k s => s = flat3 (l.take k)) id (by rw [BIG_val]; omega) (by simp [flat3])
    (fun k s hk hs => by
      rw [hs, List.take_add_one, List.getElem?_eq_getElem hk]
      simp only [flat3, Option.toList_some, List.flatMap_append, List.flatMap_cons, List.flatMap_nil, List.append_nil]
      rw [getD_get hk ([], [], [])])
    (fun k s hk hs => by
      unfold i_checkTriples_L0
      have : s.length = 3 * k := by rw [hs, flat3_len, List.length_take]; omega
      simp only [show (k : Int) < (l.length : Int) by omega, if_true, idxD hk ([], [], []), some_bind]
      rw [chk_bind (by simp only [List.length_cons, List.length_nil]; omega), w_in (by omega) (by omega)]
      rfl) (fun s hs => by
      unfold i_checkTriples_L0
      simp)
  obtain ⟨k1, k2⟩ := key
  rw [k1, some_bind]
  simp only [id]
  rw [k2, List.take_length, i_checkThree_eq hw ⟨by simp, by simp⟩ (by rw [flat3_len]; omega) (flat3_sz hz), some_bind]
theorem s_l15Code_eq : s_l15Code p w l = some (thC p w [] (flat3 l)) := by
  unfold s_l15Code thC
  have hlen := hz.1
  rw [s_l14Code_eq hw, some_bind]
  by_cases h0 : dbC p w = 0
  · obtain ⟨a1, a2⟩ := dbC_zero h0
    obtain ⟨hP, hl, _, _⟩ := isDb_iff a1
    let f : List (List Int) × List (List Int) × List (List Int) → Bool := fun x => dmB p (2 ^ w.length) x.1 && dmB p (2 ^ w.length) x.2.1 && dmB p (2 ^ w.length) x.2.2
    have core : ∀ k, k < l.length → (((idx l (k : Int)).bind fun v11 =>
        (s_l14Matrix p w v11.1).bind fun v12 =>
        (if v12 = false then some true
        else (s_l14Matrix p w v11.2.1).bind fun v14 =>
          (if v14 = false then some true
          else (s_l14Matrix p w v11.2.2).bind fun v16 => some (!v16)))) : Option Bool) = some (!f (gT3 l k)) := by
      intro k hk
      obtain ⟨q1, q2, q3⟩ := hz.at hk
      rw [idxD hk ([], [], []), some_bind]
      simp only [s_l14Matrix_eq hP hl q1, s_l14Matrix_eq hP hl q2, s_l14Matrix_eq hP hl q3, some_bind, f]
      cases dmB p (2 ^ w.length) (gT3 l k).1 <;> cases dmB p (2 ^ w.length) (gT3 l k).2.1 <;> simp
    have hall : (flat3 l).all (dmB p (2 ^ w.length)) = l.all f := by
      unfold flat3
      induction l with
      | nil => rfl
      | cons x l ih =>
        simp only [List.flatMap_cons, List.all_append, List.all_cons, List.all_nil, Bool.and_true, f]
        rw [ih ⟨by have := hlen; simp at this; omega, fun y hy => hz.2 y (by simp [hy])⟩ (by simp at hlen; omega) (fun k hk => by
          have := core (k + 1) (by simpa using hk)
          rw [idxD (show k + 1 < (x :: l).length by simpa using hk) ([], [], [])] at this
          rw [idxD hk ([], [], [])]
          simpa using this)]
        simp only [f, Bool.and_assoc]
    simp only [h0, not_true_eq_false, if_false, if_true, List.all_nil, Bool.true_and]
    rw [all_loop _ l.length (fun k => f (gT3 l k)) 2 (by rw [BIG_val]; omega)]
    · rw [some_bind, all_range l f ([], [], []), hall]
      cases l.all f <;> rfl
    · intro k hk hf
      unfold s_l15Code_L0
      rw [if_pos (by omega), core k hk, some_bind, hf, w_in (by omega) (by omega)]; rfl
    · intro k hk hf
      unfold s_l15Code_L0
      rw [if_pos (by omega), core k hk, some_bind, hf]; rfl
    · unfold s_l15Code_L0
      simp
  · simp [h0]
end
end Go.Vam

/- Plain laws: triples, turned and multiplied. -/
namespace Go.Vam
open Go Go.RowKit
set_option linter.unusedSimpArgs false
set_option linter.unusedVariables false
set_option linter.unusedSectionVars false

theorem thC_mat {p : Int} {w : List Int} {ms : List (List (List Int))} (h : thC p w [] ms = 0) : isP p = true ∧ w.length ≤ 4 ∧ ∀ m ∈ ms, Mat p (2 ^ w.length) (2 ^ w.length) m := by
  obtain ⟨a1, a2, _, a4⟩ := thC_zero h
  obtain ⟨hP, hl, _, _⟩ := isDb_iff a1
  exact ⟨hP, hl, a4⟩

/-- What a triple within the bound has for sizes. -/
theorem tr_split {a b c : List (List Int)} {left : Int} (h : left ≤ 1048576) (h1 : ((a.length + rowsum a + (b.length + rowsum b) + (c.length + rowsum c) : Nat) : Int) ≤ left) :
    szM a ∧ szM b ∧ szM c ∧ a.length + rowsum a + (b.length + rowsum b) + (c.length + rowsum c) ≤ 1048576 := by
  obtain ⟨x1, _⟩ := sz_split (m := a) (left := left) h (by omega)
  obtain ⟨x2, _⟩ := sz_split (m := b) (left := left) h (by omega)
  obtain ⟨x3, _⟩ := sz_split (m := c) (left := left) h (by omega)
  exact ⟨x1, x2, x3, by omega⟩
/-! ### TimesTriple -/
theorem s_l14Times_eq {p : Int} {n : Nat} {a b : List (List Int)} (hp : 0 < p) (hp2 : p ≤ 13) (hn : n ≤ 1024) (ha : Mat p n n a) (hb : Mat p n n b) : s_l14Times p a b = some (timesm p n n n a b) := by
  unfold s_l14Times
  have e1 := hb.1
  have hC : Mat p n n (vecN n fun k => applyv p n n a (colv n b k)) := Mat.mk' fun k hk => Vec.mk' fun i hi => mod_num hp
  rw [map_loop _ n (fun k => applyv p n n a (colv n b k)) (by rw [BIG_val]; omega)]
  · rw [some_bind, s_l11Columns_eq (by omega) hC, some_bind]
    congr 1
    unfold turnm timesm
    refine vecN_congr fun i hi => vecN_congr fun k hk => ?_
    rw [gR_vecN _ hk]
    unfold applyv
    rw [gI_vecN _ hi]
    unfold dotp colv
    congr 1
    exact sumN_congr fun j hj => by rw [gI_vecN _ hj]
  · intro k hk out ho
    unfold s_l14Times_L0
    have hv : Vec p n (colv n b k) := colv_vec (by omega) hb hk
    simp only [show (k : Int) < (b.length : Int) by omega, if_true, s_l14Column_eq (by omega) hb hk, some_bind, s_l14Apply_eq hp hp2 (by omega) ha hv]
    rw [chk_bind (by simp only [List.length_cons, List.length_nil]; omega), w_in (by omega) (by omega)]
    rfl
  · intro out ho
    unfold s_l14Times_L0
    simp [e1]
theorem TimesTriple_eq {p : Int} {w : List Int} {a b c d e f : List (List Int)} (hw : w.length ≤ 1048576) (za : szM a) (zb : szM b) (zc : szM c) (zd : szM d) (ze : szM e) (zf : szM f) :
    ∃ X Y Z C, s_TimesTriple p w a b c d e f = some ((X, Y, Z), C) ∧ i_TimesTriple p w a b c d e f = some ((X, Y, Z), C) ∧ smallM X ∧ smallM Y ∧ smallM Z := by
  have hz : szTs [(a, b, c), (d, e, f)] := ⟨by simp, fun x hx => by
    simp only [List.mem_cons, List.not_mem_nil, or_false] at hx
    rcases hx with rfl | rfl
    · exact ⟨za, zb, zc⟩
    · exact ⟨zd, ze, zf⟩⟩
  unfold s_TimesTriple i_TimesTriple
  rw [s_l15Code_eq hw hz, i_checkTriples_eq hw hz, some_bind, some_bind]
  by_cases h0 : thC p w [] (flat3 [(a, b, c), (d, e, f)]) = 0
  · obtain ⟨hP, hl, hm⟩ := thC_mat h0
    have hp := isP_le hP
    have h16 := two_le hl
    have hpos := two_pos w.length
    have ma := hm a (by simp [flat3])
    have mb := hm b (by simp [flat3])
    have mc := hm c (by simp [flat3])
    have md := hm d (by simp [flat3])
    have me := hm e (by simp [flat3])
    have mf := hm f (by simp [flat3])
    unfold s_l15Times i_Doubling_field
    simp only [h0, not_true_eq_false, if_false, some_bind, s_l14Times_eq (n := 2 ^ w.length) (show 0 < p by omega) hp.2 (by omega) ma md, s_l14Times_eq (n := 2 ^ w.length) (show 0 < p by omega) hp.2 (by omega) mb me, s_l14Times_eq (n := 2 ^ w.length) (show 0 < p by omega) hp.2 (by omega) mc mf,
      i_field_times_eq (show 0 < p by omega) hp.2 (by omega) hpos (by omega) (by omega) ma md, i_field_times_eq (show 0 < p by omega) hp.2 (by omega) hpos (by omega) (by omega) mb me, i_field_times_eq (show 0 < p by omega) hp.2 (by omega) hpos (by omega) (by omega) mc mf]
    exact ⟨_, _, _, _, rfl, rfl, smallM.of (timesm_mat (show 0 < p by omega) _ _ _ _ _) (by omega) (by omega), smallM.of (timesm_mat (show 0 < p by omega) _ _ _ _ _) (by omega) (by omega), smallM.of (timesm_mat (show 0 < p by omega) _ _ _ _ _) (by omega) (by omega)⟩
  · simp only [h0, not_false_eq_true, if_true]
    exact ⟨_, _, _, _, rfl, rfl, smallM.nil, smallM.nil, smallM.nil⟩
theorem LawTimesTriple {p : Int} {w : List Int} {a b c d e f : List (List Int)} (hw : lenI w) (ha : lenM a) (hb : lenM b) (hc : lenM c) (hd : lenM d) (he : lenM e) (hf : lenM f) : l_FnExactTimesTriple p w a b c d e f = some true := by
  unfold l_FnExactTimesTriple
  rw [szDb_eq hw (by omega) (by omega), some_bind]
  by_cases h1 : ((w.length : Nat) : Int) ≤ 1048576
  rotate_left
  · have hs : szv w.length 1048576 = -1 := by unfold szv; rw [if_neg h1]
    rw [hs, if_pos (by omega)]
  have hs : szv w.length 1048576 = 1048576 - ((w.length : Nat) : Int) := by unfold szv; rw [if_pos h1]
  rw [hs, if_neg (by omega), szTr_eq ha hb hc (by omega) (by omega), some_bind]
  by_cases h2 : ((a.length + rowsum a + (b.length + rowsum b) + (c.length + rowsum c) : Nat) : Int) ≤ 1048576 - ((w.length : Nat) : Int)
  rotate_left
  · have hs2 : szv (a.length + rowsum a + (b.length + rowsum b) + (c.length + rowsum c)) (1048576 - ((w.length : Nat) : Int)) = -1 := by unfold szv; rw [if_neg h2]
    rw [hs2, if_pos (by omega)]
  have hs2 : szv (a.length + rowsum a + (b.length + rowsum b) + (c.length + rowsum c)) (1048576 - ((w.length : Nat) : Int)) = 1048576 - ((w.length : Nat) : Int) - ((a.length + rowsum a + (b.length + rowsum b) + (c.length + rowsum c) : Nat) : Int) := by unfold szv; rw [if_pos h2]
  rw [hs2, if_neg (by omega), szTr_eq hd he hf (by omega) (by omega), some_bind]
  by_cases h3 : ((d.length + rowsum d + (e.length + rowsum e) + (f.length + rowsum f) : Nat) : Int) ≤ 1048576 - ((w.length : Nat) : Int) - ((a.length + rowsum a + (b.length + rowsum b) + (c.length + rowsum c) : Nat) : Int)
  rotate_left
  · have hs3 : szv (d.length + rowsum d + (e.length + rowsum e) + (f.length + rowsum f)) (1048576 - ((w.length : Nat) : Int) - ((a.length + rowsum a + (b.length + rowsum b) + (c.length + rowsum c) : Nat) : Int)) = -1 := by unfold szv; rw [if_neg h3]
    rw [hs3, if_pos (by omega)]
  have hs3 : szv (d.length + rowsum d + (e.length + rowsum e) + (f.length + rowsum f)) (1048576 - ((w.length : Nat) : Int) - ((a.length + rowsum a + (b.length + rowsum b) + (c.length + rowsum c) : Nat) : Int)) = 1048576 - ((w.length : Nat) : Int) - ((a.length + rowsum a + (b.length + rowsum b) + (c.length + rowsum c) : Nat) : Int) - ((d.length + rowsum d + (e.length + rowsum e) + (f.length + rowsum f) : Nat) : Int) := by unfold szv; rw [if_pos h3]
  rw [hs3, if_neg (by omega)]
  obtain ⟨za, zb, zc, hsum⟩ := tr_split (by omega) h2
  obtain ⟨zd, ze, zf, hsum2⟩ := tr_split (by omega) h3
  have hw' : w.length ≤ 1048576 := by omega
  obtain ⟨X, Y, Z, C, e3, e4, zX, zY, zZ⟩ := TimesTriple_eq (p := p) hw' za zb zc zd ze zf
  have e1 := toTr_eq za zb zc
  have e1b := toTr_eq zd ze zf
  have e2 := toDb_eq (p := p) hw'
  have e5 := eqDb_self (p := p) hw'
  have e6 := eqTr_self za zb zc
  have e6b := eqTr_self zd ze zf
  have e7 := eqTr_self (a := X) (b := Y) (c := Z) ⟨zX.1, zX.2.1⟩ ⟨zY.1, zY.2.1⟩ ⟨zZ.1, zZ.2.1⟩
  have e8 := markDb_1 (p := p) hw'
  have e9 := markTr_eq (k := 1 + w.length) za zb zc (by omega)
  have e9b := markTr_eq (k := 1 + w.length + rowsum a + rowsum b + rowsum c) zd ze zf (by omega)
  have e10 := markTr_1 zX zY zZ
  have e11 := heldTr_1 zX zY zZ
  simp only [e1, e1b, e2, e3, e4, e5, e6, e6b, e7, e8, e9, e9b, e10, e11, some_bind, Bool.true_eq_false, Bool.false_eq_true, if_false, if_true, ieq_self, Bool.not_true, natneg, not_true_eq_false, bne_self_eq_false]
end Go.Vam
