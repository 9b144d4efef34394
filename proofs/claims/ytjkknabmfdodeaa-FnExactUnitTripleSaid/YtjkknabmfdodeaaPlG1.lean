import Derived.Test.YtjkknabmfdodeaaPlG0
import Derived.Test.YtjkknabmfdodeaaFnF
import Derived.Test.YtjkknabmfdodeaaFnG
import Derived.Test.YtjkknabmfdodeaaFnE
import Derived.Test.YtjkknabmfdodeaaFnH
import Derived.Test.YtjkknabmfdodeaaFnI
import Derived.Test.YtjkknabmfdodeaaFnJ
import Derived.Test.YtjkknabmfdodeaaFnK
import Derived.Test.YtjkknabmfdodeaaFnM
/- Plain laws: both programs' reduced bases are reduced rows in order, and send the same to nothing. -/
namespace Go.Vam
open Go Go.RowKit
set_option linter.unusedSimpArgs false
set_option linter.unusedVariables false
set_option linter.unusedSectionVars false

structure RedK (r c : Nat) (m : List (List Int)) (d k : Nat) (piv : Nat → Nat) : Prop where
  red : Red r c m d piv
  plt : ∀ j, j < d → piv j < k
  pre : ∀ j, j < d → ∀ q, q < piv j → gI (gR m j) q = 0
  srt : ∀ i j, i < j → j < d → piv i < piv j
  low : ∀ i, d ≤ i → i < r → ∀ q, q < k → gI (gR m i) q = 0
theorem RedK.skip {r c d k : Nat} {m : List (List Int)} {piv : Nat → Nat} (h : RedK r c m d k piv) (h0 : ∀ i, d ≤ i → i < r → gI (gR m i) k = 0) : RedK r c m d (k + 1) piv :=
  ⟨h.red, fun j hj => Nat.lt_succ_of_lt (h.plt j hj), h.pre, h.srt, fun i h1 h2 q hq => (Nat.lt_succ_iff_lt_or_eq.1 hq).elim (h.low i h1 h2 q) (fun e => e ▸ h0 i h1 h2)⟩
section
variable {p : Int} {r c k d x : Nat} {m : List (List Int)} {piv : Nat → Nat} {R : List Int} (hP : isP p = true) (hm : Mat p r c m) (hk : k < c) (hd : d < r) (hdx : d ≤ x) (hx : x < r)
  (hne : gI (gR m x) k ≠ 0) (hRe : R = scalev p c (gR m x) (invp p (gI (gR m x) k)))
include hP hm hk hd hdx hx hne hRe
theorem clrm_row (i : Nat) (hi : i < r) : gR (clrm p r c k d R ((m.set x (gR m d)).set d R)) i = if i = d then R else clr p c k R (if i = x then gR m d else gR m i) := by
  have e1 := hm.1
  unfold clrm
  rw [gR_vecN _ hi]
  by_cases hid : i = d
  · rw [if_pos hid, if_pos hid]
  · rw [if_neg hid, if_neg hid, gR_set (by rw [List.length_set]; omega), if_neg (by omega), gR_set (by omega)]
    by_cases hix : i = x
    · rw [if_pos hix.symm, if_pos hix]
    · rw [if_neg (fun e => hix e.symm), if_neg hix]
theorem RedK.step (h : RedK r c m d k piv) : RedK r c (clrm p r c k d R ((m.set x (gR m d)).set d R)) (d + 1) (k + 1) (fun j => if j = d then k else piv j) := by
  have hp := isP_le hP
  have row := clrm_row hP hm hk hd hdx hx hne hRe
  have e4 := (hm.row hx).get hk
  obtain ⟨i1, i2, i3⟩ := inv_facts (a := gI (gR m x) k) hP (by omega) e4.2
  have hR0 : ∀ q, q < k → gI R q = 0 := by
    intro q hq
    rw [hRe]; unfold scalev
    rw [gI_vecN _ (by omega), h.low x hdx hx q hq]; simp
  have hent : ∀ v q, q < k → gI v q = 0 → gI (clr p c k R v) q = 0 := by
    intro v q hq hv
    unfold clr plusv
    rw [gI_vecN _ (by omega), hv, hR0 q hq]; simp
  refine ⟨h.red.step hP hm hk hd hdx hx hne hRe, fun j hj => ?_, fun j hj q hq => ?_, fun i j hij hj => ?_, fun i h1 h2 q hq => ?_⟩
  · try simp only []
    split
    · omega
    · have := h.plt j (by omega); omega
  · try simp only [] at hq
    rw [row j (by omega)]
    by_cases hjd : j = d
    · rw [if_pos hjd] at hq ⊢; exact hR0 q hq
    · rw [if_neg hjd] at hq ⊢
      have h3 := h.plt j (by omega)
      rw [if_neg (by omega)]
      exact hent _ q (by omega) (h.pre j (by omega) q hq)
  · try simp only []
    rw [if_neg (show ¬ i = d by omega)]
    split
    · exact h.plt i (by omega)
    · exact h.srt i j hij (by omega)
  · rw [row i h2, if_neg (by omega)]
    by_cases hqk : q < k
    · refine hent _ q hqk ?_
      split
      · exact h.low d (Nat.le_refl _) hd q hqk
      · exact h.low i (by omega) h2 q hqk
    · have hqe : q = k := by omega
      subst hqe
      have hRk : gI R q = 1 := by rw [hRe]; unfold scalev; rw [gI_vecN _ hk, i3]
      unfold clr plusv
      rw [gI_vecN _ hk, hRk, Int.mul_one]
      generalize gI (if i = x then gR m d else gR m i) q = e
      rw [Int.add_emod, Int.emod_emod_of_dvd _ (Int.dvd_refl p), ← Int.add_emod]
      have : e + (p - e) = p := by omega
      rw [this, Int.emod_self]
end
section
variable {p : Int} {r c : Nat} (hP : isP p = true) (hr0 : 0 < r) (hr : r ≤ 1048576) (hc : c ≤ 1048576)
include hP hr0 hr hc
end
end Go.Vam

/- Plain laws: rows reduced one at a time; IsAutomorphism. -/
namespace Go.Vam
open Go Go.RowKit
set_option linter.unusedSimpArgs false
set_option linter.unusedVariables false
set_option linter.unusedSectionVars false

section
variable {p : Int} {n : Nat} (hP : isP p = true) (hn : n ≤ 1048000)
include hP hn
end

section
variable {p : Int} {w : List Int} {m : List (List Int)} (hP : isP p = true) (hl : w.length ≤ 4) (hw : Vec p w.length w) (hm : Mat p (2 ^ w.length) (2 ^ w.length) m)
include hP hl hw hm
end
end Go.Vam

/- Plain laws: kernels; both programs make the same reduced basis of what a table sends to nothing. -/
namespace Go.Vam
open Go Go.RowKit
set_option linter.unusedSimpArgs false
set_option linter.unusedVariables false
set_option linter.unusedSectionVars false

theorem Ech.nil (p : Int) (n : Nat) : Ech p n [] (fun _ => 0) :=
  ⟨⟨rfl, fun i hi => by simp at hi⟩, fun j hj => by simp at hj, fun j hj => by simp at hj, fun j hj => by simp at hj, fun j hj => by simp at hj, fun i j _ hj => by simp at hj⟩
section
variable {p : Int} {n : Nat} {B : List (List Int)} {ld : Nat → Nat} (hP : isP p = true) (hn : n ≤ 1048000) (hB : Ech p n B ld)
include hP hn hB
end
end Go.Vam

/- Plain law: the reduced rows that a table sends to nothing. -/
namespace Go.Vam
open Go Go.RowKit
set_option linter.unusedSimpArgs false
set_option linter.unusedVariables false
set_option linter.unusedSectionVars false

section
variable {p : Int} {n : Nat} {B : List (List Int)} {ld : Nat → Nat} (hP : isP p = true) (hn : n ≤ 1048000) (hB : Ech p n B ld)
include hP hn hB
end
end Go.Vam

/- Plain laws: ranks, kernels and how many vectors they have. -/
namespace Go.Vam
open Go Go.RowKit
set_option linter.unusedSimpArgs false
set_option linter.unusedVariables false
set_option linter.unusedSectionVars false

theorem sumN_add (f g : Nat → Int) (n : Nat) : sumN (fun q => f q + g q) n = sumN f n + sumN g n := by
  have := sumN_lin f g 1 n
  simp only [Int.one_mul] at this
  exact this
theorem sumN_mulL (k : Int) (f : Nat → Int) (n : Nat) : sumN (fun q => k * f q) n = k * sumN f n := by
  have := sumN_lin (fun _ => 0) f k n
  simp only [Int.zero_add, sumN_zero] at this
  exact this
theorem sumN_comm (f : Nat → Nat → Int) (m : Nat) : ∀ n, sumN (fun i => sumN (fun j => f i j) m) n = sumN (fun j => sumN (fun i => f i j) n) m
  | 0 => by simp only [sumN]; rw [sumN_zero]
  | n + 1 => by
    simp only [sumN]
    rw [sumN_add, sumN_comm f m n]
theorem sumN_dvd {p : Int} {f : Nat → Int} : ∀ {n : Nat}, (∀ k, k < n → p ∣ f k) → p ∣ sumN f n
  | 0, _ => Int.dvd_zero p
  | n + 1, h => by
    simp only [sumN]
    exact Int.dvd_add (sumN_dvd fun k hk => h k (by omega)) (h n (by omega))
theorem sumN_sub (f g : Nat → Int) (n : Nat) : sumN (fun q => f q - g q) n = sumN f n - sumN g n := by
  have := sumN_lin f g (-1) n
  have e : sumN (fun q => f q - g q) n = sumN (fun q => f q + -1 * g q) n := sumN_congr fun q _ => by omega
  rw [e, this]; omega
theorem dvd_trans_sub {p a b c : Int} (h1 : p ∣ a - b) (h2 : p ∣ b - c) : p ∣ a - c := by
  have := Int.dvd_add h1 h2
  rwa [show a - b + (b - c) = a - c by omega] at this
section
variable {p : Int} {n : Nat} {B : List (List Int)} {ld : Nat → Nat} (h : Ech p n B ld)
include h
theorem Ech.at_lead (g : Nat → Int) (q : Nat) : sumN (fun j => if ld j = q then g j else 0) B.length = if isLd B.length ld q = true then g (rowOf ld q B.length) else 0 := by
  by_cases hq : isLd B.length ld q = true
  · rw [if_pos hq]
    obtain ⟨a1, a2⟩ := rowOf_spec (isLd_iff.1 hq)
    rw [sumN_one a1 (fun j hj hne => if_neg fun e => hne (h.inj hj a1 (by rw [e, a2]))), if_pos a2]
  · rw [if_neg hq, sumN_congr (g := fun _ => 0) fun j hj => if_neg fun e => hq (isLd_iff.2 ⟨j, hj, e⟩)]
    exact sumN_zero _
/-- A sum over all places: those without a lead, and the leads. -/
theorem Ech.split (g : Nat → Int) : sumN g n = sumN (fun q => if isLd B.length ld q = true then 0 else g q) n + sumN (fun j => g (ld j)) B.length := by
  have e1 : sumN (fun j => g (ld j)) B.length = sumN (fun j => sumN (fun q => if ld j = q then g q else 0) n) B.length :=
    sumN_congr fun j hj => by rw [sumN_one (h.lt j hj) (fun q _ hq => if_neg fun e => hq e.symm), if_pos rfl]
  rw [e1, sumN_comm, ← sumN_add]
  refine sumN_congr fun q hq => ?_
  have e2 : sumN (fun j => if ld j = q then g q else 0) B.length = if isLd B.length ld q = true then g q else 0 := h.at_lead (fun _ => g q) q
  rw [e2]
  split <;> omega
end
end Go.Vam

/- Plain laws: the equations of derivations; both programs' bases of derivations are one. -/
namespace Go.Vam
open Go Go.RowKit
set_option linter.unusedSimpArgs false
set_option linter.unusedVariables false
set_option linter.unusedSectionVars false

theorem gR_append {x y : List (List Int)} {k : Nat} : gR (x ++ y) k = if k < x.length then gR x k else gR y (k - x.length) := by
  unfold gR
  rw [List.getD_eq_getElem?_getD, List.getElem?_append]
  by_cases h : k < x.length
  · rw [if_pos h, if_pos h, List.getD_eq_getElem?_getD]
  · rw [if_neg h, if_neg h, List.getD_eq_getElem?_getD]
theorem Mat.append {p : Int} {a b c : Nat} {x y : List (List Int)} (hx : Mat p a c x) (hy : Mat p b c y) : Mat p (a + b) c (x ++ y) := by
  have h1 := hx.1
  refine ⟨by rw [List.length_append, hx.1, hy.1], fun i hi => ?_⟩
  rw [gR_append]
  split
  · exact hx.2 i (by omega)
  · exact hy.2 (i - x.length) (by omega)
section
variable {p : Int} {w : List Int} (hP : isP p = true) (hl : w.length ≤ 4) (hw : Vec p w.length w)
include hP hl hw
end
end Go.Vam

/- Plain laws: what is drawn from a code. -/
namespace Go.Vam
open Go Go.RowKit
set_option linter.unusedSimpArgs false
set_option linter.unusedVariables false
set_option linter.unusedSectionVars false

/-- A table that is not large. -/
def tabS (m : List (List Int)) : Prop := m.length ≤ 17 ∧ ∀ x ∈ m, x.length ≤ 18
theorem tabS.sz {m : List (List Int)} (h : tabS m) : szM m := ⟨by have := h.1; omega, fun r hr => by have := h.2 r hr; omega⟩
theorem tabS.of {p : Int} {r k : Nat} {m : List (List Int)} (h : Mat p r k m) (hr : r ≤ 17) (hk : k ≤ 18) : tabS m := by
  refine ⟨by rw [h.1]; exact hr, fun x hx => ?_⟩
  obtain ⟨i, hi, rfl⟩ := List.getElem_of_mem hx
  have e := (h.2 i (by have := h.1; omega)).1
  rw [← gR_get hi] at e
  omega
theorem tabS.set {m : List (List Int)} (h : tabS m) (i : Nat) {x : List Int} (hx : x.length ≤ 18) : tabS (m.set i x) := by
  refine ⟨by rw [List.length_set]; exact h.1, fun y hy => ?_⟩
  rcases List.mem_or_eq_of_mem_set hy with h1 | h1
  · exact h.2 y h1
  · rw [h1]; exact hx
end Go.Vam

/- Plain laws: reflections keep the products of vectors. -/
namespace Go.Vam
open Go Go.RowKit
set_option linter.unusedSimpArgs false
set_option linter.unusedVariables false
set_option linter.unusedSectionVars false

/-- The product of vectors, as an integer. -/
def pairS (n : Nat) (w x y : List Int) : Int := sumN (fun k => gI x k * gI y k * gI w k) n
theorem pairp_S (p : Int) (n : Nat) (w x y : List Int) : pairp p n w x y = pairS n w x y % p := rfl
theorem pairS_comm (n : Nat) (w x y : List Int) : pairS n w x y = pairS n w y x := by
  unfold pairS
  exact sumN_congr fun k _ => by rw [Int.mul_comm (gI x k)]
theorem pairS_lin {p : Int} {n : Nat} {w x x' u y : List Int} {c : Int} (h : ∀ k, k < n → gI x' k % p = (gI x k + c * gI u k) % p) : pairS n w x' y % p = (pairS n w x y + c * pairS n w u y) % p := by
  unfold pairS
  rw [← sumN_lin]
  refine sumN_mod fun k hk => ?_
  rw [Int.mul_assoc, mul_mod_l (h k hk)]
  congr 1
  rw [Int.add_mul, Int.mul_assoc, Int.mul_assoc, Int.mul_assoc]
/-- What the reflection in u makes of v. -/
def reflv (p : Int) (n : Nat) (w u v : List Int) : List Int := plusv p n v u (-2 * pairS n w u v * invp p (pairp p n w u u))
theorem reflv_vec {p : Int} (hp : 0 < p) (n : Nat) (w u v : List Int) : Vec p n (reflv p n w u v) := plusv_vec hp ..
theorem reflv_at {p : Int} {n k : Nat} {w u v : List Int} (hk : k < n) : gI (reflv p n w u v) k = (gI v k + (-2 * pairS n w u v * invp p (pairp p n w u u)) * gI u k) % p := plusv_at hk
theorem inv_dvd {p a : Int} (hP : isP p = true) (h0 : a % p ≠ 0) : p ∣ invp p (a % p) * a - 1 := by
  have hp := isP_le hP
  have hn := mod_num (a := a) (p := p) (by omega)
  obtain ⟨_, _, i3⟩ := inv_facts (a := a % p) hP (by omega) hn.2
  rw [← mod_dvd, Int.emod_eq_of_lt (show (0 : Int) ≤ 1 by omega) (by omega), Int.mul_comm, ← i3]
  exact (mul_mod_l (emm a p)).symm
theorem reflv_pair {p : Int} {n : Nat} {w u : List Int} (hP : isP p = true) (hu : pairp p n w u u ≠ 0) (x y : List Int) :
    pairp p n w (reflv p n w u x) (reflv p n w u y) = pairp p n w x y := by
  rw [pairp_S, pairp_S]
  have ht := inv_dvd hP (a := pairS n w u u) hu
  rw [← pairp_S] at ht
  have hx : ∀ k, k < n → gI (reflv p n w u x) k % p = (gI x k + (-2 * pairS n w u x * invp p (pairp p n w u u)) * gI u k) % p := fun k hk => by rw [reflv_at hk, emm]
  have hy : ∀ k, k < n → gI (reflv p n w u y) k % p = (gI y k + (-2 * pairS n w u y * invp p (pairp p n w u u)) * gI u k) % p := fun k hk => by rw [reflv_at hk, emm]
  have h1 := mod_dvd.1 (pairS_lin (w := w) (y := reflv p n w u y) hx)
  have h2 := mod_dvd.1 (pairS_lin (w := w) (y := x) hy)
  have h3 := mod_dvd.1 (pairS_lin (w := w) (y := u) hy)
  rw [pairS_comm n w x (reflv p n w u y), pairS_comm n w u (reflv p n w u y)] at h1
  rw [pairS_comm n w y x, pairS_comm n w u x] at *
  rw [pairS_comm n w y u] at h3
  generalize hX : pairS n w x u = X at *
  generalize hY : pairS n w u y = Y at *
  generalize invp p (pairp p n w u u) = t at *
  generalize pairS n w u u = Q at *
  generalize pairS n w x y = Z at *
  generalize pairS n w (reflv p n w u x) (reflv p n w u y) = A at *
  generalize pairS n w (reflv p n w u y) x = B at *
  generalize pairS n w (reflv p n w u y) u = C at *
  rw [mod_dvd]
  obtain ⟨k1, e1⟩ := h1
  obtain ⟨k2, e2⟩ := h2
  obtain ⟨k3, e3⟩ := h3
  obtain ⟨k4, e4⟩ := ht
  exact ⟨k1 + k2 + (-2 * X * t) * k3 + 4 * X * Y * t * k4, by grind⟩
/-- The reflection's table. -/
def reflm (p : Int) (n : Nat) (w u : List Int) : List (List Int) := turnm n n (vecN n fun k => reflv p n w u (axis n k))
theorem pairS_axis {n k : Nat} {w u : List Int} (hk : k < n) : pairS n w u (axis n k) = gI u k * gI w k := by
  unfold pairS
  rw [sumN_one hk (fun q hq hqk => by rw [gI_axis hk, if_neg hqk]; simp), gI_axis hk, if_pos rfl, Int.mul_one]
theorem reflm_at {p : Int} {n r k : Nat} {w u : List Int} (hr : r < n) (hk : k < n) : gI (gR (reflm p n w u) r) k = ((if r = k then 1 else 0) + (-2 * (gI u k * gI w k) * invp p (pairp p n w u u)) * gI u r) % p := by
  unfold reflm
  rw [turnm_at hk hr, gR_vecN _ hk, reflv_at hr, gI_axis hk, pairS_axis hk]
theorem refl_times {p : Int} {n i : Nat} {w u : List Int} {m : List (List Int)} (hp : 0 < p) (hi : i < n) :
    gR (turnm n n (timesm p n n n (reflm p n w u) m)) i = reflv p n w u (gR (turnm n n m) i) := by
  have hv := (reflv_vec hp n w u (gR (turnm n n m) i)).1
  rw [extI hv (f := gI (reflv p n w u (gR (turnm n n m) i))) fun k _ => rfl]
  refine extI (by unfold turnm; rw [gR_vecN _ hi, vecN_len]) fun r hr => ?_
  rw [turnm_at hr hi, reflv_at hr, turnm_at hr hi]
  unfold timesm
  rw [gR_vecN _ hr, gI_vecN _ hi]
  have e1 : sumN (fun j => gI (gR (reflm p n w u) r) j * gI (gR m j) i) n % p = sumN (fun j => (if r = j then gI (gR m j) i else 0) + (-2 * invp p (pairp p n w u u) * gI u r) * (gI u j * gI (gR m j) i * gI w j)) n % p := by
    refine sumN_mod fun j hj => ?_
    rw [reflm_at hr hj, mul_mod_l (emm _ _)]
    congr 1
    split <;> grind
  rw [e1, sumN_lin, sumN_one hr (fun q hq hqr => if_neg (fun e => hqr e.symm)), if_pos rfl]
  congr 2
  have e2 : sumN (fun k => gI u k * gI (gR m k) i * gI w k) n = pairS n w u (gR (turnm n n m) i) := by
    unfold pairS
    exact sumN_congr fun k hk => by rw [turnm_at hk hi]
  rw [e2]
  grind
/-- A table whose columns have the products of the basis. -/
def IsoT (p : Int) (n : Nat) (w : List Int) (m : List (List Int)) : Prop := ∀ i, i < n → ∀ j, j < n → pairp p n w (gR (turnm n n m) i) (gR (turnm n n m) j) = if i = j then gI w i else 0
theorem IsoT.refl {p : Int} {n : Nat} {w u : List Int} {m : List (List Int)} (hP : isP p = true) (h : IsoT p n w m) (hu : pairp p n w u u ≠ 0) : IsoT p n w (timesm p n n n (reflm p n w u) m) := by
  have hp := isP_le hP
  intro i hi j hj
  rw [refl_times (by omega) hi, refl_times (by omega) hj, reflv_pair hP hu]
  exact h i hi j hj
end Go.Vam

/- Plain laws: decompositions into reflections; HasSquareNorm. -/
namespace Go.Vam
open Go Go.RowKit
set_option linter.unusedSimpArgs false
set_option linter.unusedVariables false
set_option linter.unusedSectionVars false

section
variable {p : Int} {n : Nat} {w u : List Int} (hP : isP p = true) (hn0 : 0 < n) (hn : n ≤ 1000) (hwl : w.length = n) (hw : Vec p n w) (hu : Vec p n u) (hQ : pairp p n w u u ≠ 0)
include hP hn0 hn hwl hw hu hQ
end
section
variable {p : Int} {n : Nat} {w : List Int} (hP : isP p = true) (hn0 : 0 < n) (hn : n ≤ 1000) (hwl : w.length = n) (hw : Vec p n w) (hz : ∀ k, k < n → gI w k ≠ 0)
include hP hn0 hn hwl hw hz
end
end Go.Vam

/- Plain laws: systems of equations and spans. -/
namespace Go.Vam
open Go Go.RowKit
set_option linter.unusedSimpArgs false
set_option linter.unusedVariables false
set_option linter.unusedSectionVars false

end Go.Vam

/- Plain law: FnKernels. -/
namespace Go.Vam
open Go Go.RowKit
set_option linter.unusedSimpArgs false
set_option linter.unusedVariables false
set_option linter.unusedSectionVars false

end Go.Vam

/- Plain laws: determinants of numbers, by expansion; they are multiplied with tables. -/
namespace Go.Vam
open Go Go.RowKit
set_option linter.unusedSimpArgs false
set_option linter.unusedVariables false
set_option linter.unusedSectionVars false

def skipN (i a : Nat) : Nat := if a < i then a else a + 1
def sgnN (i : Nat) : Int := if i % 2 = 0 then 1 else -1
/-- The determinant of the first n rows and columns, expanded along column 0. -/
def detN : Nat → (Nat → Nat → Int) → Int
  | 0, _ => 1
  | n + 1, M => sumN (fun i => sgnN i * M i 0 * detN n (fun a b => M (skipN i a) (b + 1))) (n + 1)
theorem sgnN_succ (i : Nat) : sgnN (i + 1) = - sgnN i := by
  unfold sgnN
  rcases Nat.mod_two_eq_zero_or_one i with h | h
  · rw [if_neg (by omega), if_pos h]
  · rw [if_pos (by omega), if_neg (by omega)]; rfl
theorem skipN_lt {n i a : Nat} (ha : a < n) : skipN i a < n + 1 := by unfold skipN; split <;> omega
theorem detN_congr : ∀ (n : Nat) {M M' : Nat → Nat → Int}, (∀ i, i < n → ∀ j, j < n → M i j = M' i j) → detN n M = detN n M'
  | 0, _, _, _ => rfl
  | n + 1, M, M', h => by
    unfold detN
    refine sumN_congr fun i hi => ?_
    rw [h i hi 0 (by omega), detN_congr n fun a ha b hb => h _ (skipN_lt ha) (b + 1) (by omega)]
theorem dvd_mul_sub {p a b x y : Int} (h1 : p ∣ a - b) (h2 : p ∣ x - y) : p ∣ a * x - b * y := by
  have e : a * x - b * y = (a - b) * x + b * (x - y) := by rw [Int.sub_mul, Int.mul_sub]; omega
  rw [e]
  exact Int.dvd_add (Int.dvd_mul_of_dvd_left h1) (Int.dvd_mul_of_dvd_right h2)
theorem sumN_cong_dvd {p : Int} {f g : Nat → Int} {n : Nat} (h : ∀ k, k < n → p ∣ f k - g k) : p ∣ sumN f n - sumN g n := by
  rw [← sumN_sub]; exact sumN_dvd h
theorem detN_mod {p : Int} : ∀ (n : Nat) {M M' : Nat → Nat → Int}, (∀ i, i < n → ∀ j, j < n → p ∣ M i j - M' i j) → p ∣ detN n M - detN n M'
  | 0, _, _, _ => by unfold detN; simp
  | n + 1, M, M', h => by
    unfold detN
    refine sumN_cong_dvd fun i hi => ?_
    refine dvd_mul_sub (dvd_mul_sub (by simp) (h i hi 0 (by omega))) (detN_mod n fun a ha b hb => h _ (skipN_lt ha) (b + 1) (by omega))

/-- Row i replaced. -/
def rowU (M : Nat → Nat → Int) (i : Nat) (r : Nat → Int) : Nat → Nat → Int := fun a b => if a = i then r b else M a b
theorem rowU_self (M : Nat → Nat → Int) (i : Nat) : rowU M i (M i) = M := by
  funext a b; unfold rowU; split
  · rename_i h; rw [h]
  · rfl
/-- Where row i stands when row k is left out. -/
def backN (k i : Nat) : Nat := if i < k then i else i - 1
theorem skipN_eq {k i a : Nat} (h : i ≠ k) : skipN k a = i ↔ a = backN k i := by
  unfold skipN backN
  constructor
  · intro e; split at e <;> split <;> omega
  · intro e; split at e <;> split <;> omega
theorem backN_lt {n k i : Nat} (hk : k < n + 1) (hi : i < n + 1) (h : i ≠ k) : backN k i < n := by unfold backN; split <;> omega
theorem minor_rowU {M : Nat → Nat → Int} {i k : Nat} {r : Nat → Int} (h : i ≠ k) : (fun a b => rowU M i r (skipN k a) (b + 1)) = rowU (fun a b => M (skipN k a) (b + 1)) (backN k i) (fun b => r (b + 1)) := by
  funext a b
  unfold rowU
  by_cases e : skipN k a = i
  · rw [if_pos e, if_pos ((skipN_eq h).1 e)]
  · rw [if_neg e, if_neg fun e' => e ((skipN_eq h).2 e')]
theorem minor_rowU_self {M : Nat → Nat → Int} {i : Nat} {r : Nat → Int} : (fun a b => rowU M i r (skipN i a) (b + 1)) = (fun a b => M (skipN i a) (b + 1)) := by
  funext a b
  unfold rowU
  rw [if_neg (by unfold skipN; split <;> omega)]
theorem detN_lin : ∀ (n : Nat) (M : Nat → Nat → Int) (i : Nat) (r s : Nat → Int) (c : Int), i < n →
    detN n (rowU M i (fun b => r b + c * s b)) = detN n (rowU M i r) + c * detN n (rowU M i s)
  | 0, _, _, _, _, _, h => by omega
  | n + 1, M, i, r, s, c, h => by
    unfold detN
    rw [← sumN_lin]
    refine sumN_congr fun k hk => ?_
    by_cases e : i = k
    · subst e
      rw [minor_rowU_self, minor_rowU_self, minor_rowU_self]
      simp only [rowU, if_true]
      grind
    · rw [minor_rowU e, minor_rowU e, minor_rowU e, detN_lin n _ _ (fun b => r (b + 1)) (fun b => s (b + 1)) c (backN_lt hk h e)]
      simp only [rowU, if_neg fun e' : k = i => e e'.symm]
      grind
theorem detN_adj : ∀ (n : Nat) (M : Nat → Nat → Int) (i : Nat), i + 1 < n → (∀ b, M i b = M (i + 1) b) → detN n M = 0
  | 0, _, _, h, _ => by omega
  | n + 1, M, i, h, he => by
    unfold detN
    rw [sumN_two (i := i) (k := i + 1) (by omega) h (by omega) fun k hk h1 h2 => ?_]
    · have e : (fun a b => M (skipN (i + 1) a) (b + 1)) = (fun a b => M (skipN i a) (b + 1)) := by
        funext a b
        by_cases ha : a = i
        · subst ha
          have e1 : skipN (a + 1) a = a := by unfold skipN; rw [if_pos (by omega)]
          have e2 : skipN a a = a + 1 := by unfold skipN; rw [if_neg (by omega)]
          rw [e1, e2]; exact he _
        · have : skipN (i + 1) a = skipN i a := by unfold skipN; split <;> split <;> omega
          rw [this]
      rw [e, sgnN_succ, he 0]
      grind
    · have : detN n (fun a b => M (skipN k a) (b + 1)) = 0 := by
        by_cases hki : k < i
        · refine detN_adj n _ (i - 1) (by omega) fun b => ?_
          have e1 : skipN k (i - 1) = i := by unfold skipN; rw [if_neg (by omega)]; omega
          have e2 : skipN k (i - 1 + 1) = i + 1 := by unfold skipN; rw [if_neg (by omega)]; omega
          simp only [e1, e2]; exact he _
        · refine detN_adj n _ i (by omega) fun b => ?_
          have e1 : skipN k i = i := by unfold skipN; rw [if_pos (by omega)]
          have e2 : skipN k (i + 1) = i + 1 := by unfold skipN; rw [if_pos (by omega)]
          simp only [e1, e2]; exact he _
      rw [this, Int.mul_zero]
theorem detN_swap_of {n i k : Nat} (hi : i < n) (hk : k < n) (hne : i ≠ k) (alt : ∀ M : Nat → Nat → Int, (∀ b, M i b = M k b) → detN n M = 0) (M : Nat → Nat → Int) :
    detN n (rowU (rowU M i (M k)) k (M i)) = - detN n M := by
  have key : ∀ r s : Nat → Int, detN n (rowU (rowU M i r) k s) + detN n (rowU (rowU M i s) k r) = 0 := by
    intro r s
    have h0 := alt (rowU (rowU M i (fun b => r b + 1 * s b)) k (fun b => r b + 1 * s b)) fun b => by
      simp only [rowU, if_true, if_neg hne]
    have h1 := alt (rowU (rowU M i r) k r) fun b => by simp only [rowU, if_true, if_neg hne]
    have h2 := alt (rowU (rowU M i s) k s) fun b => by simp only [rowU, if_true, if_neg hne]
    have cm : ∀ u v : Nat → Int, rowU (rowU M i u) k v = rowU (rowU M k v) i u := by
      intro u v; funext a b; unfold rowU
      by_cases a1 : a = i
      · subst a1; rw [if_neg hne, if_pos rfl, if_pos rfl]
      · simp only [if_neg a1]
    rw [detN_lin n (rowU M i (fun b => r b + 1 * s b)) k r s 1 hk, cm, cm, detN_lin n (rowU M k r) i r s 1 hi, detN_lin n (rowU M k s) i r s 1 hi] at h0
    rw [cm] at h1 h2
    rw [cm, cm]
    omega
  have h := key (M k) (M i)
  have e : rowU (rowU M i (M i)) k (M k) = M := by rw [rowU_self, rowU_self]
  rw [e] at h
  omega
theorem detN_alt {n : Nat} : ∀ (t i : Nat) (M : Nat → Nat → Int), i + 1 + t < n → (∀ b, M i b = M (i + 1 + t) b) → detN n M = 0
  | 0, i, M, h, he => detN_adj n M i h he
  | t + 1, i, M, h, he => by
    have hs := detN_swap_of (n := n) (i := i + 1 + t) (k := i + 1 + (t + 1)) (by omega) h (by omega) (fun M hM => detN_adj n M (i + 1 + t) (by omega) hM) M
    have h0 := detN_alt (n := n) t i (rowU (rowU M (i + 1 + t) (M (i + 1 + (t + 1)))) (i + 1 + (t + 1)) (M (i + 1 + t))) (by omega) fun b => by
      simp only [rowU, if_true, if_neg (show i ≠ i + 1 + (t + 1) by omega), if_neg (show i ≠ i + 1 + t by omega), if_neg (show i + 1 + t ≠ i + 1 + (t + 1) by omega)]
      exact he b
    omega
theorem detN_same {n i k : Nat} (hi : i < n) (hk : k < n) (hne : i ≠ k) (M : Nat → Nat → Int) (he : ∀ b, M i b = M k b) : detN n M = 0 := by
  rcases Nat.lt_or_gt_of_ne hne with h | h
  · exact detN_alt (k - i - 1) i M (by omega) fun b => by rw [he b]; congr 1; omega
  · exact detN_alt (i - k - 1) k M (by omega) fun b => by rw [← he b]; congr 1; omega
/-- Multiples of row k added to all others. -/
theorem detN_clear {n k : Nat} (hk : k < n) (M : Nat → Nat → Int) (c : Nat → Int) : detN n (fun a b => if a = k then M k b else M a b + c a * M k b) = detN n M := by
  have key : ∀ m, m ≤ n → detN n (fun a b => if a = k then M k b else if a < m then M a b + c a * M k b else M a b) = detN n M := by
    intro m
    induction m with
    | zero =>
      intro _
      refine detN_congr n fun a ha b hb => ?_
      by_cases e : a = k
      · rw [if_pos e, e]
      · rw [if_neg e, if_neg (by omega)]
    | succ m ih =>
      intro hm
      rw [← ih (by omega)]
      by_cases e : m = k
      · refine detN_congr n fun a ha b hb => ?_
        by_cases e2 : a = k
        · rw [if_pos e2, if_pos e2]
        · rw [if_neg e2, if_neg e2]
          by_cases e3 : a < m
          · rw [if_pos e3, if_pos (by omega)]
          · rw [if_neg e3, if_neg (by omega)]
      · generalize hH : (fun a b => if a = k then M k b else if a < m then M a b + c a * M k b else M a b) = H
        have h1 := detN_lin n H m (fun b => H m b) (fun b => H k b) (c m) (by omega)
        have h2 : detN n (rowU H m (fun b => H k b)) = 0 := detN_same (i := m) (k := k) (by omega) hk e _ fun b => by
          simp only [rowU, if_true, if_neg fun e' : k = m => e e'.symm]
        have h3 : rowU H m (fun b => H m b) = H := rowU_self H m
        rw [h2, h3, Int.mul_zero, Int.add_zero] at h1
        rw [← h1]
        refine detN_congr n fun a ha b hb => ?_
        unfold rowU
        rw [← hH]
        simp only [if_true]
        by_cases e2 : a = k
        · rw [if_pos e2, if_neg (by omega)]; rw [if_pos e2]
        · rw [if_neg e2]
          by_cases e3 : a = m
          · subst e3
            rw [if_pos (by omega), if_pos rfl, if_neg e2, if_neg (by omega)]
          · rw [if_neg e3, if_neg e2]
            by_cases e4 : a < m
            · rw [if_pos e4, if_pos (by omega)]
            · rw [if_neg e4, if_neg (by omega)]
  rw [← key n (Nat.le_refl n)]
  refine detN_congr n fun a ha b hb => ?_
  by_cases e : a = k
  · rw [if_pos e, if_pos e]
  · rw [if_neg e, if_neg e, if_pos ha]

def mulN (n : Nat) (A B : Nat → Nat → Int) : Nat → Nat → Int := fun a b => sumN (fun j => A a j * B j b) n
def prodN (f : Nat → Int) : Nat → Int
  | 0 => 1
  | k + 1 => prodN f k * f k
/-- The steps of an elimination: what they do to a product's determinant. -/
def QN (p : Int) (n : Nat) (A A' : Nat → Nat → Int) (s : Int) : Prop := (s = 1 ∨ s = -1) ∧ ∀ B, p ∣ detN n (mulN n A' B) - s * detN n (mulN n A B)
theorem QN.refl (p : Int) (n : Nat) (A : Nat → Nat → Int) : QN p n A A 1 := ⟨.inl rfl, fun B => by simp⟩
theorem QN.clear {p : Int} {n k : Nat} {A M : Nat → Nat → Int} {s : Int} (hk : k < n) (h : QN p n A M s) (c : Nat → Int) : QN p n A (fun a b => if a = k then M k b else M a b + c a * M k b) s := by
  refine ⟨h.1, fun B => ?_⟩
  have e : detN n (mulN n (fun a b => if a = k then M k b else M a b + c a * M k b) B) = detN n (mulN n M B) := by
    rw [← detN_clear hk (mulN n M B) c]
    refine detN_congr n fun a ha b hb => ?_
    unfold mulN
    by_cases ea : a = k
    · subst ea
      simp only [if_true]
    · simp only [if_neg ea]
      rw [← sumN_lin]
      refine sumN_congr fun j hj => ?_
      grind
  rw [e]; exact h.2 B
end Go.Vam

/- Plain laws: the programs' determinant is the expansion's. -/
namespace Go.Vam
open Go Go.RowKit
set_option linter.unusedSimpArgs false
set_option linter.unusedVariables false
set_option linter.unusedSectionVars false

def asN (m : List (List Int)) : Nat → Nat → Int := fun a b => gI (gR m a) b
def detL (r : Nat) (m : List (List Int)) : Int := detN r (asN m)
theorem prodN_congr {f g : Nat → Int} : ∀ {n : Nat}, (∀ k, k < n → f k = g k) → prodN f n = prodN g n
  | 0, _ => rfl
  | n + 1, h => by simp only [prodN, prodN_congr (n := n) fun k hk => h k (by omega), h n (by omega)]
/-- What the elimination keeps. -/
def DetInv (p : Int) (r : Nat) (M0 M : List (List Int)) (d : Int) (k : Nat) : Prop :=
  ∃ s : Int, p ∣ detL r M0 - s * detL r M ∧ p ∣ d - s * prodN (fun j => gI (gR M j) j) k
theorem DetInv.refl (p : Int) (r : Nat) (M0 : List (List Int)) : DetInv p r M0 M0 1 0 := ⟨1, by simp, by simp [prodN]⟩
theorem DetInv.clear {p : Int} {r k : Nat} {M0 M y : List (List Int)} {R : List Int} {d : Int} (h : DetInv p r M0 M d k) (hk : k < r) (hMk : gR M k = R) (hy : ∀ j, j < r → gR y j = if k < j then clp p r k R (gR M j) else gR M j) :
    DetInv p r M0 y (d * gI R k % p) (k + 1) := by
  obtain ⟨s, h1, h2⟩ := h
  have e : p ∣ detL r y - detL r M := by
    unfold detL
    rw [← detN_clear hk (asN M) (fun a => if k < a then (p - gI (gR M a) k) * invp p (gI R k) % p else 0)]
    refine detN_mod r fun a ha b hb => ?_
    simp only [asN]
    rw [hy a ha]
    by_cases e1 : a = k
    · rw [if_neg (by omega), if_pos e1, e1]; simp
    · rw [if_neg e1]
      by_cases e2 : k < a
      · rw [if_pos e2, if_pos e2]
        unfold clp
        rw [plusv_at hb, hMk, ← mod_dvd, emm]
      · rw [if_neg e2, if_neg e2]; simp
  have e3 : prodN (fun j => gI (gR y j) j) (k + 1) = prodN (fun j => gI (gR M j) j) k * gI R k := by
    simp only [prodN]
    rw [hy k hk, if_neg (by omega), hMk, prodN_congr (g := fun j => gI (gR M j) j) fun j hj => by rw [hy j (by omega), if_neg (by omega)]]
  refine ⟨s, ?_, ?_⟩
  · have : detL r M0 - s * detL r y = (detL r M0 - s * detL r M) - s * (detL r y - detL r M) := by grind
    rw [this]
    exact Int.dvd_sub h1 (Int.dvd_mul_of_dvd_right e)
  · rw [e3]
    have h3 : p ∣ d * gI R k % p - d * gI R k := by rw [← mod_dvd, emm]
    refine dvd_trans_sub h3 ?_
    have : d * gI R k - s * (prodN (fun j => gI (gR M j) j) k * gI R k) = (d - s * prodN (fun j => gI (gR M j) j) k) * gI R k := by grind
    rw [this]
    exact Int.dvd_mul_of_dvd_left h2

section
variable {p : Int} {r : Nat} (hP : isP p = true) (hr : r ≤ 1048576)
include hP hr
end
end Go.Vam

/- Plain laws: products are associative; turned products; ranks and determinants of products. -/
namespace Go.Vam
open Go Go.RowKit
set_option linter.unusedSimpArgs false
set_option linter.unusedVariables false
set_option linter.unusedSectionVars false

end Go.Vam

/- Plain laws: powers, exponents are added. -/
namespace Go.Vam
open Go Go.RowKit
set_option linter.unusedSimpArgs false
set_option linter.unusedVariables false
set_option linter.unusedSectionVars false

end Go.Vam

/- Plain laws: norms of elements; ConjugationBy. -/
namespace Go.Vam
open Go Go.RowKit
set_option linter.unusedSimpArgs false
set_option linter.unusedVariables false
set_option linter.unusedSectionVars false

theorem sumN_split (f : Nat → Int) (a b : Nat) : sumN f (a + b) = sumN f a + sumN (fun k => f (a + k)) b := by
  induction b with
  | zero => simp [sumN]
  | succ b ih => rw [← Nat.add_assoc]; simp only [sumN]; rw [ih]; omega
/-- The unit's place of a product. -/
theorem mulr_unit {p : Int} : ∀ (n : Nat) (w x y : List Int), gI (mulr p n w x y) 0 % p = sumN (fun k => gI x k * gI y k * axS n w k k) (2 ^ n) % p
  | 0, w, x, y => by
    unfold mulr
    show gI x 0 * gI y 0 % p % p = _
    rw [emm]
    simp [sumN, axS]
  | n + 1, w, x, y => by
    have hpow : 2 ^ (n + 1) = 2 ^ n + 2 ^ n := by rw [Nat.pow_succ]; omega
    have i1 := mulr_unit (p := p) n (w.take n) (x.take (2 ^ n)) (y.take (2 ^ n))
    have i2 := mulr_unit (p := p) n (w.take n) (starv p (2 ^ n) (y.drop (2 ^ n))) (x.drop (2 ^ n))
    have hpos := two_pos n
    unfold mulr
    rw [hpow, sumN_split]
    generalize hd : 2 ^ n = d at i1 i2 hpos ⊢
    rw [gI_append, if_pos (by unfold plusv; rw [vecN_len]; exact hpos), plusv_at hpos, emm]
    have e1 : sumN (fun k => gI (x.take d) k * gI (y.take d) k * axS n (w.take n) k k) d = sumN (fun k => gI x k * gI y k * axS (n + 1) w k k) d := by
      refine sumN_congr fun k hk => ?_
      rw [gI_take hk, gI_take hk]
      conv => rhs; unfold axS
      rw [hd, if_pos hk, if_pos hk]
    have e2 : (gI w n * sumN (fun k => gI (starv p d (y.drop d)) k * gI (x.drop d) k * axS n (w.take n) k k) d) % p = sumN (fun k => gI x (d + k) * gI y (d + k) * axS (n + 1) w (d + k) (d + k)) d % p := by
      rw [← sumN_mulL]
      refine sumN_mod fun k hk => ?_
      conv => rhs; unfold axS
      rw [hd, if_neg (by omega), if_neg (by omega), Nat.add_sub_cancel_left, gI_drop]
      have hs := starv_at (p := p) (a := y.drop d) hk
      rw [gI_drop] at hs
      have a1 : gI w n * (gI (starv p d (y.drop d)) k * gI x (d + k) * axS n (w.take n) k k) = gI (starv p d (y.drop d)) k * (gI w n * gI x (d + k) * axS n (w.take n) k k) := by grind
      rw [a1, mul_mod_l hs]
      congr 1
      grind
    rw [Int.add_emod, i1, Int.mul_emod, i2, ← Int.mul_emod, e2, e1, ← Int.add_emod]
/-- The norm. -/
def nrm (p : Int) (w x : List Int) : Int := sumN (fun k => gI (dgv p w w.length) k * gI x k * gI x k) (2 ^ w.length) % p
section
variable {p : Int} {w x : List Int} (hP : isP p = true) (hl : w.length ≤ 4) (hw : Vec p w.length w) (hx : Vec p (2 ^ w.length) x)
include hP hl hw hx
theorem i_norm_eq : i_Doubling_norm p w x = some (nrm p w x) := by
  have hp := isP_le hP
  have h16 := two_le hl
  have hpos := two_pos w.length
  have hs := starv_vec hp.1 hp.2 (by omega) hpos hx
  have hv := mulp_vec hP hl hw hx hs
  unfold i_Doubling_norm i_Doubling_field
  rw [some_bind, i_field_conjugate_eq hp.1 hp.2 (by omega) hpos hx, some_bind, i_Doubling_times_eq hP hl hw hx hs, some_bind, idxI0 (by rw [hv.1]; exact hpos), some_bind]
  congr 1
  have h0 := hv.get hpos
  rw [← mod_small h0.1 h0.2]
  unfold mulp nrm
  rw [mulr_unit]
  refine sumN_mod fun k hk => ?_
  have h1 := starv_at (p := p) (a := x) hk
  have h2 := dgv_at (p := p) (by omega) w.length w k hk
  have a1 : gI x k * gI (starv p (2 ^ w.length) x) k * axS w.length w k k = gI (starv p (2 ^ w.length) x) k * (gI x k * axS w.length w k k) := by grind
  have a2 : gI (dgv p w w.length) k * gI x k * gI x k = gI (dgv p w w.length) k * (gI x k * gI x k) := by grind
  rw [a1, mul_mod_l h1, a2, mul_mod_l h2]
  congr 1
  grind
theorem s_norm_eq : s_l11Norm p w x = some (nrm p w x) := by
  have hp := isP_le hP
  have h16 := two_le hl
  have hd := dgv_vec (p := p) (by omega) w w.length
  have h1 := hx.1
  unfold s_l11Norm
  rw [s_diag_eq hP hl hw, some_bind]
  have key := fold_loop (s_l11Norm_L0 p x (dgv p w w.length)) (2 ^ w.length) (fun k s => (s + gI (dgv p w w.length) k * gI x k * gI x k) % p) 0 (fun k s => s = sumN (fun k => gI (dgv p w w.length) k * gI x k * gI x k) k % p) (fun s => s) (by rw [BIG_val]; omega) (by simp [sumN])
    (fun k s hk hs => by simp only [sumN]; rw [hs, Int.add_emod, emm, ← Int.add_emod]) (fun k s hk hs => by
      unfold s_l11Norm_L0
      have b1 := hd.get hk
      have b2 := hx.get hk
      have b0 : 0 ≤ s ∧ s < p := by rw [hs]; exact mod_num (by omega)
      have q1 := mul_abs (a := gI (dgv p w w.length) k) (b := gI x k) (A := 13) (B := 13) (by omega) (by omega)
      have q2 := mul_abs (a := gI (dgv p w w.length) k * gI x k) (b := gI x k) (A := 169) (B := 13) (by omega) (by omega)
      simp only []
      rw [if_pos (by omega), idxI (by rw [hd.1]; exact hk), some_bind, idxI (by omega), some_bind, w_in (x := gI (dgv p w w.length) k * gI x k) (by omega) (by omega), w_in (x := gI (dgv p w w.length) k * gI x k * gI x k) (by omega) (by omega),
        w_in (x := s + gI (dgv p w w.length) k * gI x k * gI x k) (by omega) (by omega), s_l01Mod_eq (by omega) (by omega) (by omega) (by omega), some_bind, w_in (by omega) (by omega)]
      rfl) (fun s hs => by
      unfold s_l11Norm_L0
      simp only []
      rw [if_neg (by omega)])
  rw [key.1, some_bind, key.2]
  rfl
end
def conjv (p : Int) (w a b x : List Int) : List Int := mulp p w (mulp p w a x) b
def conjm (p : Int) (w a b : List Int) : List (List Int) := vecN (2 ^ w.length) fun k => conjv p w a b (axis (2 ^ w.length) k)
section
variable {p : Int} {w a b : List Int} (hP : isP p = true) (hl : w.length ≤ 4) (hw : Vec p w.length w) (ha : Vec p (2 ^ w.length) a) (hb : Vec p (2 ^ w.length) b)
include hP hl hw ha hb
theorem conjv_vec {x : List Int} (hx : Vec p (2 ^ w.length) x) : Vec p (2 ^ w.length) (conjv p w a b x) := mulp_vec hP hl hw (mulp_vec hP hl hw ha hx) hb
theorem conjm_mat : Mat p (2 ^ w.length) (2 ^ w.length) (conjm p w a b) := Mat.mk' fun k hk => conjv_vec hP hl hw ha hb (axis_vec (by have := isP_le hP; omega) hk)
end
end Go.Vam

/- Plain law: FnMatrixProducts. -/
namespace Go.Vam
open Go Go.RowKit
set_option linter.unusedSimpArgs false
set_option linter.unusedVariables false
set_option linter.unusedSectionVars false

section
variable {p : Int} {r n c : Nat} {a b : List (List Int)} (hP : isP p = true) (ha : Mat p r n a) (hr0 : 1 ≤ r) (hr : r ≤ 16) (hn0 : 1 ≤ n) (hn : n ≤ 16)
include hP ha hr0 hr hn0 hn
end
end Go.Vam

/- Plain laws: inverses of tables. -/
namespace Go.Vam
open Go Go.RowKit
set_option linter.unusedSimpArgs false
set_option linter.unusedVariables false
set_option linter.unusedSectionVars false

/-- The table with the unit behind it. -/
def widem (n : Nat) (a : List (List Int)) : List (List Int) := vecN n fun i => gR a i ++ axis n i
section
variable {p : Int} {n : Nat} {a : List (List Int)} (hp : 1 < p) (hn : n ≤ 1000) (ha : Mat p n n a)
include hp hn ha
end
section
variable {p : Int} {n : Nat} {a B : List (List Int)} {ld : Nat → Nat} (hP : isP p = true) (hn0 : 1 ≤ n) (hn : n ≤ 1000) (ha : Mat p n n a) (hB : Ech p (n + n) B ld) (hk : ∀ u, Kr p (n + n) B u ↔ KerP p n (n + n) (widem n a) u)
include hP hn0 hn ha hB hk
end

section
variable {p : Int} {n : Nat} {a : List (List Int)} (hP : isP p = true) (hn0 : 1 ≤ n) (hn : n ≤ 16) (ha : Mat p n n a)
include hP hn0 hn ha
end
end Go.Vam

/- Plain laws: the coordinates of a product; pure elements of few steps anticommute up to their pairing. -/
namespace Go.Vam
open Go Go.RowKit
set_option linter.unusedSimpArgs false
set_option linter.unusedVariables false
set_option linter.unusedSectionVars false

end Go.Vam

/- Plain law: FnMultiplicationMatrices. -/
namespace Go.Vam
open Go Go.RowKit
set_option linter.unusedSimpArgs false
set_option linter.unusedVariables false
set_option linter.unusedSectionVars false

/-! ### The matrices -/
def leftC (p : Int) (w x : List Int) : List (List Int) := vecN (2 ^ w.length) fun k => mulp p w x (axis (2 ^ w.length) k)
def rightC (p : Int) (w x : List Int) : List (List Int) := vecN (2 ^ w.length) fun k => mulp p w (axis (2 ^ w.length) k) x
def leftm (p : Int) (w x : List Int) : List (List Int) := turnm (2 ^ w.length) (2 ^ w.length) (leftC p w x)
def rightm (p : Int) (w x : List Int) : List (List Int) := turnm (2 ^ w.length) (2 ^ w.length) (rightC p w x)
section
variable {p : Int} {w x : List Int} (hP : isP p = true) (hl : w.length ≤ 4) (hw : Vec p w.length w) (hx : Vec p (2 ^ w.length) x)
include hP hl hw hx
theorem leftC_mat : Mat p (2 ^ w.length) (2 ^ w.length) (leftC p w x) := Mat.mk' fun k hk => mulp_vec hP hl hw hx (axis_vec (by have := isP_le hP; omega) hk)
theorem rightC_mat : Mat p (2 ^ w.length) (2 ^ w.length) (rightC p w x) := Mat.mk' fun k hk => mulp_vec hP hl hw (axis_vec (by have := isP_le hP; omega) hk) hx
theorem leftm_mat : Mat p (2 ^ w.length) (2 ^ w.length) (leftm p w x) := turnm_mat (leftC_mat hP hl hw hx)
theorem rightm_mat : Mat p (2 ^ w.length) (2 ^ w.length) (rightm p w x) := turnm_mat (rightC_mat hP hl hw hx)
theorem i_left_eq : i_Doubling_left p w x = some (leftm p w x) := by
  have hp := isP_le hP
  have h16 := two_le hl
  have hpos := two_pos w.length
  have e1 := (unitm_mat (p := p) (by omega) (2 ^ w.length)).1
  unfold i_Doubling_left
  rw [i_Doubling_size_eq hl, some_bind, i_unit_eq (by omega), some_bind, map_loop _ (2 ^ w.length) (fun k => mulp p w x (axis (2 ^ w.length) k)) (by rw [BIG_val]; omega)]
  · have hm := leftC_mat hP hl hw hx
    rw [some_bind]
    have := i_transpose_eq hpos (by omega) (by omega) hm
    unfold leftm
    unfold leftC at this ⊢
    rw [this, some_bind]
  · intro k hk out ho
    unfold i_Doubling_left_L0
    have hv := axis_vec (p := p) (by omega) hk
    simp only [e1, show ((k : Int) < ((2 ^ w.length : Nat) : Int)) = True from eq_true (Int.ofNat_lt.2 hk), if_true, idxR (show k < (unitm (2 ^ w.length)).length by omega), gR_unitm hk, some_bind, i_Doubling_times_eq hP hl hw hx hv]
    rw [chk_bind (by simp only [List.length_cons, List.length_nil]; omega), w_in (by omega) (by omega)]
    rfl
  · intro out ho
    unfold i_Doubling_left_L0
    simp only [e1, show (((2 ^ w.length : Nat) : Int) < ((2 ^ w.length : Nat) : Int)) = False from eq_false (by omega), if_false]
theorem i_right_eq : i_Doubling_right p w x = some (rightm p w x) := by
  have hp := isP_le hP
  have h16 := two_le hl
  have hpos := two_pos w.length
  have e1 := (unitm_mat (p := p) (by omega) (2 ^ w.length)).1
  unfold i_Doubling_right
  rw [i_Doubling_size_eq hl, some_bind, i_unit_eq (by omega), some_bind, map_loop _ (2 ^ w.length) (fun k => mulp p w (axis (2 ^ w.length) k) x) (by rw [BIG_val]; omega)]
  · have hm := rightC_mat hP hl hw hx
    rw [some_bind]
    have := i_transpose_eq hpos (by omega) (by omega) hm
    unfold rightm
    unfold rightC at this ⊢
    rw [this, some_bind]
  · intro k hk out ho
    unfold i_Doubling_right_L0
    have hv := axis_vec (p := p) (by omega) hk
    simp only [e1, show ((k : Int) < ((2 ^ w.length : Nat) : Int)) = True from eq_true (Int.ofNat_lt.2 hk), if_true, idxR (show k < (unitm (2 ^ w.length)).length by omega), gR_unitm hk, some_bind, i_Doubling_times_eq hP hl hw hv hx]
    rw [chk_bind (by simp only [List.length_cons, List.length_nil]; omega), w_in (by omega) (by omega)]
    rfl
  · intro out ho
    unfold i_Doubling_right_L0
    simp only [e1, show (((2 ^ w.length : Nat) : Int) < ((2 ^ w.length : Nat) : Int)) = False from eq_false (by omega), if_false]
theorem s_left_eq : s_l11Left p w x = some (leftm p w x) := by
  have hp := isP_le hP
  have h16 := two_le hl
  unfold s_l11Left
  rw [map_loop _ (2 ^ w.length) (fun k => mulp p w x (axis (2 ^ w.length) k)) (by rw [BIG_val]; omega)]
  · rw [some_bind]
    have := s_l11Columns_eq (by omega) (leftC_mat hP hl hw hx)
    unfold leftm
    unfold leftC at this ⊢
    rw [this, some_bind]
  · intro k hk out ho
    unfold s_l11Left_L0
    have hv := axis_vec (p := p) (by omega) hk
    simp only [s_l11Size_eq hl, some_bind, show ((k : Int) < ((2 ^ w.length : Nat) : Int)) = True from eq_true (Int.ofNat_lt.2 hk), if_true, s_l11One_eq hl hk, s_l11Times_eq hP hl hw hx hv]
    rw [chk_bind (by simp only [List.length_cons, List.length_nil]; omega), w_in (by omega) (by omega)]
    rfl
  · intro out ho
    unfold s_l11Left_L0
    simp only [s_l11Size_eq hl, some_bind, show (((2 ^ w.length : Nat) : Int) < ((2 ^ w.length : Nat) : Int)) = False from eq_false (by omega), if_false]
theorem s_right_eq : s_l11Right p w x = some (rightm p w x) := by
  have hp := isP_le hP
  have h16 := two_le hl
  unfold s_l11Right
  rw [map_loop _ (2 ^ w.length) (fun k => mulp p w (axis (2 ^ w.length) k) x) (by rw [BIG_val]; omega)]
  · rw [some_bind]
    have := s_l11Columns_eq (by omega) (rightC_mat hP hl hw hx)
    unfold rightm
    unfold rightC at this ⊢
    rw [this, some_bind]
  · intro k hk out ho
    unfold s_l11Right_L0
    have hv := axis_vec (p := p) (by omega) hk
    simp only [s_l11Size_eq hl, some_bind, show ((k : Int) < ((2 ^ w.length : Nat) : Int)) = True from eq_true (Int.ofNat_lt.2 hk), if_true, s_l11One_eq hl hk, s_l11Times_eq hP hl hw hv hx]
    rw [chk_bind (by simp only [List.length_cons, List.length_nil]; omega), w_in (by omega) (by omega)]
    rfl
  · intro out ho
    unfold s_l11Right_L0
    simp only [s_l11Size_eq hl, some_bind, show (((2 ^ w.length : Nat) : Int) < ((2 ^ w.length : Nat) : Int)) = False from eq_false (by omega), if_false]
end
end Go.Vam

/- Plain law: FnMultiplicationMatrices, the end. -/
namespace Go.Vam
open Go Go.RowKit
set_option linter.unusedSimpArgs false
set_option linter.unusedVariables false
set_option linter.unusedSectionVars false

section
variable {p : Int} {w x : List Int} (hw : w.length ≤ 1048576) (hx : x.length ≤ 1048576)
include hw hx
end
section
variable {p : Int} {w x : List Int} (hD : isDb p w = true) (hx : Vec p (2 ^ w.length) x)
include hD hx
end
section
variable {p : Int} {w a b : List Int} (hP : isP p = true) (hl : w.length ≤ 3) (hw : Vec p w.length w) (ha : Vec p (2 ^ w.length) a) (hb : Vec p (2 ^ w.length) b) (ha0 : gI a 0 = 0) (hb0 : gI b 0 = 0)
include hP hl hw ha hb ha0 hb0
end
end Go.Vam

/- Plain law: FnInverses. -/
namespace Go.Vam
open Go Go.RowKit
set_option linter.unusedSimpArgs false
set_option linter.unusedVariables false
set_option linter.unusedSectionVars false

end Go.Vam

/- Plain laws: triples. -/
namespace Go.Vam
open Go Go.RowKit
set_option linter.unusedSimpArgs false
set_option linter.unusedVariables false
set_option linter.unusedSectionVars false

/-! ### The laws' helpers -/
section
variable {a b c : List (List Int)}
theorem eqTr_self (ha : szM a) (hb : szM b) (hc : szM c) : l_eqTriple a b c a b c = some true := by
  unfold l_eqTriple
  simp only [eqM_self ha, eqM_self hb, eqM_self hc, some_bind, Bool.true_eq_false, if_false]
theorem markTr_eq {k : Nat} (ha : szM a) (hb : szM b) (hc : szM c) (h : k + rowsum a + rowsum b + rowsum c ≤ 1073741824) :
    l_markTriple_m a b c (k : Int) = some (((k + rowsum a + rowsum b + rowsum c : Nat) : Int), (mrkM k a, mrkM (k + rowsum a) b, mrkM (k + rowsum a + rowsum b) c)) := by
  unfold l_markTriple_m
  have h1 := ha.1; have h2 := hb.1; have h3 := hc.1
  rw [markM_eq (by omega) (by omega), some_bind, markM_eq (by omega) (by omega), some_bind, markM_eq (by omega) (by omega), some_bind]
theorem heldTr_eq {k : Nat} (ha : szM a) (hb : szM b) (hc : szM c) (h : k + rowsum a + rowsum b + rowsum c ≤ 1073741824) :
    l_heldTriple (mrkM k a) (mrkM (k + rowsum a) b) (mrkM (k + rowsum a + rowsum b) c) (k : Int) = some ((k + rowsum a + rowsum b + rowsum c : Nat) : Int) := by
  unfold l_heldTriple
  have h1 := ha.1; have h2 := hb.1; have h3 := hc.1
  rw [heldM_eq (by omega) (by omega), some_bind, if_neg (by omega), heldM_eq (by omega) (by omega), some_bind, if_neg (by omega), heldM_eq (by omega) (by omega), some_bind, if_neg (by omega)]
theorem markTr_1 (ha : smallM a) (hb : smallM b) (hc : smallM c) : l_markTriple_m a b c 1 = some (((1 + rowsum a + rowsum b + rowsum c : Nat) : Int), (mrkM 1 a, mrkM (1 + rowsum a) b, mrkM (1 + rowsum a + rowsum b) c)) :=
  markTr_eq (k := 1) ⟨ha.1, ha.2.1⟩ ⟨hb.1, hb.2.1⟩ ⟨hc.1, hc.2.1⟩ (by have := ha.2.2; have := hb.2.2; have := hc.2.2; omega)
theorem heldTr_1 (ha : smallM a) (hb : smallM b) (hc : smallM c) : l_heldTriple (mrkM 1 a) (mrkM (1 + rowsum a) b) (mrkM (1 + rowsum a + rowsum b) c) 1 = some ((1 + rowsum a + rowsum b + rowsum c : Nat) : Int) :=
  heldTr_eq (k := 1) ⟨ha.1, ha.2.1⟩ ⟨hb.1, hb.2.1⟩ ⟨hc.1, hc.2.1⟩ (by have := ha.2.2; have := hb.2.2; have := hc.2.2; omega)
end

/-! ### UnitTriple -/
section
variable {p : Int} {w a b : List Int} (hP : isP p = true) (hl : w.length ≤ 4) (hw : Vec p w.length w) (ha : Vec p (2 ^ w.length) a) (hb : Vec p (2 ^ w.length) b)
include hP hl hw ha hb
theorem s_unit_loop : loop (s_l15Unit_L0 p w b) BIG ([], 0) = some (conjm p w b b) := by
  have hp := isP_le hP
  have h16 := two_le hl
  rw [map_loop _ (2 ^ w.length) (fun k => conjv p w b b (axis (2 ^ w.length) k)) (by rw [BIG_val]; omega)]
  · rfl
  · intro k hk out ho
    unfold s_l15Unit_L0
    have hx := axis_vec (p := p) (by omega) hk
    simp only [s_l11Size_eq hl, some_bind, show ((k : Int) < ((2 ^ w.length : Nat) : Int)) = True from eq_true (Int.ofNat_lt.2 hk), if_true, s_l11One_eq hl hk, s_l11Times_eq hP hl hw hb hx, s_l11Times_eq hP hl hw (mulp_vec hP hl hw hb hx) hb]
    rw [chk_bind (by simp only [List.length_cons, List.length_nil]; omega), w_in (by omega) (by omega)]
    rfl
  · intro out ho
    unfold s_l15Unit_L0
    simp only [s_l11Size_eq hl, some_bind, show (((2 ^ w.length : Nat) : Int) < ((2 ^ w.length : Nat) : Int)) = False from eq_false (by omega), if_false]
theorem i_unit_conj : i_Doubling_matrixOf_of_i_UnitTriple_c1 p w p w b = some (turnm (2 ^ w.length) (2 ^ w.length) (conjm p w b b)) := by
  have hp := isP_le hP
  have h16 := two_le hl
  have hpos := two_pos w.length
  have e1 := (unitm_mat (p := p) (by omega) (2 ^ w.length)).1
  unfold i_Doubling_matrixOf_of_i_UnitTriple_c1
  rw [i_Doubling_size_eq hl, some_bind, i_unit_eq (by omega), some_bind, map_loop _ (2 ^ w.length) (fun k => conjv p w b b (axis (2 ^ w.length) k)) (by rw [BIG_val]; omega)]
  · have hm := conjm_mat hP hl hw hb hb
    rw [some_bind]
    have := i_transpose_eq hpos (by omega) (by omega) hm
    unfold conjm at this ⊢
    rw [this, some_bind]
  · intro k hk out ho
    unfold i_Doubling_matrixOf_of_i_UnitTriple_c1_L0 i_UnitTriple_c1
    have hx := axis_vec (p := p) (by omega) hk
    simp only [e1, show ((k : Int) < ((2 ^ w.length : Nat) : Int)) = True from eq_true (Int.ofNat_lt.2 hk), if_true, idxR (show k < (unitm (2 ^ w.length)).length by omega), gR_unitm hk, some_bind, i_Doubling_times_eq hP hl hw hb hx, i_Doubling_times_eq hP hl hw (mulp_vec hP hl hw hb hx) hb]
    rw [chk_bind (by simp only [List.length_cons, List.length_nil]; omega), w_in (by omega) (by omega)]
    rfl
  · intro out ho
    unfold i_Doubling_matrixOf_of_i_UnitTriple_c1_L0
    simp only [e1, show (((2 ^ w.length : Nat) : Int) < ((2 ^ w.length : Nat) : Int)) = False from eq_false (by omega), if_false]
end
theorem UnitTriple_eq {p : Int} {w a : List Int} (hw : w.length ≤ 1048576) (ha : a.length ≤ 1048576) :
    ∃ X Y Z C, s_UnitTriple p w a = some ((X, Y, Z), C) ∧ i_UnitTriple p w a = some ((X, Y, Z), C) ∧ smallM X ∧ smallM Y ∧ smallM Z := by
  have hsv : szM [a] := ⟨by simp, fun x hx => by
    simp only [List.mem_cons, List.not_mem_nil, or_false] at hx
    rw [hx]; exact ha⟩
  unfold s_UnitTriple i_UnitTriple
  rw [s_l14Elements_eq hw hsv, i_checkThree_eq hw hsv (by simp) (by simp), some_bind, some_bind]
  by_cases h0 : thC p w [a] [] = 0
  · obtain ⟨a1, a2, a3, _⟩ := thC_zero h0
    obtain ⟨hP, hl, hw', _⟩ := isDb_iff a1
    have hp := isP_le hP
    have h16 := two_le hl
    have hpos := two_pos w.length
    have hA := a3 a (by simp)
    have hs := starv_vec hp.1 hp.2 (by omega) hpos hA
    unfold i_Doubling_field
    simp only [h0, not_true_eq_false, if_false, s_norm_eq hP hl hw' hA, i_norm_eq hP hl hw' hA, some_bind]
    by_cases hz : nrm p w a = 1
    · simp only [hz, not_true_eq_false, if_false]
      unfold s_l15Unit
      have g1 := s_unit_loop hP hl hw' hA hs
      have g2 := i_unit_conj hP hl hw' hA hs
      have g3 := s_l11Columns_eq (by omega) (conjm_mat hP hl hw' hs hs)
      have mm := turnm_mat (conjm_mat hP hl hw' hs hs)
      simp only [s_l11Star_eq hp.1 hp.2 (by omega) hpos hA, i_field_conjugate_eq hp.1 hp.2 (by omega) hpos hA, some_bind, g1, g2, g3, s_left_eq hP hl hw' hA, s_right_eq hP hl hw' hA, i_left_eq hP hl hw' hA, i_right_eq hP hl hw' hA]
      exact ⟨_, _, _, _, rfl, rfl, smallM.of (leftm_mat hP hl hw' hA) (by omega) (by omega), smallM.of (rightm_mat hP hl hw' hA) (by omega) (by omega), smallM.of mm (by omega) (by omega)⟩
    · simp only [hz, not_false_eq_true, if_true]
      exact ⟨_, _, _, _, rfl, rfl, smallM.nil, smallM.nil, smallM.nil⟩
  · simp only [h0, not_false_eq_true, if_true]
    exact ⟨_, _, _, _, rfl, rfl, smallM.nil, smallM.nil, smallM.nil⟩
theorem LawUnitTriple {p : Int} {w a : List Int} (hw : lenI w) (ha : lenI a) : l_FnExactUnitTriple p w a = some true := by
  unfold l_FnExactUnitTriple
  by_cases g1 : 1048576 < (a.length : Int)
  · rw [if_pos g1]
  rw [if_neg g1, szDb_eq hw (by omega) (by omega), some_bind]
  by_cases h1 : ((w.length : Nat) : Int) ≤ 1048576
  · have hs : szv w.length 1048576 = 1048576 - ((w.length : Nat) : Int) := by unfold szv; rw [if_pos h1]
    rw [hs, if_neg (by omega)]
    have hw' : w.length ≤ 1048576 := by omega
    have ha' : a.length ≤ 1048576 := by omega
    obtain ⟨X, Y, Z, C, e3, e4, zX, zY, zZ⟩ := UnitTriple_eq (p := p) hw' ha'
    have e1 := toI_eq ha'
    have e2 := toDb_eq (p := p) hw'
    have e5 := eqDb_self (p := p) hw'
    have e6 := eqI_self ha'
    have e7 := eqTr_self (a := X) (b := Y) (c := Z) ⟨zX.1, zX.2.1⟩ ⟨zY.1, zY.2.1⟩ ⟨zZ.1, zZ.2.1⟩
    have e8 := markDb_1 (p := p) hw'
    have e9 : l_markInt64S a ((1 + w.length : Nat) : Int) = some (((1 + w.length + a.length : Nat) : Int), mrkI (1 + w.length) a) := markI_eq (by omega)
    have e10 := markTr_1 zX zY zZ
    have e11 := heldTr_1 zX zY zZ
    simp only [e1, e2, e3, e4, e5, e6, e7, e8, e9, e10, e11, some_bind, Bool.true_eq_false, Bool.false_eq_true, if_false, if_true, ieq_self, Bool.not_true, natneg, not_true_eq_false, bne_self_eq_false]
  · have hs : szv w.length 1048576 = -1 := by unfold szv; rw [if_neg h1]
    rw [hs, if_pos (by omega)]

abbrev gT3 (l : List (List (List Int) × List (List Int) × List (List Int))) (k : Nat) : List (List Int) × List (List Int) × List (List Int) := l.getD k ([], [], [])
def szTs (l : List (List (List Int) × List (List Int) × List (List Int))) : Prop := l.length ≤ 1024 ∧ ∀ x ∈ l, szM x.1 ∧ szM x.2.1 ∧ szM x.2.2
theorem szTs.at {l : List (List (List Int) × List (List Int) × List (List Int))} (h : szTs l) {k : Nat} (hk : k < l.length) : szM (gT3 l k).1 ∧ szM (gT3 l k).2.1 ∧ szM (gT3 l k).2.2 := by
  have := h.2 _ (List.getElem_mem hk)
  rwa [getD_get hk ([], [], [])] at this
section
variable {p : Int} {w : List Int} {l : List (List (List Int) × List (List Int) × List (List Int))} (hw : w.length ≤ 1048576) (hz : szTs l)
include hw hz
end
end Go.Vam
