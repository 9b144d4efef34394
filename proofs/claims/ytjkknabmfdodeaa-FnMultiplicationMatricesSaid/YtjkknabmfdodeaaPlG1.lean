import Derived.Test.YtjkknabmfdodeaaPlG0
import Derived.Test.YtjkknabmfdodeaaFnF
import Derived.Test.YtjkknabmfdodeaaFnG
import Derived.Test.YtjkknabmfdodeaaFnE
import Derived.Test.YtjkknabmfdodeaaFnH
import Derived.Test.YtjkknabmfdodeaaFnI
import Derived.Test.YtjkknabmfdodeaaFnJ
/- Plain laws: both programs' reduced bases are reduced rows in order, and send the same to nothing. -/
namespace Go.Vam
open Go Go.RowKit
set_option linter.unusedSimpArgs false
set_option linter.unusedVariables false
set_option linter.unusedSectionVars false

structure RedK (r c : Nat) (m : List (List Int)) (d k : Nat) (piv : Nat → Nat) : Prop where
  red : Red r c m d piv
  plt : ∀ j, j < d → piv j < k
  pre : ∀ j, j < d → ∀ q, q < piv j → gI (gR m j) q = 0
  srt : ∀ i j, i < j → j < d → piv i < piv j
  low : ∀ i, d ≤ i → i < r → ∀ q, q < k → gI (gR m i) q = 0
theorem RedK.skip {r c d k : Nat} {m : List (List Int)} {piv : Nat → Nat} (h : RedK r c m d k piv) (h0 : ∀ i, d ≤ i → i < r → gI (gR m i) k = 0) : RedK r c m d (k + 1) piv :=
  ⟨h.red, fun j hj => Nat.lt_succ_of_lt (h.plt j hj), h.pre, h.srt, fun i h1 h2 q hq => (Nat.lt_succ_iff_lt_or_eq.1 hq).elim (h.low i h1 h2 q) (fun e => e ▸ h0 i h1 h2)⟩
section
variable {p : Int} {r c k d x : Nat} {m : List (List Int)} {piv : Nat → Nat} {R : List Int} (hP : isP p = true) (hm : Mat p r c m) (hk : k < c) (hd : d < r) (hdx : d ≤ x) (hx : x < r)
  (hne : gI (gR m x) k ≠ 0) (hRe : R = scalev p c (gR m x) (invp p (gI (gR m x) k)))
include hP hm hk hd hdx hx hne hRe
theorem clrm_row (i : Nat) (hi : i < r) : gR (clrm p r c k d R ((m.set x (gR m d)).set d R)) i = if i = d then R else clr p c k R (if i = x then gR m d else gR m i) := by
  have e1 := hm.1
  unfold clrm
  rw [gR_vecN _ hi]
  by_cases hid : i = d
  · rw [if_pos hid, if_pos hid]
  · rw [if_neg hid, if_neg hid, gR_set (by rw [List.length_set]; omega), if_neg (by omega), gR_set (by omega)]
    by_cases hix : i = x
    · rw [if_pos hix.symm, if_pos hix]
    · rw [if_neg (fun e => hix e.symm), if_neg hix]
theorem RedK.step (h : RedK r c m d k piv) : RedK r c (clrm p r c k d R ((m.set x (gR m d)).set d R)) (d + 1) (k + 1) (fun j => if j = d then k else piv j) := by
  have hp := isP_le hP
  have row := clrm_row hP hm hk hd hdx hx hne hRe
  have e4 := (hm.row hx).get hk
  obtain ⟨i1, i2, i3⟩ := inv_facts (a := gI (gR m x) k) hP (by omega) e4.2
  have hR0 : ∀ q, q < k → gI R q = 0 := by
    intro q hq
    rw [hRe]; unfold scalev
    rw [gI_vecN _ (by omega), h.low x hdx hx q hq]; simp
  have hent : ∀ v q, q < k → gI v q = 0 → gI (clr p c k R v) q = 0 := by
    intro v q hq hv
    unfold clr plusv
    rw [gI_vecN _ (by omega), hv, hR0 q hq]; simp
  refine ⟨h.red.step hP hm hk hd hdx hx hne hRe, fun j hj => ?_, fun j hj q hq => ?_, fun i j hij hj => ?_, fun i h1 h2 q hq => ?_⟩
  · try simp only []
    split
    · omega
    · have := h.plt j (by omega); omega
  · try simp only [] at hq
    rw [row j (by omega)]
    by_cases hjd : j = d
    · rw [if_pos hjd] at hq ⊢; exact hR0 q hq
    · rw [if_neg hjd] at hq ⊢
      have h3 := h.plt j (by omega)
      rw [if_neg (by omega)]
      exact hent _ q (by omega) (h.pre j (by omega) q hq)
  · try simp only []
    rw [if_neg (show ¬ i = d by omega)]
    split
    · exact h.plt i (by omega)
    · exact h.srt i j hij (by omega)
  · rw [row i h2, if_neg (by omega)]
    by_cases hqk : q < k
    · refine hent _ q hqk ?_
      split
      · exact h.low d (Nat.le_refl _) hd q hqk
      · exact h.low i (by omega) h2 q hqk
    · have hqe : q = k := by omega
      subst hqe
      have hRk : gI R q = 1 := by rw [hRe]; unfold scalev; rw [gI_vecN _ hk, i3]
      unfold clr plusv
      rw [gI_vecN _ hk, hRk, Int.mul_one]
      generalize gI (if i = x then gR m d else gR m i) q = e
      rw [Int.add_emod, Int.emod_emod_of_dvd _ (Int.dvd_refl p), ← Int.add_emod]
      have : e + (p - e) = p := by omega
      rw [this, Int.emod_self]
end
section
variable {p : Int} {r c : Nat} (hP : isP p = true) (hr0 : 0 < r) (hr : r ≤ 1048576) (hc : c ≤ 1048576)
include hP hr0 hr hc
end
end Go.Vam

/- Plain laws: rows reduced one at a time; IsAutomorphism. -/
namespace Go.Vam
open Go Go.RowKit
set_option linter.unusedSimpArgs false
set_option linter.unusedVariables false
set_option linter.unusedSectionVars false

section
variable {p : Int} {n : Nat} (hP : isP p = true) (hn : n ≤ 1048000)
include hP hn
end

section
variable {p : Int} {w : List Int} {m : List (List Int)} (hP : isP p = true) (hl : w.length ≤ 4) (hw : Vec p w.length w) (hm : Mat p (2 ^ w.length) (2 ^ w.length) m)
include hP hl hw hm
end
end Go.Vam

/- Plain laws: kernels; both programs make the same reduced basis of what a table sends to nothing. -/
namespace Go.Vam
open Go Go.RowKit
set_option linter.unusedSimpArgs false
set_option linter.unusedVariables false
set_option linter.unusedSectionVars false

theorem Ech.nil (p : Int) (n : Nat) : Ech p n [] (fun _ => 0) :=
  ⟨⟨rfl, fun i hi => by simp at hi⟩, fun j hj => by simp at hj, fun j hj => by simp at hj, fun j hj => by simp at hj, fun j hj => by simp at hj, fun i j _ hj => by simp at hj⟩
section
variable {p : Int} {n : Nat} {B : List (List Int)} {ld : Nat → Nat} (hP : isP p = true) (hn : n ≤ 1048000) (hB : Ech p n B ld)
include hP hn hB
end
end Go.Vam

/- Plain law: the reduced rows that a table sends to nothing. -/
namespace Go.Vam
open Go Go.RowKit
set_option linter.unusedSimpArgs false
set_option linter.unusedVariables false
set_option linter.unusedSectionVars false

section
variable {p : Int} {n : Nat} {B : List (List Int)} {ld : Nat → Nat} (hP : isP p = true) (hn : n ≤ 1048000) (hB : Ech p n B ld)
include hP hn hB
end
end Go.Vam

/- Plain laws: ranks, kernels and how many vectors they have. -/
namespace Go.Vam
open Go Go.RowKit
set_option linter.unusedSimpArgs false
set_option linter.unusedVariables false
set_option linter.unusedSectionVars false

theorem sumN_add (f g : Nat → Int) (n : Nat) : sumN (fun q => f q + g q) n = sumN f n + sumN g n := by
  have := sumN_lin f g 1 n
  simp only [Int.one_mul] at this
  exact this
theorem sumN_mulL (k : Int) (f : Nat → Int) (n : Nat) : sumN (fun q => k * f q) n = k * sumN f n := by
  have := sumN_lin (fun _ => 0) f k n
  simp only [Int.zero_add, sumN_zero] at this
  exact this
theorem sumN_mulR (k : Int) (f : Nat → Int) (n : Nat) : sumN (fun q => f q * k) n = sumN f n * k := by
  rw [Int.mul_comm, ← sumN_mulL]
  exact sumN_congr fun q _ => Int.mul_comm _ _
theorem sumN_comm (f : Nat → Nat → Int) (m : Nat) : ∀ n, sumN (fun i => sumN (fun j => f i j) m) n = sumN (fun j => sumN (fun i => f i j) n) m
  | 0 => by simp only [sumN]; rw [sumN_zero]
  | n + 1 => by
    simp only [sumN]
    rw [sumN_add, sumN_comm f m n]
theorem sumN_dvd {p : Int} {f : Nat → Int} : ∀ {n : Nat}, (∀ k, k < n → p ∣ f k) → p ∣ sumN f n
  | 0, _ => Int.dvd_zero p
  | n + 1, h => by
    simp only [sumN]
    exact Int.dvd_add (sumN_dvd fun k hk => h k (by omega)) (h n (by omega))
theorem sumN_sub (f g : Nat → Int) (n : Nat) : sumN (fun q => f q - g q) n = sumN f n - sumN g n := by
  have := sumN_lin f g (-1) n
  have e : sumN (fun q => f q - g q) n = sumN (fun q => f q + -1 * g q) n := sumN_congr fun q _ => by omega
  rw [e, this]; omega
theorem dvd_trans_sub {p a b c : Int} (h1 : p ∣ a - b) (h2 : p ∣ b - c) : p ∣ a - c := by
  have := Int.dvd_add h1 h2
  rwa [show a - b + (b - c) = a - c by omega] at this
section
variable {p : Int} {n : Nat} {B : List (List Int)} {ld : Nat → Nat} (h : Ech p n B ld)
include h
theorem Ech.at_lead (g : Nat → Int) (q : Nat) : sumN (fun j => if ld j = q then g j else 0) B.length = if isLd B.length ld q = true then g (rowOf ld q B.length) else 0 := by
  by_cases hq : isLd B.length ld q = true
  · rw [if_pos hq]
    obtain ⟨a1, a2⟩ := rowOf_spec (isLd_iff.1 hq)
    rw [sumN_one a1 (fun j hj hne => if_neg fun e => hne (h.inj hj a1 (by rw [e, a2]))), if_pos a2]
  · rw [if_neg hq, sumN_congr (g := fun _ => 0) fun j hj => if_neg fun e => hq (isLd_iff.2 ⟨j, hj, e⟩)]
    exact sumN_zero _
/-- A sum over all places: those without a lead, and the leads. -/
theorem Ech.split (g : Nat → Int) : sumN g n = sumN (fun q => if isLd B.length ld q = true then 0 else g q) n + sumN (fun j => g (ld j)) B.length := by
  have e1 : sumN (fun j => g (ld j)) B.length = sumN (fun j => sumN (fun q => if ld j = q then g q else 0) n) B.length :=
    sumN_congr fun j hj => by rw [sumN_one (h.lt j hj) (fun q _ hq => if_neg fun e => hq e.symm), if_pos rfl]
  rw [e1, sumN_comm, ← sumN_add]
  refine sumN_congr fun q hq => ?_
  have e2 : sumN (fun j => if ld j = q then g q else 0) B.length = if isLd B.length ld q = true then g q else 0 := h.at_lead (fun _ => g q) q
  rw [e2]
  split <;> omega
end
end Go.Vam

/- Plain laws: the equations of derivations; both programs' bases of derivations are one. -/
namespace Go.Vam
open Go Go.RowKit
set_option linter.unusedSimpArgs false
set_option linter.unusedVariables false
set_option linter.unusedSectionVars false

theorem gR_append {x y : List (List Int)} {k : Nat} : gR (x ++ y) k = if k < x.length then gR x k else gR y (k - x.length) := by
  unfold gR
  rw [List.getD_eq_getElem?_getD, List.getElem?_append]
  by_cases h : k < x.length
  · rw [if_pos h, if_pos h, List.getD_eq_getElem?_getD]
  · rw [if_neg h, if_neg h, List.getD_eq_getElem?_getD]
theorem Mat.append {p : Int} {a b c : Nat} {x y : List (List Int)} (hx : Mat p a c x) (hy : Mat p b c y) : Mat p (a + b) c (x ++ y) := by
  have h1 := hx.1
  refine ⟨by rw [List.length_append, hx.1, hy.1], fun i hi => ?_⟩
  rw [gR_append]
  split
  · exact hx.2 i (by omega)
  · exact hy.2 (i - x.length) (by omega)
section
variable {p : Int} {w : List Int} (hP : isP p = true) (hl : w.length ≤ 4) (hw : Vec p w.length w)
include hP hl hw
end
end Go.Vam

/- Plain laws: what is drawn from a code. -/
namespace Go.Vam
open Go Go.RowKit
set_option linter.unusedSimpArgs false
set_option linter.unusedVariables false
set_option linter.unusedSectionVars false

/-- A source of numbers: bytes, and a place among them. -/
structure Src (c : List Int) (a : Int) : Prop where
  len : c.length ≤ 4096
  byte : ∀ x ∈ c, 0 ≤ x ∧ x ≤ 255
  pos : 0 ≤ a
  le : a ≤ c.length

theorem band_le (h : Int) : 0 ≤ w64 (band .u64 h 16777215) ∧ w64 (band .u64 h 16777215) ≤ 16777215 := by
  have h1 : ((BitVec.ofInt 64 h &&& BitVec.ofInt 64 16777215).toNat : Nat) ≤ 16777215 := by
    rw [BitVec.toNat_and]
    exact Nat.le_trans Nat.and_le_right (by decide)
  have h2 : band .u64 h 16777215 = ((BitVec.ofInt 64 h &&& BitVec.ofInt 64 16777215).toNat : Int) := by
    unfold band
    show IntKind.u64.wrap ((BitVec.ofInt 64 h &&& BitVec.ofInt 64 16777215).toNat : Int) = _
    generalize (BitVec.ofInt 64 h &&& BitVec.ofInt 64 16777215).toNat = n at h1
    simp only [IntKind.wrap, IntKind.signed, IntKind.bits]
    simp
    omega
  rw [h2, w_in (by omega) (by omega)]
  omega
theorem next_eq {c : List Int} {a h n : Int} (hS : Src c a) (hn : 1 ≤ n) (hn2 : n ≤ 4611686018427387904) :
    ∃ r a' h', s_l01Next c a h n = some (r, (c, a', h')) ∧ 0 ≤ r ∧ r < n ∧ Src c a' := by
  unfold s_l01Next
  rw [if_neg (by omega)]
  by_cases hlt : a < (c.length : Int)
  · obtain ⟨k, rfl⟩ := Int.eq_ofNat_of_zero_le hS.pos
    have hk : k < c.length := by omega
    rw [if_pos (by omega), idxI hk, some_bind, some_bind, chk_bind (by omega)]
    have hb := hS.byte (gI c k) (by rw [show gI c k = c[k] from by unfold gI; simp [hk]]; exact List.getElem_mem hk)
    obtain ⟨b1, b2⟩ := band_le (shr .u64 (IntKind.u64.wrap ((IntKind.u64.wrap (h * 6364136223846793005)) + 1442695040888963407)) 33)
    refine ⟨_, _, _, rfl, ?_, ?_, hS.len, hS.byte, ?_, ?_⟩
    · simp only []
      rw [w_in (x := gI c k) (by omega) (by omega), w_in (by omega) (by omega), tmod_nn (by omega)]
      exact Int.emod_nonneg _ (by omega)
    · simp only []
      rw [w_in (x := gI c k) (by omega) (by omega), w_in (by omega) (by omega), tmod_nn (by omega)]
      exact Int.emod_lt_of_pos _ (by omega)
    · simp only []; have := hS.len; rw [w_in (by omega) (by omega)]; omega
    · simp only []; have := hS.len; rw [w_in (by omega) (by omega)]; omega
  · rw [if_neg hlt, some_bind, chk_bind (by omega)]
    obtain ⟨b1, b2⟩ := band_le (shr .u64 (IntKind.u64.wrap ((IntKind.u64.wrap (h * 6364136223846793005)) + 1442695040888963407)) 33)
    refine ⟨_, _, _, rfl, ?_, ?_, hS⟩
    · simp only []
      rw [tmod_nn (by omega)]
      exact Int.emod_nonneg _ (by omega)
    · simp only []
      rw [tmod_nn (by omega)]
      exact Int.emod_lt_of_pos _ (by omega)
theorem pick_eq {c : List Int} {a h : Int} {l : List Int} (hS : Src c a) (hl : 1 ≤ l.length) (hl2 : l.length ≤ 100) :
    ∃ x a' h', s_l01Pick c a h l = some (x, (c, a', h')) ∧ x ∈ l ∧ Src c a' := by
  unfold s_l01Pick
  obtain ⟨r, a', h', e, r1, r2, r3⟩ := next_eq (h := h) (n := (l.length : Int)) hS (by omega) (by omega)
  rw [e, some_bind]
  obtain ⟨k, rfl⟩ := Int.eq_ofNat_of_zero_le r1
  have hk : k < l.length := by omega
  rw [idxk hk, some_bind]
  exact ⟨_, _, _, rfl, List.getElem_mem hk, r3⟩
theorem vec_one {p r : Int} (h1 : 0 ≤ r) (h2 : r < p) : Vec p 1 [r] := ⟨rfl, fun k hk => by
  have : k = 0 := by omega
  subst this
  exact ⟨h1, h2⟩⟩
/-- A table that is not large. -/
def tabS (m : List (List Int)) : Prop := m.length ≤ 17 ∧ ∀ x ∈ m, x.length ≤ 18
theorem tabS.sz {m : List (List Int)} (h : tabS m) : szM m := ⟨by have := h.1; omega, fun r hr => by have := h.2 r hr; omega⟩
theorem tabS.of {p : Int} {r k : Nat} {m : List (List Int)} (h : Mat p r k m) (hr : r ≤ 17) (hk : k ≤ 18) : tabS m := by
  refine ⟨by rw [h.1]; exact hr, fun x hx => ?_⟩
  obtain ⟨i, hi, rfl⟩ := List.getElem_of_mem hx
  have e := (h.2 i (by have := h.1; omega)).1
  rw [← gR_get hi] at e
  omega
theorem tabS.set {m : List (List Int)} (h : tabS m) (i : Nat) {x : List Int} (hx : x.length ≤ 18) : tabS (m.set i x) := by
  refine ⟨by rw [List.length_set]; exact h.1, fun y hy => ?_⟩
  rcases List.mem_or_eq_of_mem_set hy with h1 | h1
  · exact h.2 y h1
  · rw [h1]; exact hx
theorem from_eq {c : List Int} (hc : c.length ≤ 4096) (hb : ∀ x ∈ c, 0 ≤ x ∧ x ≤ 255) : ∃ h', s_l01From c = some (c, 0, h') ∧ Src c 0 := by
  unfold s_l01From
  obtain ⟨b, h1, h', rfl⟩ := loop_inv (step := s_l01From_L0 c) (fun s => ∃ (k : Nat) (h' : Int), s = (c, 0, h', (k : Int)) ∧ k ≤ c.length) (fun s => c.length - s.2.2.2.toNat)
    (fun b => ∃ h' : Int, b = (c, (0 : Int), h')) (s := (c, 0, IntKind.u64.wrap (4409 + (IntKind.u64.wrap ((c.length : Int)))), 0)) ⟨0, _, rfl, by omega⟩ (by rw [BIG_val]; simp only []; omega) (by
      rintro s ⟨k, h', rfl, hk⟩
      unfold s_l01From_L0
      by_cases hkn : k < c.length
      · refine .inl ?_
        simp only [lt_cast hkn, if_true, some_bind, ilt_true (show (k : Int) < 4096 by omega), idxI hkn]
        rw [w_in (by omega) (by omega)]
        exact ⟨_, rfl, ⟨k + 1, _, rfl, by omega⟩, by simp only []; omega⟩
      · have : k = c.length := by omega
        subst this
        refine .inr ⟨(c, 0, h'), ?_, h', rfl⟩
        simp)
  rw [h1, some_bind]
  exact ⟨h', rfl, hc, hb, by omega, by omega⟩
end Go.Vam

/- Plain laws: reflections keep the products of vectors. -/
namespace Go.Vam
open Go Go.RowKit
set_option linter.unusedSimpArgs false
set_option linter.unusedVariables false
set_option linter.unusedSectionVars false

/-- The product of vectors, as an integer. -/
def pairS (n : Nat) (w x y : List Int) : Int := sumN (fun k => gI x k * gI y k * gI w k) n
theorem pairp_S (p : Int) (n : Nat) (w x y : List Int) : pairp p n w x y = pairS n w x y % p := rfl
theorem pairS_comm (n : Nat) (w x y : List Int) : pairS n w x y = pairS n w y x := by
  unfold pairS
  exact sumN_congr fun k _ => by rw [Int.mul_comm (gI x k)]
theorem pairS_lin {p : Int} {n : Nat} {w x x' u y : List Int} {c : Int} (h : ∀ k, k < n → gI x' k % p = (gI x k + c * gI u k) % p) : pairS n w x' y % p = (pairS n w x y + c * pairS n w u y) % p := by
  unfold pairS
  rw [← sumN_lin]
  refine sumN_mod fun k hk => ?_
  rw [Int.mul_assoc, mul_mod_l (h k hk)]
  congr 1
  rw [Int.add_mul, Int.mul_assoc, Int.mul_assoc, Int.mul_assoc]
/-- What the reflection in u makes of v. -/
def reflv (p : Int) (n : Nat) (w u v : List Int) : List Int := plusv p n v u (-2 * pairS n w u v * invp p (pairp p n w u u))
theorem reflv_vec {p : Int} (hp : 0 < p) (n : Nat) (w u v : List Int) : Vec p n (reflv p n w u v) := plusv_vec hp ..
theorem reflv_at {p : Int} {n k : Nat} {w u v : List Int} (hk : k < n) : gI (reflv p n w u v) k = (gI v k + (-2 * pairS n w u v * invp p (pairp p n w u u)) * gI u k) % p := plusv_at hk
theorem inv_dvd {p a : Int} (hP : isP p = true) (h0 : a % p ≠ 0) : p ∣ invp p (a % p) * a - 1 := by
  have hp := isP_le hP
  have hn := mod_num (a := a) (p := p) (by omega)
  obtain ⟨_, _, i3⟩ := inv_facts (a := a % p) hP (by omega) hn.2
  rw [← mod_dvd, Int.emod_eq_of_lt (show (0 : Int) ≤ 1 by omega) (by omega), Int.mul_comm, ← i3]
  exact (mul_mod_l (emm a p)).symm
theorem reflv_pair {p : Int} {n : Nat} {w u : List Int} (hP : isP p = true) (hu : pairp p n w u u ≠ 0) (x y : List Int) :
    pairp p n w (reflv p n w u x) (reflv p n w u y) = pairp p n w x y := by
  rw [pairp_S, pairp_S]
  have ht := inv_dvd hP (a := pairS n w u u) hu
  rw [← pairp_S] at ht
  have hx : ∀ k, k < n → gI (reflv p n w u x) k % p = (gI x k + (-2 * pairS n w u x * invp p (pairp p n w u u)) * gI u k) % p := fun k hk => by rw [reflv_at hk, emm]
  have hy : ∀ k, k < n → gI (reflv p n w u y) k % p = (gI y k + (-2 * pairS n w u y * invp p (pairp p n w u u)) * gI u k) % p := fun k hk => by rw [reflv_at hk, emm]
  have h1 := mod_dvd.1 (pairS_lin (w := w) (y := reflv p n w u y) hx)
  have h2 := mod_dvd.1 (pairS_lin (w := w) (y := x) hy)
  have h3 := mod_dvd.1 (pairS_lin (w := w) (y := u) hy)
  rw [pairS_comm n w x (reflv p n w u y), pairS_comm n w u (reflv p n w u y)] at h1
  rw [pairS_comm n w y x, pairS_comm n w u x] at *
  rw [pairS_comm n w y u] at h3
  generalize hX : pairS n w x u = X at *
  generalize hY : pairS n w u y = Y at *
  generalize invp p (pairp p n w u u) = t at *
  generalize pairS n w u u = Q at *
  generalize pairS n w x y = Z at *
  generalize pairS n w (reflv p n w u x) (reflv p n w u y) = A at *
  generalize pairS n w (reflv p n w u y) x = B at *
  generalize pairS n w (reflv p n w u y) u = C at *
  rw [mod_dvd]
  obtain ⟨k1, e1⟩ := h1
  obtain ⟨k2, e2⟩ := h2
  obtain ⟨k3, e3⟩ := h3
  obtain ⟨k4, e4⟩ := ht
  exact ⟨k1 + k2 + (-2 * X * t) * k3 + 4 * X * Y * t * k4, by grind⟩
/-- The reflection's table. -/
def reflm (p : Int) (n : Nat) (w u : List Int) : List (List Int) := turnm n n (vecN n fun k => reflv p n w u (axis n k))
theorem pairS_axis {n k : Nat} {w u : List Int} (hk : k < n) : pairS n w u (axis n k) = gI u k * gI w k := by
  unfold pairS
  rw [sumN_one hk (fun q hq hqk => by rw [gI_axis hk, if_neg hqk]; simp), gI_axis hk, if_pos rfl, Int.mul_one]
theorem reflm_at {p : Int} {n r k : Nat} {w u : List Int} (hr : r < n) (hk : k < n) : gI (gR (reflm p n w u) r) k = ((if r = k then 1 else 0) + (-2 * (gI u k * gI w k) * invp p (pairp p n w u u)) * gI u r) % p := by
  unfold reflm
  rw [turnm_at hk hr, gR_vecN _ hk, reflv_at hr, gI_axis hk, pairS_axis hk]
theorem refl_times {p : Int} {n i : Nat} {w u : List Int} {m : List (List Int)} (hp : 0 < p) (hi : i < n) :
    gR (turnm n n (timesm p n n n (reflm p n w u) m)) i = reflv p n w u (gR (turnm n n m) i) := by
  have hv := (reflv_vec hp n w u (gR (turnm n n m) i)).1
  rw [extI hv (f := gI (reflv p n w u (gR (turnm n n m) i))) fun k _ => rfl]
  refine extI (by unfold turnm; rw [gR_vecN _ hi, vecN_len]) fun r hr => ?_
  rw [turnm_at hr hi, reflv_at hr, turnm_at hr hi]
  unfold timesm
  rw [gR_vecN _ hr, gI_vecN _ hi]
  have e1 : sumN (fun j => gI (gR (reflm p n w u) r) j * gI (gR m j) i) n % p = sumN (fun j => (if r = j then gI (gR m j) i else 0) + (-2 * invp p (pairp p n w u u) * gI u r) * (gI u j * gI (gR m j) i * gI w j)) n % p := by
    refine sumN_mod fun j hj => ?_
    rw [reflm_at hr hj, mul_mod_l (emm _ _)]
    congr 1
    split <;> grind
  rw [e1, sumN_lin, sumN_one hr (fun q hq hqr => if_neg (fun e => hqr e.symm)), if_pos rfl]
  congr 2
  have e2 : sumN (fun k => gI u k * gI (gR m k) i * gI w k) n = pairS n w u (gR (turnm n n m) i) := by
    unfold pairS
    exact sumN_congr fun k hk => by rw [turnm_at hk hi]
  rw [e2]
  grind
/-- A table whose columns have the products of the basis. -/
def IsoT (p : Int) (n : Nat) (w : List Int) (m : List (List Int)) : Prop := ∀ i, i < n → ∀ j, j < n → pairp p n w (gR (turnm n n m) i) (gR (turnm n n m) j) = if i = j then gI w i else 0
theorem IsoT.refl {p : Int} {n : Nat} {w u : List Int} {m : List (List Int)} (hP : isP p = true) (h : IsoT p n w m) (hu : pairp p n w u u ≠ 0) : IsoT p n w (timesm p n n n (reflm p n w u) m) := by
  have hp := isP_le hP
  intro i hi j hj
  rw [refl_times (by omega) hi, refl_times (by omega) hj, reflv_pair hP hu]
  exact h i hi j hj
end Go.Vam

/- Plain laws: decompositions into reflections; HasSquareNorm. -/
namespace Go.Vam
open Go Go.RowKit
set_option linter.unusedSimpArgs false
set_option linter.unusedVariables false
set_option linter.unusedSectionVars false

section
variable {p : Int} {n : Nat} {w u : List Int} (hP : isP p = true) (hn0 : 0 < n) (hn : n ≤ 1000) (hwl : w.length = n) (hw : Vec p n w) (hu : Vec p n u) (hQ : pairp p n w u u ≠ 0)
include hP hn0 hn hwl hw hu hQ
end
section
variable {p : Int} {n : Nat} {w : List Int} (hP : isP p = true) (hn0 : 0 < n) (hn : n ≤ 1000) (hwl : w.length = n) (hw : Vec p n w) (hz : ∀ k, k < n → gI w k ≠ 0)
include hP hn0 hn hwl hw hz
end
end Go.Vam

/- Plain laws: systems of equations and spans. -/
namespace Go.Vam
open Go Go.RowKit
set_option linter.unusedSimpArgs false
set_option linter.unusedVariables false
set_option linter.unusedSectionVars false

theorem likeI_self {v : List Int} (h : v.length ≤ 1048576) : l_likeInts v v = some true := by
  unfold l_likeInts
  simp only [not_true_eq_false, if_false]
  obtain ⟨b, h1, h2⟩ := any_loop (l_likeInts_L0 v v) v.length (fun _ => false) (fun _ => true) (by rw [BIG_val]; omega)
    (fun k hk _ => by
      unfold l_likeInts_L0
      simp only [lt_cast hk, if_true, idxI hk, some_bind, not_true_eq_false, if_false]
      rw [w_in (by omega) (by omega)]; rfl) (fun k hk hf => by cases hf) (by
      unfold l_likeInts_L0
      simp only [lt_cast_self, if_false])
  rcases h2 with ⟨rfl, _⟩ | ⟨k, _, _, hf, _⟩
  · rw [h1, some_bind]
  · cases hf
end Go.Vam

/- Plain law: FnKernels. -/
namespace Go.Vam
open Go Go.RowKit
set_option linter.unusedSimpArgs false
set_option linter.unusedVariables false
set_option linter.unusedSectionVars false

theorem likeR_self {m : List (List Int)} (h : szM m) : l_likeRows5 m m = some true := by
  unfold l_likeRows5
  simp only [not_true_eq_false, if_false]
  have h1 := h.1
  obtain ⟨b, h1, h2⟩ := any_loop (l_likeRows5_L0 m m) m.length (fun _ => false) (fun _ => true) (by rw [BIG_val]; omega)
    (fun k hk _ => by
      unfold l_likeRows5_L0
      have hr : (gR m k).length ≤ 1048576 := h.2 _ (by rw [← gR_get hk]; exact List.getElem_mem hk)
      simp only [lt_cast hk, if_true, idxR hk, some_bind, likeI_self hr, Bool.true_eq_false, if_false]
      rw [w_in (by omega) (by omega)]; rfl) (fun k hk hf => by cases hf) (by
      unfold l_likeRows5_L0
      simp only [lt_cast_self, if_false])
  rcases h2 with ⟨rfl, _⟩ | ⟨k, _, _, hf, _⟩
  · rw [h1, some_bind]
  · cases hf
end Go.Vam

/- Plain laws: determinants of numbers, by expansion; they are multiplied with tables. -/
namespace Go.Vam
open Go Go.RowKit
set_option linter.unusedSimpArgs false
set_option linter.unusedVariables false
set_option linter.unusedSectionVars false

def skipN (i a : Nat) : Nat := if a < i then a else a + 1
def sgnN (i : Nat) : Int := if i % 2 = 0 then 1 else -1
/-- The determinant of the first n rows and columns, expanded along column 0. -/
def detN : Nat → (Nat → Nat → Int) → Int
  | 0, _ => 1
  | n + 1, M => sumN (fun i => sgnN i * M i 0 * detN n (fun a b => M (skipN i a) (b + 1))) (n + 1)
theorem sgnN_succ (i : Nat) : sgnN (i + 1) = - sgnN i := by
  unfold sgnN
  rcases Nat.mod_two_eq_zero_or_one i with h | h
  · rw [if_neg (by omega), if_pos h]
  · rw [if_pos (by omega), if_neg (by omega)]; rfl
theorem skipN_lt {n i a : Nat} (ha : a < n) : skipN i a < n + 1 := by unfold skipN; split <;> omega
theorem detN_congr : ∀ (n : Nat) {M M' : Nat → Nat → Int}, (∀ i, i < n → ∀ j, j < n → M i j = M' i j) → detN n M = detN n M'
  | 0, _, _, _ => rfl
  | n + 1, M, M', h => by
    unfold detN
    refine sumN_congr fun i hi => ?_
    rw [h i hi 0 (by omega), detN_congr n fun a ha b hb => h _ (skipN_lt ha) (b + 1) (by omega)]
theorem dvd_mul_sub {p a b x y : Int} (h1 : p ∣ a - b) (h2 : p ∣ x - y) : p ∣ a * x - b * y := by
  have e : a * x - b * y = (a - b) * x + b * (x - y) := by rw [Int.sub_mul, Int.mul_sub]; omega
  rw [e]
  exact Int.dvd_add (Int.dvd_mul_of_dvd_left h1) (Int.dvd_mul_of_dvd_right h2)
theorem sumN_cong_dvd {p : Int} {f g : Nat → Int} {n : Nat} (h : ∀ k, k < n → p ∣ f k - g k) : p ∣ sumN f n - sumN g n := by
  rw [← sumN_sub]; exact sumN_dvd h
theorem detN_mod {p : Int} : ∀ (n : Nat) {M M' : Nat → Nat → Int}, (∀ i, i < n → ∀ j, j < n → p ∣ M i j - M' i j) → p ∣ detN n M - detN n M'
  | 0, _, _, _ => by unfold detN; simp
  | n + 1, M, M', h => by
    unfold detN
    refine sumN_cong_dvd fun i hi => ?_
    refine dvd_mul_sub (dvd_mul_sub (by simp) (h i hi 0 (by omega))) (detN_mod n fun a ha b hb => h _ (skipN_lt ha) (b + 1) (by omega))

/-- Row i replaced. -/
def rowU (M : Nat → Nat → Int) (i : Nat) (r : Nat → Int) : Nat → Nat → Int := fun a b => if a = i then r b else M a b
theorem rowU_self (M : Nat → Nat → Int) (i : Nat) : rowU M i (M i) = M := by
  funext a b; unfold rowU; split
  · rename_i h; rw [h]
  · rfl
/-- Where row i stands when row k is left out. -/
def backN (k i : Nat) : Nat := if i < k then i else i - 1
theorem skipN_eq {k i a : Nat} (h : i ≠ k) : skipN k a = i ↔ a = backN k i := by
  unfold skipN backN
  constructor
  · intro e; split at e <;> split <;> omega
  · intro e; split at e <;> split <;> omega
theorem backN_lt {n k i : Nat} (hk : k < n + 1) (hi : i < n + 1) (h : i ≠ k) : backN k i < n := by unfold backN; split <;> omega
theorem minor_rowU {M : Nat → Nat → Int} {i k : Nat} {r : Nat → Int} (h : i ≠ k) : (fun a b => rowU M i r (skipN k a) (b + 1)) = rowU (fun a b => M (skipN k a) (b + 1)) (backN k i) (fun b => r (b + 1)) := by
  funext a b
  unfold rowU
  by_cases e : skipN k a = i
  · rw [if_pos e, if_pos ((skipN_eq h).1 e)]
  · rw [if_neg e, if_neg fun e' => e ((skipN_eq h).2 e')]
theorem minor_rowU_self {M : Nat → Nat → Int} {i : Nat} {r : Nat → Int} : (fun a b => rowU M i r (skipN i a) (b + 1)) = (fun a b => M (skipN i a) (b + 1)) := by
  funext a b
  unfold rowU
  rw [if_neg (by unfold skipN; split <;> omega)]
theorem detN_lin : ∀ (n : Nat) (M : Nat → Nat → Int) (i : Nat) (r s : Nat → Int) (c : Int), i < n →
    detN n (rowU M i (fun b => r b + c * s b)) = detN n (rowU M i r) + c * detN n (rowU M i s)
  | 0, _, _, _, _, _, h => by omega
  | n + 1, M, i, r, s, c, h => by
    unfold detN
    rw [← sumN_lin]
    refine sumN_congr fun k hk => ?_
    by_cases e : i = k
    · subst e
      rw [minor_rowU_self, minor_rowU_self, minor_rowU_self]
      simp only [rowU, if_true]
      grind
    · rw [minor_rowU e, minor_rowU e, minor_rowU e, detN_lin n _ _ (fun b => r (b + 1)) (fun b => s (b + 1)) c (backN_lt hk h e)]
      simp only [rowU, if_neg fun e' : k = i => e e'.symm]
      grind
theorem detN_adj : ∀ (n : Nat) (M : Nat → Nat → Int) (i : Nat), i + 1 < n → (∀ b, M i b = M (i + 1) b) → detN n M = 0
  | 0, _, _, h, _ => by omega
  | n + 1, M, i, h, he => by
    unfold detN
    rw [sumN_two (i := i) (k := i + 1) (by omega) h (by omega) fun k hk h1 h2 => ?_]
    · have e : (fun a b => M (skipN (i + 1) a) (b + 1)) = (fun a b => M (skipN i a) (b + 1)) := by
        funext a b
        by_cases ha : a = i
        · subst ha
          have e1 : skipN (a + 1) a = a := by unfold skipN; rw [if_pos (by omega)]
          have e2 : skipN a a = a + 1 := by unfold skipN; rw [if_neg (by omega)]
          rw [e1, e2]; exact he _
        · have : skipN (i + 1) a = skipN i a := by unfold skipN; split <;> split <;> omega
          rw [this]
      rw [e, sgnN_succ, he 0]
      grind
    · have : detN n (fun a b => M (skipN k a) (b + 1)) = 0 := by
        by_cases hki : k < i
        · refine detN_adj n _ (i - 1) (by omega) fun b => ?_
          have e1 : skipN k (i - 1) = i := by unfold skipN; rw [if_neg (by omega)]; omega
          have e2 : skipN k (i - 1 + 1) = i + 1 := by unfold skipN; rw [if_neg (by omega)]; omega
          simp only [e1, e2]; exact he _
        · refine detN_adj n _ i (by omega) fun b => ?_
          have e1 : skipN k i = i := by unfold skipN; rw [if_pos (by omega)]
          have e2 : skipN k (i + 1) = i + 1 := by unfold skipN; rw [if_pos (by omega)]
          simp only [e1, e2]; exact he _
      rw [this, Int.mul_zero]
theorem detN_swap_of {n i k : Nat} (hi : i < n) (hk : k < n) (hne : i ≠ k) (alt : ∀ M : Nat → Nat → Int, (∀ b, M i b = M k b) → detN n M = 0) (M : Nat → Nat → Int) :
    detN n (rowU (rowU M i (M k)) k (M i)) = - detN n M := by
  have key : ∀ r s : Nat → Int, detN n (rowU (rowU M i r) k s) + detN n (rowU (rowU M i s) k r) = 0 := by
    intro r s
    have h0 := alt (rowU (rowU M i (fun b => r b + 1 * s b)) k (fun b => r b + 1 * s b)) fun b => by
      simp only [rowU, if_true, if_neg hne]
    have h1 := alt (rowU (rowU M i r) k r) fun b => by simp only [rowU, if_true, if_neg hne]
    have h2 := alt (rowU (rowU M i s) k s) fun b => by simp only [rowU, if_true, if_neg hne]
    have cm : ∀ u v : Nat → Int, rowU (rowU M i u) k v = rowU (rowU M k v) i u := by
      intro u v; funext a b; unfold rowU
      by_cases a1 : a = i
      · subst a1; rw [if_neg hne, if_pos rfl, if_pos rfl]
      · simp only [if_neg a1]
    rw [detN_lin n (rowU M i (fun b => r b + 1 * s b)) k r s 1 hk, cm, cm, detN_lin n (rowU M k r) i r s 1 hi, detN_lin n (rowU M k s) i r s 1 hi] at h0
    rw [cm] at h1 h2
    rw [cm, cm]
    omega
  have h := key (M k) (M i)
  have e : rowU (rowU M i (M i)) k (M k) = M := by rw [rowU_self, rowU_self]
  rw [e] at h
  omega
theorem detN_alt {n : Nat} : ∀ (t i : Nat) (M : Nat → Nat → Int), i + 1 + t < n → (∀ b, M i b = M (i + 1 + t) b) → detN n M = 0
  | 0, i, M, h, he => detN_adj n M i h he
  | t + 1, i, M, h, he => by
    have hs := detN_swap_of (n := n) (i := i + 1 + t) (k := i + 1 + (t + 1)) (by omega) h (by omega) (fun M hM => detN_adj n M (i + 1 + t) (by omega) hM) M
    have h0 := detN_alt (n := n) t i (rowU (rowU M (i + 1 + t) (M (i + 1 + (t + 1)))) (i + 1 + (t + 1)) (M (i + 1 + t))) (by omega) fun b => by
      simp only [rowU, if_true, if_neg (show i ≠ i + 1 + (t + 1) by omega), if_neg (show i ≠ i + 1 + t by omega), if_neg (show i + 1 + t ≠ i + 1 + (t + 1) by omega)]
      exact he b
    omega
theorem detN_same {n i k : Nat} (hi : i < n) (hk : k < n) (hne : i ≠ k) (M : Nat → Nat → Int) (he : ∀ b, M i b = M k b) : detN n M = 0 := by
  rcases Nat.lt_or_gt_of_ne hne with h | h
  · exact detN_alt (k - i - 1) i M (by omega) fun b => by rw [he b]; congr 1; omega
  · exact detN_alt (i - k - 1) k M (by omega) fun b => by rw [← he b]; congr 1; omega
/-- Multiples of row k added to all others. -/
theorem detN_clear {n k : Nat} (hk : k < n) (M : Nat → Nat → Int) (c : Nat → Int) : detN n (fun a b => if a = k then M k b else M a b + c a * M k b) = detN n M := by
  have key : ∀ m, m ≤ n → detN n (fun a b => if a = k then M k b else if a < m then M a b + c a * M k b else M a b) = detN n M := by
    intro m
    induction m with
    | zero =>
      intro _
      refine detN_congr n fun a ha b hb => ?_
      by_cases e : a = k
      · rw [if_pos e, e]
      · rw [if_neg e, if_neg (by omega)]
    | succ m ih =>
      intro hm
      rw [← ih (by omega)]
      by_cases e : m = k
      · refine detN_congr n fun a ha b hb => ?_
        by_cases e2 : a = k
        · rw [if_pos e2, if_pos e2]
        · rw [if_neg e2, if_neg e2]
          by_cases e3 : a < m
          · rw [if_pos e3, if_pos (by omega)]
          · rw [if_neg e3, if_neg (by omega)]
      · generalize hH : (fun a b => if a = k then M k b else if a < m then M a b + c a * M k b else M a b) = H
        have h1 := detN_lin n H m (fun b => H m b) (fun b => H k b) (c m) (by omega)
        have h2 : detN n (rowU H m (fun b => H k b)) = 0 := detN_same (i := m) (k := k) (by omega) hk e _ fun b => by
          simp only [rowU, if_true, if_neg fun e' : k = m => e e'.symm]
        have h3 : rowU H m (fun b => H m b) = H := rowU_self H m
        rw [h2, h3, Int.mul_zero, Int.add_zero] at h1
        rw [← h1]
        refine detN_congr n fun a ha b hb => ?_
        unfold rowU
        rw [← hH]
        simp only [if_true]
        by_cases e2 : a = k
        · rw [if_pos e2, if_neg (by omega)]; rw [if_pos e2]
        · rw [if_neg e2]
          by_cases e3 : a = m
          · subst e3
            rw [if_pos (by omega), if_pos rfl, if_neg e2, if_neg (by omega)]
          · rw [if_neg e3, if_neg e2]
            by_cases e4 : a < m
            · rw [if_pos e4, if_pos (by omega)]
            · rw [if_neg e4, if_neg (by omega)]
  rw [← key n (Nat.le_refl n)]
  refine detN_congr n fun a ha b hb => ?_
  by_cases e : a = k
  · rw [if_pos e, if_pos e]
  · rw [if_neg e, if_neg e, if_pos ha]

def mulN (n : Nat) (A B : Nat → Nat → Int) : Nat → Nat → Int := fun a b => sumN (fun j => A a j * B j b) n
def prodN (f : Nat → Int) : Nat → Int
  | 0 => 1
  | k + 1 => prodN f k * f k
/-- The steps of an elimination: what they do to a product's determinant. -/
def QN (p : Int) (n : Nat) (A A' : Nat → Nat → Int) (s : Int) : Prop := (s = 1 ∨ s = -1) ∧ ∀ B, p ∣ detN n (mulN n A' B) - s * detN n (mulN n A B)
theorem QN.refl (p : Int) (n : Nat) (A : Nat → Nat → Int) : QN p n A A 1 := ⟨.inl rfl, fun B => by simp⟩
theorem QN.clear {p : Int} {n k : Nat} {A M : Nat → Nat → Int} {s : Int} (hk : k < n) (h : QN p n A M s) (c : Nat → Int) : QN p n A (fun a b => if a = k then M k b else M a b + c a * M k b) s := by
  refine ⟨h.1, fun B => ?_⟩
  have e : detN n (mulN n (fun a b => if a = k then M k b else M a b + c a * M k b) B) = detN n (mulN n M B) := by
    rw [← detN_clear hk (mulN n M B) c]
    refine detN_congr n fun a ha b hb => ?_
    unfold mulN
    by_cases ea : a = k
    · subst ea
      simp only [if_true]
    · simp only [if_neg ea]
      rw [← sumN_lin]
      refine sumN_congr fun j hj => ?_
      grind
  rw [e]; exact h.2 B
end Go.Vam

/- Plain laws: the programs' determinant is the expansion's. -/
namespace Go.Vam
open Go Go.RowKit
set_option linter.unusedSimpArgs false
set_option linter.unusedVariables false
set_option linter.unusedSectionVars false

def asN (m : List (List Int)) : Nat → Nat → Int := fun a b => gI (gR m a) b
def detL (r : Nat) (m : List (List Int)) : Int := detN r (asN m)
theorem prodN_congr {f g : Nat → Int} : ∀ {n : Nat}, (∀ k, k < n → f k = g k) → prodN f n = prodN g n
  | 0, _ => rfl
  | n + 1, h => by simp only [prodN, prodN_congr (n := n) fun k hk => h k (by omega), h n (by omega)]
/-- What the elimination keeps. -/
def DetInv (p : Int) (r : Nat) (M0 M : List (List Int)) (d : Int) (k : Nat) : Prop :=
  ∃ s : Int, p ∣ detL r M0 - s * detL r M ∧ p ∣ d - s * prodN (fun j => gI (gR M j) j) k
theorem DetInv.refl (p : Int) (r : Nat) (M0 : List (List Int)) : DetInv p r M0 M0 1 0 := ⟨1, by simp, by simp [prodN]⟩
theorem DetInv.clear {p : Int} {r k : Nat} {M0 M y : List (List Int)} {R : List Int} {d : Int} (h : DetInv p r M0 M d k) (hk : k < r) (hMk : gR M k = R) (hy : ∀ j, j < r → gR y j = if k < j then clp p r k R (gR M j) else gR M j) :
    DetInv p r M0 y (d * gI R k % p) (k + 1) := by
  obtain ⟨s, h1, h2⟩ := h
  have e : p ∣ detL r y - detL r M := by
    unfold detL
    rw [← detN_clear hk (asN M) (fun a => if k < a then (p - gI (gR M a) k) * invp p (gI R k) % p else 0)]
    refine detN_mod r fun a ha b hb => ?_
    simp only [asN]
    rw [hy a ha]
    by_cases e1 : a = k
    · rw [if_neg (by omega), if_pos e1, e1]; simp
    · rw [if_neg e1]
      by_cases e2 : k < a
      · rw [if_pos e2, if_pos e2]
        unfold clp
        rw [plusv_at hb, hMk, ← mod_dvd, emm]
      · rw [if_neg e2, if_neg e2]; simp
  have e3 : prodN (fun j => gI (gR y j) j) (k + 1) = prodN (fun j => gI (gR M j) j) k * gI R k := by
    simp only [prodN]
    rw [hy k hk, if_neg (by omega), hMk, prodN_congr (g := fun j => gI (gR M j) j) fun j hj => by rw [hy j (by omega), if_neg (by omega)]]
  refine ⟨s, ?_, ?_⟩
  · have : detL r M0 - s * detL r y = (detL r M0 - s * detL r M) - s * (detL r y - detL r M) := by grind
    rw [this]
    exact Int.dvd_sub h1 (Int.dvd_mul_of_dvd_right e)
  · rw [e3]
    have h3 : p ∣ d * gI R k % p - d * gI R k := by rw [← mod_dvd, emm]
    refine dvd_trans_sub h3 ?_
    have : d * gI R k - s * (prodN (fun j => gI (gR M j) j) k * gI R k) = (d - s * prodN (fun j => gI (gR M j) j) k) * gI R k := by grind
    rw [this]
    exact Int.dvd_mul_of_dvd_left h2

section
variable {p : Int} {r : Nat} (hP : isP p = true) (hr : r ≤ 1048576)
include hP hr
end
end Go.Vam

/- Plain laws: products are associative; turned products; ranks and determinants of products. -/
namespace Go.Vam
open Go Go.RowKit
set_option linter.unusedSimpArgs false
set_option linter.unusedVariables false
set_option linter.unusedSectionVars false

theorem timesm_at {p : Int} {r n c i k : Nat} {a b : List (List Int)} (hi : i < r) (hk : k < c) : gI (gR (timesm p r n c a b) i) k = sumN (fun j => gI (gR a i) j * gI (gR b j) k) n % p := by
  unfold timesm
  rw [gR_vecN _ hi, gI_vecN _ hk]
end Go.Vam

/- Plain laws: powers, exponents are added. -/
namespace Go.Vam
open Go Go.RowKit
set_option linter.unusedSimpArgs false
set_option linter.unusedVariables false
set_option linter.unusedSectionVars false

theorem unitm_at {n i k : Nat} (hi : i < n) (hk : k < n) : gI (gR (unitm n) i) k = if k = i then 1 else 0 := by
  unfold unitm
  rw [gR_vecN _ hi, ← gI_get (by simpa using hk), List.getElem_set]
  by_cases e : i = k
  · rw [if_pos e, if_pos e.symm]
  · rw [if_neg e, if_neg fun h => e h.symm]; simp
end Go.Vam

/- Plain laws: norms of elements; ConjugationBy. -/
namespace Go.Vam
open Go Go.RowKit
set_option linter.unusedSimpArgs false
set_option linter.unusedVariables false
set_option linter.unusedSectionVars false

theorem sumN_split (f : Nat → Int) (a b : Nat) : sumN f (a + b) = sumN f a + sumN (fun k => f (a + k)) b := by
  induction b with
  | zero => simp [sumN]
  | succ b ih => rw [← Nat.add_assoc]; simp only [sumN]; rw [ih]; omega
section
variable {p : Int} {w x : List Int} (hP : isP p = true) (hl : w.length ≤ 4) (hw : Vec p w.length w) (hx : Vec p (2 ^ w.length) x)
include hP hl hw hx
end
section
variable {p : Int} {w a b : List Int} (hP : isP p = true) (hl : w.length ≤ 4) (hw : Vec p w.length w) (ha : Vec p (2 ^ w.length) a) (hb : Vec p (2 ^ w.length) b)
include hP hl hw ha hb
end
end Go.Vam

/- Plain law: FnMatrixProducts. -/
namespace Go.Vam
open Go Go.RowKit
set_option linter.unusedSimpArgs false
set_option linter.unusedVariables false
set_option linter.unusedSectionVars false

theorem below_is : g_p_laws_dice_below = s_l01Next := rfl
theorem below_eq {c : List Int} {a h n : Int} (hS : Src c a) (hn : 1 ≤ n) (hn2 : n ≤ 4611686018427387904) :
    ∃ r a' h', g_p_laws_dice_below c a h n = some (r, (c, a', h')) ∧ 0 ≤ r ∧ r < n ∧ Src c a' := by rw [below_is]; exact next_eq hS hn hn2
theorem roll_eq {c : List Int} (k : Int) (hc : c.length ≤ 4096) (hb : ∀ x ∈ c, 0 ≤ x ∧ x ≤ 255) : ∃ h', l_roll c k = some (c, 0, h') ∧ Src c 0 := by
  unfold l_roll
  obtain ⟨b, h1, h', rfl⟩ := loop_inv (step := l_roll_L0 c) (fun s => ∃ (k : Nat) (h' : Int), s = (c, 0, h', (k : Int)) ∧ k ≤ c.length) (fun s => c.length - s.2.2.2.toNat)
    (fun b => ∃ h' : Int, b = (c, (0 : Int), h')) (s := (c, 0, IntKind.u64.wrap ((IntKind.u64.wrap (k * 7681)) + (IntKind.u64.wrap ((c.length : Int)))), 0)) ⟨0, _, rfl, by omega⟩ (by rw [BIG_val]; simp only []; omega) (by
      rintro s ⟨k, h', rfl, hk⟩
      unfold l_roll_L0
      by_cases hkn : k < c.length
      · refine .inl ?_
        simp only [lt_cast hkn, if_true, some_bind, idxI hkn]
        rw [w_in (by omega) (by omega)]
        exact ⟨_, rfl, ⟨k + 1, _, rfl, by omega⟩, by simp only []; omega⟩
      · have : k = c.length := by omega
        subst this
        refine .inr ⟨(c, 0, h'), ?_, h', rfl⟩
        simp)
  rw [h1, some_bind]
  exact ⟨h', rfl, hc, hb, by omega, by omega⟩
theorem isMat_of {p : Int} {r c : Nat} {m : List (List Int)} (hP : isP p = true) (hm : Mat p r c m) (hr0 : 1 ≤ r) (hr : r ≤ 16) (hc0 : 1 ≤ c) (hc : c ≤ 16) : isMat p m = true ∧ m.length = r ∧ wid m = c := by
  have e1 := hm.1
  have e2 : wid m = c := (hm.row (i := 0) (by omega)).1
  refine ⟨isMat_iff.2 ⟨hP, by omega, by omega, by omega, by omega, by rw [e1, e2]; exact hm⟩, e1, e2⟩
section
variable {p : Int} {r n c : Nat} {a b : List (List Int)} (hP : isP p = true) (ha : Mat p r n a) (hr0 : 1 ≤ r) (hr : r ≤ 16) (hn0 : 1 ≤ n) (hn : n ≤ 16)
include hP ha hr0 hr hn0 hn
theorem mul_ok (hb : Mat p n c b) (hc0 : 1 ≤ c) (hc : c ≤ 16) : i_MultiplyMatrices p a b = some (timesm p r n c a b, 0) := by
  obtain ⟨x1, x2, x3⟩ := isMat_of hP ha hr0 hr hn0 hn
  obtain ⟨y1, y2, y3⟩ := isMat_of hP hb hn0 hn hc0 hc
  rw [i_MultiplyMatrices_eq (ha.sz (by omega) (by omega)) (hb.sz (by omega) (by omega))]
  unfold muV muC
  simp only [x1, y1, Bool.and_self, if_true, x2, x3, y2, y3]
end
end Go.Vam

/- Plain laws: inverses of tables. -/
namespace Go.Vam
open Go Go.RowKit
set_option linter.unusedSimpArgs false
set_option linter.unusedVariables false
set_option linter.unusedSectionVars false

/-- The table with the unit behind it. -/
def widem (n : Nat) (a : List (List Int)) : List (List Int) := vecN n fun i => gR a i ++ axis n i
theorem axis_at {n k q : Nat} (hk : k < n) (hq : q < n) : gI (axis n k) q = if q = k then 1 else 0 := by
  rw [← gR_unitm hk, unitm_at hk hq]
section
variable {p : Int} {n : Nat} {a : List (List Int)} (hp : 1 < p) (hn : n ≤ 1000) (ha : Mat p n n a)
include hp hn ha
end
section
variable {p : Int} {n : Nat} {a B : List (List Int)} {ld : Nat → Nat} (hP : isP p = true) (hn0 : 1 ≤ n) (hn : n ≤ 1000) (ha : Mat p n n a) (hB : Ech p (n + n) B ld) (hk : ∀ u, Kr p (n + n) B u ↔ KerP p n (n + n) (widem n a) u)
include hP hn0 hn ha hB hk
end

section
variable {p : Int} {n : Nat} {a : List (List Int)} (hP : isP p = true) (hn0 : 1 ≤ n) (hn : n ≤ 16) (ha : Mat p n n a)
include hP hn0 hn ha
end
end Go.Vam

/- Plain laws: the coordinates of a product; pure elements of few steps anticommute up to their pairing. -/
namespace Go.Vam
open Go Go.RowKit
set_option linter.unusedSimpArgs false
set_option linter.unusedVariables false
set_option linter.unusedSectionVars false

/-- Sums over all places are sums over all places moved. -/
theorem sum_xor (f : Nat → Int) : ∀ n, n ≤ 4 → ∀ m, m < 2 ^ n → ∀ s, sumN (fun i => f (s + (i ^^^ m))) (2 ^ n) = sumN (fun i => f (s + i)) (2 ^ n)
  | 0, _, m, hm, s => by
    have : m = 0 := by simpa using hm
    subst this; simp [sumN]
  | n + 1, hn, m, hm, s => by
    have hpow : 2 ^ (n + 1) = 2 ^ n + 2 ^ n := by rw [Nat.pow_succ]; omega
    have hX := xor_hi n (by omega)
    have ih := sum_xor f n (by omega)
    rw [hpow] at hm ⊢
    rw [sumN_split, sumN_split]
    rcases Nat.lt_or_ge m (2 ^ n) with h | h
    · congr 1
      · exact ih m h s
      · have e : sumN (fun k => f (s + ((2 ^ n + k) ^^^ m))) (2 ^ n) = sumN (fun k => f (s + 2 ^ n + (k ^^^ m))) (2 ^ n) := sumN_congr fun k hk => by rw [(hX k hk m h).2.1, Nat.add_assoc]
        rw [e, ih m h (s + 2 ^ n)]
        exact sumN_congr fun k hk => by rw [Nat.add_assoc]
    · obtain ⟨m', rfl⟩ := Nat.exists_eq_add_of_le h
      have hm' : m' < 2 ^ n := by omega
      have e1 : sumN (fun k => f (s + (k ^^^ (2 ^ n + m')))) (2 ^ n) = sumN (fun k => f (s + 2 ^ n + (k ^^^ m'))) (2 ^ n) := sumN_congr fun k hk => by rw [(hX k hk m' hm').1, Nat.add_assoc]
      have e2 : sumN (fun k => f (s + ((2 ^ n + k) ^^^ (2 ^ n + m')))) (2 ^ n) = sumN (fun k => f (s + (k ^^^ m'))) (2 ^ n) := sumN_congr fun k hk => by rw [(hX k hk m' hm').2.2]
      rw [e1, e2, ih m' hm' (s + 2 ^ n), ih m' hm' s, Int.add_comm]
      congr 1
      exact sumN_congr fun k hk => by rw [Nat.add_assoc]
theorem sum_xor0 (f : Nat → Int) {n m : Nat} (hn : n ≤ 4) (hm : m < 2 ^ n) : sumN (fun i => f (i ^^^ m)) (2 ^ n) = sumN f (2 ^ n) := by
  have := sum_xor f n hn m hm 0
  simpa only [Nat.zero_add] using this
theorem xor_back (i m : Nat) : (i ^^^ m) ^^^ m = i := by rw [Nat.xor_assoc, Nat.xor_self, Nat.xor_zero]

/-- The coordinates of a product. -/
theorem mulr_gen {p : Int} : ∀ (n : Nat), n ≤ 4 → ∀ (w x y : List Int) (m : Nat), m < 2 ^ n → gI (mulr p n w x y) m % p = sumN (fun i => gI x i * gI y (i ^^^ m) * axS n w i (i ^^^ m)) (2 ^ n) % p
  | 0, _, w, x, y, m, hm => by
    have : m = 0 := by simpa using hm
    subst this
    unfold mulr
    show gI x 0 * gI y 0 % p % p = _
    rw [emm]
    simp [sumN, axS]
  | n + 1, hn, w, x, y, m, hm => by
    have hpow : 2 ^ (n + 1) = 2 ^ n + 2 ^ n := by rw [Nat.pow_succ]; omega
    have hX := xor_hi n (by omega)
    have hlt : ∀ a b, a < 2 ^ n → b < 2 ^ n → a ^^^ b < 2 ^ n := fun a b ha hb => xor_lt ha hb
    have hre : ∀ (f : Nat → Int) (m : Nat), m < 2 ^ n → sumN (fun i => f (i ^^^ m)) (2 ^ n) = sumN f (2 ^ n) := fun f m h => sum_xor0 f (by omega) h
    have ih := mulr_gen (p := p) n (by omega) (w.take n)
    unfold mulr
    rw [hpow] at hm
    rw [hpow, sumN_split]
    generalize hd : 2 ^ n = d at hm hX hlt hre ih ⊢
    have hl : ∀ u v k, (plusv p d u v k).length = d := fun u v k => by unfold plusv; rw [vecN_len]
    rcases Nat.lt_or_ge m d with h | h
    · rw [gI_append, if_pos (by rw [hl]; exact h), plusv_at h, emm, Int.add_emod, ih _ _ m h, Int.mul_emod, ih _ _ m h, ← Int.mul_emod]
      have e1 : sumN (fun i => gI (x.take d) i * gI (y.take d) (i ^^^ m) * axS n (w.take n) i (i ^^^ m)) d = sumN (fun i => gI x i * gI y (i ^^^ m) * axS (n + 1) w i (i ^^^ m)) d := by
        refine sumN_congr fun i hi => ?_
        have hx := hlt i m hi h
        rw [gI_take hi, gI_take hx]
        conv => rhs; unfold axS
        rw [hd, if_pos hi, if_pos hx]
      have e2 : (gI w n * sumN (fun i => gI (starv p d (y.drop d)) i * gI (x.drop d) (i ^^^ m) * axS n (w.take n) i (i ^^^ m)) d) % p = sumN (fun i => gI x (d + i) * gI y ((d + i) ^^^ m) * axS (n + 1) w (d + i) ((d + i) ^^^ m)) d % p := by
        rw [← hre (fun i => gI (starv p d (y.drop d)) i * gI (x.drop d) (i ^^^ m) * axS n (w.take n) i (i ^^^ m)) m h, ← sumN_mulL]
        refine sumN_mod fun i hi => ?_
        have hx := hlt i m hi h
        have hb := xor_back i m
        conv => rhs; unfold axS
        rw [hd, (hX i hi m h).2.1, if_neg (by omega), if_neg (by omega), Nat.add_sub_cancel_left, Nat.add_sub_cancel_left, hb, gI_drop]
        have hs := starv_at (p := p) (a := y.drop d) hx
        rw [gI_drop] at hs
        have a1 : gI w n * (gI (starv p d (y.drop d)) (i ^^^ m) * gI x (d + i) * axS n (w.take n) (i ^^^ m) i) = gI (starv p d (y.drop d)) (i ^^^ m) * (gI w n * gI x (d + i) * axS n (w.take n) (i ^^^ m) i) := by grind
        rw [a1, mul_mod_l hs]
        congr 1
        grind
      rw [e2, e1, ← Int.add_emod]
    · obtain ⟨m', rfl⟩ := Nat.exists_eq_add_of_le h
      have hm' : m' < d := by omega
      rw [gI_append, if_neg (by rw [hl]; omega), hl, Nat.add_sub_cancel_left, plusv_at hm', emm, Int.add_emod, ih _ _ m' hm', Int.mul_emod, ih _ _ m' hm', ← Int.mul_emod, Int.one_mul]
      have e1 : sumN (fun i => gI (y.drop d) i * gI (x.take d) (i ^^^ m') * axS n (w.take n) i (i ^^^ m')) d = sumN (fun i => gI x i * gI y (i ^^^ (d + m')) * axS (n + 1) w i (i ^^^ (d + m'))) d := by
        rw [← hre (fun i => gI (y.drop d) i * gI (x.take d) (i ^^^ m') * axS n (w.take n) i (i ^^^ m')) m' hm']
        refine sumN_congr fun i hi => ?_
        have hx := hlt i m' hi hm'
        have hb := xor_back i m'
        conv => rhs; unfold axS
        rw [hd, (hX i hi m' hm').1, if_pos hi, if_neg (by omega), Nat.add_sub_cancel_left, hb, gI_drop, gI_take hi]
        grind
      have e2 : sumN (fun i => gI (x.drop d) i * gI (starv p d (y.take d)) (i ^^^ m') * axS n (w.take n) i (i ^^^ m')) d % p = sumN (fun i => gI x (d + i) * gI y ((d + i) ^^^ (d + m')) * axS (n + 1) w (d + i) ((d + i) ^^^ (d + m'))) d % p := by
        refine sumN_mod fun i hi => ?_
        have hx := hlt i m' hi hm'
        conv => rhs; unfold axS
        rw [hd, (hX i hi m' hm').2.2, if_neg (by omega), if_pos hx, Nat.add_sub_cancel_left, gI_drop]
        have hs := starv_at (p := p) (a := y.take d) hx
        rw [gI_take hx] at hs
        have a1 : gI x (d + i) * gI (starv p d (y.take d)) (i ^^^ m') * axS n (w.take n) i (i ^^^ m') = gI (starv p d (y.take d)) (i ^^^ m') * (gI x (d + i) * axS n (w.take n) i (i ^^^ m')) := by grind
        rw [a1, mul_mod_l hs]
        congr 1
        grind
      rw [e2, e1, ← Int.add_emod]

/-! ### The sign of a product of axes, apart from the steps' numbers -/
def sgF : Nat → Nat → Nat → Int
  | 0, _, _ => 1
  | n + 1, i, j =>
    if i < 2 ^ n then (if j < 2 ^ n then sgF n i j else sgF n (j - 2 ^ n) i)
    else (if j < 2 ^ n then sgs j * sgF n (i - 2 ^ n) j else sgs (j - 2 ^ n) * sgF n (j - 2 ^ n) (i - 2 ^ n))
/-- The product of the steps' numbers named by the digits. -/
def wpF (w : List Int) : Nat → Nat → Int
  | 0, _ => 1
  | n + 1, m => (if m < 2 ^ n then 1 else gI w n) * wpF w n (m % 2 ^ n)
theorem wpF_take {w : List Int} {N : Nat} : ∀ n, n ≤ N → ∀ m, wpF (w.take N) n m = wpF w n m
  | 0, _, _ => rfl
  | n + 1, h, m => by
    unfold wpF
    rw [wpF_take n (by omega), gI_take (by omega)]
theorem and_lt' : ∀ n, n ≤ 4 → ∀ i, i < 2 ^ n → ∀ j, j < 2 ^ n → i &&& j < 2 ^ n := fun n _ i hi j hj => Nat.lt_of_le_of_lt Nat.and_le_left hi
theorem and_hi : ∀ n, n < 4 → ∀ i, i < 2 ^ n → ∀ j, j < 2 ^ n → i &&& (2 ^ n + j) = (i &&& j) ∧ (2 ^ n + i) &&& j = (i &&& j) ∧ (2 ^ n + i) &&& (2 ^ n + j) = 2 ^ n + (i &&& j) := by decide
theorem axS_split : ∀ n, n ≤ 4 → ∀ (w : List Int) i j, i < 2 ^ n → j < 2 ^ n → axS n w i j = sgF n i j * wpF w n (i &&& j)
  | 0, _, w, i, j, _, _ => rfl
  | n + 1, hn, w, i, j, hi, hj => by
    have hpow : 2 ^ (n + 1) = 2 ^ n + 2 ^ n := by rw [Nat.pow_succ]; omega
    rw [hpow] at hi hj
    have ih := axS_split n (by omega) (w.take n)
    have hA := and_hi n (by omega)
    have hL := and_lt' n (by omega)
    have hw := wpF_take (w := w) (N := n) n (Nat.le_refl _)
    unfold axS sgF wpF
    generalize hd : 2 ^ n = d at hi hj ih hA hL ⊢
    rcases Nat.lt_or_ge i d with h1 | h1 <;> rcases Nat.lt_or_ge j d with h2 | h2
    · have h3 := hL i h1 j h2
      rw [if_pos h1, if_pos h2, if_pos h1, if_pos h2, if_pos h3, Int.one_mul, Nat.mod_eq_of_lt h3, ih i j h1 h2, hw]
    · obtain ⟨j', rfl⟩ := Nat.exists_eq_add_of_le h2
      have h3 := hL i h1 j' (by omega)
      rw [if_pos h1, if_neg (by omega), if_pos h1, if_neg (by omega), Nat.add_sub_cancel_left, (hA i h1 j' (by omega)).1, if_pos h3, Int.one_mul, Nat.mod_eq_of_lt h3, ih j' i (by omega) h1, hw, Nat.and_comm]
    · obtain ⟨i', rfl⟩ := Nat.exists_eq_add_of_le h1
      have h3 := hL i' (by omega) j h2
      rw [if_neg (by omega), if_pos h2, if_neg (by omega), if_pos h2, Nat.add_sub_cancel_left, (hA i' (by omega) j h2).2.1, if_pos h3, Int.one_mul, Nat.mod_eq_of_lt h3, ih i' j (by omega) h2, hw, Int.mul_assoc]
    · obtain ⟨i', rfl⟩ := Nat.exists_eq_add_of_le h1
      obtain ⟨j', rfl⟩ := Nat.exists_eq_add_of_le h2
      have h3 := hL i' (by omega) j' (by omega)
      have h4 : (d + (i' &&& j')) % d = i' &&& j' := by rw [Nat.add_mod_left, Nat.mod_eq_of_lt h3]
      rw [if_neg (by omega), if_neg (by omega), if_neg (by omega), if_neg (by omega), Nat.add_sub_cancel_left, Nat.add_sub_cancel_left, (hA i' (by omega) j' (by omega)).2.2, if_neg (by omega), h4, ih j' i' (by omega) (by omega), hw, Nat.and_comm j' i']
      grind
/-- The same steps' numbers stand on both sides. -/
theorem wpF_four (w : List Int) : ∀ n, n ≤ 4 → ∀ i, i < 2 ^ n → ∀ j, j < 2 ^ n → ∀ k, k < 2 ^ n → wpF w n (j &&& k) * wpF w n (i &&& (j ^^^ k)) = wpF w n (i &&& k) * wpF w n (j &&& (i ^^^ k))
  | 0, _, i, _, j, _, k, _ => rfl
  | n + 1, hn, i, hi, j, hj, k, hk => by
    have hpow : 2 ^ (n + 1) = 2 ^ n + 2 ^ n := by rw [Nat.pow_succ]; omega
    rw [hpow] at hi hj hk
    have ih := wpF_four w n (by omega)
    have hA := and_hi n (by omega)
    have hX := xor_hi n (by omega)
    have hL := and_lt' n (by omega)
    have hlt : ∀ a b, a < 2 ^ n → b < 2 ^ n → a ^^^ b < 2 ^ n := fun a b ha hb => xor_lt ha hb
    unfold wpF
    generalize hd : 2 ^ n = d at hi hj hk ih hA hX hL hlt ⊢
    have hm : ∀ m, m < d → (d + m) % d = m := fun m hm => by rw [Nat.add_mod_left, Nat.mod_eq_of_lt hm]
    have lo : ∀ m, m < d → (if m < d then (1 : Int) else gI w n) * wpF w n (m % d) = wpF w n m := fun m h => by rw [if_pos h, Int.one_mul, Nat.mod_eq_of_lt h]
    have up : ∀ m, m < d → (if d + m < d then (1 : Int) else gI w n) * wpF w n ((d + m) % d) = gI w n * wpF w n m := fun m h => by rw [if_neg (by omega), hm m h]
    have e : ∀ x, x < d + d → ∃ y, y < d ∧ (x = y ∨ x = d + y) := fun x hx => by
      rcases Nat.lt_or_ge x d with h | h
      · exact ⟨x, h, .inl rfl⟩
      · exact ⟨x - d, by omega, .inr (by omega)⟩
    obtain ⟨i', i1, i2⟩ := e i hi
    obtain ⟨j', j1, j2⟩ := e j hj
    obtain ⟨k', k1, k2⟩ := e k hk
    have key := ih i' i1 j' j1 k' k1
    have a1 := hL j' j1 k' k1
    have a2 := hL i' i1 k' k1
    have a3 := hlt j' k' j1 k1
    have a4 := hlt i' k' i1 k1
    have a5 := hL i' i1 _ a3
    have a6 := hL j' j1 _ a4
    rcases i2 with rfl | rfl <;> rcases j2 with rfl | rfl <;> rcases k2 with rfl | rfl <;>
      simp only [(hA _ i1 _ k1).1, (hA _ i1 _ k1).2.1, (hA _ i1 _ k1).2.2, (hA _ j1 _ k1).1, (hA _ j1 _ k1).2.1, (hA _ j1 _ k1).2.2, (hX _ j1 _ k1).1, (hX _ j1 _ k1).2.1, (hX _ j1 _ k1).2.2, (hX _ i1 _ k1).1, (hX _ i1 _ k1).2.1, (hX _ i1 _ k1).2.2,
        (hA _ i1 _ a3).1, (hA _ i1 _ a3).2.1, (hA _ i1 _ a3).2.2, (hA _ j1 _ a4).1, (hA _ j1 _ a4).2.1, (hA _ j1 _ a4).2.2, lo _ a1, lo _ a2, lo _ a5, lo _ a6, up _ a1, up _ a2, up _ a5, up _ a6] <;> grind
theorem wpF_self (w : List Int) : ∀ n, n ≤ 4 → ∀ i, i < 2 ^ n → ∀ k, k < 2 ^ n → wpF w n (i &&& k) * wpF w n (i &&& (i ^^^ k)) = wpF w n (i &&& i)
  | 0, _, i, _, k, _ => rfl
  | n + 1, hn, i, hi, k, hk => by
    have hpow : 2 ^ (n + 1) = 2 ^ n + 2 ^ n := by rw [Nat.pow_succ]; omega
    rw [hpow] at hi hk
    have ih := wpF_self w n (by omega)
    have hA := and_hi n (by omega)
    have hX := xor_hi n (by omega)
    have hL := and_lt' n (by omega)
    have hlt : ∀ a b, a < 2 ^ n → b < 2 ^ n → a ^^^ b < 2 ^ n := fun a b ha hb => xor_lt ha hb
    unfold wpF
    generalize hd : 2 ^ n = d at hi hk ih hA hX hL hlt ⊢
    have hm : ∀ m, m < d → (d + m) % d = m := fun m hm => by rw [Nat.add_mod_left, Nat.mod_eq_of_lt hm]
    have lo : ∀ m, m < d → (if m < d then (1 : Int) else gI w n) * wpF w n (m % d) = wpF w n m := fun m h => by rw [if_pos h, Int.one_mul, Nat.mod_eq_of_lt h]
    have up : ∀ m, m < d → (if d + m < d then (1 : Int) else gI w n) * wpF w n ((d + m) % d) = gI w n * wpF w n m := fun m h => by rw [if_neg (by omega), hm m h]
    have e : ∀ x, x < d + d → ∃ y, y < d ∧ (x = y ∨ x = d + y) := fun x hx => by
      rcases Nat.lt_or_ge x d with h | h
      · exact ⟨x, h, .inl rfl⟩
      · exact ⟨x - d, by omega, .inr (by omega)⟩
    obtain ⟨i', i1, i2⟩ := e i hi
    obtain ⟨k', k1, k2⟩ := e k hk
    have key := ih i' i1 k' k1
    have a2 := hL i' i1 k' k1
    have a4 := hlt i' k' i1 k1
    have a5 := hL i' i1 _ a4
    have a6 := hL i' i1 i' i1
    rcases i2 with rfl | rfl <;> rcases k2 with rfl | rfl <;>
      simp only [(hA _ i1 _ k1).1, (hA _ i1 _ k1).2.1, (hA _ i1 _ k1).2.2, (hA _ i1 _ i1).2.2, (hX _ i1 _ k1).1, (hX _ i1 _ k1).2.1, (hX _ i1 _ k1).2.2,
        (hA _ i1 _ a4).1, (hA _ i1 _ a4).2.1, (hA _ i1 _ a4).2.2, lo _ a2, lo _ a5, lo _ a6, up _ a2, up _ a5, up _ a6] <;> grind
/-- Signs of few steps. -/
def clB (n i j k : Nat) : Bool := decide (i = 0) || (decide (j = 0) || decide (sgF n j k * sgF n i (j ^^^ k) + sgF n i k * sgF n j (i ^^^ k) = if i = j then -2 * (sgs i * sgF n i i) else 0))
theorem clB_all : ∀ n, n < 4 → ∀ i, i < 2 ^ n → ∀ j, j < 2 ^ n → ∀ k, k < 2 ^ n → clB n i j k = true := by decide +kernel
theorem sgF_cliff (n : Nat) (hn : n < 4) (i : Nat) (hi : i < 2 ^ n) (j : Nat) (hj : j < 2 ^ n) (k : Nat) (hk : k < 2 ^ n) (hi0 : i ≠ 0) (hj0 : j ≠ 0) : sgF n j k * sgF n i (j ^^^ k) + sgF n i k * sgF n j (i ^^^ k) = if i = j then -2 * (sgs i * sgF n i i) else 0 := by
  have h := clB_all n hn i hi j hj k hk
  unfold clB at h
  simp only [Bool.or_eq_true, decide_eq_true_eq] at h
  rcases h with h | h | h
  · exact absurd h hi0
  · exact absurd h hj0
  · exact h
theorem axS_cliff {n : Nat} (hn : n ≤ 3) (w : List Int) {i j k : Nat} (hi : i < 2 ^ n) (hj : j < 2 ^ n) (hk : k < 2 ^ n) (hi0 : i ≠ 0) (hj0 : j ≠ 0) :
    axS n w j k * axS n w i (j ^^^ k) + axS n w i k * axS n w j (i ^^^ k) = if i = j then -2 * (sgs i * axS n w i i) else 0 := by
  have hjk := xor_lt hj hk
  have hik := xor_lt hi hk
  have h1 := sgF_cliff n (by omega) i hi j hj k hk hi0 hj0
  have h2 := wpF_four w n (by omega) i hi j hj k hk
  rw [axS_split n (by omega) w j k hj hk, axS_split n (by omega) w i (j ^^^ k) hi hjk, axS_split n (by omega) w i k hi hk, axS_split n (by omega) w j (i ^^^ k) hj hik, axS_split n (by omega) w i i hi hi]
  generalize sgF n j k = s1 at h1 ⊢
  generalize sgF n i (j ^^^ k) = s2 at h1 ⊢
  generalize sgF n i k = s3 at h1 ⊢
  generalize sgF n j (i ^^^ k) = s4 at h1 ⊢
  by_cases e : i = j
  · subst e
    rw [if_pos rfl] at h1 ⊢
    have h3 : wpF w n (i &&& k) * wpF w n (i &&& (i ^^^ k)) = wpF w n (i &&& i) := by
      have := wpF_self w n (by omega) i hi k hk
      exact this
    have h4 : s1 * wpF w n (i &&& k) * (s2 * wpF w n (i &&& (i ^^^ k))) + s3 * wpF w n (i &&& k) * (s4 * wpF w n (i &&& (i ^^^ k))) = (s1 * s2 + s3 * s4) * (wpF w n (i &&& k) * wpF w n (i &&& (i ^^^ k))) := by grind
    rw [h4, h3, h1]
    grind
  · rw [if_neg e] at h1 ⊢
    have h4 : s1 * wpF w n (j &&& k) * (s2 * wpF w n (i &&& (j ^^^ k))) + s3 * wpF w n (i &&& k) * (s4 * wpF w n (j &&& (i ^^^ k))) = s1 * s2 * (wpF w n (j &&& k) * wpF w n (i &&& (j ^^^ k))) + s3 * s4 * (wpF w n (i &&& k) * wpF w n (j &&& (i ^^^ k))) := by grind
    rw [h4, h2, ← Int.add_mul, h1, Int.zero_mul]
end Go.Vam

/- Plain law: FnMultiplicationMatrices. -/
namespace Go.Vam
open Go Go.RowKit
set_option linter.unusedSimpArgs false
set_option linter.unusedVariables false
set_option linter.unusedSectionVars false

theorem cliff {p : Int} {n : Nat} (hn : n ≤ 3) (w a b x : List Int) (ha : gI a 0 = 0) (hb : gI b 0 = 0) {m : Nat} (hm : m < 2 ^ n) :
    (gI (mulr p n w a (mulr p n w b x)) m + gI (mulr p n w b (mulr p n w a x)) m) % p = (-2 * sumN (fun i => sgs i * axS n w i i * (gI a i * gI b i)) (2 ^ n) * gI x m) % p := by
  have inner : ∀ (u v : List Int), gI (mulr p n w u (mulr p n w v x)) m % p = sumN (fun i => sumN (fun j => gI u i * gI v j * gI x (j ^^^ (i ^^^ m)) * (axS n w i (i ^^^ m) * axS n w j (j ^^^ (i ^^^ m)))) (2 ^ n)) (2 ^ n) % p := by
    intro u v
    rw [mulr_gen n (by omega) w u _ m hm]
    refine sumN_mod fun i hi => ?_
    have him := xor_lt hi hm
    have e : gI u i * gI (mulr p n w v x) (i ^^^ m) * axS n w i (i ^^^ m) = gI (mulr p n w v x) (i ^^^ m) * (gI u i * axS n w i (i ^^^ m)) := by grind
    rw [e, mul_mod_l (mulr_gen n (by omega) w v x (i ^^^ m) him), ← sumN_mulR]
    congr 1
    exact sumN_congr fun j _ => by grind
  rw [Int.add_emod, inner a b, inner b a, ← Int.add_emod]
  rw [sumN_comm (fun i j => gI b i * gI a j * gI x (j ^^^ (i ^^^ m)) * (axS n w i (i ^^^ m) * axS n w j (j ^^^ (i ^^^ m)))), ← sumN_add]
  congr 1
  rw [← sumN_mulL, ← sumN_mulR]
  refine sumN_congr fun i hi => ?_
  rw [← sumN_add]
  have e : ∀ j, j < 2 ^ n → gI a i * gI b j * gI x (j ^^^ (i ^^^ m)) * (axS n w i (i ^^^ m) * axS n w j (j ^^^ (i ^^^ m))) + gI b j * gI a i * gI x (i ^^^ (j ^^^ m)) * (axS n w j (j ^^^ m) * axS n w i (i ^^^ (j ^^^ m))) = if j = i then -2 * (sgs i * axS n w i i * (gI a i * gI b i)) * gI x m else 0 := by
    intro j hj
    by_cases hi0 : i = 0
    · subst hi0
      rw [ha]
      simp
    by_cases hj0 : j = 0
    · subst hj0
      rw [hb, if_neg (fun e => hi0 e.symm)]
      simp
    have hk : i ^^^ (j ^^^ m) = j ^^^ (i ^^^ m) := by rw [← Nat.xor_assoc, Nat.xor_comm i j, Nat.xor_assoc]
    rw [hk]
    have hkl : j ^^^ (i ^^^ m) < 2 ^ n := xor_lt hj (xor_lt hi hm)
    have h1 : i ^^^ m = j ^^^ (j ^^^ (i ^^^ m)) := by rw [← Nat.xor_assoc, Nat.xor_self, Nat.zero_xor]
    have h2 : j ^^^ m = i ^^^ (j ^^^ (i ^^^ m)) := by rw [← hk, ← Nat.xor_assoc, Nat.xor_self, Nat.zero_xor]
    have hc := axS_cliff hn w hi hj hkl hi0 hj0
    rw [← h1, ← h2] at hc
    by_cases hij : i = j
    · subst hij
      rw [if_pos rfl] at hc ⊢
      have h3 : i ^^^ (i ^^^ m) = m := by rw [← Nat.xor_assoc, Nat.xor_self, Nat.zero_xor]
      rw [h3] at hc ⊢
      have : gI a i * gI b i * gI x m * (axS n w i (i ^^^ m) * axS n w i m) + gI b i * gI a i * gI x m * (axS n w i (i ^^^ m) * axS n w i m) = gI a i * gI b i * gI x m * (axS n w i m * axS n w i (i ^^^ m) + axS n w i m * axS n w i (i ^^^ m)) := by grind
      rw [this, hc]
      grind
    · rw [if_neg hij] at hc
      rw [if_neg fun e => hij e.symm]
      generalize j ^^^ (i ^^^ m) = k at hc ⊢
      have : gI a i * gI b j * gI x k * (axS n w i (i ^^^ m) * axS n w j k) + gI b j * gI a i * gI x k * (axS n w j (j ^^^ m) * axS n w i k) = gI a i * gI b j * gI x k * (axS n w j k * axS n w i (i ^^^ m) + axS n w i k * axS n w j (j ^^^ m)) := by grind
      rw [this, hc, Int.mul_zero]
  rw [sumN_congr e, sumN_upd (fun _ => 0) i _ (2 ^ n) hi rfl, sumN_zero, Int.zero_add]
/-- A product by axes, from the left and from the right. -/
theorem left_lin {p : Int} {n : Nat} (hn : n ≤ 4) (w x y : List Int) {i : Nat} (hi : i < 2 ^ n) : sumN (fun k => gI (mulr p n w x (axis (2 ^ n) k)) i * gI y k) (2 ^ n) % p = gI (mulr p n w x y) i % p := by
  rw [mulr_gen n hn w x y i hi, ← sum_xor0 (fun t => gI x t * gI y (t ^^^ i) * axS n w t (t ^^^ i)) hn hi]
  refine sumN_mod fun k hk => ?_
  rw [mul_mod_l (mulr_gen n hn w x _ i hi)]
  congr 1
  have hki := xor_lt hk hi
  have hb := xor_back k i
  have e : ∀ t, t < 2 ^ n → gI x t * gI (axis (2 ^ n) k) (t ^^^ i) * axS n w t (t ^^^ i) = if t = k ^^^ i then gI x (k ^^^ i) * axS n w (k ^^^ i) k else 0 := by
    intro t ht
    rw [axis_at hk (xor_lt ht hi)]
    by_cases e1 : t = k ^^^ i
    · subst e1
      rw [hb, if_pos rfl, if_pos rfl, Int.mul_one]
    · rw [if_neg e1, if_neg (fun e2 => e1 (by rw [← e2, xor_back])), Int.mul_zero, Int.zero_mul]
  rw [sumN_congr e, sumN_upd (fun _ => 0) _ _ (2 ^ n) hki rfl, sumN_zero, Int.zero_add, hb]
  grind
theorem right_lin {p : Int} {n : Nat} (hn : n ≤ 4) (w x y : List Int) {i : Nat} (hi : i < 2 ^ n) : sumN (fun k => gI (mulr p n w (axis (2 ^ n) k) x) i * gI y k) (2 ^ n) % p = gI (mulr p n w y x) i % p := by
  rw [mulr_gen n hn w y x i hi]
  refine sumN_mod fun k hk => ?_
  rw [mul_mod_l (mulr_gen n hn w _ x i hi)]
  congr 1
  have e : ∀ t, t < 2 ^ n → gI (axis (2 ^ n) k) t * gI x (t ^^^ i) * axS n w t (t ^^^ i) = if t = k then gI x (k ^^^ i) * axS n w k (k ^^^ i) else 0 := by
    intro t ht
    rw [axis_at hk ht]
    by_cases e1 : t = k
    · subst e1
      rw [if_pos rfl, if_pos rfl, Int.one_mul]
    · rw [if_neg e1, if_neg e1, Int.zero_mul, Int.zero_mul]
  rw [sumN_congr e, sumN_upd (fun _ => 0) _ _ (2 ^ n) hk rfl, sumN_zero, Int.zero_add]
  grind

/-! ### The matrices -/
def leftC (p : Int) (w x : List Int) : List (List Int) := vecN (2 ^ w.length) fun k => mulp p w x (axis (2 ^ w.length) k)
def rightC (p : Int) (w x : List Int) : List (List Int) := vecN (2 ^ w.length) fun k => mulp p w (axis (2 ^ w.length) k) x
def leftm (p : Int) (w x : List Int) : List (List Int) := turnm (2 ^ w.length) (2 ^ w.length) (leftC p w x)
def rightm (p : Int) (w x : List Int) : List (List Int) := turnm (2 ^ w.length) (2 ^ w.length) (rightC p w x)
section
variable {p : Int} {w x : List Int} (hP : isP p = true) (hl : w.length ≤ 4) (hw : Vec p w.length w) (hx : Vec p (2 ^ w.length) x)
include hP hl hw hx
theorem leftC_mat : Mat p (2 ^ w.length) (2 ^ w.length) (leftC p w x) := Mat.mk' fun k hk => mulp_vec hP hl hw hx (axis_vec (by have := isP_le hP; omega) hk)
theorem rightC_mat : Mat p (2 ^ w.length) (2 ^ w.length) (rightC p w x) := Mat.mk' fun k hk => mulp_vec hP hl hw (axis_vec (by have := isP_le hP; omega) hk) hx
theorem leftm_mat : Mat p (2 ^ w.length) (2 ^ w.length) (leftm p w x) := turnm_mat (leftC_mat hP hl hw hx)
theorem rightm_mat : Mat p (2 ^ w.length) (2 ^ w.length) (rightm p w x) := turnm_mat (rightC_mat hP hl hw hx)
theorem leftm_at {i k : Nat} (hi : i < 2 ^ w.length) (hk : k < 2 ^ w.length) : gI (gR (leftm p w x) i) k = gI (mulp p w x (axis (2 ^ w.length) k)) i := by
  unfold leftm; rw [turnm_at hk hi]; unfold leftC; rw [gR_vecN _ hk]
theorem rightm_at {i k : Nat} (hi : i < 2 ^ w.length) (hk : k < 2 ^ w.length) : gI (gR (rightm p w x) i) k = gI (mulp p w (axis (2 ^ w.length) k) x) i := by
  unfold rightm; rw [turnm_at hk hi]; unfold rightC; rw [gR_vecN _ hk]
theorem i_left_eq : i_Doubling_left p w x = some (leftm p w x) := by
  have hp := isP_le hP
  have h16 := two_le hl
  have hpos := two_pos w.length
  have e1 := (unitm_mat (p := p) (by omega) (2 ^ w.length)).1
  unfold i_Doubling_left
  rw [i_Doubling_size_eq hl, some_bind, i_unit_eq (by omega), some_bind, map_loop _ (2 ^ w.length) (fun k => mulp p w x (axis (2 ^ w.length) k)) (by rw [BIG_val]; omega)]
  · have hm := leftC_mat hP hl hw hx
    rw [some_bind]
    have := i_transpose_eq hpos (by omega) (by omega) hm
    unfold leftm
    unfold leftC at this ⊢
    rw [this, some_bind]
  · intro k hk out ho
    unfold i_Doubling_left_L0
    have hv := axis_vec (p := p) (by omega) hk
    simp only [e1, show ((k : Int) < ((2 ^ w.length : Nat) : Int)) = True from eq_true (Int.ofNat_lt.2 hk), if_true, idxR (show k < (unitm (2 ^ w.length)).length by omega), gR_unitm hk, some_bind, i_Doubling_times_eq hP hl hw hx hv]
    rw [chk_bind (by simp only [List.length_cons, List.length_nil]; omega), w_in (by omega) (by omega)]
    rfl
  · intro out ho
    unfold i_Doubling_left_L0
    simp only [e1, show (((2 ^ w.length : Nat) : Int) < ((2 ^ w.length : Nat) : Int)) = False from eq_false (by omega), if_false]
theorem i_right_eq : i_Doubling_right p w x = some (rightm p w x) := by
  have hp := isP_le hP
  have h16 := two_le hl
  have hpos := two_pos w.length
  have e1 := (unitm_mat (p := p) (by omega) (2 ^ w.length)).1
  unfold i_Doubling_right
  rw [i_Doubling_size_eq hl, some_bind, i_unit_eq (by omega), some_bind, map_loop _ (2 ^ w.length) (fun k => mulp p w (axis (2 ^ w.length) k) x) (by rw [BIG_val]; omega)]
  · have hm := rightC_mat hP hl hw hx
    rw [some_bind]
    have := i_transpose_eq hpos (by omega) (by omega) hm
    unfold rightm
    unfold rightC at this ⊢
    rw [this, some_bind]
  · intro k hk out ho
    unfold i_Doubling_right_L0
    have hv := axis_vec (p := p) (by omega) hk
    simp only [e1, show ((k : Int) < ((2 ^ w.length : Nat) : Int)) = True from eq_true (Int.ofNat_lt.2 hk), if_true, idxR (show k < (unitm (2 ^ w.length)).length by omega), gR_unitm hk, some_bind, i_Doubling_times_eq hP hl hw hv hx]
    rw [chk_bind (by simp only [List.length_cons, List.length_nil]; omega), w_in (by omega) (by omega)]
    rfl
  · intro out ho
    unfold i_Doubling_right_L0
    simp only [e1, show (((2 ^ w.length : Nat) : Int) < ((2 ^ w.length : Nat) : Int)) = False from eq_false (by omega), if_false]
theorem s_left_eq : s_l11Left p w x = some (leftm p w x) := by
  have hp := isP_le hP
  have h16 := two_le hl
  unfold s_l11Left
  rw [map_loop _ (2 ^ w.length) (fun k => mulp p w x (axis (2 ^ w.length) k)) (by rw [BIG_val]; omega)]
  · rw [some_bind]
    have := s_l11Columns_eq (by omega) (leftC_mat hP hl hw hx)
    unfold leftm
    unfold leftC at this ⊢
    rw [this, some_bind]
  · intro k hk out ho
    unfold s_l11Left_L0
    have hv := axis_vec (p := p) (by omega) hk
    simp only [s_l11Size_eq hl, some_bind, show ((k : Int) < ((2 ^ w.length : Nat) : Int)) = True from eq_true (Int.ofNat_lt.2 hk), if_true, s_l11One_eq hl hk, s_l11Times_eq hP hl hw hx hv]
    rw [chk_bind (by simp only [List.length_cons, List.length_nil]; omega), w_in (by omega) (by omega)]
    rfl
  · intro out ho
    unfold s_l11Left_L0
    simp only [s_l11Size_eq hl, some_bind, show (((2 ^ w.length : Nat) : Int) < ((2 ^ w.length : Nat) : Int)) = False from eq_false (by omega), if_false]
theorem s_right_eq : s_l11Right p w x = some (rightm p w x) := by
  have hp := isP_le hP
  have h16 := two_le hl
  unfold s_l11Right
  rw [map_loop _ (2 ^ w.length) (fun k => mulp p w (axis (2 ^ w.length) k) x) (by rw [BIG_val]; omega)]
  · rw [some_bind]
    have := s_l11Columns_eq (by omega) (rightC_mat hP hl hw hx)
    unfold rightm
    unfold rightC at this ⊢
    rw [this, some_bind]
  · intro k hk out ho
    unfold s_l11Right_L0
    have hv := axis_vec (p := p) (by omega) hk
    simp only [s_l11Size_eq hl, some_bind, show ((k : Int) < ((2 ^ w.length : Nat) : Int)) = True from eq_true (Int.ofNat_lt.2 hk), if_true, s_l11One_eq hl hk, s_l11Times_eq hP hl hw hv hx]
    rw [chk_bind (by simp only [List.length_cons, List.length_nil]; omega), w_in (by omega) (by omega)]
    rfl
  · intro out ho
    unfold s_l11Right_L0
    simp only [s_l11Size_eq hl, some_bind, show (((2 ^ w.length : Nat) : Int) < ((2 ^ w.length : Nat) : Int)) = False from eq_false (by omega), if_false]
theorem left_apply {y : List Int} (hy : Vec p (2 ^ w.length) y) : applyv p (2 ^ w.length) (2 ^ w.length) (leftm p w x) y = mulp p w x y := by
  have hv := mulp_vec hP hl hw hx hy
  refine (extI hv.1 fun i hi => ?_).symm
  have h0 := hv.get hi
  unfold dotp
  rw [← mod_small h0.1 h0.2]
  refine Eq.trans ?_ (Eq.trans (left_lin (p := p) hl w x y hi).symm ?_)
  · rfl
  · congr 1
    exact sumN_congr fun k hk => by rw [leftm_at hP hl hw hx hi hk]; rfl
theorem right_apply {y : List Int} (hy : Vec p (2 ^ w.length) y) : applyv p (2 ^ w.length) (2 ^ w.length) (rightm p w x) y = mulp p w y x := by
  have hv := mulp_vec hP hl hw hy hx
  refine (extI hv.1 fun i hi => ?_).symm
  have h0 := hv.get hi
  unfold dotp
  rw [← mod_small h0.1 h0.2]
  refine Eq.trans ?_ (Eq.trans (right_lin (p := p) hl w x y hi).symm ?_)
  · rfl
  · congr 1
    exact sumN_congr fun k hk => by rw [rightm_at hP hl hw hx hi hk]; rfl
/-- The square of left matrices, two of them. -/
theorem left_two {y : List Int} (hy : Vec p (2 ^ w.length) y) {i k : Nat} (hi : i < 2 ^ w.length) (hk : k < 2 ^ w.length) :
    gI (gR (timesm p (2 ^ w.length) (2 ^ w.length) (2 ^ w.length) (leftm p w x) (leftm p w y)) i) k % p = gI (mulp p w x (mulp p w y (axis (2 ^ w.length) k))) i % p := by
  rw [timesm_at hi hk, emm]
  have hv := mulp_vec hP hl hw hy (axis_vec (p := p) (by have := isP_le hP; omega) hk)
  refine Eq.trans ?_ (left_lin (p := p) hl w x (mulp p w y (axis (2 ^ w.length) k)) hi)
  congr 1
  refine sumN_congr fun j hj => ?_
  rw [leftm_at hP hl hw hx hi hj, leftm_at hP hl hw hy hj hk]
  rfl
end
/-! ### What is drawn -/
theorem shl_one : ∀ k : Nat, k ≤ 5 → shl .i64 1 (IntKind.u64.wrap (k : Int)) = ((2 ^ k : Nat) : Int) ∧ 0 ≤ IntKind.u64.wrap (k : Int) := by decide
theorem draw_steps {c : List Int} {a h p : Int} {k : Nat} (hS : Src c a) (hP : isP p = true) (hk : k ≤ 8) : ∃ (v : List Int) (a' h' : Int), loop s_l11Draw_L0 BIG (c, a, h, p, [], (k : Int)) = some (c, a', h', p, v) ∧ v.length = k ∧ Src c a' := by
  have hp := isP_le hP
  obtain ⟨b, h1, v, a', h', rfl, h3, h4⟩ := loop_inv (step := s_l11Draw_L0) (fun s => ∃ (j : Nat) (a' h' : Int) (out : List Int), s = (c, a', h', p, out, ((k - j : Nat) : Int)) ∧ j ≤ k ∧ out.length = j ∧ Src c a') (fun s => s.2.2.2.2.2.toNat)
    (fun b => ∃ v a' h', b = (c, a', h', p, v) ∧ v.length = k ∧ Src c a') (s := (c, a, h, p, [], (k : Int))) ⟨0, a, h, [], rfl, by omega, rfl, hS⟩ (by rw [BIG_val]; simp only []; omega) (by
      rintro s ⟨j, a', h', out, rfl, hj, hv, hS'⟩
      unfold s_l11Draw_L0
      by_cases hjk : j < k
      · refine .inl ?_
        have e0 : (0 : Int) < ((k - j : Nat) : Int) := by omega
        obtain ⟨r, a2, h2, e, r1, r2, S2⟩ := next_eq (h := h') (n := 2) hS' (by omega) (by omega)
        have w1 : w64 (p - 1) = p - 1 := w_in (by omega) (by omega)
        have w2 : w64 (((k - j : Nat) : Int) - 1) = ((k - (j + 1) : Nat) : Int) := by rw [w_in (by omega) (by omega)]; omega
        simp only [e0, if_true, e, some_bind, w1, w2]
        by_cases c0 : r = 0
        · simp only [c0, if_true]
          rw [chk_bind (by simp only [List.length_cons, List.length_nil]; omega), some_bind]
          exact ⟨_, rfl, ⟨j + 1, a2, h2, _, rfl, by omega, by rw [List.length_append]; simp; omega, S2⟩, by simp only []; omega⟩
        · obtain ⟨r3, a3, h3, e3, p3, q3, S3⟩ := next_eq (h := h2) (n := p - 1) S2 (by omega) (by omega)
          simp only [c0, if_false, e3, some_bind]
          rw [chk_bind (by simp only [List.length_cons, List.length_nil]; omega), some_bind]
          exact ⟨_, rfl, ⟨j + 1, a3, h3, _, rfl, by omega, by rw [List.length_append]; simp; omega, S3⟩, by simp only []; omega⟩
      · have : j = k := by omega
        subst this
        refine .inr ⟨(c, a', h', p, out), ?_, out, a', h', rfl, hv, hS'⟩
        simp)
  exact ⟨v, a', h', h1, h3, h4⟩
theorem draw_doubling {c : List Int} {a h m : Int} (hS : Src c a) (hm : 0 ≤ m) (hm2 : m ≤ 8) : ∃ (p : Int) (w : List Int) (a' h' : Int), s_l11Draw c a h m = some ((p, w), (c, a', h')) ∧ isP p = true ∧ w.length ≤ 4 ∧ Src c a' := by
  unfold s_l11Draw
  obtain ⟨p, a1, h1, e1, m1, S1⟩ := pick_eq (h := h) (l := [3, 5, 7, 11, 13]) hS (by simp) (by simp)
  obtain ⟨k, a2, h2, e2, m2, S2⟩ := pick_eq (h := h1) (l := [0, 1, 2, 2, 3, 3, 3, 4]) S1 (by simp) (by simp)
  have hP : isP p = true := by
    simp only [List.mem_cons, List.not_mem_nil, or_false] at m1
    unfold isP
    rcases m1 with rfl | rfl | rfl | rfl | rfl <;> decide
  have hk : 0 ≤ k ∧ k ≤ 4 := by
    simp only [List.mem_cons, List.not_mem_nil, or_false] at m2
    omega
  obtain ⟨q, hq, hq4⟩ : ∃ q : Nat, imin m k = (q : Int) ∧ q ≤ 4 := by
    unfold imin
    split
    · exact ⟨k.toNat, by omega, by omega⟩
    · exact ⟨m.toNat, by omega, by omega⟩
  obtain ⟨v, a3, h3, e3, l3, S3⟩ := draw_steps (h := h2) (k := q) S2 hP (by omega)
  simp only [e1, e2, some_bind, hq, e3]
  exact ⟨p, v, a3, h3, rfl, hP, by omega, S3⟩
theorem draw_any {c : List Int} {a h m : Int} (hS : Src c a) (hm : 0 ≤ m) (hm2 : m ≤ 8) : ∃ (p : Int) (w : List Int) (a' h' : Int), s_l11DrawAny c a h m = some ((p, w), (c, a', h')) ∧ 0 ≤ p ∧ p ≤ 17 ∧ w.length ≤ 5 ∧ Src c a' := by
  unfold s_l11DrawAny
  obtain ⟨p, w, a1, h1, e1, hP, hl, S1⟩ := draw_doubling (h := h) hS hm hm2
  have hp := isP_le hP
  obtain ⟨r, a2, h2, e2, r1, r2, S2⟩ := next_eq (h := h1) (n := 30) S1 (by omega) (by omega)
  simp only [e1, some_bind, e2]
  by_cases c0 : r = 0
  · obtain ⟨x, a3, h3, e3, m3, S3⟩ := pick_eq (h := h2) (l := [2, 9, 17, 0]) S2 (by simp) (by simp)
    simp only [c0, if_true, e3, some_bind]
    have hx : 0 ≤ x ∧ x ≤ 17 := by
      simp only [List.mem_cons, List.not_mem_nil, or_false] at m3
      omega
    exact ⟨x, w, a3, h3, rfl, hx.1, hx.2, by omega, S3⟩
  simp only [c0, if_false]
  by_cases c1 : r = 1
  · obtain ⟨x, a3, h3, e3, m3, S3⟩ := pick_eq (h := h2) (l := [0, p]) S2 (by simp) (by simp)
    simp only [c1, if_true, e3, some_bind]
    rw [chk_bind (by simp only [List.length_cons, List.length_nil]; omega), some_bind]
    exact ⟨p, _, a3, h3, rfl, by omega, by omega, by rw [List.length_append]; simp; omega, S3⟩
  simp only [c1, if_false]
  by_cases c2 : r = 2
  · obtain ⟨b, g1, v, rfl, g2⟩ := loop_inv (step := s_l11DrawAny_L0) (fun s => ∃ v : List Int, s = (p, v) ∧ v.length ≤ 5) (fun s => 5 - s.2.length) (fun b => ∃ v : List Int, b = (p, v) ∧ v.length ≤ 5) (s := (p, w)) ⟨w, rfl, by omega⟩ (by rw [BIG_val]; simp only []; omega) (by
      rintro s ⟨v, rfl, hv⟩
      unfold s_l11DrawAny_L0
      by_cases h5 : (v.length : Int) < 5
      · refine .inl ?_
        simp only [h5, if_true]
        rw [chk_bind (by simp only [List.length_cons, List.length_nil]; omega)]
        exact ⟨_, rfl, ⟨_, rfl, by rw [List.length_append]; simp; omega⟩, by simp only [List.length_append, List.length_cons, List.length_nil]; omega⟩
      · refine .inr ⟨(p, v), ?_, v, rfl, hv⟩
        simp only [h5, if_false])
    simp only [c2, if_true, g1, some_bind]
    exact ⟨p, v, a2, h2, rfl, by omega, by omega, g2, S2⟩
  simp only [c2, if_false, some_bind]
  exact ⟨p, w, a2, h2, rfl, by omega, by omega, by omega, S2⟩
theorem draw_element {c : List Int} {a h p : Int} {w : List Int} (hS : Src c a) (hp : 0 ≤ p) (hp2 : p ≤ 17) (hl : w.length ≤ 5) : ∃ (x : List Int) (a' h' : Int), s_l11DrawElement c a h p w = some (x, (c, a', h')) ∧ x.length ≤ 16 ∧ Src c a' := by
  unfold s_l11DrawElement
  obtain ⟨r, a1, h1, e1, r1, r2, S1⟩ := next_eq (h := h) (n := 4) hS (by omega) (by omega)
  obtain ⟨q, hq, hq4⟩ : ∃ q : Nat, imin 4 (w.length : Int) = (q : Int) ∧ q ≤ 4 := by
    unfold imin
    split
    · exact ⟨w.length, rfl, by omega⟩
    · exact ⟨4, rfl, by omega⟩
  obtain ⟨s1, s2⟩ := shl_one q (by omega)
  have h16 : 2 ^ q ≤ 16 := two_le hq4
  have hq0 := two_pos q
  have hmx : 1 ≤ imax 1 p ∧ imax 1 p ≤ 17 := by unfold imax; split <;> omega
  obtain ⟨b, g1, x, a2, h2, rfl, g3, S2⟩ := loop_inv (step := s_l11DrawElement_L0 p w (r, (c, a1, h1))) (fun s => ∃ (j : Nat) (a' h' : Int) (out : List Int), s = (c, a', h', out, (j : Int)) ∧ j ≤ 2 ^ q ∧ out.length = j ∧ Src c a') (fun s => 2 ^ q - s.2.2.2.2.toNat)
    (fun b => ∃ v a' h', b = (c, a', h', v) ∧ v.length = 2 ^ q ∧ Src c a') (s := (c, a1, h1, [], 0)) ⟨0, a1, h1, [], rfl, by omega, rfl, S1⟩ (by rw [BIG_val]; simp only []; omega) (by
      rintro s ⟨j, a', h', out, rfl, hj, hv, hS'⟩
      unfold s_l11DrawElement_L0
      simp only [hq, s1]
      rw [chk_bind s2]
      by_cases hjk : j < 2 ^ q
      · refine .inl ?_
        obtain ⟨r3, a3, h3, e3, p3, q3, S3⟩ := next_eq (h := h') (n := imax 1 p) hS' hmx.1 (by omega)
        simp only [lt_cast hjk, if_true, e3, some_bind]
        have key : ∃ (a4 h4 : Int) (t : Bool), (((if r = 0 then (s_l01Next c a3 h3 3).bind fun v12 => some (v12.2.1, v12.2.2.1, v12.2.2.2, ilt 0 v12.1) else some (c, a3, h3, false)) : Option ((List Int) × Int × Int × Bool))) = some (c, a4, h4, t) ∧ Src c a4 := by
          by_cases c0 : r = 0
          · obtain ⟨r4, a4, h4, e4, p4, q4, S4⟩ := next_eq (h := h3) (n := 3) S3 (by omega) (by omega)
            rw [if_pos c0, e4, some_bind]
            exact ⟨a4, h4, _, rfl, S4⟩
          · rw [if_neg c0]; exact ⟨a3, h3, _, rfl, S3⟩
        obtain ⟨a4, h4, t, e4, S4⟩ := key
        rw [e4, some_bind]
        simp only []
        obtain ⟨z, ez⟩ : ∃ z, ((if t = true then some 0 else some r3 : Option Int)) = some z := by
          cases t
          · exact ⟨r3, by simp⟩
          · exact ⟨0, by simp⟩
        rw [ez, some_bind, chk_bind (by simp only [List.length_cons, List.length_nil]; omega), w_in (by omega) (by omega)]
        exact ⟨_, rfl, ⟨j + 1, a4, h4, _, rfl, by omega, by rw [List.length_append]; simp; omega, S4⟩, by simp only []; omega⟩
      · have : j = 2 ^ q := by omega
        subst this
        refine .inr ⟨(c, a', h', out), ?_, out, a', h', rfl, hv, hS'⟩
        simp only [lt_cast_self, if_false])
  simp only [e1, some_bind, g1]
  obtain ⟨r5, a5, h5, e5, p5, q5, S5⟩ := next_eq (h := h2) (n := 60) S2 (by omega) (by omega)
  simp only [e5, some_bind]
  by_cases c0 : r5 = 0
  · obtain ⟨z, a6, h6, e6, m6, S6⟩ := pick_eq (h := h5) (l := [-1, p]) S5 (by simp) (by simp)
    simp only [c0, if_true, e6, some_bind, idxI0 (show 0 < x.length by omega)]
    exact ⟨_, a6, h6, rfl, by rw [List.length_set]; omega, S6⟩
  simp only [c0, if_false]
  by_cases c1 : r5 = 1
  · simp only [c1, if_true]
    rw [chk_bind (by omega), some_bind]
    exact ⟨_, a5, h5, rfl, by rw [List.length_drop]; omega, S5⟩
  simp only [c1, if_false, some_bind]
  exact ⟨_, a5, h5, rfl, by omega, S5⟩
theorem DrawLeft_eq {c : List Int} (hc : c.length ≤ 4096) (hb : ∀ x ∈ c, 0 ≤ x ∧ x ≤ 255) : ∃ (p : Int) (w x : List Int), s_DrawLeftMatrixOf c = some ((p, w), x) ∧ 0 ≤ p ∧ p ≤ 17 ∧ w.length ≤ 5 ∧ x.length ≤ 16 := by
  unfold s_DrawLeftMatrixOf s_DrawDoubleConjugate
  obtain ⟨h0, e0, S0⟩ := from_eq hc hb
  obtain ⟨p, w, a1, h1, e1, p1, p2, l1, S1⟩ := draw_any (h := h0) (m := 4) S0 (by omega) (by omega)
  obtain ⟨x, a2, h2, e2, l2, S2⟩ := draw_element (h := h1) S1 p1 p2 l1
  simp only [e0, e1, e2, some_bind]
  exact ⟨p, w, x, rfl, p1, p2, l1, l2⟩
theorem element9_eq {c : List Int} {a h p : Int} {w : List Int} (hS : Src c a) (hp : 1 ≤ p) (hp2 : p ≤ 100) (hl : w.length ≤ 4) : ∃ (x : List Int) (a' h' : Int), l_element9 c a h p w = some (x, (c, a', h')) ∧ Vec p (2 ^ w.length) x ∧ Src c a' := by
  unfold l_element9
  obtain ⟨s1, s2⟩ := shl_one w.length (by omega)
  have h16 := two_le hl
  obtain ⟨b, g1, x, a2, h2, rfl, g3, S2⟩ := loop_inv (step := l_element9_L0 p w) (fun s => ∃ (j : Nat) (a' h' : Int) (out : List Int), s = (c, a', h', out, (j : Int)) ∧ j ≤ 2 ^ w.length ∧ Vec p j out ∧ Src c a') (fun s => 2 ^ w.length - s.2.2.2.2.toNat)
    (fun b => ∃ v a' h', b = (c, a', h', v) ∧ Vec p (2 ^ w.length) v ∧ Src c a') (s := (c, a, h, [], 0)) ⟨0, a, h, [], rfl, Nat.zero_le _, ⟨rfl, by simp⟩, hS⟩ (by rw [BIG_val]; simp only []; omega) (by
      rintro s ⟨j, a', h', out, rfl, hj, hv, hS'⟩
      unfold l_element9_L0
      simp only [s1]
      rw [chk_bind s2]
      by_cases hjk : j < 2 ^ w.length
      · refine .inl ?_
        obtain ⟨r3, a3, h3, e3, p3, q3, S3⟩ := below_eq (h := h') (n := p) hS' hp (by omega)
        have ho := hv.1
        simp only [lt_cast hjk, if_true, e3, some_bind]
        rw [chk_bind (by simp only [List.length_cons, List.length_nil]; omega), w_in (by omega) (by omega)]
        exact ⟨_, rfl, ⟨j + 1, a3, h3, _, rfl, by omega, hv.append (y := [r3]) (vec_one p3 q3), S3⟩, by simp only []; omega⟩
      · have : j = 2 ^ w.length := by omega
        subst this
        refine .inr ⟨(c, a', h', out), ?_, out, a', h', rfl, hv, hS'⟩
        simp only [lt_cast_self, if_false])
  rw [g1, some_bind]
  exact ⟨x, a2, h2, rfl, g3, S2⟩
theorem same9_is : l_same9 = l_likeRows5 := rfl
theorem same9_self {m : List (List Int)} (h : szM m) : l_same9 m m = some true := by rw [same9_is]; exact likeR_self h
/-- The pure part. -/
def purev (x : List Int) : List Int := 0 :: x.drop 1
theorem purev_vec {p : Int} {n : Nat} {x : List Int} (hn : 1 ≤ n) (hp : 0 < p) (hx : Vec p n x) : Vec p n (purev x) := by
  have h1 := hx.1
  refine ⟨by unfold purev; simp; omega, fun k hk => ?_⟩
  cases k with
  | zero => exact ⟨Int.le_refl 0, hp⟩
  | succ k =>
    have : gI (purev x) (k + 1) = gI x (k + 1) := by unfold purev gI; simp [Nat.add_comm]
    rw [this]; exact hx.get hk
theorem purev_zero (x : List Int) : gI (purev x) 0 = 0 := rfl
end Go.Vam

/- Plain law: FnMultiplicationMatrices, the end. -/
namespace Go.Vam
open Go Go.RowKit
set_option linter.unusedSimpArgs false
set_option linter.unusedVariables false
set_option linter.unusedSectionVars false

def elC (p : Int) (w x : List Int) : Int := if isDb p w then (if elB p (2 ^ w.length) x then 0 else 2) else 1
theorem elC_zero {p : Int} {w x : List Int} (h : elC p w x = 0) : isDb p w = true ∧ Vec p (2 ^ w.length) x := by
  unfold elC at h
  split at h
  · rename_i h1
    split at h
    · rename_i h2; exact ⟨h1, elB_iff.1 h2⟩
    · cases h
  · cases h
theorem elC_of {p : Int} {w x : List Int} (h1 : isDb p w = true) (h2 : Vec p (2 ^ w.length) x) : elC p w x = 0 := by
  unfold elC; rw [if_pos h1, if_pos (elB_iff.2 h2)]
section
variable {p : Int} {w x : List Int} (hw : w.length ≤ 1048576) (hx : x.length ≤ 1048576)
include hw hx
theorem sz_one : szM [x] := ⟨by simp, fun y hy => by simp only [List.mem_cons, List.not_mem_nil, or_false] at hy; rw [hy]; exact hx⟩
theorem i_check_one : i_checkElements p w [x] = some (elC p w x) := by
  rw [i_checkElements_eq hw (sz_one hw hx)]; unfold elC; simp
theorem s_check_one : s_l11Code p w [x] = some (elC p w x) := by
  rw [s_l11Code_eq hw (sz_one hw hx)]; unfold elC; simp
theorem lefts_bad (h : elC p w x ≠ 0) : i_LeftMatrixOf p w x = some ([], elC p w x) ∧ s_LeftMatrixOf p w x = some ([], elC p w x) ∧ i_RightMatrixOf p w x = some ([], elC p w x) ∧ s_RightMatrixOf p w x = some ([], elC p w x) := by
  unfold i_LeftMatrixOf s_LeftMatrixOf i_RightMatrixOf s_RightMatrixOf
  rw [i_check_one hw hx, s_check_one hw hx, some_bind, some_bind, some_bind, some_bind, if_pos h, if_pos h, if_pos h, if_pos h]
  exact ⟨rfl, rfl, rfl, rfl⟩
end
section
variable {p : Int} {w x : List Int} (hD : isDb p w = true) (hx : Vec p (2 ^ w.length) x)
include hD hx
theorem lefts_ok : i_LeftMatrixOf p w x = some (leftm p w x, 0) ∧ s_LeftMatrixOf p w x = some (leftm p w x, 0) ∧ i_RightMatrixOf p w x = some (rightm p w x, 0) ∧ s_RightMatrixOf p w x = some (rightm p w x, 0) := by
  obtain ⟨hP, hl, hw, _⟩ := isDb_iff hD
  have h16 := two_le hl
  have h0 := elC_of hD hx
  have e := hx.1
  unfold i_LeftMatrixOf s_LeftMatrixOf i_RightMatrixOf s_RightMatrixOf
  rw [i_check_one (by omega) (by omega), s_check_one (by omega) (by omega), h0, i_left_eq hP hl hw hx, s_left_eq hP hl hw hx, i_right_eq hP hl hw hx, s_right_eq hP hl hw hx]
  simp
theorem times9_ok {y : List Int} (hy : Vec p (2 ^ w.length) y) : l_times9 p w x y = some (mulp p w x y) := by
  obtain ⟨hP, hl, hw, _⟩ := isDb_iff hD
  have h16 := two_le hl
  have e := hx.1
  have e2 := hy.1
  have hsz : szM [x, y] := ⟨by simp, fun z hz => by
    simp only [List.mem_cons, List.not_mem_nil, or_false] at hz
    rcases hz with rfl | rfl <;> omega⟩
  have hall : [x, y].all (elB p (2 ^ w.length)) = true := by simp [elB_iff.2 hx, elB_iff.2 hy]
  unfold l_times9 i_DoubleTimes
  rw [i_checkElements_eq (by omega) hsz, some_bind, if_pos hD]
  simp only [hall, if_true, not_true_eq_false, if_false, i_Doubling_times_eq hP hl hw hx hy, some_bind]
end
theorem apply_ok {p : Int} {n : Nat} {m : List (List Int)} {v : List Int} (hP : isP p = true) (hn0 : 1 ≤ n) (hn : n ≤ 16) (hm : Mat p n n m) (hv : Vec p n v) : i_ApplyMatrix p m v = some (applyv p n n m v, 0) := by
  obtain ⟨x1, x2, x3⟩ := isMat_of hP hm hn0 hn hn0 hn
  have e := hv.1
  rw [i_ApplyMatrix_eq (hm.sz (by omega) (by omega)) (by omega)]
  unfold apV apC
  rw [if_pos x1, if_pos x1, if_pos ⟨by omega, hv.nums⟩, if_pos ⟨by omega, hv.nums⟩, x2, x3]
theorem norm_diag_ok {p : Int} {w : List Int} (hD : isDb p w = true) : i_NormDiagonal p w = some (dgv p w w.length, 0) := by
  obtain ⟨hP, hl, hw, _⟩ := isDb_iff hD
  unfold i_NormDiagonal
  rw [i_IsDoubling_eq (by omega), some_bind, hD]
  simp only [Bool.true_eq_false, if_false, i_diag_eq hP hl hw, some_bind]
theorem pair_loop {p : Int} {w x a b : List Int} (hP : isP p = true) (hl : w.length ≤ 4) (hx : x.length = 2 ^ w.length) (ha : Vec p (2 ^ w.length) a) (hb : Vec p (2 ^ w.length) b) :
    loop (l_FnMultiplicationMatrices_L0 ((p, w), x) (dgv p w w.length, 0)) BIG (a, b, 0, 0) = some (sumN (fun i => gI (dgv p w w.length) i * gI a i * gI b i) (2 ^ w.length) % p) := by
  have hp := isP_le hP
  have h16 := two_le hl
  have hd := dgv_vec (p := p) (by omega) w w.length
  obtain ⟨r, h1, h2⟩ := loop_inv (step := l_FnMultiplicationMatrices_L0 ((p, w), x) (dgv p w w.length, 0)) (fun s => ∃ k : Nat, s = (a, b, sumN (fun i => gI (dgv p w w.length) i * gI a i * gI b i) k % p, (k : Int)) ∧ k ≤ 2 ^ w.length) (fun s => 2 ^ w.length - s.2.2.2.toNat)
    (fun r => r = sumN (fun i => gI (dgv p w w.length) i * gI a i * gI b i) (2 ^ w.length) % p) (s := (a, b, 0, 0)) ⟨0, by simp [sumN], by omega⟩ (by rw [BIG_val]; simp only []; omega) (by
      rintro s ⟨k, rfl, hk⟩
      unfold l_FnMultiplicationMatrices_L0
      by_cases hkn : k < 2 ^ w.length
      · refine .inl ?_
        have d1 := hd.get hkn
        have a1 := ha.get hkn
        have b1 := hb.get hkn
        have m0 := mod_num (a := sumN (fun i => gI (dgv p w w.length) i * gI a i * gI b i) k) (p := p) (by omega)
        have q1 := mul_abs (a := gI (dgv p w w.length) k) (b := gI a k) (A := 13) (B := 13) (by omega) (by omega)
        have q2 := mul_abs (a := gI (dgv p w w.length) k * gI a k) (b := gI b k) (A := 169) (B := 13) (by omega) (by omega)
        have n1 := Int.mul_nonneg d1.1 a1.1
        have n2 := Int.mul_nonneg n1 b1.1
        have w1 : w64 (gI (dgv p w w.length) k * gI a k) = gI (dgv p w w.length) k * gI a k := w_in (by omega) (by omega)
        have w2 : w64 (gI (dgv p w w.length) k * gI a k * gI b k) = gI (dgv p w w.length) k * gI a k * gI b k := w_in (by omega) (by omega)
        have w3 : w64 (sumN (fun i => gI (dgv p w w.length) i * gI a i * gI b i) k % p + gI (dgv p w w.length) k * gI a k * gI b k) = sumN (fun i => gI (dgv p w w.length) i * gI a i * gI b i) k % p + gI (dgv p w w.length) k * gI a k * gI b k := w_in (by omega) (by omega)
        have w4 : (sumN (fun i => gI (dgv p w w.length) i * gI a i * gI b i) k % p + gI (dgv p w w.length) k * gI a k * gI b k).tmod p = (sumN (fun i => gI (dgv p w w.length) i * gI a i * gI b i) k % p + gI (dgv p w w.length) k * gI a k * gI b k) % p := tmod_nn (by omega)
        have el := hd.1
        have ela := ha.1
        have elb := hb.1
        simp only [show ((k : Int) < (x.length : Int)) = True from eq_true (by omega), if_true, idxI (show k < (dgv p w w.length).length by omega), idxI (show k < a.length by omega), idxI (show k < b.length by omega), some_bind, w1, w2, w3, w4]
        rw [chk_bind (by omega), w_in (by omega) (by omega)]
        refine ⟨_, rfl, ⟨k + 1, ?_, by omega⟩, by simp only []; omega⟩
        simp only [sumN, Prod.mk.injEq, true_and]
        refine ⟨?_, rfl⟩
        rw [Int.add_emod, emm, ← Int.add_emod]
      · have : k = 2 ^ w.length := by omega
        subst this
        refine .inr ⟨_, ?_, rfl⟩
        simp only [show (((2 ^ w.length : Nat) : Int) < (x.length : Int)) = False from eq_false (by omega), if_false])
  rw [h1, h2]
section
variable {p : Int} {w a b : List Int} (hP : isP p = true) (hl : w.length ≤ 3) (hw : Vec p w.length w) (ha : Vec p (2 ^ w.length) a) (hb : Vec p (2 ^ w.length) b) (ha0 : gI a 0 = 0) (hb0 : gI b 0 = 0)
include hP hl hw ha hb ha0 hb0
/-- The entries of the two products, added. -/
theorem anti_at {i k : Nat} (hi : i < 2 ^ w.length) (hk : k < 2 ^ w.length) :
    (gI (gR (timesm p (2 ^ w.length) (2 ^ w.length) (2 ^ w.length) (leftm p w a) (leftm p w b)) i) k + gI (gR (timesm p (2 ^ w.length) (2 ^ w.length) (2 ^ w.length) (leftm p w b) (leftm p w a)) i) k) % p =
      if i = k then (2 * (p - sumN (fun i => gI (dgv p w w.length) i * gI a i * gI b i) (2 ^ w.length) % p)) % p else 0 := by
  have hp := isP_le hP
  rw [Int.add_emod, left_two hP (by omega) hw ha hb hi hk, left_two hP (by omega) hw hb ha hi hk, ← Int.add_emod]
  have hc := cliff (p := p) hl w a b (axis (2 ^ w.length) k) ha0 hb0 hi
  rw [axis_at hk hi] at hc
  have hS : sumN (fun i => gI (dgv p w w.length) i * gI a i * gI b i) (2 ^ w.length) % p = sumN (fun i => sgs i * axS w.length w i i * (gI a i * gI b i)) (2 ^ w.length) % p := by
    refine sumN_mod fun t ht => ?_
    rw [Int.mul_assoc]
    exact mul_mod_l (dgv_at (p := p) (by omega) w.length w t ht)
  unfold mulp
  rw [hc]
  by_cases e : i = k
  · rw [if_pos e, if_pos e, Int.mul_one]
    rw [mod_dvd]
    have h1 : p ∣ sumN (fun i => gI (dgv p w w.length) i * gI a i * gI b i) (2 ^ w.length) % p - sumN (fun i => sgs i * axS w.length w i i * (gI a i * gI b i)) (2 ^ w.length) := by rw [← mod_dvd, emm, hS]
    generalize sumN (fun i => gI (dgv p w w.length) i * gI a i * gI b i) (2 ^ w.length) % p = s at h1 ⊢
    generalize sumN (fun i => sgs i * axS w.length w i i * (gI a i * gI b i)) (2 ^ w.length) = t at h1 ⊢
    have : -2 * t - 2 * (p - s) = 2 * (s - t) - p * 2 := by grind
    rw [this]
    exact Int.dvd_sub (Int.dvd_mul_of_dvd_right h1) (Int.dvd_mul_right p 2)
  · rw [if_neg e, if_neg e, Int.mul_zero, Int.zero_emod]
theorem anti_loop (x : List Int) {r : Int} (hr : r = sumN (fun i => gI (dgv p w w.length) i * gI a i * gI b i) (2 ^ w.length) % p) :
    loop (l_FnMultiplicationMatrices_L1 ((p, w), x) (timesm p (2 ^ w.length) (2 ^ w.length) (2 ^ w.length) (leftm p w a) (leftm p w b), 0) (timesm p (2 ^ w.length) (2 ^ w.length) (2 ^ w.length) (leftm p w b) (leftm p w a), 0) r) BIG 0 = some (.inl ()) := by
  have hp := isP_le hP
  have h16 := two_le (n := w.length) (by omega)
  have hr0 : 0 ≤ r ∧ r < p := by rw [hr]; exact mod_num (by omega)
  have m1 := timesm_mat (p := p) (by omega) (2 ^ w.length) (2 ^ w.length) (2 ^ w.length) (leftm p w a) (leftm p w b)
  have m2 := timesm_mat (p := p) (by omega) (2 ^ w.length) (2 ^ w.length) (2 ^ w.length) (leftm p w b) (leftm p w a)
  have key := fun i (hi : i < 2 ^ w.length) k (hk : k < 2 ^ w.length) => anti_at hP hl hw ha hb ha0 hb0 hi hk
  generalize timesm p (2 ^ w.length) (2 ^ w.length) (2 ^ w.length) (leftm p w a) (leftm p w b) = A at m1 key ⊢
  generalize timesm p (2 ^ w.length) (2 ^ w.length) (2 ^ w.length) (leftm p w b) (leftm p w a) = B at m2 key ⊢
  rw [← hr] at key
  have e1 := m1.1
  have e2 := m2.1
  have inner : ∀ i : Nat, i < 2 ^ w.length → loop (l_FnMultiplicationMatrices_L2 ((p, w), x) (A, 0) (B, 0) r (i : Int)) BIG 0 = some (.inl ()) := by
    intro i hi
    have r1 := (m1.row hi).1
    have r2 := (m2.row hi).1
    obtain ⟨q, g1, g2⟩ := any_loop (l_FnMultiplicationMatrices_L2 ((p, w), x) (A, 0) (B, 0) r (i : Int)) (2 ^ w.length) (fun _ => false) (fun _ => .inl 0) (by rw [BIG_val]; omega)
      (fun k hk _ => by
        unfold l_FnMultiplicationMatrices_L2
        have x1 := (m1.row hi).get hk
        have x2 := (m2.row hi).get hk
        have w1 : w64 (p - r) = p - r := w_in (by omega) (by omega)
        have w2 : w64 (2 * (p - r)) = 2 * (p - r) := w_in (by omega) (by omega)
        have w3 : w64 (gI (gR A i) k + gI (gR B i) k) = gI (gR A i) k + gI (gR B i) k := w_in (by omega) (by omega)
        have t1 : (2 * (p - r)).tmod p = (2 * (p - r)) % p := tmod_nn (by omega)
        have t2 : (gI (gR A i) k + gI (gR B i) k).tmod p = (gI (gR A i) k + gI (gR B i) k) % p := tmod_nn (by omega)
        have hk' := key i hi k hk
        have want : ((if (i : Int) = (k : Int) then (chk (¬ p = 0)).bind fun _ => some ((w64 (2 * (w64 (p - r)))).tmod p) else some 0 : Option Int)) = some ((gI (gR A i) k + gI (gR B i) k) % p) := by
          rw [hk']
          by_cases e : i = k
          · rw [if_pos (by omega), if_pos e, chk_bind (by omega), w1, w2, t1]
          · rw [if_neg (by omega), if_neg e]
        simp only [idxR (show i < A.length by omega), idxR (show i < B.length by omega), some_bind, show ((k : Int) < ((gR A i).length : Int)) = True from eq_true (by omega), if_true, ilt_true (show (k : Int) < ((gR B i).length : Int) by omega), want, idxI (show k < (gR A i).length by omega), idxI (show k < (gR B i).length by omega), w3, t2, not_true_eq_false, if_false]
        rw [chk_bind (by omega), w_in (by omega) (by omega)]
        rfl) (fun k hk hf => by cases hf) (by
        unfold l_FnMultiplicationMatrices_L2
        simp only [idxR (show i < A.length by omega), some_bind, show (((2 ^ w.length : Nat) : Int) < ((gR A i).length : Int)) = False from eq_false (by omega), if_false, Bool.false_eq_true])
    rcases g2 with ⟨rfl, _⟩ | ⟨k, _, _, hf, _⟩
    · exact g1
    · cases hf
  obtain ⟨q, g1, g2⟩ := any_loop (l_FnMultiplicationMatrices_L1 ((p, w), x) (A, 0) (B, 0) r) (2 ^ w.length) (fun _ => false) (fun _ => false) (by rw [BIG_val]; omega)
    (fun i hi _ => by
      unfold l_FnMultiplicationMatrices_L1
      simp only [show ((i : Int) < (A.length : Int)) = True from eq_true (by omega), if_true, inner i hi, some_bind]
      rw [w_in (by omega) (by omega)]
      rfl) (fun k hk hf => by cases hf) (by
      unfold l_FnMultiplicationMatrices_L1
      simp only [show (((2 ^ w.length : Nat) : Int) < (A.length : Int)) = False from eq_false (by omega), if_false])
  rcases g2 with ⟨rfl, _⟩ | ⟨k, _, _, hf, _⟩
  · exact g1
  · cases hf
end
theorem LawMultiplicationMatrices {c : List Int} (hc : c.length ≤ 9223372036854775807) (hb : ∀ x ∈ c, 0 ≤ x ∧ x ≤ 255) : l_FnMultiplicationMatrices c = some true := by
  unfold l_FnMultiplicationMatrices l_big
  rw [some_bind]
  by_cases hbig : (4096 : Int) < (c.length : Int)
  · rw [ilt_true hbig, if_pos rfl]
  rw [ilt_false hbig]
  simp only [Bool.false_eq_true, if_false]
  obtain ⟨p, w, x, e0, p1, p2, lw, lx⟩ := DrawLeft_eq (c := c) (by omega) hb
  rw [e0, some_bind]
  simp only []
  by_cases h0 : elC p w x = 0
  rotate_left
  · obtain ⟨b1, b2, b3, b4⟩ := lefts_bad (p := p) (w := w) (x := x) (by omega) (by omega) h0
    simp only [b1, b2, b3, b4, some_bind, not_true_eq_false, if_false, same9_self (m := []) ⟨by simp, by simp⟩, Bool.not_true, Bool.false_eq_true, h0, not_false_eq_true, if_true]
    simp [ieq]
  obtain ⟨hD, hx⟩ := elC_zero h0
  obtain ⟨hP, hl, hw, _⟩ := isDb_iff hD
  have hp := isP_le hP
  have h16 := two_le hl
  have hpos := two_pos w.length
  obtain ⟨b1, b2, b3, b4⟩ := lefts_ok hD hx
  have mL := leftm_mat hP hl hw hx
  have mR := rightm_mat hP hl hw hx
  obtain ⟨h5, e5, S5⟩ := roll_eq (c := c) 3003 (by omega) hb
  obtain ⟨y, a6, h6, e6, hy, S6⟩ := element9_eq (h := h5) (p := p) (w := w) S5 (by omega) (by omega) hl
  have f1 := apply_ok hP hpos h16 mL hy
  have f2 := apply_ok hP hpos h16 mR hy
  rw [left_apply hP hl hw hx hy] at f1
  rw [right_apply hP hl hw hx hy] at f2
  have f3 := times9_ok hD hx hy
  have f4 := times9_ok hD hy hx
  have v1 := (mulp_vec hP hl hw hx hy).1
  have v2 := (mulp_vec hP hl hw hy hx).1
  have g1 := likeI_self (v := mulp p w x y) (by omega)
  have g2 := likeI_self (v := mulp p w y x) (by omega)
  simp only [b1, b2, b3, b4, some_bind, not_true_eq_false, if_false, same9_self (mL.sz (by omega) (by omega)), same9_self (mR.sz (by omega) (by omega)), Bool.not_true, Bool.false_eq_true, e5, e6, f1, f2, f3, f4, g1, g2, Bool.true_eq_false]
  by_cases h3 : (3 : Int) < (w.length : Int)
  · simp only [h3, if_true]
  have hx1 := hx.1
  have hy1 := hy.1
  have px := purev_vec hpos (by omega) hx
  have py := purev_vec hpos (by omega) hy
  simp only [h3, if_false]
  rw [chk_bind (by omega), chk_bind (by simp only [List.length_cons, List.length_nil, List.length_drop]; omega), chk_bind (by omega), chk_bind (by simp only [List.length_cons, List.length_nil, List.length_drop]; omega)]
  have ex : [0] ++ x.drop 1 = purev x := rfl
  have ey : [0] ++ y.drop 1 = purev y := rfl
  rw [ex, ey]
  obtain ⟨k1, _, _, _⟩ := lefts_ok hD px
  obtain ⟨k2, _, _, _⟩ := lefts_ok hD py
  have mA := leftm_mat hP hl hw px
  have mB := leftm_mat hP hl hw py
  have k3 := mul_ok hP mA hpos h16 hpos h16 mB hpos h16
  have k4 := mul_ok hP mB hpos h16 hpos h16 mA hpos h16
  have k5 := norm_diag_ok hD
  have t1 := (timesm_mat (p := p) (by omega) (2 ^ w.length) (2 ^ w.length) (2 ^ w.length) (leftm p w (purev x)) (leftm p w (purev y))).1
  have t2 := (timesm_mat (p := p) (by omega) (2 ^ w.length) (2 ^ w.length) (2 ^ w.length) (leftm p w (purev y)) (leftm p w (purev x))).1
  have t3 := mA.1
  have t4 := (dgv_vec (p := p) (by omega) w w.length).1
  have z1 := pair_loop (x := x) hP hl hx1 px py
  have z2 := anti_loop hP (by omega) hw px py (purev_zero x) (purev_zero y) x rfl
  simp only [k1, k2, k3, k4, k5, some_bind, not_true_eq_false, if_false, t1, t2, t3, t4, hx1, ieq_self, Bool.not_true, Bool.false_eq_true, z1, z2]
end Go.Vam
