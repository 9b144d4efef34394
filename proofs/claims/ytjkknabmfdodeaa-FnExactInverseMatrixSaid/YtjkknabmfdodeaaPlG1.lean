import Derived.Test.YtjkknabmfdodeaaPlG0
import Derived.Test.YtjkknabmfdodeaaFnF
import Derived.Test.YtjkknabmfdodeaaFnG
import Derived.Test.YtjkknabmfdodeaaFnE
import Derived.Test.YtjkknabmfdodeaaFnH
import Derived.Test.YtjkknabmfdodeaaFnI
/- Plain laws (2): a determinant is 0 just where the table sends something to nothing. -/
namespace Go.Vam
open Go Go.RowKit
set_option linter.unusedSimpArgs false
set_option linter.unusedVariables false
set_option linter.unusedSectionVars false

/-- A row less the multiple of R that clears column k. -/
def clp (p : Int) (c k : Nat) (R v : List Int) : List Int := plusv p c v R ((p - gI v k) * invp p (gI R k) % p)
section
variable {p : Int} {r : Nat} (hP : isP p = true) (hr : r ≤ 1048576)
include hP hr
theorem det_clear2 {M m0 : List (List Int)} {R : List Int} {k : Nat} {d0 : Int} (hk : k < r) (hM : Mat p r r M) (hMk : gR M k = R) (hR : gI R k ≠ 0) :
    ∃ x, loop (s_l02Det_L2 p (m0, d0, (k : Int)) (invp p (gI R k))) BIG (M, ((k + 1 : Nat) : Int)) = some x ∧ loop (i_field_determinant_L2 p (m0, d0, (k : Int))) BIG (M, ((k + 1 : Nat) : Int)) = some x ∧
      (Mat p r r x ∧ ∀ j, j < r → gR x j = if k < j then clp p r k R (gR M j) else gR M j) := by
  have hp := isP_le hP
  have hRk := (hMk ▸ hM.row hk : Vec p r R)
  have e4 := hRk.get hk
  have e5 := hRk.1
  obtain ⟨i1, i2, i3⟩ := inv_facts (a := gI R k) hP (by omega) e4.2
  have v2 := i_field_inv_eq (a := gI R k) hP (by omega) e4.2
  unfold clp
  generalize invp p (gI R k) = iv at i1 i2 i3 v2
  refine loop_two (fun s => Mat p r r s.1 ∧ ∃ i : Nat, s.2 = (i : Int) ∧ i ≤ r ∧ k < i ∧ ∀ j, j < r → gR s.1 j = if k < j ∧ j < i then plusv p r (gR M j) R ((p - gI (gR M j) k) * iv % p) else gR M j) (fun s => r - s.2.toNat) _ ⟨hM, k + 1, rfl, by omega, by omega, fun j _ => by rw [if_neg (by omega)]⟩ (by rw [BIG_val]; simp only []; omega) ?_
  rintro ⟨m, t⟩ ⟨hm, i, rfl, hi, hki, hg⟩
  simp only [] at hm hg
  have hmk : gR m k = R := by rw [hg k hk, if_neg (by omega), hMk]
  unfold s_l02Det_L2 i_field_determinant_L2
  have e1 := hm.1
  by_cases hir : i < r
  · have e2 := (hm.row hir).1
    have e3 := (hm.row hir).get hk
    have hgi : gR m i = gR M i := by rw [hg i hir, if_neg (by omega)]
    refine .inl ?_
    have w1 : w64 (p - gI (gR m i) k) = p - gI (gR m i) k := w_in (by omega) (by omega)
    have w2 : w64 (0 - gI (gR m i) k) = 0 - gI (gR m i) k := w_in (by omega) (by omega)
    have q1 := mul_abs (a := p - gI (gR m i) k) (b := iv) (A := 13) (B := 13) (by omega) (by omega)
    have q2 := mul_abs (a := 0 - gI (gR m i) k) (b := iv) (A := 13) (B := 13) (by omega) (by omega)
    have q3 := Int.mul_nonneg (a := p - gI (gR m i) k) (b := iv) (by omega) (by omega)
    have w3 : w64 ((p - gI (gR m i) k) * iv) = (p - gI (gR m i) k) * iv := w_in (by omega) (by omega)
    have w4 : w64 ((0 - gI (gR m i) k) * iv) = (0 - gI (gR m i) k) * iv := w_in (by omega) (by omega)
    have w5 : ((p - gI (gR m i) k) * iv).tmod p = (p - gI (gR m i) k) * iv % p := tmod_nn (by omega)
    have hn := mod_num (a := (p - gI (gR m i) k) * iv) (p := p) (by omega)
    have f1 := s_l02Plus_eq (p := p) (n := r) (a := gR m i) (b := R) (k := (p - gI (gR m i) k) * iv % p) (by omega) (by omega) hr hn.1 (by omega) (hm.row hir) hRk
    have f2 := i_field_plus_eq (p := p) (n := r) (a := gR m i) (b := R) (k := (0 - gI (gR m i) k) * iv) (by omega) (by omega) hr (by omega) (hm.row hir) hRk
    have f3 : plusv p r (gR m i) R ((0 - gI (gR m i) k) * iv) = plusv p r (gR m i) R ((p - gI (gR m i) k) * iv % p) := by
      refine plusv_congr ?_
      rw [Int.emod_emod_of_dvd _ (Int.dvd_refl p)]
      have : (p - gI (gR m i) k) * iv = (0 - gI (gR m i) k) * iv + p * iv := by rw [← Int.add_mul]; congr 1; omega
      rw [this, Int.add_mul_emod_self_left]
    simp only [show (i : Int) < (m.length : Int) by omega, if_true, idxR (show i < m.length by omega), idxR (show k < m.length by omega), idxI (show k < (gR m i).length by omega), some_bind, hmk, idxI (show k < R.length by omega), chk_bind (show ¬ p = 0 by omega), v2, w1, w2, w3, w4, w5, f1, f2, f3, Int.toNat_natCast]
    refine ⟨_, rfl, rfl, ⟨hm.set hir (plusv_vec (by omega) ..), i + 1, ?_, by omega, by omega, fun j hj => ?_⟩, ?_⟩
    · rw [w_in (by omega) (by omega)]; rfl
    · simp only []
      rw [gR_set (by omega)]
      by_cases hij : i = j
      · subst hij
        rw [if_pos rfl, if_pos ⟨hki, by omega⟩, hgi]
      · rw [if_neg hij, hg j hj]
        by_cases h : k < j ∧ j < i
        · rw [if_pos h, if_pos ⟨h.1, by omega⟩]
        · rw [if_neg h, if_neg (by omega)]
    · rw [w_in (by omega) (by omega)]; simp only []; omega
  · refine .inr ?_
    simp only [show ¬ (i : Int) < (m.length : Int) by omega, if_false]
    refine ⟨_, rfl, rfl, hm, fun j hj => ?_⟩
    rw [hg j hj]
    by_cases h : k < j
    · rw [if_pos ⟨h, by omega⟩, if_pos h]
    · rw [if_neg (by omega), if_neg h]
end

section
variable {p : Int} {r k : Nat} {M y : List (List Int)} {R : List Int} (hP : isP p = true) (hk : k < r) (hM : Mat p r r M) (hMk : gR M k = R) (hR : gI R k ≠ 0)
  (hy : ∀ j, j < r → gR y j = if k < j then clp p r k R (gR M j) else gR M j)
include hP hk hM hMk hR hy
theorem clear_ker (x : Nat → Int) : KerP p r r y x ↔ KerP p r r M x := by
  have hyk : gR y k = R := by rw [hy k hk, if_neg (by omega), hMk]
  have hrow : ∀ j, j < r → k < j → rd r (gR y j) x % p = (rd r (gR M j) x + ((p - gI (gR M j) k) * invp p (gI R k) % p) * rd r R x) % p := by
    intro j hj hkj
    rw [hy j hj, if_pos hkj]
    exact rd_plusv x
  constructor
  · intro h j hj
    have hRx : p ∣ rd r R x := by have := h k hk; rwa [hyk] at this
    by_cases hkj : k < j
    · have h1 := (dvd_congr (hrow j hj hkj)).1 (h j hj)
      exact (Int.dvd_add_left (Int.dvd_mul_of_dvd_right hRx)).1 h1
    · have := h j hj; rwa [hy j hj, if_neg hkj] at this
  · intro h j hj
    have hRx : p ∣ rd r R x := by have := h k hk; rwa [hMk] at this
    by_cases hkj : k < j
    · exact (dvd_congr (hrow j hj hkj)).2 (Int.dvd_add (h j hj) (Int.dvd_mul_of_dvd_right hRx))
    · rw [hy j hj, if_neg hkj]; exact h j hj
theorem clear_tri (ht : Tri r k M) : Tri r (k + 1) y := by
  have hp := isP_le hP
  have hRk := (hMk ▸ hM.row hk : Vec p r R)
  have e4 := hRk.get hk
  obtain ⟨i1, i2, i3⟩ := inv_facts (a := gI R k) hP (by omega) e4.2
  intro j hj
  by_cases hjk : j < k
  · obtain ⟨t1, t2⟩ := ht j hjk
    refine ⟨by rw [hy j (by omega), if_neg (by omega)]; exact t1, fun i hi hir => ?_⟩
    rw [hy i hir]
    split
    · unfold clp
      have hRj : gI R j = 0 := by rw [← hMk]; exact t2 k hjk hk
      exact plusv_zero_at (by omega) (t2 i hi hir) hRj
    · exact t2 i hi hir
  · have hjk' : j = k := by omega
    subst hjk'
    refine ⟨by rw [hy j hk, if_neg (by omega), hMk]; exact hR, fun i hi hir => ?_⟩
    rw [hy i hir, if_pos hi]
    unfold clp
    rw [plusv_at hk]
    generalize gI (gR M i) j = e
    generalize gI R j = a at i3
    generalize invp p a = v at i3
    have h1 : (p - e) * v % p * a % p = (p - e) % p := by
      rw [mul_mod_l (emm _ _), Int.mul_assoc, Int.mul_comm v, Int.mul_emod, i3, Int.mul_one, emm]
    rw [Int.add_emod, h1, ← Int.add_emod]
    have : e + (p - e) = p := by omega
    rw [this, Int.emod_self]
end
theorem swap_row {p : Int} {r x k : Nat} {M : List (List Int)} (hM : Mat p r r M) (hx : x < r) (hk : k < r) (i : Nat) : gR ((M.set x (gR M k)).set k (gR M x)) i = if i = k then gR M x else if i = x then gR M k else gR M i := by
  have := hM.1
  rw [gR_set (by rw [List.length_set]; omega), gR_set (by omega)]
  by_cases h : i = k
  · rw [if_pos h.symm, if_pos h]
  · rw [if_neg (fun e => h e.symm), if_neg h]
    by_cases h2 : i = x
    · rw [if_pos h2.symm, if_pos h2]
    · rw [if_neg (fun e => h2 e.symm), if_neg h2]
theorem swap_ker {p : Int} {r x k : Nat} {M : List (List Int)} (hM : Mat p r r M) (hx : x < r) (hk : k < r) (u : Nat → Int) : KerP p r r ((M.set x (gR M k)).set k (gR M x)) u ↔ KerP p r r M u := by
  constructor
  · intro h i hi
    by_cases h1 : i = k
    · have := h x hx
      rw [swap_row hM hx hk] at this
      by_cases h2 : x = k
      · rw [if_pos h2, h2] at this; rw [h1]; exact this
      · rw [if_neg h2, if_pos rfl] at this; rw [h1]; exact this
    · by_cases h2 : i = x
      · have := h k hk
        rw [swap_row hM hx hk, if_pos rfl] at this
        rw [h2]; exact this
      · have := h i hi
        rw [swap_row hM hx hk, if_neg h1, if_neg h2] at this
        exact this
  · intro h i hi
    rw [swap_row hM hx hk]
    split
    · exact h x hx
    · split
      · exact h k hk
      · exact h i hi
theorem swap_tri {p : Int} {r x k : Nat} {M : List (List Int)} (hM : Mat p r r M) (hx : x < r) (hk : k < r) (hkx : k ≤ x) (ht : Tri r k M) : Tri r k ((M.set x (gR M k)).set k (gR M x)) := by
  intro j hj
  obtain ⟨t1, t2⟩ := ht j hj
  refine ⟨by rw [swap_row hM hx hk, if_neg (by omega), if_neg (by omega)]; exact t1, fun i hi hir => ?_⟩
  rw [swap_row hM hx hk]
  split
  · exact t2 x (by omega) hx
  · split
    · exact t2 k hj hk
    · exact t2 i hi hir

theorem find_eq2 {p : Int} {r c : Nat} {m : List (List Int)} (hm : Mat p r c m) {k s : Nat} (hr : r ≤ 1048576) (hk : k < c) (hs : s ≤ r) :
    ∃ b, loop (findStep m (k : Int)) BIG (s : Int) = some b ∧ ∃ x : Nat, b = (x : Int) ∧ s ≤ x ∧ x ≤ r ∧ (x < r → gI (gR m x) k ≠ 0) ∧ ∀ i, s ≤ i → i < x → gI (gR m i) k = 0 := by
  refine loop_inv (fun t => ∃ x : Nat, t = (x : Int) ∧ s ≤ x ∧ x ≤ r ∧ ∀ i, s ≤ i → i < x → gI (gR m i) k = 0) (fun t => r - t.toNat) _ ⟨s, rfl, by omega, hs, fun i h1 h2 => by omega⟩ (by rw [BIG_val]; omega) ?_
  rintro t ⟨x, rfl, h1, h2, h0⟩
  unfold findStep
  have e1 := hm.1
  by_cases hx : x < r
  · have e2 := (hm.row hx).1
    rw [if_pos (by omega), idxR (by omega), some_bind, idxI (by omega), some_bind, some_bind]
    by_cases hz : gI (gR m x) k = 0
    · simp only [hz, ieq_self, if_true]
      refine .inl ⟨_, rfl, ⟨x + 1, ?_, by omega, by omega, fun i i1 i2 => by
        rcases Nat.lt_succ_iff_lt_or_eq.1 i2 with h | h
        · exact h0 i i1 h
        · rw [h]; exact hz⟩, ?_⟩
      · rw [w_in (by omega) (by omega)]; rfl
      · rw [w_in (by omega) (by omega)]; omega
    · have : ieq (gI (gR m x) k) 0 = false := by simp [ieq, hz]
      rw [this]
      exact .inr ⟨_, rfl, x, rfl, h1, h2, fun _ => hz, h0⟩
  · rw [if_neg (by omega), some_bind]
    exact .inr ⟨_, rfl, x, rfl, h1, h2, fun h => absurd h hx, h0⟩

section
variable {p : Int} {r : Nat} (hP : isP p = true) (hr : r ≤ 1048576)
include hP hr
theorem det_two2 {m v1 : List (List Int)} (hm : Mat p r r m) (hv : v1.length = r) :
    ∃ b, loop (s_l02Det_L0 p) BIG (m, 1, 0) = some b ∧ loop (i_field_determinant_L0 p v1) BIG (m, 1, 0) = some b ∧ (match b with | .inl d => d ≠ 0 ∧ ¬ Sg p r r m | .inr d => d = 0 ∧ Sg p r r m) := by
  have hp := isP_le hP
  generalize hM0 : m = M0
  rw [hM0] at hm
  refine loop_two (fun s => Mat p r r s.1 ∧ 0 ≤ s.2.1 ∧ s.2.1 < p ∧ s.2.1 ≠ 0 ∧ (∀ u, KerP p r r s.1 u ↔ KerP p r r M0 u) ∧ ∃ k : Nat, s.2.2 = (k : Int) ∧ k ≤ r ∧ Tri r k s.1) (fun s => r - s.2.2.toNat) _ ⟨hm, (by decide : (0 : Int) ≤ 1), (show (1 : Int) < p by omega), (by decide : (1 : Int) ≠ 0), fun _ => Iff.rfl, 0, rfl, by omega, fun j hj => by omega⟩ (by rw [BIG_val]; simp only []; omega) ?_
  rintro ⟨m, d, t⟩ ⟨hm, hd0, hd1, hdn, hker, k, rfl, hk, htri⟩
  simp only [] at hm hd0 hd1 hdn hker htri
  have e1 := hm.1
  unfold s_l02Det_L0 i_field_determinant_L0
  by_cases hkr : k < r
  · obtain ⟨b, h1, x, rfl, h2, h3, h4, hz⟩ := find_eq2 hm (k := k) (s := k) hr hkr hk
    have l1 : s_l02Det_L1 (m, d, (k : Int)) = findStep m (k : Int) := rfl
    have l2 : i_field_determinant_L1 (m, d, (k : Int)) = findStep m (k : Int) := rfl
    have c1 : (k : Int) < (m.length : Int) := by omega
    have c2 : (k : Int) < (v1.length : Int) := by omega
    by_cases hx : x = r
    · refine .inr ?_
      have hx' : (x : Int) = (m.length : Int) := by omega
      simp only [c1, c2, if_true, l1, l2, h1, some_bind, hx']
      obtain ⟨u, u1, u2⟩ := tri_stuck hP hm htri hkr fun i hi1 hi2 => hz i hi1 (by omega)
      exact ⟨_, rfl, rfl, rfl, u, u1, (hker u).1 u2⟩
    refine .inl ?_
    have hx' : ¬ (x : Int) = (m.length : Int) := by omega
    have hxr : x < r := by omega
    have hne := h4 hxr
    have e3 := (hm.row hxr).1
    have e4 := (hm.row hxr).get hkr
    obtain ⟨i1, i2, i3⟩ := inv_facts (a := gI (gR m x) k) hP (by omega) e4.2
    have f1 := s_l01Inv_eq (a := gI (gR m x) k) hP (by omega) e4.2
    by_cases hxk : x = k
    · have c3 : ¬ (k : Int) < (x : Int) := by omega
      have c4 : (x : Int) = (k : Int) := by omega
      have hM : Mat p r r m := hm
      have hMk : gR m k = gR m x := by rw [hxk]
      have e5 := hM.1
      obtain ⟨y, y1, y2, y3, y4⟩ := det_clear2 (p := p) (r := r) (M := m) (m0 := m) (R := gR m x) (k := k) (d0 := d) hP hr hkr hM hMk hne
      have q := mul_abs (a := d) (b := gI (gR m x) k) (A := 13) (B := 13) (by omega) (by omega)
      have q0 := Int.mul_nonneg (a := d) (b := gI (gR m x) k) (by omega) (by omega)
      have w3 : w64 (d * gI (gR m x) k) = d * gI (gR m x) k := w_in (by omega) (by omega)
      have w4 : (d * gI (gR m x) k).tmod p = d * gI (gR m x) k % p := tmod_nn (by omega)
      have w5 := i_field_num_eq (p := p) (n := d * gI (gR m x) k) (by omega) (by omega) (by omega) (by omega)
      have w6 : w64 ((k : Int) + 1) = ((k + 1 : Nat) : Int) := by rw [w_in (by omega) (by omega)]; rfl
      have hn := mod_num (a := d * gI (gR m x) k) (p := p) (by omega)
      simp only [c1, c2, if_true, l1, l2, h1, some_bind, hx', if_false, c3, not_true_eq_false, show ((x : Int) = (k : Int)) = True from eq_true c4, idxR (show k < m.length by omega), hMk, idxI (show k < (gR m x).length by omega), chk_bind (show ¬ p = 0 by omega), f1, w3, w4, w5, w6, y1, y2]
      exact ⟨_, rfl, rfl, ⟨y3, hn.1, hn.2, (fun e => ((mul_zero_mod hP ⟨hd0, hd1⟩ e4).1 e).elim hdn hne), fun u => (clear_ker hP hkr hM hMk hne y4 u).trans (hker u), k + 1, rfl, by omega, clear_tri hP hkr hM hMk hne y4 htri⟩, by simp only [Int.toNat_natCast]; omega⟩
    · have c3 : (k : Int) < (x : Int) := by omega
      have c4 : ¬ (x : Int) = (k : Int) := by omega
      have g2 : (m.set k (gR m x)).set x (gR m k) = (m.set x (gR m k)).set k (gR m x) := List.set_comm _ _ (fun h => hxk h.symm)
      have hn0 := mod_num (a := p - d) (p := p) (by omega)
      have hdn2 : (p - d) % p ≠ 0 := by
        rw [Int.emod_eq_of_lt (show 0 ≤ p - d by omega) (by omega)]; omega
      have w7 : w64 (p - d) = p - d := w_in (by omega) (by omega)
      have w8 : w64 (0 - d) = 0 - d := w_in (by omega) (by omega)
      have w9 : (p - d).tmod p = (p - d) % p := tmod_nn (by omega)
      have w10 : i_field_num p (0 - d) = some ((p - d) % p) := by
        rw [i_field_num_eq (by omega) (by omega) (by omega) (by omega)]
        have : p - d = 0 - d + p := by omega
        rw [this, Int.add_emod_right]
      have hM : Mat p r r ((m.set x (gR m k)).set k (gR m x)) := (hm.set hxr (hm.row hkr)).set hkr (hm.row hxr)
      have hMk : gR ((m.set x (gR m k)).set k (gR m x)) k = gR m x := by rw [gR_set (by rw [List.length_set]; omega), if_pos rfl]
      have e5 := hM.1
      obtain ⟨y, y1, y2, y3, y4⟩ := det_clear2 (p := p) (r := r) (M := ((m.set x (gR m k)).set k (gR m x))) (m0 := m) (R := gR m x) (k := k) (d0 := d) hP hr hkr hM hMk hne
      have q := mul_abs (a := ((p - d) % p)) (b := gI (gR m x) k) (A := 13) (B := 13) (by omega) (by omega)
      have q0 := Int.mul_nonneg (a := ((p - d) % p)) (b := gI (gR m x) k) (by omega) (by omega)
      have w3 : w64 (((p - d) % p) * gI (gR m x) k) = ((p - d) % p) * gI (gR m x) k := w_in (by omega) (by omega)
      have w4 : (((p - d) % p) * gI (gR m x) k).tmod p = ((p - d) % p) * gI (gR m x) k % p := tmod_nn (by omega)
      have w5 := i_field_num_eq (p := p) (n := ((p - d) % p) * gI (gR m x) k) (by omega) (by omega) (by omega) (by omega)
      have w6 : w64 ((k : Int) + 1) = ((k + 1 : Nat) : Int) := by rw [w_in (by omega) (by omega)]; rfl
      have hn := mod_num (a := ((p - d) % p) * gI (gR m x) k) (p := p) (by omega)
      simp only [c1, c2, if_true, l1, l2, h1, some_bind, hx', if_false, c3, c4, not_false_eq_true, idxR (show x < m.length by omega), idxR (show k < m.length by omega), idxR (show x < (m.set k (gR m x)).length by rw [List.length_set]; omega), idxR (show k < (m.set x (gR m k)).length by rw [List.length_set]; omega), Int.toNat_natCast, g2, w7, w8, w9, w10, idxR (show k < ((m.set x (gR m k)).set k (gR m x)).length by omega), hMk, idxI (show k < (gR m x).length by omega), chk_bind (show ¬ p = 0 by omega), f1, w3, w4, w5, w6, y1, y2]
      exact ⟨_, rfl, rfl, ⟨y3, hn.1, hn.2, (fun e => ((mul_zero_mod hP hn0 e4).1 e).elim hdn2 hne), fun u => ((clear_ker hP hkr hM hMk hne y4 u).trans (swap_ker hm hxr hkr u)).trans (hker u), k + 1, rfl, by omega, clear_tri hP hkr hM hMk hne y4 (swap_tri hm hxr hkr h2 htri)⟩, by simp only [Int.toNat_natCast]; omega⟩
  · refine .inr ?_
    simp only [show ¬ (k : Int) < (m.length : Int) by omega, show ¬ (k : Int) < (v1.length : Int) by omega, if_false]
    refine ⟨_, rfl, rfl, hdn, fun ⟨u, ⟨q, hq1, hq2⟩, hu⟩ => ?_⟩
    have hkk : k = r := by omega
    subst hkk
    exact hq2 (tri_free hP hm htri ((hker u).2 hu) q hq1)
theorem Det_iff {m : List (List Int)} (hm : Mat p r r m) : ∃ d, s_l02Det p m = some d ∧ i_field_determinant p m = some d ∧ (d = 0 ↔ Sg p r r m) := by
  obtain ⟨b, h1, h2, h3⟩ := det_two2 hP hr hm hm.1
  have hz := hm.sz hr hr
  unfold s_l02Det i_field_determinant
  rw [s_l01Own2_eq hz, i_cloneRows_eq hz, some_bind, some_bind, h1, h2, some_bind]
  cases b with
  | inl d => exact ⟨d, rfl, rfl, fun e => absurd e h3.1, fun e => absurd e h3.2⟩
  | inr d => exact ⟨d, rfl, rfl, fun _ => h3.2, fun _ => h3.1⟩
end
end Go.Vam

/- Plain laws: reduced rows, one put to the others at a time. -/
namespace Go.Vam
open Go Go.RowKit
set_option linter.unusedSimpArgs false
set_option linter.unusedVariables false
set_option linter.unusedSectionVars false

theorem s_l12First_lead (v : List Int) : s_l12First v = i_lead v := rfl
/-- Rows with a one of their own, nothing ahead of it, nothing else in its column. -/
structure Ech (p : Int) (n : Nat) (B : List (List Int)) (ld : Nat → Nat) : Prop where
  mat : Mat p B.length n B
  lt : ∀ j, j < B.length → ld j < n
  one : ∀ j, j < B.length → gI (gR B j) (ld j) = 1
  pre : ∀ j, j < B.length → ∀ q, q < ld j → gI (gR B j) q = 0
  col : ∀ j, j < B.length → ∀ i, i < B.length → i ≠ j → gI (gR B i) (ld j) = 0
  srt : ∀ i j, i < j → j < B.length → ld i < ld j
theorem Ech.first {p : Int} {n : Nat} {B : List (List Int)} {ld : Nat → Nat} (h : Ech p n B ld) (hn : n ≤ 1048576) {j : Nat} (hj : j < B.length) : s_l12First (gR B j) = some (ld j : Int) := by
  have e := (h.mat.row hj).1
  obtain ⟨f, f1, _, f3, f4, f5⟩ := first_two (v := gR B j) (q := ld j) (by omega) (by have := h.lt j hj; omega) (by rw [h.one j hj]; omega)
  have : f = ld j := by
    rcases Nat.lt_or_ge f (ld j) with hlt | hge
    · exact absurd (h.pre j hj f hlt) f4
    · omega
  rw [s_l12First_lead, f3, this]
section
variable {p : Int} {n : Nat} {B : List (List Int)} {ld : Nat → Nat} (hp : 3 ≤ p) (hp2 : p ≤ 13) (hn : n ≤ 1048576) (hB : Ech p n B ld) (hBl : B.length ≤ 1048576)
include hp hp2 hn hB hBl
end

/-- A row less what it has at f. -/
def lessv (p : Int) (n f : Nat) (R v : List Int) : List Int := plusv p n v R (gI v f * -1)
section
variable {p : Int} {n f : Nat} {B : List (List Int)} {R : List Int} {ld : Nat → Nat} (hp : 3 ≤ p) (hp2 : p ≤ 13) (hn : n ≤ 1048576) (hB : Ech p n B ld) (hBl : B.length ≤ 1048575) (hR : Vec p n R) (hf : f < n)
include hp hp2 hn hB hBl hR hf
end
end Go.Vam

/- Plain laws: reduced rows in order; they are told by what they send to nothing. -/
namespace Go.Vam
open Go Go.RowKit
set_option linter.unusedSimpArgs false
set_option linter.unusedVariables false
set_option linter.unusedSectionVars false

theorem mod_dvd {p a b : Int} : a % p = b % p ↔ p ∣ a - b := by
  rw [Int.emod_eq_emod_iff_emod_sub_eq_zero, Int.dvd_iff_emod_eq_zero]
def Kr (p : Int) (n : Nat) (B : List (List Int)) (u : Nat → Int) : Prop := ∀ j, j < B.length → p ∣ rd n (gR B j) u
theorem lessv_at {p : Int} {n f q : Nat} {R v : List Int} (hq : q < n) : gI (lessv p n f R v) q = (gI v q + (gI v f * -1) * gI R q) % p := plusv_at hq
theorem lessv_vec {p : Int} (hp : 0 < p) (n f : Nat) (R v : List Int) : Vec p n (lessv p n f R v) := plusv_vec hp ..
theorem lessv_idle {p : Int} {n f q : Nat} {R v : List Int} (hv : Vec p n v) (hq : q < n) (h : gI R q = 0 ∨ gI v f = 0) : gI (lessv p n f R v) q = gI v q := by
  rw [lessv_at hq]
  have e := hv.get hq
  have : gI v f * -1 * gI R q = 0 := by rcases h with h | h <;> rw [h] <;> simp
  rw [this, Int.add_zero, mod_small e.1 e.2]
/-- Rows with one row more at pos, cleared of what they had at its lead. -/
theorem Ech.put {p : Int} {n f pos : Nat} {B B' : List (List Int)} {R : List Int} {ld : Nat → Nat} (hp : 1 < p) (hB : Ech p n B ld) (hR : Vec p n R) (hf : f < n)
    (hR1 : gI R f = 1) (hRp : ∀ q, q < f → gI R q = 0) (hRl : ∀ j, j < B.length → gI R (ld j) = 0)
    (hpos : pos ≤ B.length) (hlo : ∀ j, j < pos → ld j < f) (hhi : ∀ j, pos ≤ j → j < B.length → f < ld j)
    (hl : B'.length = B.length + 1) (hg : ∀ j, j < B.length + 1 → gR B' j = if j < pos then lessv p n f R (gR B j) else if j = pos then R else lessv p n f R (gR B (j - 1))) :
    Ech p n B' (fun j => if j < pos then ld j else if j = pos then f else ld (j - 1)) ∧ ∀ u, Kr p n B' u ↔ Kr p n B u ∧ p ∣ rd n R u := by
  have hne : ∀ j, j < B.length → ld j ≠ f := by
    intro j hj
    by_cases h : j < pos
    · have := hlo j h; omega
    · have := hhi j (by omega) hj; omega
  have l1 : ∀ j, j < B.length → gI (lessv p n f R (gR B j)) (ld j) = 1 := by
    intro j hj
    rw [lessv_idle (hB.mat.row hj) (hB.lt j hj) (.inl (hRl j hj))]; exact hB.one j hj
  have l2 : ∀ j, j < B.length → ∀ i, i < B.length → i ≠ j → gI (lessv p n f R (gR B i)) (ld j) = 0 := by
    intro j hj i hi hij
    rw [lessv_idle (hB.mat.row hi) (hB.lt j hj) (.inl (hRl j hj))]; exact hB.col j hj i hi hij
  have l3 : ∀ j, j < B.length → ∀ q, q < ld j → gI (lessv p n f R (gR B j)) q = 0 := by
    intro j hj q hq
    have hln := hB.lt j hj
    by_cases h : f < ld j
    · rw [lessv_idle (hB.mat.row hj) (by omega) (.inr (hB.pre j hj f h))]; exact hB.pre j hj q hq
    · rw [lessv_idle (hB.mat.row hj) (by omega) (.inl (hRp q (by omega)))]; exact hB.pre j hj q hq
  have l4 : ∀ j, j < B.length → gI (lessv p n f R (gR B j)) f = 0 := by
    intro j hj
    rw [lessv_at hf, hR1]
    have : gI (gR B j) f + gI (gR B j) f * -1 * 1 = 0 := by omega
    rw [this]; rfl
  have l5 : ∀ j u, p ∣ rd n R u → (p ∣ rd n (lessv p n f R (gR B j)) u ↔ p ∣ rd n (gR B j) u) := by
    intro j u hu
    unfold lessv
    rw [dvd_congr (rd_plusv u)]
    exact Int.dvd_add_left (Int.dvd_mul_of_dvd_right hu)
  constructor
  · constructor
    · refine ⟨by omega, fun j hj => ?_⟩
      show Vec p n (gR B' j)
      rw [hg j (by omega)]
      split
      · exact lessv_vec (by omega) ..
      · split
        · exact hR
        · exact lessv_vec (by omega) ..
    · intro j hj
      try simp only []
      split
      · exact hB.lt j (by omega)
      · split
        · exact hf
        · exact hB.lt (j - 1) (by omega)
    · intro j hj
      try simp only []
      rw [hg j (by omega)]
      by_cases h1 : j < pos
      · simp only [h1, if_true]; exact l1 j (by omega)
      · by_cases h2 : j = pos
        · simp only [h1, h2, if_false, if_true, Nat.lt_irrefl]; exact hR1
        · simp only [h1, h2, if_false]; exact l1 (j - 1) (by omega)
    · intro j hj q hq
      try simp only [] at hq
      rw [hg j (by omega)]
      by_cases h1 : j < pos
      · simp only [h1, if_true] at hq ⊢; exact l3 j (by omega) q hq
      · by_cases h2 : j = pos
        · simp only [h1, h2, if_false, if_true, Nat.lt_irrefl] at hq ⊢; exact hRp q hq
        · simp only [h1, h2, if_false] at hq ⊢; exact l3 (j - 1) (by omega) q hq
    · intro j hj i hi hij
      try simp only []
      rw [hg i (by omega)]
      by_cases h1 : j < pos
      · rw [if_pos h1]
        by_cases g1 : i < pos
        · rw [if_pos g1]; exact l2 j (by omega) i (by omega) hij
        · rw [if_neg g1]
          by_cases g2 : i = pos
          · rw [if_pos g2]; exact hRl j (by omega)
          · rw [if_neg g2]; exact l2 j (by omega) (i - 1) (by omega) (by omega)
      · rw [if_neg h1]
        by_cases h2 : j = pos
        · rw [if_pos h2]
          by_cases g1 : i < pos
          · rw [if_pos g1]; exact l4 i (by omega)
          · rw [if_neg g1, if_neg (by omega)]; exact l4 (i - 1) (by omega)
        · rw [if_neg h2]
          by_cases g1 : i < pos
          · rw [if_pos g1]; exact l2 (j - 1) (by omega) i (by omega) (by omega)
          · rw [if_neg g1]
            by_cases g2 : i = pos
            · rw [if_pos g2]; exact hRl (j - 1) (by omega)
            · rw [if_neg g2]; exact l2 (j - 1) (by omega) (i - 1) (by omega) (by omega)
    · intro i j hij hj
      try simp only []
      by_cases h1 : j < pos
      · rw [if_pos h1, if_pos (by omega)]; exact hB.srt i j hij (by omega)
      · by_cases h2 : j = pos
        · rw [if_neg h1, if_pos h2, if_pos (by omega)]; exact hlo i (by omega)
        · rw [if_neg h1, if_neg h2]
          by_cases g1 : i < pos
          · rw [if_pos g1]; exact hB.srt i (j - 1) (by omega) (by omega)
          · rw [if_neg g1]
            by_cases g2 : i = pos
            · rw [if_pos g2]; exact hhi (j - 1) (by omega) (by omega)
            · rw [if_neg g2]; exact hB.srt (i - 1) (j - 1) (by omega) (by omega)
  · intro u
    constructor
    · intro h
      have hRu : p ∣ rd n R u := by
        have := h pos (by omega)
        rwa [hg pos (by omega), if_neg (by omega), if_pos rfl] at this
      refine ⟨fun j hj => ?_, hRu⟩
      by_cases h1 : j < pos
      · have := h j (by omega)
        rw [hg j (by omega), if_pos h1] at this
        exact (l5 j u hRu).1 this
      · have := h (j + 1) (by omega)
        rw [hg (j + 1) (by omega), if_neg (by omega), if_neg (by omega)] at this
        exact (l5 j u hRu).1 this
    · intro ⟨h, hRu⟩ j hj
      rw [hg j (by omega)]
      split
      · exact (l5 j u hRu).2 (h j (by omega))
      · split
        · exact hRu
        · exact (l5 (j - 1) u hRu).2 (h (j - 1) (by omega))

/-- Leads rise: the j-th stands at j or behind. -/
theorem Ech.ge {p : Int} {n : Nat} {B : List (List Int)} {ld : Nat → Nat} (h : Ech p n B ld) : ∀ j, j < B.length → j ≤ ld j := by
  intro j
  induction j with
  | zero => intro _; omega
  | succ j ih =>
    intro hj
    have h1 := ih (by omega)
    have h2 := h.srt j (j + 1) (by omega) hj
    omega
theorem Ech.le {p : Int} {n : Nat} {B : List (List Int)} {ld : Nat → Nat} (h : Ech p n B ld) : B.length ≤ n := by
  by_cases h0 : B.length = 0
  · omega
  · have h1 := h.ge (B.length - 1) (by omega)
    have h2 := h.lt (B.length - 1) (by omega)
    omega
def isLd (k : Nat) (ld : Nat → Nat) (q : Nat) : Bool := (List.range k).any fun j => decide (ld j = q)
theorem isLd_iff {k : Nat} {ld : Nat → Nat} {q : Nat} : isLd k ld q = true ↔ ∃ j, j < k ∧ ld j = q := by
  unfold isLd
  simp only [List.any_eq_true, List.mem_range, decide_eq_true_eq]
theorem isLd_not {k : Nat} {ld : Nat → Nat} {q : Nat} (h : isLd k ld q = false) {j : Nat} (hj : j < k) : ld j ≠ q := by
  intro e
  have := isLd_iff.2 ⟨j, hj, e⟩
  rw [h] at this; exact Bool.noConfusion this
/-- The row that a lead's place belongs to. -/
def rowOf (ld : Nat → Nat) (q : Nat) : Nat → Nat
  | 0 => 0
  | k + 1 => if ld k = q then k else rowOf ld q k
theorem rowOf_spec {ld : Nat → Nat} {q : Nat} : ∀ {k : Nat}, (∃ j, j < k ∧ ld j = q) → rowOf ld q k < k ∧ ld (rowOf ld q k) = q
  | 0, ⟨j, h, _⟩ => by omega
  | k + 1, ⟨j, h, e⟩ => by
    unfold rowOf
    by_cases hk : ld k = q
    · rw [if_pos hk]; exact ⟨by omega, hk⟩
    · rw [if_neg hk]
      have hj : j < k := by
        rcases Nat.lt_succ_iff_lt_or_eq.1 h with h | h
        · exact h
        · rw [h] at e; exact absurd e hk
      have := rowOf_spec ⟨j, hj, e⟩
      exact ⟨by omega, this.2⟩
theorem Ech.inj {p : Int} {n : Nat} {B : List (List Int)} {ld : Nat → Nat} (h : Ech p n B ld) {i j : Nat} (hi : i < B.length) (hj : j < B.length) (e : ld i = ld j) : i = j := by
  rcases Nat.lt_trichotomy i j with h1 | h1 | h1
  · have := h.srt i j h1 hj; omega
  · exact h1
  · have := h.srt j i h1 hi; omega
/-- What a place f without a lead gives: 1 at f, and at each lead what its row needs. -/
def freeF (B : List (List Int)) (ld : Nat → Nat) (f : Nat) (q : Nat) : Int :=
  if q = f then 1 else if isLd B.length ld q = true then - gI (gR B (rowOf ld q B.length)) f else 0
theorem freeF_lead {p : Int} {n f j : Nat} {B : List (List Int)} {ld : Nat → Nat} (h : Ech p n B ld) (hf : isLd B.length ld f = false) (hj : j < B.length) : freeF B ld f (ld j) = - gI (gR B j) f := by
  unfold freeF
  have e : isLd B.length ld (ld j) = true := isLd_iff.2 ⟨j, hj, rfl⟩
  rw [if_neg (isLd_not hf hj), if_pos e]
  obtain ⟨h1, h2⟩ := rowOf_spec (isLd_iff.1 e)
  rw [h.inj h1 hj h2]
theorem freeF_other {f q : Nat} {B : List (List Int)} {ld : Nat → Nat} (hq : isLd B.length ld q = false) (hne : q ≠ f) : freeF B ld f q = 0 := by
  unfold freeF
  rw [if_neg hne, hq]; rfl
theorem sumN_two {f : Nat → Int} {n i k : Nat} (hi : i < n) (hk : k < n) (hne : i ≠ k) (h : ∀ q, q < n → q ≠ i → q ≠ k → f q = 0) : sumN f n = f i + f k := by
  have e : sumN f n = sumN (fun q => if q = i then f i else if q = i then 0 else f q) n := sumN_congr fun q _ => by
    by_cases h : q = i
    · rw [if_pos h, h]
    · rw [if_neg h, if_neg h]
  have e2 : sumN (fun q => if q = i then 0 else f q) n = f k := by
    rw [sumN_one hk (fun q hq hqk => by
      try simp only []
      by_cases h1 : q = i
      · rw [if_pos h1]
      · rw [if_neg h1]; exact h q hq h1 hqk)]
    rw [if_neg (by omega)]
  have e3 := sumN_upd (fun q => if q = i then 0 else f q) i (f i) n hi (by simp)
  have e4 : sumN f n = sumN (fun q => if q = i then f i else (fun q => if q = i then 0 else f q) q) n := e
  rw [e4, e3, e2]; omega
theorem freeF_ker {p : Int} {n f : Nat} {B : List (List Int)} {ld : Nat → Nat} (h : Ech p n B ld) (hf : isLd B.length ld f = false) (hfn : f < n) : Kr p n B (freeF B ld f) := by
  intro j hj
  have : rd n (gR B j) (freeF B ld f) = 0 := by
    unfold rd
    rw [sumN_two (i := ld j) (k := f) (h.lt j hj) hfn (isLd_not hf hj) (fun q hq h1 h2 => ?_)]
    · rw [freeF_lead h hf hj, h.one j hj]
      have : freeF B ld f f = 1 := by unfold freeF; rw [if_pos rfl]
      rw [this]; omega
    · try simp only []
      cases e : isLd B.length ld q with
      | false => rw [freeF_other e h2, Int.mul_zero]
      | true =>
        obtain ⟨i, hi, he⟩ := isLd_iff.1 e
        rw [← he, h.col i hi j hj (fun e2 => h1 (by rw [← he, e2])), Int.zero_mul]
  rw [this]; exact Int.dvd_zero p
theorem rd_tail {p : Int} {n f : Nat} {v : List Int} {u : Nat → Int} (hf : f < n) (hpre : ∀ q, q < f → gI v q = 0) (h1 : gI v f = 1) (hu : ∀ q, f < q → q < n → u q = 0) : rd n v u = u f := by
  unfold rd
  rw [sumN_one hf (fun q hq hqf => ?_)]
  · rw [h1, Int.one_mul]
  · by_cases h : q < f
    · rw [hpre q h, Int.zero_mul]
    · rw [hu q (by omega) hq, Int.mul_zero]
/-- A place has no lead just where something is sent to nothing that ends there. -/
theorem Ech.free_iff {p : Int} {n f : Nat} {B : List (List Int)} {ld : Nat → Nat} (hp : 1 < p) (h : Ech p n B ld) (hf : f < n) : isLd B.length ld f = false ↔ ∃ u : Nat → Int, u f = 1 ∧ (∀ q, f < q → q < n → u q = 0) ∧ Kr p n B u := by
  constructor
  · intro e
    refine ⟨freeF B ld f, by unfold freeF; rw [if_pos rfl], fun q hq hqn => ?_, freeF_ker h e hf⟩
    cases e2 : isLd B.length ld q with
    | false => exact freeF_other e2 (by omega)
    | true =>
      obtain ⟨i, hi, he⟩ := isLd_iff.1 e2
      rw [← he, freeF_lead h e hi, h.pre i hi f (by omega)]; rfl
  · intro ⟨u, u1, u2, u3⟩
    cases e : isLd B.length ld f with
    | false => rfl
    | true =>
      obtain ⟨i, hi, he⟩ := isLd_iff.1 e
      have h1 := u3 i hi
      subst he
      rw [rd_tail (p := p) hf (h.pre i hi) (h.one i hi) u2, u1, Int.dvd_iff_emod_eq_zero, Int.emod_eq_of_lt (by omega) (by omega)] at h1
      omega
theorem rises_unique {a b : Nat → Nat} {k l : Nat} (ha : ∀ i j, i < j → j < k → a i < a j) (hb : ∀ i j, i < j → j < l → b i < b j) (hab : ∀ j, j < k → ∃ i, i < l ∧ b i = a j) (hba : ∀ j, j < l → ∃ i, i < k ∧ a i = b j) : k = l ∧ ∀ j, j < k → a j = b j := by
  have key : ∀ j, j < k → j < l → a j = b j := by
    intro j
    induction j using Nat.strongRecOn with
    | ind j ih =>
      intro hk hl
      obtain ⟨i, hi, e⟩ := hab j hk
      obtain ⟨i', hi', e'⟩ := hba j hl
      have h1 : j ≤ i := by
        rcases Nat.lt_or_ge i j with h | h
        · have := ih i h (by omega) hi
          have := ha i j h hk
          omega
        · exact h
      have h2 : j ≤ i' := by
        rcases Nat.lt_or_ge i' j with h | h
        · have := ih i' h hi' (by omega)
          have := hb i' j h hl
          omega
        · exact h
      have h3 : b j ≤ b i := by
        rcases Nat.lt_or_ge j i with h | h
        · have := hb j i h hi; omega
        · have : j = i := by omega
          rw [this]; exact Nat.le_refl _
      have h4 : a j ≤ a i' := by
        rcases Nat.lt_or_ge j i' with h | h
        · have := ha j i' h hi'; omega
        · have : j = i' := by omega
          rw [this]; exact Nat.le_refl _
      omega
  have hkl : k = l := by
    rcases Nat.lt_trichotomy k l with h | h | h
    · obtain ⟨i, hi, e⟩ := hba k h
      have := key i hi (by omega)
      have := hb i k hi h
      omega
    · exact h
    · obtain ⟨i, hi, e⟩ := hab l h
      have := key i (by omega) hi
      have := ha i l hi h
      omega
  exact ⟨hkl, fun j hj => key j hj (by omega)⟩
end Go.Vam

/- Plain laws: both programs' reduced bases are reduced rows in order, and send the same to nothing. -/
namespace Go.Vam
open Go Go.RowKit
set_option linter.unusedSimpArgs false
set_option linter.unusedVariables false
set_option linter.unusedSectionVars false

structure RedK (r c : Nat) (m : List (List Int)) (d k : Nat) (piv : Nat → Nat) : Prop where
  red : Red r c m d piv
  plt : ∀ j, j < d → piv j < k
  pre : ∀ j, j < d → ∀ q, q < piv j → gI (gR m j) q = 0
  srt : ∀ i j, i < j → j < d → piv i < piv j
  low : ∀ i, d ≤ i → i < r → ∀ q, q < k → gI (gR m i) q = 0
theorem RedK.skip {r c d k : Nat} {m : List (List Int)} {piv : Nat → Nat} (h : RedK r c m d k piv) (h0 : ∀ i, d ≤ i → i < r → gI (gR m i) k = 0) : RedK r c m d (k + 1) piv :=
  ⟨h.red, fun j hj => Nat.lt_succ_of_lt (h.plt j hj), h.pre, h.srt, fun i h1 h2 q hq => (Nat.lt_succ_iff_lt_or_eq.1 hq).elim (h.low i h1 h2 q) (fun e => e ▸ h0 i h1 h2)⟩
section
variable {p : Int} {r c k d x : Nat} {m : List (List Int)} {piv : Nat → Nat} {R : List Int} (hP : isP p = true) (hm : Mat p r c m) (hk : k < c) (hd : d < r) (hdx : d ≤ x) (hx : x < r)
  (hne : gI (gR m x) k ≠ 0) (hRe : R = scalev p c (gR m x) (invp p (gI (gR m x) k)))
include hP hm hk hd hdx hx hne hRe
theorem clrm_row (i : Nat) (hi : i < r) : gR (clrm p r c k d R ((m.set x (gR m d)).set d R)) i = if i = d then R else clr p c k R (if i = x then gR m d else gR m i) := by
  have e1 := hm.1
  unfold clrm
  rw [gR_vecN _ hi]
  by_cases hid : i = d
  · rw [if_pos hid, if_pos hid]
  · rw [if_neg hid, if_neg hid, gR_set (by rw [List.length_set]; omega), if_neg (by omega), gR_set (by omega)]
    by_cases hix : i = x
    · rw [if_pos hix.symm, if_pos hix]
    · rw [if_neg (fun e => hix e.symm), if_neg hix]
theorem clrm_ker (u : Nat → Int) : KerP p r c (clrm p r c k d R ((m.set x (gR m d)).set d R)) u ↔ KerP p r c m u := by
  have hp := isP_le hP
  have e4 := (hm.row hx).get hk
  obtain ⟨i1, i2, i3⟩ := inv_facts (a := gI (gR m x) k) hP (by omega) e4.2
  have hR : p ∣ rd c R u ↔ p ∣ rd c (gR m x) u := by
    rw [hRe, dvd_congr (rd_scalev u), prime_dvd hP]
    refine ⟨fun h => h.resolve_left fun h => ?_, .inr⟩
    rw [num_dvd ⟨by omega, i2⟩] at h; omega
  have hC : ∀ v, p ∣ rd c R u → (p ∣ rd c (clr p c k R v) u ↔ p ∣ rd c v u) := by
    intro v hu
    unfold clr
    rw [dvd_congr (rd_plusv u)]
    exact Int.dvd_add_left (Int.dvd_mul_of_dvd_right hu)
  have row := clrm_row hP hm hk hd hdx hx hne hRe
  constructor
  · intro h
    have hRu : p ∣ rd c R u := by
      have := h d hd
      rwa [row d hd, if_pos rfl] at this
    intro i hi
    by_cases hix : i = x
    · rw [hix]; exact hR.1 hRu
    · by_cases hid : i = d
      · have := h x hx
        rw [row x hx, if_neg (by omega), if_pos rfl, hC _ hRu] at this
        rw [hid]; exact this
      · have := h i hi
        rw [row i hi, if_neg hid, if_neg hix, hC _ hRu] at this
        exact this
  · intro h
    have hRu := hR.2 (h x hx)
    intro i hi
    rw [row i hi]
    split
    · exact hRu
    · rw [hC _ hRu]
      split
      · exact h d hd
      · exact h i hi
theorem RedK.step (h : RedK r c m d k piv) : RedK r c (clrm p r c k d R ((m.set x (gR m d)).set d R)) (d + 1) (k + 1) (fun j => if j = d then k else piv j) := by
  have hp := isP_le hP
  have row := clrm_row hP hm hk hd hdx hx hne hRe
  have e4 := (hm.row hx).get hk
  obtain ⟨i1, i2, i3⟩ := inv_facts (a := gI (gR m x) k) hP (by omega) e4.2
  have hR0 : ∀ q, q < k → gI R q = 0 := by
    intro q hq
    rw [hRe]; unfold scalev
    rw [gI_vecN _ (by omega), h.low x hdx hx q hq]; simp
  have hent : ∀ v q, q < k → gI v q = 0 → gI (clr p c k R v) q = 0 := by
    intro v q hq hv
    unfold clr plusv
    rw [gI_vecN _ (by omega), hv, hR0 q hq]; simp
  refine ⟨h.red.step hP hm hk hd hdx hx hne hRe, fun j hj => ?_, fun j hj q hq => ?_, fun i j hij hj => ?_, fun i h1 h2 q hq => ?_⟩
  · try simp only []
    split
    · omega
    · have := h.plt j (by omega); omega
  · try simp only [] at hq
    rw [row j (by omega)]
    by_cases hjd : j = d
    · rw [if_pos hjd] at hq ⊢; exact hR0 q hq
    · rw [if_neg hjd] at hq ⊢
      have h3 := h.plt j (by omega)
      rw [if_neg (by omega)]
      exact hent _ q (by omega) (h.pre j (by omega) q hq)
  · try simp only []
    rw [if_neg (show ¬ i = d by omega)]
    split
    · exact h.plt i (by omega)
    · exact h.srt i j hij (by omega)
  · rw [row i h2, if_neg (by omega)]
    by_cases hqk : q < k
    · refine hent _ q hqk ?_
      split
      · exact h.low d (Nat.le_refl _) hd q hqk
      · exact h.low i (by omega) h2 q hqk
    · have hqe : q = k := by omega
      subst hqe
      have hRk : gI R q = 1 := by rw [hRe]; unfold scalev; rw [gI_vecN _ hk, i3]
      unfold clr plusv
      rw [gI_vecN _ hk, hRk, Int.mul_one]
      generalize gI (if i = x then gR m d else gR m i) q = e
      rw [Int.add_emod, Int.emod_emod_of_dvd _ (Int.dvd_refl p), ← Int.add_emod]
      have : e + (p - e) = p := by omega
      rw [this, Int.emod_self]
end
section
variable {p : Int} {r c : Nat} (hP : isP p = true) (hr0 : 0 < r) (hr : r ≤ 1048576) (hc : c ≤ 1048576)
include hP hr0 hr hc
theorem basis_two2 {m : List (List Int)} (hm : Mat p r c m) :
    ∃ b, loop (s_l02Basis_L0 p) BIG (m, 0, 0) = some b ∧ loop (i_field_basis_L0 p) BIG (m, 0, 0) = some b ∧ (Mat p r c b.1 ∧ (∀ u, KerP p r c b.1 u ↔ KerP p r c m u) ∧ ∃ d k : Nat, b.2 = (d : Int) ∧ d ≤ r ∧ (d < r → k = c) ∧ k ≤ c ∧ ∃ piv, RedK r c b.1 d k piv) := by
  have hp := isP_le hP
  generalize hM0 : m = M0
  rw [hM0] at hm
  refine loop_two' (fun s => Mat p r c s.1 ∧ (∀ u, KerP p r c s.1 u ↔ KerP p r c M0 u) ∧ ∃ d k : Nat, s.2 = ((d : Int), (k : Int)) ∧ d ≤ r ∧ k ≤ c ∧ ∃ piv, RedK r c s.1 d k piv) (fun s => c - s.2.2.toNat) _ ⟨hm, fun _ => Iff.rfl, 0, 0, rfl, by omega, by omega, fun _ => 0, ⟨fun j hj => by omega, fun j hj => by omega, fun j hj => by omega, fun i j _ hj => by omega, fun i _ _ q hq => by omega⟩⟩ (by rw [BIG_val]; simp only []; omega) ?_
  rintro ⟨m, t⟩ ⟨hm, hker, d, k, rfl, hd, hk, piv, hred⟩
  try simp only [] at hm hred hker
  have e1 := hm.1
  have e2 := (hm.row hr0).1
  by_cases hkc : k < c
  · by_cases hdr : d < r
    · refine .inl ?_
      obtain ⟨b, h1, x, rfl, h2, h3, h4, h0⟩ := find_eq2 hm (k := k) (s := d) hr hkc hd
      have l1 : s_l02Basis_L1 (m, (d : Int), (k : Int)) = findStep m (k : Int) := rfl
      have l2 : i_field_basis_L1 (m, (d : Int), (k : Int)) = findStep m (k : Int) := rfl
      unfold s_l02Basis_L0 i_field_basis_L0
      simp only [show (0 : Int) < (m.length : Int) by omega, if_true, idxR0 (show 0 < m.length by omega), some_bind, show (k : Int) < ((gR m 0).length : Int) by omega, ilt_true (show (k : Int) < ((gR m 0).length : Int) by omega), ilt_true (show (d : Int) < (m.length : Int) by omega), l1, l2, h1]
      by_cases hx : x = r
      · have hx' : (x : Int) = (m.length : Int) := by omega
        simp only [hx', if_true, some_bind]
        refine ⟨_, rfl, rfl, ⟨hm, hker, d, k + 1, ?_, hd, by omega, piv, hred.skip fun i hi1 hi2 => h0 i hi1 (by omega)⟩, ?_⟩
        · rw [w_in (by omega) (by omega)]; rfl
        · rw [w_in (by omega) (by omega)]; simp only []; omega
      · have hx' : ¬ (x : Int) = (m.length : Int) := by omega
        have hxr : x < r := by omega
        have hne := h4 hxr
        have e3 := (hm.row hxr).1
        have e4 := (hm.row hxr).get hkc
        have e5 := (hm.row hdr).1
        obtain ⟨i1, i2, i3⟩ := inv_facts (a := gI (gR m x) k) hP (by omega) e4.2
        have f1 := s_l01Inv_eq (a := gI (gR m x) k) hP (by omega) e4.2
        have f2 := i_field_inv_eq (a := gI (gR m x) k) hP (by omega) e4.2
        have f3 := s_l02Scale_eq (p := p) (n := c) (a := gR m x) (k := invp p (gI (gR m x) k)) (by omega) (by omega) hc (by omega) (by omega) (hm.row hxr)
        have f4 := i_field_scaled_eq (p := p) (n := c) (a := gR m x) (k := invp p (gI (gR m x) k)) (by omega) (by omega) hc (by omega) (hm.row hxr)
        have hV := scalev_vec (p := p) (by omega) c (gR m x) (invp p (gI (gR m x) k))
        generalize hVe : scalev p c (gR m x) (invp p (gI (gR m x) k)) = V at f3 f4 hV
        have hrs := hred.step hP hm hkc hdr h2 hxr hne hVe.symm
        have hks := fun u => (clrm_ker hP hm hkc hdr h2 hxr hne hVe.symm u).trans (hker u)
        have g1 : gR ((m.set d (gR m x)).set x (gR m d)) d = gR m x := by
          rw [gR_set (by rw [List.length_set]; omega)]
          split
          · rename_i h; rw [h]
          · rw [gR_set (by omega), if_pos rfl]
        have g2 : ((m.set d (gR m x)).set x (gR m d)).set d V = (m.set x (gR m d)).set d V := by
          by_cases hxd : d = x
          · subst hxd; simp [List.set_set]
          · rw [List.set_comm _ _ hxd, List.set_set]
        have hM := (hm.set hxr (hm.row hdr)).set hdr hV
        have g3 : gR ((m.set x (gR m d)).set d V) d = V := by rw [gR_set (by rw [List.length_set]; omega), if_pos rfl]
        obtain ⟨y1, y2⟩ := basis_clear (p := p) (r := r) (c := c) (l := (m.set d (gR m x)).set x (gR m d)) (d := d) (k := k) hP hr hc hkc hdr m hV (by simp [e1]) hM g3
        simp only [hx', if_false, idxR (show x < m.length by omega), idxR (show d < m.length by omega), some_bind, idxI (show k < (gR m x).length by omega), f1, f2, f3, f4, Int.toNat_natCast,
          idxR (show d < (m.set x (gR m d)).length by rw [List.length_set]; omega), idxR (show x < (m.set d (gR m x)).length by rw [List.length_set]; omega), idxR (show d < ((m.set d (gR m x)).set x (gR m d)).length by rw [List.length_set, List.length_set]; omega), g1, g2, y1, y2]
        refine ⟨_, rfl, rfl, ⟨clrm_mat (by omega) hV, hks, d + 1, k + 1, ?_, by omega, by omega, _, hrs⟩, ?_⟩
        · rw [w_in (by omega) (by omega), w_in (by omega) (by omega)]; rfl
        · rw [w_in (by omega) (by omega), w_in (by omega) (by omega)]; simp only []; omega
    · have hdd : d = r := by omega
      subst hdd
      refine .inr ⟨(m, (d : Int)), fun n hn => basis_idle hr0 hr hc hm n k hk (by simpa using hn), ?_, hm, hker, d, k, rfl, by omega, fun h => by omega, hk, piv, hred⟩
      unfold i_field_basis_L0
      simp only [show (0 : Int) < (m.length : Int) by omega, if_true, idxR0 (show 0 < m.length by omega), some_bind, show (k : Int) < ((gR m 0).length : Int) by omega, ilt_false (show ¬ (d : Int) < (m.length : Int) by omega), Bool.false_eq_true, if_false]
  · refine .inr ⟨(m, (d : Int)), fun n hn => ?_, ?_, hm, hker, d, k, rfl, by omega, fun _ => by omega, hk, piv, hred⟩
    · cases n with
      | zero => omega
      | succ n =>
        rw [loop_succ]
        have : s_l02Basis_L0 p (m, (d : Int), (k : Int)) = some (.inr (m, (d : Int))) := by
          unfold s_l02Basis_L0
          simp only [show (0 : Int) < (m.length : Int) by omega, if_true, idxR0 (show 0 < m.length by omega), some_bind, ilt_false (show ¬ (k : Int) < ((gR m 0).length : Int) by omega), Bool.false_eq_true, if_false]
        rw [this]
    · unfold i_field_basis_L0
      simp only [show (0 : Int) < (m.length : Int) by omega, if_true, idxR0 (show 0 < m.length by omega), some_bind, show ¬ (k : Int) < ((gR m 0).length : Int) by omega, Bool.false_eq_true, if_false]

theorem Basis_full {m : List (List Int)} (hm : Mat p r c m) : ∃ b, s_l02Basis p m = some b ∧ i_field_basis p m = some b ∧ b.length ≤ r ∧ (∃ ld, Ech p c b ld) ∧ ∀ u, Kr p c b u ↔ KerP p r c m u := by
  have hz := hm.sz hr hc
  obtain ⟨b, h1, h2, h3, hk, d, k, h4, h5, h7, h8, piv, h6⟩ := basis_two2 hP hr0 hr hc hm
  have hl := h3.1
  have hg : ∀ i, i < d → gR (b.1.take d) i = gR b.1 i := by
    intro i hi
    unfold gR
    rw [List.getD_eq_getElem?_getD, List.getD_eq_getElem?_getD, List.getElem?_take_of_lt hi]
  have hd : (b.1.take d).length = d := by rw [List.length_take]; omega
  refine ⟨b.1.take d, ?_, ?_, by omega, ⟨piv, ?_⟩, fun u => ?_⟩
  · unfold s_l02Basis
    rw [s_l01Own2_eq hz, some_bind, h1, some_bind, h4, chk_bind (by omega)]; rfl
  · unfold i_field_basis
    rw [i_cloneRows_eq hz, some_bind, h2, some_bind, h4, chk_bind (by omega)]; rfl
  · constructor
    · rw [hd]
      refine ⟨hd, fun i hi => ?_⟩
      rw [hg i hi]
      exact h3.2 i (by omega)
    · rw [hd]; exact fun j hj => (h6.red j hj).1
    · rw [hd]; intro j hj; rw [hg j hj]; exact (h6.red j hj).2.1
    · rw [hd]; intro j hj q hq; rw [hg j hj]; exact h6.pre j hj q hq
    · rw [hd]; intro j hj i hi hij; rw [hg i hi]; exact (h6.red j hj).2.2 i (by omega) hij
    · rw [hd]; exact h6.srt
  · rw [← hk u]
    unfold Kr KerP
    rw [hd]
    constructor
    · intro h i hi
      by_cases hid : i < d
      · have := h i hid; rwa [hg i hid] at this
      · have hkc := h7 (by omega)
        have : rd c (gR b.1 i) u = 0 := by
          unfold rd
          rw [sumN_congr (g := fun _ => 0) (fun q hq => by rw [h6.low i (by omega) hi q (by omega), Int.zero_mul])]
          exact sumN_zero c
        rw [this]; exact Int.dvd_zero p
    · intro h i hi
      rw [hg i hi]; exact h i (by omega)
end
end Go.Vam

/- Plain laws: rows reduced one at a time; IsAutomorphism. -/
namespace Go.Vam
open Go Go.RowKit
set_option linter.unusedSimpArgs false
set_option linter.unusedVariables false
set_option linter.unusedSectionVars false

section
variable {p : Int} {n : Nat} (hP : isP p = true) (hn : n ≤ 1048000)
include hP hn
end

section
variable {p : Int} {w : List Int} {m : List (List Int)} (hP : isP p = true) (hl : w.length ≤ 4) (hw : Vec p w.length w) (hm : Mat p (2 ^ w.length) (2 ^ w.length) m)
include hP hl hw hm
end
end Go.Vam

/- Plain laws: kernels; both programs make the same reduced basis of what a table sends to nothing. -/
namespace Go.Vam
open Go Go.RowKit
set_option linter.unusedSimpArgs false
set_option linter.unusedVariables false
set_option linter.unusedSectionVars false

theorem basis_nil (p : Int) : s_l02Basis p [] = some [] ∧ i_field_basis p [] = some [] := by
  constructor
  · unfold s_l02Basis
    rw [s_l01Own2_eq ⟨by simp, by simp⟩, some_bind]
    have : loop (s_l02Basis_L0 p) BIG ([], 0, 0) = some ([], 0) := by
      rw [show BIG = (BIG - 1) + 1 from rfl, loop_succ]
      have : s_l02Basis_L0 p ([], 0, 0) = some (.inr ([], 0)) := by
        unfold s_l02Basis_L0
        simp
      rw [this]
    rw [this, some_bind]
    simp [chk]
  · unfold i_field_basis
    rw [i_cloneRows_eq ⟨by simp, by simp⟩, some_bind]
    have : loop (i_field_basis_L0 p) BIG ([], 0, 0) = some ([], 0) := by
      rw [show BIG = (BIG - 1) + 1 from rfl, loop_succ]
      have : i_field_basis_L0 p ([], 0, 0) = some (.inr ([], 0)) := by
        unfold i_field_basis_L0
        simp
      rw [this]
    rw [this, some_bind]
    simp [chk]
theorem Ech.nil (p : Int) (n : Nat) : Ech p n [] (fun _ => 0) :=
  ⟨⟨rfl, fun i hi => by simp at hi⟩, fun j hj => by simp at hj, fun j hj => by simp at hj, fun j hj => by simp at hj, fun j hj => by simp at hj, fun i j _ hj => by simp at hj⟩
theorem i_basis_any {p : Int} {r c : Nat} {m : List (List Int)} (hP : isP p = true) (hr : r ≤ 1048576) (hc : c ≤ 1048576) (hm : Mat p r c m) :
    ∃ b, s_l02Basis p m = some b ∧ i_field_basis p m = some b ∧ b.length ≤ r ∧ (∃ ld, Ech p c b ld) ∧ ∀ u, Kr p c b u ↔ KerP p r c m u := by
  by_cases h0 : r = 0
  · subst h0
    have : m = [] := List.eq_nil_of_length_eq_zero hm.1
    subst this
    exact ⟨[], (basis_nil p).1, (basis_nil p).2, by simp, ⟨_, Ech.nil p c⟩, fun u => ⟨fun _ i hi => by omega, fun _ j hj => by simp at hj⟩⟩
  · exact Basis_full hP (by omega) hr hc hm

section
variable {p : Int} {n : Nat} {B : List (List Int)} {ld : Nat → Nat} (hP : isP p = true) (hn : n ≤ 1048000) (hB : Ech p n B ld)
include hP hn hB
end
end Go.Vam

/- Plain law: the reduced rows that a table sends to nothing. -/
namespace Go.Vam
open Go Go.RowKit
set_option linter.unusedSimpArgs false
set_option linter.unusedVariables false
set_option linter.unusedSectionVars false

section
variable {p : Int} {n : Nat} {B : List (List Int)} {ld : Nat → Nat} (hP : isP p = true) (hn : n ≤ 1048000) (hB : Ech p n B ld)
include hP hn hB
end
end Go.Vam

/- Plain laws: ranks, kernels and how many vectors they have. -/
namespace Go.Vam
open Go Go.RowKit
set_option linter.unusedSimpArgs false
set_option linter.unusedVariables false
set_option linter.unusedSectionVars false

theorem sumN_add (f g : Nat → Int) (n : Nat) : sumN (fun q => f q + g q) n = sumN f n + sumN g n := by
  have := sumN_lin f g 1 n
  simp only [Int.one_mul] at this
  exact this
theorem sumN_mulL (k : Int) (f : Nat → Int) (n : Nat) : sumN (fun q => k * f q) n = k * sumN f n := by
  have := sumN_lin (fun _ => 0) f k n
  simp only [Int.zero_add, sumN_zero] at this
  exact this
theorem sumN_comm (f : Nat → Nat → Int) (m : Nat) : ∀ n, sumN (fun i => sumN (fun j => f i j) m) n = sumN (fun j => sumN (fun i => f i j) n) m
  | 0 => by simp only [sumN]; rw [sumN_zero]
  | n + 1 => by
    simp only [sumN]
    rw [sumN_add, sumN_comm f m n]
theorem sumN_dvd {p : Int} {f : Nat → Int} : ∀ {n : Nat}, (∀ k, k < n → p ∣ f k) → p ∣ sumN f n
  | 0, _ => Int.dvd_zero p
  | n + 1, h => by
    simp only [sumN]
    exact Int.dvd_add (sumN_dvd fun k hk => h k (by omega)) (h n (by omega))
theorem sumN_sub (f g : Nat → Int) (n : Nat) : sumN (fun q => f q - g q) n = sumN f n - sumN g n := by
  have := sumN_lin f g (-1) n
  have e : sumN (fun q => f q - g q) n = sumN (fun q => f q + -1 * g q) n := sumN_congr fun q _ => by omega
  rw [e, this]; omega
theorem dvd_trans_sub {p a b c : Int} (h1 : p ∣ a - b) (h2 : p ∣ b - c) : p ∣ a - c := by
  have := Int.dvd_add h1 h2
  rwa [show a - b + (b - c) = a - c by omega] at this
section
variable {p : Int} {n : Nat} {B : List (List Int)} {ld : Nat → Nat} (h : Ech p n B ld)
include h
theorem Ech.at_lead (g : Nat → Int) (q : Nat) : sumN (fun j => if ld j = q then g j else 0) B.length = if isLd B.length ld q = true then g (rowOf ld q B.length) else 0 := by
  by_cases hq : isLd B.length ld q = true
  · rw [if_pos hq]
    obtain ⟨a1, a2⟩ := rowOf_spec (isLd_iff.1 hq)
    rw [sumN_one a1 (fun j hj hne => if_neg fun e => hne (h.inj hj a1 (by rw [e, a2]))), if_pos a2]
  · rw [if_neg hq, sumN_congr (g := fun _ => 0) fun j hj => if_neg fun e => hq (isLd_iff.2 ⟨j, hj, e⟩)]
    exact sumN_zero _
/-- A sum over all places: those without a lead, and the leads. -/
theorem Ech.split (g : Nat → Int) : sumN g n = sumN (fun q => if isLd B.length ld q = true then 0 else g q) n + sumN (fun j => g (ld j)) B.length := by
  have e1 : sumN (fun j => g (ld j)) B.length = sumN (fun j => sumN (fun q => if ld j = q then g q else 0) n) B.length :=
    sumN_congr fun j hj => by rw [sumN_one (h.lt j hj) (fun q _ hq => if_neg fun e => hq e.symm), if_pos rfl]
  rw [e1, sumN_comm, ← sumN_add]
  refine sumN_congr fun q hq => ?_
  have e2 : sumN (fun j => if ld j = q then g q else 0) B.length = if isLd B.length ld q = true then g q else 0 := h.at_lead (fun _ => g q) q
  rw [e2]
  split <;> omega
end
end Go.Vam

/- Plain laws: the equations of derivations; both programs' bases of derivations are one. -/
namespace Go.Vam
open Go Go.RowKit
set_option linter.unusedSimpArgs false
set_option linter.unusedVariables false
set_option linter.unusedSectionVars false

theorem gR_append {x y : List (List Int)} {k : Nat} : gR (x ++ y) k = if k < x.length then gR x k else gR y (k - x.length) := by
  unfold gR
  rw [List.getD_eq_getElem?_getD, List.getElem?_append]
  by_cases h : k < x.length
  · rw [if_pos h, if_pos h, List.getD_eq_getElem?_getD]
  · rw [if_neg h, if_neg h, List.getD_eq_getElem?_getD]
theorem Mat.append {p : Int} {a b c : Nat} {x y : List (List Int)} (hx : Mat p a c x) (hy : Mat p b c y) : Mat p (a + b) c (x ++ y) := by
  have h1 := hx.1
  refine ⟨by rw [List.length_append, hx.1, hy.1], fun i hi => ?_⟩
  rw [gR_append]
  split
  · exact hx.2 i (by omega)
  · exact hy.2 (i - x.length) (by omega)
section
variable {p : Int} {w : List Int} (hP : isP p = true) (hl : w.length ≤ 4) (hw : Vec p w.length w)
include hP hl hw
end
end Go.Vam

/- Plain laws: what is drawn from a code. -/
namespace Go.Vam
open Go Go.RowKit
set_option linter.unusedSimpArgs false
set_option linter.unusedVariables false
set_option linter.unusedSectionVars false

/-- A table that is not large. -/
def tabS (m : List (List Int)) : Prop := m.length ≤ 17 ∧ ∀ x ∈ m, x.length ≤ 18
theorem tabS.sz {m : List (List Int)} (h : tabS m) : szM m := ⟨by have := h.1; omega, fun r hr => by have := h.2 r hr; omega⟩
theorem tabS.of {p : Int} {r k : Nat} {m : List (List Int)} (h : Mat p r k m) (hr : r ≤ 17) (hk : k ≤ 18) : tabS m := by
  refine ⟨by rw [h.1]; exact hr, fun x hx => ?_⟩
  obtain ⟨i, hi, rfl⟩ := List.getElem_of_mem hx
  have e := (h.2 i (by have := h.1; omega)).1
  rw [← gR_get hi] at e
  omega
theorem tabS.set {m : List (List Int)} (h : tabS m) (i : Nat) {x : List Int} (hx : x.length ≤ 18) : tabS (m.set i x) := by
  refine ⟨by rw [List.length_set]; exact h.1, fun y hy => ?_⟩
  rcases List.mem_or_eq_of_mem_set hy with h1 | h1
  · exact h.2 y h1
  · rw [h1]; exact hx
end Go.Vam

/- Plain laws: reflections keep the products of vectors. -/
namespace Go.Vam
open Go Go.RowKit
set_option linter.unusedSimpArgs false
set_option linter.unusedVariables false
set_option linter.unusedSectionVars false

/-- The product of vectors, as an integer. -/
def pairS (n : Nat) (w x y : List Int) : Int := sumN (fun k => gI x k * gI y k * gI w k) n
theorem pairp_S (p : Int) (n : Nat) (w x y : List Int) : pairp p n w x y = pairS n w x y % p := rfl
theorem pairS_comm (n : Nat) (w x y : List Int) : pairS n w x y = pairS n w y x := by
  unfold pairS
  exact sumN_congr fun k _ => by rw [Int.mul_comm (gI x k)]
theorem pairS_lin {p : Int} {n : Nat} {w x x' u y : List Int} {c : Int} (h : ∀ k, k < n → gI x' k % p = (gI x k + c * gI u k) % p) : pairS n w x' y % p = (pairS n w x y + c * pairS n w u y) % p := by
  unfold pairS
  rw [← sumN_lin]
  refine sumN_mod fun k hk => ?_
  rw [Int.mul_assoc, mul_mod_l (h k hk)]
  congr 1
  rw [Int.add_mul, Int.mul_assoc, Int.mul_assoc, Int.mul_assoc]
/-- What the reflection in u makes of v. -/
def reflv (p : Int) (n : Nat) (w u v : List Int) : List Int := plusv p n v u (-2 * pairS n w u v * invp p (pairp p n w u u))
theorem reflv_vec {p : Int} (hp : 0 < p) (n : Nat) (w u v : List Int) : Vec p n (reflv p n w u v) := plusv_vec hp ..
theorem reflv_at {p : Int} {n k : Nat} {w u v : List Int} (hk : k < n) : gI (reflv p n w u v) k = (gI v k + (-2 * pairS n w u v * invp p (pairp p n w u u)) * gI u k) % p := plusv_at hk
theorem inv_dvd {p a : Int} (hP : isP p = true) (h0 : a % p ≠ 0) : p ∣ invp p (a % p) * a - 1 := by
  have hp := isP_le hP
  have hn := mod_num (a := a) (p := p) (by omega)
  obtain ⟨_, _, i3⟩ := inv_facts (a := a % p) hP (by omega) hn.2
  rw [← mod_dvd, Int.emod_eq_of_lt (show (0 : Int) ≤ 1 by omega) (by omega), Int.mul_comm, ← i3]
  exact (mul_mod_l (emm a p)).symm
theorem reflv_pair {p : Int} {n : Nat} {w u : List Int} (hP : isP p = true) (hu : pairp p n w u u ≠ 0) (x y : List Int) :
    pairp p n w (reflv p n w u x) (reflv p n w u y) = pairp p n w x y := by
  rw [pairp_S, pairp_S]
  have ht := inv_dvd hP (a := pairS n w u u) hu
  rw [← pairp_S] at ht
  have hx : ∀ k, k < n → gI (reflv p n w u x) k % p = (gI x k + (-2 * pairS n w u x * invp p (pairp p n w u u)) * gI u k) % p := fun k hk => by rw [reflv_at hk, emm]
  have hy : ∀ k, k < n → gI (reflv p n w u y) k % p = (gI y k + (-2 * pairS n w u y * invp p (pairp p n w u u)) * gI u k) % p := fun k hk => by rw [reflv_at hk, emm]
  have h1 := mod_dvd.1 (pairS_lin (w := w) (y := reflv p n w u y) hx)
  have h2 := mod_dvd.1 (pairS_lin (w := w) (y := x) hy)
  have h3 := mod_dvd.1 (pairS_lin (w := w) (y := u) hy)
  rw [pairS_comm n w x (reflv p n w u y), pairS_comm n w u (reflv p n w u y)] at h1
  rw [pairS_comm n w y x, pairS_comm n w u x] at *
  rw [pairS_comm n w y u] at h3
  generalize hX : pairS n w x u = X at *
  generalize hY : pairS n w u y = Y at *
  generalize invp p (pairp p n w u u) = t at *
  generalize pairS n w u u = Q at *
  generalize pairS n w x y = Z at *
  generalize pairS n w (reflv p n w u x) (reflv p n w u y) = A at *
  generalize pairS n w (reflv p n w u y) x = B at *
  generalize pairS n w (reflv p n w u y) u = C at *
  rw [mod_dvd]
  obtain ⟨k1, e1⟩ := h1
  obtain ⟨k2, e2⟩ := h2
  obtain ⟨k3, e3⟩ := h3
  obtain ⟨k4, e4⟩ := ht
  exact ⟨k1 + k2 + (-2 * X * t) * k3 + 4 * X * Y * t * k4, by grind⟩
/-- The reflection's table. -/
def reflm (p : Int) (n : Nat) (w u : List Int) : List (List Int) := turnm n n (vecN n fun k => reflv p n w u (axis n k))
theorem pairS_axis {n k : Nat} {w u : List Int} (hk : k < n) : pairS n w u (axis n k) = gI u k * gI w k := by
  unfold pairS
  rw [sumN_one hk (fun q hq hqk => by rw [gI_axis hk, if_neg hqk]; simp), gI_axis hk, if_pos rfl, Int.mul_one]
theorem reflm_at {p : Int} {n r k : Nat} {w u : List Int} (hr : r < n) (hk : k < n) : gI (gR (reflm p n w u) r) k = ((if r = k then 1 else 0) + (-2 * (gI u k * gI w k) * invp p (pairp p n w u u)) * gI u r) % p := by
  unfold reflm
  rw [turnm_at hk hr, gR_vecN _ hk, reflv_at hr, gI_axis hk, pairS_axis hk]
theorem refl_times {p : Int} {n i : Nat} {w u : List Int} {m : List (List Int)} (hp : 0 < p) (hi : i < n) :
    gR (turnm n n (timesm p n n n (reflm p n w u) m)) i = reflv p n w u (gR (turnm n n m) i) := by
  have hv := (reflv_vec hp n w u (gR (turnm n n m) i)).1
  rw [extI hv (f := gI (reflv p n w u (gR (turnm n n m) i))) fun k _ => rfl]
  refine extI (by unfold turnm; rw [gR_vecN _ hi, vecN_len]) fun r hr => ?_
  rw [turnm_at hr hi, reflv_at hr, turnm_at hr hi]
  unfold timesm
  rw [gR_vecN _ hr, gI_vecN _ hi]
  have e1 : sumN (fun j => gI (gR (reflm p n w u) r) j * gI (gR m j) i) n % p = sumN (fun j => (if r = j then gI (gR m j) i else 0) + (-2 * invp p (pairp p n w u u) * gI u r) * (gI u j * gI (gR m j) i * gI w j)) n % p := by
    refine sumN_mod fun j hj => ?_
    rw [reflm_at hr hj, mul_mod_l (emm _ _)]
    congr 1
    split <;> grind
  rw [e1, sumN_lin, sumN_one hr (fun q hq hqr => if_neg (fun e => hqr e.symm)), if_pos rfl]
  congr 2
  have e2 : sumN (fun k => gI u k * gI (gR m k) i * gI w k) n = pairS n w u (gR (turnm n n m) i) := by
    unfold pairS
    exact sumN_congr fun k hk => by rw [turnm_at hk hi]
  rw [e2]
  grind
/-- A table whose columns have the products of the basis. -/
def IsoT (p : Int) (n : Nat) (w : List Int) (m : List (List Int)) : Prop := ∀ i, i < n → ∀ j, j < n → pairp p n w (gR (turnm n n m) i) (gR (turnm n n m) j) = if i = j then gI w i else 0
theorem IsoT.refl {p : Int} {n : Nat} {w u : List Int} {m : List (List Int)} (hP : isP p = true) (h : IsoT p n w m) (hu : pairp p n w u u ≠ 0) : IsoT p n w (timesm p n n n (reflm p n w u) m) := by
  have hp := isP_le hP
  intro i hi j hj
  rw [refl_times (by omega) hi, refl_times (by omega) hj, reflv_pair hP hu]
  exact h i hi j hj
end Go.Vam

/- Plain laws: decompositions into reflections; HasSquareNorm. -/
namespace Go.Vam
open Go Go.RowKit
set_option linter.unusedSimpArgs false
set_option linter.unusedVariables false
set_option linter.unusedSectionVars false

section
variable {p : Int} {n : Nat} {w u : List Int} (hP : isP p = true) (hn0 : 0 < n) (hn : n ≤ 1000) (hwl : w.length = n) (hw : Vec p n w) (hu : Vec p n u) (hQ : pairp p n w u u ≠ 0)
include hP hn0 hn hwl hw hu hQ
end
section
variable {p : Int} {n : Nat} {w : List Int} (hP : isP p = true) (hn0 : 0 < n) (hn : n ≤ 1000) (hwl : w.length = n) (hw : Vec p n w) (hz : ∀ k, k < n → gI w k ≠ 0)
include hP hn0 hn hwl hw hz
end
end Go.Vam

/- Plain laws: systems of equations and spans. -/
namespace Go.Vam
open Go Go.RowKit
set_option linter.unusedSimpArgs false
set_option linter.unusedVariables false
set_option linter.unusedSectionVars false

end Go.Vam

/- Plain law: FnKernels. -/
namespace Go.Vam
open Go Go.RowKit
set_option linter.unusedSimpArgs false
set_option linter.unusedVariables false
set_option linter.unusedSectionVars false

end Go.Vam

/- Plain laws: determinants of numbers, by expansion; they are multiplied with tables. -/
namespace Go.Vam
open Go Go.RowKit
set_option linter.unusedSimpArgs false
set_option linter.unusedVariables false
set_option linter.unusedSectionVars false

def skipN (i a : Nat) : Nat := if a < i then a else a + 1
def sgnN (i : Nat) : Int := if i % 2 = 0 then 1 else -1
/-- The determinant of the first n rows and columns, expanded along column 0. -/
def detN : Nat → (Nat → Nat → Int) → Int
  | 0, _ => 1
  | n + 1, M => sumN (fun i => sgnN i * M i 0 * detN n (fun a b => M (skipN i a) (b + 1))) (n + 1)
theorem sgnN_succ (i : Nat) : sgnN (i + 1) = - sgnN i := by
  unfold sgnN
  rcases Nat.mod_two_eq_zero_or_one i with h | h
  · rw [if_neg (by omega), if_pos h]
  · rw [if_pos (by omega), if_neg (by omega)]; rfl
theorem skipN_lt {n i a : Nat} (ha : a < n) : skipN i a < n + 1 := by unfold skipN; split <;> omega
theorem detN_congr : ∀ (n : Nat) {M M' : Nat → Nat → Int}, (∀ i, i < n → ∀ j, j < n → M i j = M' i j) → detN n M = detN n M'
  | 0, _, _, _ => rfl
  | n + 1, M, M', h => by
    unfold detN
    refine sumN_congr fun i hi => ?_
    rw [h i hi 0 (by omega), detN_congr n fun a ha b hb => h _ (skipN_lt ha) (b + 1) (by omega)]
theorem dvd_mul_sub {p a b x y : Int} (h1 : p ∣ a - b) (h2 : p ∣ x - y) : p ∣ a * x - b * y := by
  have e : a * x - b * y = (a - b) * x + b * (x - y) := by rw [Int.sub_mul, Int.mul_sub]; omega
  rw [e]
  exact Int.dvd_add (Int.dvd_mul_of_dvd_left h1) (Int.dvd_mul_of_dvd_right h2)
theorem sumN_cong_dvd {p : Int} {f g : Nat → Int} {n : Nat} (h : ∀ k, k < n → p ∣ f k - g k) : p ∣ sumN f n - sumN g n := by
  rw [← sumN_sub]; exact sumN_dvd h
theorem detN_mod {p : Int} : ∀ (n : Nat) {M M' : Nat → Nat → Int}, (∀ i, i < n → ∀ j, j < n → p ∣ M i j - M' i j) → p ∣ detN n M - detN n M'
  | 0, _, _, _ => by unfold detN; simp
  | n + 1, M, M', h => by
    unfold detN
    refine sumN_cong_dvd fun i hi => ?_
    refine dvd_mul_sub (dvd_mul_sub (by simp) (h i hi 0 (by omega))) (detN_mod n fun a ha b hb => h _ (skipN_lt ha) (b + 1) (by omega))

/-- Row i replaced. -/
def rowU (M : Nat → Nat → Int) (i : Nat) (r : Nat → Int) : Nat → Nat → Int := fun a b => if a = i then r b else M a b
theorem rowU_self (M : Nat → Nat → Int) (i : Nat) : rowU M i (M i) = M := by
  funext a b; unfold rowU; split
  · rename_i h; rw [h]
  · rfl
/-- Where row i stands when row k is left out. -/
def backN (k i : Nat) : Nat := if i < k then i else i - 1
theorem skipN_eq {k i a : Nat} (h : i ≠ k) : skipN k a = i ↔ a = backN k i := by
  unfold skipN backN
  constructor
  · intro e; split at e <;> split <;> omega
  · intro e; split at e <;> split <;> omega
theorem backN_lt {n k i : Nat} (hk : k < n + 1) (hi : i < n + 1) (h : i ≠ k) : backN k i < n := by unfold backN; split <;> omega
theorem minor_rowU {M : Nat → Nat → Int} {i k : Nat} {r : Nat → Int} (h : i ≠ k) : (fun a b => rowU M i r (skipN k a) (b + 1)) = rowU (fun a b => M (skipN k a) (b + 1)) (backN k i) (fun b => r (b + 1)) := by
  funext a b
  unfold rowU
  by_cases e : skipN k a = i
  · rw [if_pos e, if_pos ((skipN_eq h).1 e)]
  · rw [if_neg e, if_neg fun e' => e ((skipN_eq h).2 e')]
theorem minor_rowU_self {M : Nat → Nat → Int} {i : Nat} {r : Nat → Int} : (fun a b => rowU M i r (skipN i a) (b + 1)) = (fun a b => M (skipN i a) (b + 1)) := by
  funext a b
  unfold rowU
  rw [if_neg (by unfold skipN; split <;> omega)]
theorem detN_lin : ∀ (n : Nat) (M : Nat → Nat → Int) (i : Nat) (r s : Nat → Int) (c : Int), i < n →
    detN n (rowU M i (fun b => r b + c * s b)) = detN n (rowU M i r) + c * detN n (rowU M i s)
  | 0, _, _, _, _, _, h => by omega
  | n + 1, M, i, r, s, c, h => by
    unfold detN
    rw [← sumN_lin]
    refine sumN_congr fun k hk => ?_
    by_cases e : i = k
    · subst e
      rw [minor_rowU_self, minor_rowU_self, minor_rowU_self]
      simp only [rowU, if_true]
      grind
    · rw [minor_rowU e, minor_rowU e, minor_rowU e, detN_lin n _ _ (fun b => r (b + 1)) (fun b => s (b + 1)) c (backN_lt hk h e)]
      simp only [rowU, if_neg fun e' : k = i => e e'.symm]
      grind
theorem detN_adj : ∀ (n : Nat) (M : Nat → Nat → Int) (i : Nat), i + 1 < n → (∀ b, M i b = M (i + 1) b) → detN n M = 0
  | 0, _, _, h, _ => by omega
  | n + 1, M, i, h, he => by
    unfold detN
    rw [sumN_two (i := i) (k := i + 1) (by omega) h (by omega) fun k hk h1 h2 => ?_]
    · have e : (fun a b => M (skipN (i + 1) a) (b + 1)) = (fun a b => M (skipN i a) (b + 1)) := by
        funext a b
        by_cases ha : a = i
        · subst ha
          have e1 : skipN (a + 1) a = a := by unfold skipN; rw [if_pos (by omega)]
          have e2 : skipN a a = a + 1 := by unfold skipN; rw [if_neg (by omega)]
          rw [e1, e2]; exact he _
        · have : skipN (i + 1) a = skipN i a := by unfold skipN; split <;> split <;> omega
          rw [this]
      rw [e, sgnN_succ, he 0]
      grind
    · have : detN n (fun a b => M (skipN k a) (b + 1)) = 0 := by
        by_cases hki : k < i
        · refine detN_adj n _ (i - 1) (by omega) fun b => ?_
          have e1 : skipN k (i - 1) = i := by unfold skipN; rw [if_neg (by omega)]; omega
          have e2 : skipN k (i - 1 + 1) = i + 1 := by unfold skipN; rw [if_neg (by omega)]; omega
          simp only [e1, e2]; exact he _
        · refine detN_adj n _ i (by omega) fun b => ?_
          have e1 : skipN k i = i := by unfold skipN; rw [if_pos (by omega)]
          have e2 : skipN k (i + 1) = i + 1 := by unfold skipN; rw [if_pos (by omega)]
          simp only [e1, e2]; exact he _
      rw [this, Int.mul_zero]
theorem detN_swap_of {n i k : Nat} (hi : i < n) (hk : k < n) (hne : i ≠ k) (alt : ∀ M : Nat → Nat → Int, (∀ b, M i b = M k b) → detN n M = 0) (M : Nat → Nat → Int) :
    detN n (rowU (rowU M i (M k)) k (M i)) = - detN n M := by
  have key : ∀ r s : Nat → Int, detN n (rowU (rowU M i r) k s) + detN n (rowU (rowU M i s) k r) = 0 := by
    intro r s
    have h0 := alt (rowU (rowU M i (fun b => r b + 1 * s b)) k (fun b => r b + 1 * s b)) fun b => by
      simp only [rowU, if_true, if_neg hne]
    have h1 := alt (rowU (rowU M i r) k r) fun b => by simp only [rowU, if_true, if_neg hne]
    have h2 := alt (rowU (rowU M i s) k s) fun b => by simp only [rowU, if_true, if_neg hne]
    have cm : ∀ u v : Nat → Int, rowU (rowU M i u) k v = rowU (rowU M k v) i u := by
      intro u v; funext a b; unfold rowU
      by_cases a1 : a = i
      · subst a1; rw [if_neg hne, if_pos rfl, if_pos rfl]
      · simp only [if_neg a1]
    rw [detN_lin n (rowU M i (fun b => r b + 1 * s b)) k r s 1 hk, cm, cm, detN_lin n (rowU M k r) i r s 1 hi, detN_lin n (rowU M k s) i r s 1 hi] at h0
    rw [cm] at h1 h2
    rw [cm, cm]
    omega
  have h := key (M k) (M i)
  have e : rowU (rowU M i (M i)) k (M k) = M := by rw [rowU_self, rowU_self]
  rw [e] at h
  omega
theorem detN_alt {n : Nat} : ∀ (t i : Nat) (M : Nat → Nat → Int), i + 1 + t < n → (∀ b, M i b = M (i + 1 + t) b) → detN n M = 0
  | 0, i, M, h, he => detN_adj n M i h he
  | t + 1, i, M, h, he => by
    have hs := detN_swap_of (n := n) (i := i + 1 + t) (k := i + 1 + (t + 1)) (by omega) h (by omega) (fun M hM => detN_adj n M (i + 1 + t) (by omega) hM) M
    have h0 := detN_alt (n := n) t i (rowU (rowU M (i + 1 + t) (M (i + 1 + (t + 1)))) (i + 1 + (t + 1)) (M (i + 1 + t))) (by omega) fun b => by
      simp only [rowU, if_true, if_neg (show i ≠ i + 1 + (t + 1) by omega), if_neg (show i ≠ i + 1 + t by omega), if_neg (show i + 1 + t ≠ i + 1 + (t + 1) by omega)]
      exact he b
    omega
theorem detN_same {n i k : Nat} (hi : i < n) (hk : k < n) (hne : i ≠ k) (M : Nat → Nat → Int) (he : ∀ b, M i b = M k b) : detN n M = 0 := by
  rcases Nat.lt_or_gt_of_ne hne with h | h
  · exact detN_alt (k - i - 1) i M (by omega) fun b => by rw [he b]; congr 1; omega
  · exact detN_alt (i - k - 1) k M (by omega) fun b => by rw [← he b]; congr 1; omega
/-- Multiples of row k added to all others. -/
theorem detN_clear {n k : Nat} (hk : k < n) (M : Nat → Nat → Int) (c : Nat → Int) : detN n (fun a b => if a = k then M k b else M a b + c a * M k b) = detN n M := by
  have key : ∀ m, m ≤ n → detN n (fun a b => if a = k then M k b else if a < m then M a b + c a * M k b else M a b) = detN n M := by
    intro m
    induction m with
    | zero =>
      intro _
      refine detN_congr n fun a ha b hb => ?_
      by_cases e : a = k
      · rw [if_pos e, e]
      · rw [if_neg e, if_neg (by omega)]
    | succ m ih =>
      intro hm
      rw [← ih (by omega)]
      by_cases e : m = k
      · refine detN_congr n fun a ha b hb => ?_
        by_cases e2 : a = k
        · rw [if_pos e2, if_pos e2]
        · rw [if_neg e2, if_neg e2]
          by_cases e3 : a < m
          · rw [if_pos e3, if_pos (by omega)]
          · rw [if_neg e3, if_neg (by omega)]
      · generalize hH : (fun a b => if a = k then M k b else if a < m then M a b + c a * M k b else M a b) = H
        have h1 := detN_lin n H m (fun b => H m b) (fun b => H k b) (c m) (by omega)
        have h2 : detN n (rowU H m (fun b => H k b)) = 0 := detN_same (i := m) (k := k) (by omega) hk e _ fun b => by
          simp only [rowU, if_true, if_neg fun e' : k = m => e e'.symm]
        have h3 : rowU H m (fun b => H m b) = H := rowU_self H m
        rw [h2, h3, Int.mul_zero, Int.add_zero] at h1
        rw [← h1]
        refine detN_congr n fun a ha b hb => ?_
        unfold rowU
        rw [← hH]
        simp only [if_true]
        by_cases e2 : a = k
        · rw [if_pos e2, if_neg (by omega)]; rw [if_pos e2]
        · rw [if_neg e2]
          by_cases e3 : a = m
          · subst e3
            rw [if_pos (by omega), if_pos rfl, if_neg e2, if_neg (by omega)]
          · rw [if_neg e3, if_neg e2]
            by_cases e4 : a < m
            · rw [if_pos e4, if_pos (by omega)]
            · rw [if_neg e4, if_neg (by omega)]
  rw [← key n (Nat.le_refl n)]
  refine detN_congr n fun a ha b hb => ?_
  by_cases e : a = k
  · rw [if_pos e, if_pos e]
  · rw [if_neg e, if_neg e, if_pos ha]

def mulN (n : Nat) (A B : Nat → Nat → Int) : Nat → Nat → Int := fun a b => sumN (fun j => A a j * B j b) n
def prodN (f : Nat → Int) : Nat → Int
  | 0 => 1
  | k + 1 => prodN f k * f k
/-- The steps of an elimination: what they do to a product's determinant. -/
def QN (p : Int) (n : Nat) (A A' : Nat → Nat → Int) (s : Int) : Prop := (s = 1 ∨ s = -1) ∧ ∀ B, p ∣ detN n (mulN n A' B) - s * detN n (mulN n A B)
theorem QN.refl (p : Int) (n : Nat) (A : Nat → Nat → Int) : QN p n A A 1 := ⟨.inl rfl, fun B => by simp⟩
theorem QN.clear {p : Int} {n k : Nat} {A M : Nat → Nat → Int} {s : Int} (hk : k < n) (h : QN p n A M s) (c : Nat → Int) : QN p n A (fun a b => if a = k then M k b else M a b + c a * M k b) s := by
  refine ⟨h.1, fun B => ?_⟩
  have e : detN n (mulN n (fun a b => if a = k then M k b else M a b + c a * M k b) B) = detN n (mulN n M B) := by
    rw [← detN_clear hk (mulN n M B) c]
    refine detN_congr n fun a ha b hb => ?_
    unfold mulN
    by_cases ea : a = k
    · subst ea
      simp only [if_true]
    · simp only [if_neg ea]
      rw [← sumN_lin]
      refine sumN_congr fun j hj => ?_
      grind
  rw [e]; exact h.2 B
end Go.Vam

/- Plain laws: the programs' determinant is the expansion's. -/
namespace Go.Vam
open Go Go.RowKit
set_option linter.unusedSimpArgs false
set_option linter.unusedVariables false
set_option linter.unusedSectionVars false

def asN (m : List (List Int)) : Nat → Nat → Int := fun a b => gI (gR m a) b
def detL (r : Nat) (m : List (List Int)) : Int := detN r (asN m)
theorem prodN_congr {f g : Nat → Int} : ∀ {n : Nat}, (∀ k, k < n → f k = g k) → prodN f n = prodN g n
  | 0, _ => rfl
  | n + 1, h => by simp only [prodN, prodN_congr (n := n) fun k hk => h k (by omega), h n (by omega)]
/-- What the elimination keeps. -/
def DetInv (p : Int) (r : Nat) (M0 M : List (List Int)) (d : Int) (k : Nat) : Prop :=
  ∃ s : Int, p ∣ detL r M0 - s * detL r M ∧ p ∣ d - s * prodN (fun j => gI (gR M j) j) k
theorem DetInv.refl (p : Int) (r : Nat) (M0 : List (List Int)) : DetInv p r M0 M0 1 0 := ⟨1, by simp, by simp [prodN]⟩
theorem DetInv.clear {p : Int} {r k : Nat} {M0 M y : List (List Int)} {R : List Int} {d : Int} (h : DetInv p r M0 M d k) (hk : k < r) (hMk : gR M k = R) (hy : ∀ j, j < r → gR y j = if k < j then clp p r k R (gR M j) else gR M j) :
    DetInv p r M0 y (d * gI R k % p) (k + 1) := by
  obtain ⟨s, h1, h2⟩ := h
  have e : p ∣ detL r y - detL r M := by
    unfold detL
    rw [← detN_clear hk (asN M) (fun a => if k < a then (p - gI (gR M a) k) * invp p (gI R k) % p else 0)]
    refine detN_mod r fun a ha b hb => ?_
    simp only [asN]
    rw [hy a ha]
    by_cases e1 : a = k
    · rw [if_neg (by omega), if_pos e1, e1]; simp
    · rw [if_neg e1]
      by_cases e2 : k < a
      · rw [if_pos e2, if_pos e2]
        unfold clp
        rw [plusv_at hb, hMk, ← mod_dvd, emm]
      · rw [if_neg e2, if_neg e2]; simp
  have e3 : prodN (fun j => gI (gR y j) j) (k + 1) = prodN (fun j => gI (gR M j) j) k * gI R k := by
    simp only [prodN]
    rw [hy k hk, if_neg (by omega), hMk, prodN_congr (g := fun j => gI (gR M j) j) fun j hj => by rw [hy j (by omega), if_neg (by omega)]]
  refine ⟨s, ?_, ?_⟩
  · have : detL r M0 - s * detL r y = (detL r M0 - s * detL r M) - s * (detL r y - detL r M) := by grind
    rw [this]
    exact Int.dvd_sub h1 (Int.dvd_mul_of_dvd_right e)
  · rw [e3]
    have h3 : p ∣ d * gI R k % p - d * gI R k := by rw [← mod_dvd, emm]
    refine dvd_trans_sub h3 ?_
    have : d * gI R k - s * (prodN (fun j => gI (gR M j) j) k * gI R k) = (d - s * prodN (fun j => gI (gR M j) j) k) * gI R k := by grind
    rw [this]
    exact Int.dvd_mul_of_dvd_left h2

section
variable {p : Int} {r : Nat} (hP : isP p = true) (hr : r ≤ 1048576)
include hP hr
end
end Go.Vam

/- Plain laws: products are associative; turned products; ranks and determinants of products. -/
namespace Go.Vam
open Go Go.RowKit
set_option linter.unusedSimpArgs false
set_option linter.unusedVariables false
set_option linter.unusedSectionVars false

end Go.Vam

/- Plain laws: powers, exponents are added. -/
namespace Go.Vam
open Go Go.RowKit
set_option linter.unusedSimpArgs false
set_option linter.unusedVariables false
set_option linter.unusedSectionVars false

theorem unitm_at {n i k : Nat} (hi : i < n) (hk : k < n) : gI (gR (unitm n) i) k = if k = i then 1 else 0 := by
  unfold unitm
  rw [gR_vecN _ hi, ← gI_get (by simpa using hk), List.getElem_set]
  by_cases e : i = k
  · rw [if_pos e, if_pos e.symm]
  · rw [if_neg e, if_neg fun h => e h.symm]; simp
theorem mat_self {p : Int} {r c : Nat} {m : List (List Int)} (h : Mat p r c m) : vecN r (fun i => vecN c fun k => gI (gR m i) k) = m :=
  (extR h.1 fun i hi => extI (h.row hi).1 fun k hk => rfl).symm
end Go.Vam

/- Plain laws: norms of elements; ConjugationBy. -/
namespace Go.Vam
open Go Go.RowKit
set_option linter.unusedSimpArgs false
set_option linter.unusedVariables false
set_option linter.unusedSectionVars false

theorem sumN_split (f : Nat → Int) (a b : Nat) : sumN f (a + b) = sumN f a + sumN (fun k => f (a + k)) b := by
  induction b with
  | zero => simp [sumN]
  | succ b ih => rw [← Nat.add_assoc]; simp only [sumN]; rw [ih]; omega
section
variable {p : Int} {w x : List Int} (hP : isP p = true) (hl : w.length ≤ 4) (hw : Vec p w.length w) (hx : Vec p (2 ^ w.length) x)
include hP hl hw hx
end
section
variable {p : Int} {w a b : List Int} (hP : isP p = true) (hl : w.length ≤ 4) (hw : Vec p w.length w) (ha : Vec p (2 ^ w.length) a) (hb : Vec p (2 ^ w.length) b)
include hP hl hw ha hb
end
end Go.Vam

/- Plain law: FnMatrixProducts. -/
namespace Go.Vam
open Go Go.RowKit
set_option linter.unusedSimpArgs false
set_option linter.unusedVariables false
set_option linter.unusedSectionVars false

section
variable {p : Int} {r n c : Nat} {a b : List (List Int)} (hP : isP p = true) (ha : Mat p r n a) (hr0 : 1 ≤ r) (hr : r ≤ 16) (hn0 : 1 ≤ n) (hn : n ≤ 16)
include hP ha hr0 hr hn0 hn
end
end Go.Vam

/- Plain laws: inverses of tables. -/
namespace Go.Vam
open Go Go.RowKit
set_option linter.unusedSimpArgs false
set_option linter.unusedVariables false
set_option linter.unusedSectionVars false

/-- The table with the unit behind it. -/
def widem (n : Nat) (a : List (List Int)) : List (List Int) := vecN n fun i => gR a i ++ axis n i
theorem axis_at {n k q : Nat} (hk : k < n) (hq : q < n) : gI (axis n k) q = if q = k then 1 else 0 := by
  rw [← gR_unitm hk, unitm_at hk hq]
/-- A vector of two halves. -/
def twoF (n : Nat) (x y : Nat → Int) : Nat → Int := fun q => if q < n then x q else y (q - n)
theorem rd_two {n : Nat} {v : List Int} (x y : Nat → Int) : rd (n + n) v (twoF n x y) = sumN (fun q => gI v q * x q) n + sumN (fun q => gI v (n + q) * y q) n := by
  unfold rd
  rw [sumN_split]
  congr 1
  · exact sumN_congr fun q hq => by unfold twoF; rw [if_pos hq]
  · exact sumN_congr fun q hq => by unfold twoF; rw [if_neg (by omega), Nat.add_sub_cancel_left]
theorem sumN_delta {n i : Nat} (g : Nat → Int) (hi : i < n) : sumN (fun q => (if q = i then 1 else 0) * g q) n = g i := by
  have : sumN (fun q => (if q = i then 1 else 0) * g q) n = sumN (fun q => if q = i then g i else 0) n := by
    refine sumN_congr fun q hq => ?_
    by_cases e : q = i
    · rw [if_pos e, if_pos e, e, Int.one_mul]
    · rw [if_neg e, if_neg e, Int.zero_mul]
  rw [this, sumN_upd (fun _ => 0) i _ n hi rfl, sumN_zero, Int.zero_add]
theorem sumN_delta_r {n i : Nat} (g : Nat → Int) (hi : i < n) : sumN (fun q => g q * (if q = i then 1 else 0)) n = g i := by
  rw [← sumN_delta g hi]
  exact sumN_congr fun q _ => Int.mul_comm ..
section
variable {p : Int} {n : Nat} {a : List (List Int)} (hp : 1 < p) (hn : n ≤ 1000) (ha : Mat p n n a)
include hp hn ha
theorem widem_mat : Mat p n (n + n) (widem n a) := Mat.mk' fun i hi => (ha.row hi).append (axis_vec hp hi)
theorem widem_rd {i : Nat} (hi : i < n) (x y : Nat → Int) : rd (n + n) (gR (widem n a) i) (twoF n x y) = rd n (gR a i) x + y i := by
  have h1 := (ha.row hi).1
  unfold widem
  rw [gR_vecN _ hi, rd_two]
  congr 1
  · unfold rd
    exact sumN_congr fun q hq => by rw [gI_append, if_pos (by omega)]
  · rw [← sumN_delta y hi]
    exact sumN_congr fun q hq => by rw [gI_append, if_neg (by omega), h1, Nat.add_sub_cancel_left, axis_at hi hq]
theorem widem_ker (x y : Nat → Int) : KerP p n (n + n) (widem n a) (twoF n x y) ↔ ∀ i, i < n → p ∣ rd n (gR a i) x + y i := by
  unfold KerP
  constructor
  · intro h i hi; have := h i hi; rwa [widem_rd hp hn ha hi] at this
  · intro h i hi; rw [widem_rd hp hn ha hi]; exact h i hi
end
/-- The second halves of rows. -/
def backm (n : Nat) (B : List (List Int)) : List (List Int) := vecN n fun j => (gR B j).drop n
section
variable {p : Int} {n : Nat} {a B : List (List Int)} {ld : Nat → Nat} (hP : isP p = true) (hn0 : 1 ≤ n) (hn : n ≤ 1000) (ha : Mat p n n a) (hB : Ech p (n + n) B ld) (hk : ∀ u, Kr p (n + n) B u ↔ KerP p n (n + n) (widem n a) u)
include hP hn0 hn ha hB hk
/-- No vector is sent to nothing: the leads are those of the first half. -/
theorem inv_leads (hle : B.length ≤ n) (hs : ¬ Sg p n n a) : B.length = n ∧ ∀ j, j < n → ld j = j := by
  have hp := isP_le hP
  have hfree : ∀ f, f < n → isLd B.length ld f = true := by
    intro f hf
    cases e : isLd B.length ld f with
    | true => rfl
    | false =>
      exfalso
      obtain ⟨u, u1, u2, u3⟩ := (hB.free_iff (by omega) (by omega : f < n + n)).1 e
      refine hs ⟨u, ⟨f, hf, by rw [u1, Int.dvd_iff_emod_eq_zero, Int.emod_eq_of_lt (by omega) (by omega)]; omega⟩, ?_⟩
      have e2 : KerP p n (n + n) (widem n a) (twoF n u (fun _ => 0)) := by
        intro i hi
        have := (hk u).1 u3 i hi
        have e3 : rd (n + n) (gR (widem n a) i) u = rd (n + n) (gR (widem n a) i) (twoF n u fun _ => 0) := by
          unfold rd
          refine sumN_congr fun q hq => ?_
          unfold twoF
          by_cases h1 : q < n
          · rw [if_pos h1]
          · rw [if_neg h1, u2 q (by omega) hq]
        rwa [e3] at this
      have := (widem_ker (by omega) hn ha u fun _ => 0).1 e2
      intro i hi
      have := this i hi
      rwa [Int.add_zero] at this
  have hinj : ∀ k, k ≤ n → (∀ j, j < k → ∃ i, i < B.length ∧ ld i = j) := fun k hk' j hj => by
    obtain ⟨i, h1, h2⟩ := isLd_iff.1 (hfree j (by omega)); exact ⟨i, h1, h2⟩
  have key := rises_unique (a := ld) (b := fun j => j) (k := B.length) (l := n) hB.srt (fun i j h _ => h) (fun j hj => ?_) (fun j hj => ?_)
  · exact ⟨key.1, fun j hj => key.2 j (by omega)⟩
  · -- every lead lies in the first half
    have hge := hB.ge
    rcases Nat.lt_or_ge (ld j) n with h | h
    · exact ⟨ld j, h, rfl⟩
    · exfalso
      -- n places of the first half are leads of rows ahead of j
      have hall : ∀ f, f < n → ∃ i, i < j ∧ ld i = f := fun f hf => by
        obtain ⟨i, h1, h2⟩ := isLd_iff.1 (hfree f hf)
        refine ⟨i, ?_, h2⟩
        rcases Nat.lt_trichotomy i j with h3 | h3 | h3
        · exact h3
        · subst h3; omega
        · have := hB.srt j i h3 h1; omega
      obtain ⟨i, h1, h2⟩ := hall (n - 1) (by omega)
      -- leads below i are at least their index
      have h3 : ∀ t f, f < n → t ≤ f → ∀ i, i < j → ld i = f → t ≤ i := by
        intro t
        induction t with
        | zero => intros; omega
        | succ t ih =>
          intro f hf htf i hi hif
          obtain ⟨i', h4, h5⟩ := hall (f - 1) (by omega)
          have h6 := ih (f - 1) (by omega) (by omega) i' h4 h5
          rcases Nat.lt_or_ge i' i with h7 | h7
          · omega
          · rcases Nat.lt_or_eq_of_le h7 with h8 | h8
            · have := hB.srt i i' h8 (by omega); omega
            · subst h8; omega
      have := h3 (n - 1) (n - 1) (by omega) (by omega) i h1 h2
      omega
  · obtain ⟨i, h1, h2⟩ := isLd_iff.1 (hfree j hj); exact ⟨i, h1, h2⟩
theorem inv_sing (hl : B.length = n) (hld : ld (n - 1) < n) : ¬ Sg p n n a := by
  have hp := isP_le hP
  have hlj : ∀ j, j < n → ld j = j := by
    have key : ∀ t j, j + t + 1 = n → ld j ≤ j := by
      intro t
      induction t with
      | zero => intro j hj; have : j = n - 1 := by omega
                subst this; omega
      | succ t ih =>
        intro j hj
        have h1 := ih (j + 1) (by omega)
        have h2 := hB.srt j (j + 1) (by omega) (by omega)
        omega
    intro j hj
    have h1 := key (n - 1 - j) j (by omega)
    have h2 := hB.ge j (by omega)
    omega
  rintro ⟨x, ⟨k, hk1, hk2⟩, hx⟩
  have h1 : KerP p n (n + n) (widem n a) (twoF n x fun _ => 0) := (widem_ker (by omega) hn ha x fun _ => 0).2 fun i hi => by rw [Int.add_zero]; exact hx i hi
  have h2 := (hk _).2 h1 k (by omega)
  rw [rd_two] at h2
  have e : sumN (fun q => gI (gR B k) q * x q) n = x k := by
    rw [← sumN_delta x hk1]
    refine sumN_congr fun q hq => ?_
    congr 1
    by_cases e : q = k
    · have := hB.one k (by omega); rw [hlj k hk1] at this; rw [if_pos e, e, this]
    · have := hB.col q (by omega) k (by omega) (fun e' => e e'.symm); rw [hlj q hq] at this; rw [if_neg e, this]
  have e2 : sumN (fun q => gI (gR B k) (n + q) * (0 : Int)) n = 0 := by
    rw [sumN_congr (g := fun _ => 0) fun q _ => Int.mul_zero _, sumN_zero]
  rw [e, e2, Int.add_zero] at h2
  exact hk2 h2
theorem backm_mat (hl : B.length = n) : Mat p n n (backm n B) := Mat.mk' fun j hj => (hB.mat.row (by omega : j < B.length)).drop
theorem backm_at {j q : Nat} (hj : j < n) : gI (gR (backm n B) j) q = gI (gR B j) (n + q) := by
  unfold backm; rw [gR_vecN _ hj, gI_drop]
/-- What a row makes of a vector of two halves. -/
theorem inv_row (hl : B.length = n) (hlj : ∀ j, j < n → ld j = j) {k : Nat} (hk1 : k < n) (x y : Nat → Int) : rd (n + n) (gR B k) (twoF n x y) = x k + sumN (fun q => gI (gR (backm n B) k) q * y q) n := by
  rw [rd_two]
  congr 1
  · rw [← sumN_delta x hk1]
    refine sumN_congr fun q hq => ?_
    congr 1
    by_cases e : q = k
    · have := hB.one k (by omega); rw [hlj k hk1] at this; rw [if_pos e, e, this]
    · have := hB.col q (by omega) k (by omega) (fun e' => e e'.symm); rw [hlj q hq] at this; rw [if_neg e, this]
  · exact sumN_congr fun q hq => by rw [backm_at hP hn0 hn ha hB hk hk1]
theorem inv_right (hl : B.length = n) (hlj : ∀ j, j < n → ld j = j) : timesm p n n n a (backm n B) = unitm n := by
  have hp := isP_le hP
  conv => rhs; rw [← mat_self (unitm_mat (p := p) (by omega) n)]
  unfold timesm
  refine vecN_congr fun i hi => vecN_congr fun k hk1 => ?_
  rw [unitm_at hi hk1]
  -- the vector (-X e_k, e_k)
  have h1 : Kr p (n + n) B (twoF n (fun j => -gI (gR (backm n B) j) k) fun q => if q = k then 1 else 0) := fun j hj => by
    rw [inv_row hP hn0 hn ha hB hk hl hlj (by omega), sumN_delta_r _ hk1]
    rw [show -gI (gR (backm n B) j) k + gI (gR (backm n B) j) k = 0 by omega]
    exact Int.dvd_zero p
  have h2 := (widem_ker (by omega) hn ha _ _).1 ((hk _).1 h1) i hi
  unfold rd at h2
  have e : sumN (fun q => gI (gR a i) q * -gI (gR (backm n B) q) k) n = -sumN (fun j => gI (gR a i) j * gI (gR (backm n B) j) k) n := by
    have := sumN_mulL (-1) (fun j => gI (gR a i) j * gI (gR (backm n B) j) k) n
    rw [show -sumN (fun j => gI (gR a i) j * gI (gR (backm n B) j) k) n = -1 * sumN (fun j => gI (gR a i) j * gI (gR (backm n B) j) k) n by omega, ← this]
    exact sumN_congr fun q _ => by grind
  rw [e] at h2
  have h3 : p ∣ sumN (fun j => gI (gR a i) j * gI (gR (backm n B) j) k) n - (if i = k then 1 else 0) := by
    have := Int.dvd_neg.2 h2
    have e2 : -(-sumN (fun j => gI (gR a i) j * gI (gR (backm n B) j) k) n + if i = k then 1 else 0) = sumN (fun j => gI (gR a i) j * gI (gR (backm n B) j) k) n - (if i = k then 1 else 0) := by omega
    rwa [e2] at this
  rw [← mod_dvd] at h3
  rw [h3]
  have e4 : (if k = i then (1 : Int) else 0) = if i = k then 1 else 0 := by
    by_cases e5 : i = k
    · rw [if_pos e5, if_pos e5.symm]
    · rw [if_neg e5, if_neg fun h => e5 h.symm]
  rw [e4]
  split
  · exact mod_small (by omega) (by omega)
  · exact mod_small (by omega) (by omega)
theorem inv_left (hl : B.length = n) (hlj : ∀ j, j < n → ld j = j) : timesm p n n n (backm n B) a = unitm n := by
  have hp := isP_le hP
  conv => rhs; rw [← mat_self (unitm_mat (p := p) (by omega) n)]
  unfold timesm
  refine vecN_congr fun i hi => vecN_congr fun k hk1 => ?_
  rw [unitm_at hi hk1]
  have h1 : KerP p n (n + n) (widem n a) (twoF n (fun q => if q = k then 1 else 0) fun j => -gI (gR a j) k) := (widem_ker (by omega) hn ha _ _).2 fun j hj => by
    have : rd n (gR a j) (fun q => if q = k then 1 else 0) = gI (gR a j) k := sumN_delta_r _ hk1
    rw [this]
    have e : gI (gR a j) k + -gI (gR a j) k = 0 := by omega
    rw [e]; exact Int.dvd_zero p
  have h2 := (hk _).2 h1 i (by omega)
  rw [inv_row hP hn0 hn ha hB hk hl hlj hi] at h2
  have e : sumN (fun q => gI (gR (backm n B) i) q * -gI (gR a q) k) n = -sumN (fun j => gI (gR (backm n B) i) j * gI (gR a j) k) n := by
    have := sumN_mulL (-1) (fun j => gI (gR (backm n B) i) j * gI (gR a j) k) n
    rw [show -sumN (fun j => gI (gR (backm n B) i) j * gI (gR a j) k) n = -1 * sumN (fun j => gI (gR (backm n B) i) j * gI (gR a j) k) n by omega, ← this]
    exact sumN_congr fun q _ => by grind
  rw [e] at h2
  have h3 : p ∣ sumN (fun j => gI (gR (backm n B) i) j * gI (gR a j) k) n - (if i = k then 1 else 0) := by
    have := Int.dvd_neg.2 h2
    have e2 : -((if i = k then 1 else 0) + -sumN (fun j => gI (gR (backm n B) i) j * gI (gR a j) k) n) = sumN (fun j => gI (gR (backm n B) i) j * gI (gR a j) k) n - (if i = k then 1 else 0) := by omega
    rwa [e2] at this
  rw [← mod_dvd] at h3
  rw [h3]
  have e4 : (if k = i then (1 : Int) else 0) = if i = k then 1 else 0 := by
    by_cases e5 : i = k
    · rw [if_pos e5, if_pos e5.symm]
    · rw [if_neg e5, if_neg fun h => e5 h.symm]
  rw [e4]
  split
  · exact mod_small (by omega) (by omega)
  · exact mod_small (by omega) (by omega)
end

/-! ### The programs -/
theorem concat_two {x y : List Int} (hx : x.length ≤ 1000000) (hy : y.length ≤ 1000000) : g_slices_Concat_LI_I [x, y] = some (x ++ y) := by
  unfold g_slices_Concat_LI_I
  have l0 : loop (g_slices_Concat_LI_I_L0 [x, y]) BIG (0, 0) = some ((x.length + y.length : Nat) : Int) := by
    have key := fold_loop (g_slices_Concat_LI_I_L0 [x, y]) 2 (fun k s => s + ((gR [x, y] k).length : Int)) 0 (fun k s => 0 ≤ s ∧ s ≤ 1000000 * k) (fun s => s) (by rw [BIG_val]; omega) (by omega)
      (fun k s hk hs => by
        have h1 : (gR [x, y] k).length ≤ 1000000 := by
          have : k = 0 ∨ k = 1 := by omega
          rcases this with rfl | rfl
          · exact hx
          · exact hy
        omega) (fun k s hk hs => by
        have h1 : (gR [x, y] k).length ≤ 1000000 := by
          have : k = 0 ∨ k = 1 := by omega
          rcases this with rfl | rfl
          · exact hx
          · exact hy
        unfold g_slices_Concat_LI_I_L0
        have e : w64 (s + ((gR [x, y] k).length : Int)) = s + ((gR [x, y] k).length : Int) := w_in (by omega) (by omega)
        simp only [show ((k : Int) < (([x, y] : List (List Int)).length : Int)) = True from eq_true (by simp; omega), if_true]
        rw [idxR (by simpa using hk), some_bind, e, chk_bind (by omega), w_in (by omega) (by omega)]
        rfl) (fun s hs => by
        unfold g_slices_Concat_LI_I_L0
        simp)
    rw [key.1]
    congr 1
    simp only [foldN]
    show (0 + ((gR [x, y] 0).length : Int)) + ((gR [x, y] 1).length : Int) = _
    have e0 : gR [x, y] 0 = x := rfl
    have e1 : gR [x, y] 1 = y := rfl
    rw [e0, e1]
    omega
  rw [l0, some_bind, chk_bind (by omega)]
  have key := fold_loop (g_slices_Concat_LI_I_L1 [x, y]) 2 (fun k s => s ++ gR [x, y] k) [] (fun k s => s.length ≤ 1000000 * k) (fun s => s) (by rw [BIG_val]; omega) (by simp)
    (fun k s hk hs => by
      have h1 : (gR [x, y] k).length ≤ 1000000 := by
        have : k = 0 ∨ k = 1 := by omega
        rcases this with rfl | rfl
        · exact hx
        · exact hy
      rw [List.length_append]; omega) (fun k s hk hs => by
      have h1 : (gR [x, y] k).length ≤ 1000000 := by
        have : k = 0 ∨ k = 1 := by omega
        rcases this with rfl | rfl
        · exact hx
        · exact hy
      unfold g_slices_Concat_LI_I_L1
      simp only [show ((k : Int) < (([x, y] : List (List Int)).length : Int)) = True from eq_true (by simp; omega), if_true]
      rw [idxR (by simpa using hk), some_bind, chk_bind (by omega), w_in (by omega) (by omega)]
      rfl) (fun s hs => by
      unfold g_slices_Concat_LI_I_L1
      simp)
  rw [key.1, some_bind]
  rfl
section
variable {p : Int} {n : Nat} {a : List (List Int)} (hP : isP p = true) (hn0 : 1 ≤ n) (hn : n ≤ 16) (ha : Mat p n n a)
include hP hn0 hn ha
theorem s_wide_loop : loop (s_l02Inverse_L0 a (unitm n)) BIG ([], 0) = some (widem n a) := by
  have hp := isP_le hP
  have e1 := ha.1
  have e2 := (unitm_mat (p := p) (by omega) n).1
  rw [map_loop _ n (fun i => gR a i ++ axis n i) (by rw [BIG_val]; omega)]
  · rfl
  · intro k hk out ho
    unfold s_l02Inverse_L0
    have h1 := (ha.row hk).1
    have h2 := (axis_vec (p := p) (by omega) hk).1
    simp only [show ((k : Int) < (a.length : Int)) = True from eq_true (by omega), if_true, idxR (show k < a.length by omega), idxR (show k < (unitm n).length by omega), some_bind, gR_unitm hk]
    rw [s_l01Own_eq (by omega), some_bind, chk_bind (by omega), chk_bind (by simp only [List.length_cons, List.length_nil]; omega), w_in (by omega) (by omega)]
    rfl
  · intro out ho
    unfold s_l02Inverse_L0
    simp only [show ((n : Int) < (a.length : Int)) = False from eq_false (by omega), if_false]
theorem i_wide_loop : loop (i_field_inverse_L0 a (unitm n)) BIG ([], 0) = some (widem n a) := by
  have hp := isP_le hP
  have e1 := ha.1
  have e2 := (unitm_mat (p := p) (by omega) n).1
  rw [map_loop _ n (fun i => gR a i ++ axis n i) (by rw [BIG_val]; omega)]
  · rfl
  · intro k hk out ho
    unfold i_field_inverse_L0
    have h1 := (ha.row hk).1
    have h2 := (axis_vec (p := p) (by omega) hk).1
    simp only [show ((k : Int) < ((unitm n).length : Int)) = True from eq_true (by omega), if_true, idxR (show k < a.length by omega), idxR (show k < (unitm n).length by omega), some_bind, gR_unitm hk]
    rw [concat_two (by omega) (by omega), some_bind, chk_bind (by simp only [List.length_cons, List.length_nil]; omega), w_in (by omega) (by omega)]
    rfl
  · intro out ho
    unfold i_field_inverse_L0
    simp only [show ((n : Int) < ((unitm n).length : Int)) = False from eq_false (by omega), if_false]
theorem s_back_loop {B : List (List Int)} (hB : Mat p n (n + n) B) : loop (s_l02Inverse_L1 a B) BIG ([], 0) = some (backm n B) := by
  have e1 := ha.1
  have e2 := hB.1
  rw [map_loop _ n (fun j => (gR B j).drop n) (by rw [BIG_val]; omega)]
  · rfl
  · intro k hk out ho
    unfold s_l02Inverse_L1
    have h1 := (hB.row hk).1
    simp only [show ((k : Int) < (B.length : Int)) = True from eq_true (by omega), if_true, idxR (show k < B.length by omega), some_bind, e1, Int.toNat_natCast]
    rw [chk_bind (by omega), s_l01Own_eq (by rw [List.length_drop]; omega), some_bind, chk_bind (by simp only [List.length_cons, List.length_nil]; omega), w_in (by omega) (by omega)]
    rfl
  · intro out ho
    unfold s_l02Inverse_L1
    simp only [show ((n : Int) < (B.length : Int)) = False from eq_false (by omega), if_false]
theorem i_back_loop {B : List (List Int)} (hB : Mat p n (n + n) B) : loop (i_field_inverse_L1 a B) BIG (B, 0) = some (backm n B) := by
  have e1 := ha.1
  have e2 := hB.1
  obtain ⟨b, h1, h2⟩ := loop_inv (step := i_field_inverse_L1 a B) (fun s => ∃ k : Nat, s.2 = (k : Int) ∧ k ≤ n ∧ s.1.length = n ∧ ∀ j, j < n → gR s.1 j = if j < k then (gR B j).drop n else gR B j) (fun s => n - s.2.toNat) (fun b => b = backm n B) (s := (B, 0))
    ⟨0, rfl, by omega, e2, fun j hj => by rw [if_neg (by omega)]⟩ (by rw [BIG_val]; simp only []; omega) (by
      rintro ⟨m, t⟩ ⟨k, rfl, hk, hl, hg⟩
      simp only [] at hl hg
      unfold i_field_inverse_L1
      by_cases hkn : k < n
      · refine .inl ?_
        have h1 := (hB.row hkn).1
        have h2 : gR m k = gR B k := by rw [hg k hkn, if_neg (by omega)]
        simp only [show ((k : Int) < (B.length : Int)) = True from eq_true (by omega), if_true, idxR (show k < m.length by omega), some_bind, e1, h2, Int.toNat_natCast]
        rw [chk_bind (by omega), clone_eq (by rw [List.length_drop]; omega), some_bind, w_in (by omega) (by omega)]
        refine ⟨_, rfl, ⟨k + 1, rfl, by omega, by simp only [List.length_set]; omega, fun j hj => ?_⟩, by simp only []; omega⟩
        simp only []
        rw [gR_set (by omega)]
        by_cases e : k = j
        · subst e; rw [if_pos rfl, if_pos (by omega)]
        · rw [if_neg e, hg j hj]
          by_cases e3 : j < k
          · rw [if_pos e3, if_pos (by omega)]
          · rw [if_neg e3, if_neg (by omega)]
      · have : k = n := by omega
        subst this
        refine .inr ⟨m, ?_, ?_⟩
        · simp only [show ((k : Int) < (B.length : Int)) = False from eq_false (by omega), if_false]
        · unfold backm
          refine extR hl fun j hj => ?_
          rw [hg j hj, if_pos hj])
  rw [h1, h2]
/-- Both programs' inverse. -/
theorem Inverse_full : ∃ (X : List (List Int)) (ok : Bool), i_field_inverse p a = some (X, ok) ∧ (ok = true ↔ ¬ Sg p n n a) ∧ (ok = true → s_l02Inverse p a = some X ∧ Mat p n n X ∧ timesm p n n n a X = unitm n ∧ timesm p n n n X a = unitm n) ∧ (ok = false → X = []) := by
  have hp := isP_le hP
  have hw := widem_mat (p := p) (n := n) (a := a) (by omega) (by omega) ha
  have e1 := ha.1
  obtain ⟨B, b1, b2, hle, ⟨ld, hB⟩, hk⟩ := i_basis_any hP (by omega) (by omega) hw
  unfold i_field_inverse s_l02Inverse
  rw [e1, i_unit_eq (by omega), s_l02Unit_eq (by omega), some_bind, some_bind, i_wide_loop hP hn0 hn ha, s_wide_loop hP hn0 hn ha, some_bind, some_bind, b1, b2, some_bind, some_bind]
  by_cases hs : Sg p n n a
  · refine ⟨[], false, ?_, ⟨fun h => (by cases h), fun h => absurd hs h⟩, fun h => (by cases h), fun _ => rfl⟩
    by_cases hl : B.length < n
    · rw [if_pos (by omega), some_bind, if_pos rfl]
    · have hBl : B.length = n := by omega
      have hge : n ≤ ld (n - 1) := by
        rcases Nat.lt_or_ge (ld (n - 1)) n with h | h
        · exact absurd hs (inv_sing hP hn0 (by omega) ha hB hk hBl h)
        · exact h
      have w1 : w64 ((n : Int) - 1) = ((n - 1 : Nat) : Int) := by rw [w_in (by omega) (by omega)]; omega
      have hf : i_lead (gR B (n - 1)) = some (ld (n - 1) : Int) := by rw [← s_l12First_lead]; exact hB.first (by omega) (by omega)
      have hc : ile (n : Int) (ld (n - 1) : Int) = true := by simp [ile]; omega
      rw [if_neg (by omega), w1, idxR (by omega), some_bind, hf, some_bind, hc, some_bind, if_pos rfl]
  · obtain ⟨hBl, hlj⟩ := inv_leads hP hn0 (by omega) ha hB hk hle hs
    have hBm : Mat p n (n + n) B := by have := hB.mat; rwa [hBl] at this
    have w1 : w64 ((n : Int) - 1) = ((n - 1 : Nat) : Int) := by rw [w_in (by omega) (by omega)]; omega
    have hf : i_lead (gR B (n - 1)) = some (ld (n - 1) : Int) := by rw [← s_l12First_lead]; exact hB.first (by omega) (by omega)
    have hc : ile (n : Int) (ld (n - 1) : Int) = false := by simp [ile]; rw [hlj (n - 1) (by omega)]; omega
    refine ⟨backm n B, true, ?_, ⟨fun _ => hs, fun _ => rfl⟩, fun _ => ⟨?_, backm_mat hP hn0 (by omega) ha hB hk hBl, inv_right hP hn0 (by omega) ha hB hk hBl hlj, inv_left hP hn0 (by omega) ha hB hk hBl hlj⟩, fun h => (by cases h)⟩
    · rw [if_neg (by omega), w1, idxR (by omega), some_bind, hf, some_bind, hc, some_bind, if_neg (by simp), i_back_loop hP hn0 hn ha hBm, some_bind]
    · rw [s_back_loop hP hn0 hn ha hBm, some_bind]
end
/-- The inverse, and its error. -/
theorem InverseMatrix_full {p : Int} {m : List (List Int)} (h : szM m) : ∃ V C, s_InverseMatrix p m = some (V, C) ∧ i_InverseMatrix p m = some (V, C) ∧ smallM V ∧
    (sqC p m ≠ 0 → C = sqC p m) ∧ (sqC p m = 0 → (C = 0 ∧ ¬ Sg p m.length m.length m ∧ Mat p m.length m.length V ∧ timesm p m.length m.length m.length m V = unitm m.length ∧ timesm p m.length m.length m.length V m = unitm m.length) ∨ (C = 5 ∧ Sg p m.length m.length m)) := by
  unfold s_InverseMatrix i_InverseMatrix
  rw [s_l02Square_eq h, i_checkSquare_eq h, some_bind, some_bind]
  by_cases h0 : sqC p m = 0
  · obtain ⟨hm, hl⟩ := sqC_zero h0
    obtain ⟨h1, h2, h3, hP, h4, h5⟩ := isMat_sz hm
    have h3' : Mat p m.length m.length m := by have := h3; rw [← hl] at this; exact this
    obtain ⟨d, d1, _, d3⟩ := Det_iff hP (r := m.length) (by omega) h3'
    obtain ⟨X, ok, x1, x2, x3, x4⟩ := Inverse_full hP h4 h1 h3'
    rw [h0]
    simp only [if_true, not_true_eq_false, if_false, d1, some_bind, x1]
    cases ok with
    | true =>
      have hs := x2.1 rfl
      have hd : ieq d 0 = false := by simp [ieq]; exact fun e => hs (d3.1 e)
      obtain ⟨y1, y2, y3, y4⟩ := x3 rfl
      simp only [hd, Bool.false_eq_true, if_false, some_bind, not_true_eq_false, y1, Bool.true_eq_false]
      exact ⟨X, 0, rfl, rfl, smallM.of y2 (by omega) (by omega), fun h => absurd rfl h, fun _ => .inl ⟨rfl, hs, y2, y3, y4⟩⟩
    | false =>
      have hs : Sg p m.length m.length m := Classical.byContradiction fun hn => by have := x2.2 hn; cases this
      have hd : ieq d 0 = true := by simp [ieq]; exact d3.2 hs
      simp only [hd, if_true, some_bind]
      exact ⟨[], 5, by simp, rfl, smallM.nil, fun h => absurd rfl h, fun _ => .inr ⟨rfl, hs⟩⟩
  · refine ⟨[], sqC p m, ?_, ?_, smallM.nil, fun _ => rfl, fun h => absurd h h0⟩
    · simp only [h0, if_false, some_bind, Bool.false_eq_true, not_false_eq_true, if_true]
    · simp only [h0, not_false_eq_true, if_true]
theorem LawInverse {p : Int} {m : List (List Int)} (hm : lenM m) : l_FnExactInverseMatrix p m = some true := by
  unfold l_FnExactInverseMatrix
  rw [szM_eq hm (by omega) (by omega), some_bind]
  by_cases h1 : ((m.length + rowsum m : Nat) : Int) ≤ 1048576
  · have hs : szv (m.length + rowsum m) 1048576 = 1048576 - ((m.length + rowsum m : Nat) : Int) := by unfold szv; rw [if_pos h1]
    rw [hs, if_neg (by omega)]
    obtain ⟨za, ra⟩ := sz_split (m := m) (by omega) h1
    obtain ⟨V, C, e3, e4, ⟨z1, z2, z3⟩, _⟩ := InverseMatrix_full (p := p) za
    have e1 := toM_eq za.1 za.2
    have e6 := eqM_self za
    have e7 := eqM_self ⟨z1, z2⟩
    have e8 := markM_1 za.1 ra
    have e10 := markM_1 z1 z3
    have e11 := heldM_1 z1 z3
    simp only [e1, e3, e4, e6, e7, e8, e10, e11, some_bind, Bool.true_eq_false, Bool.false_eq_true, if_false, if_true, ieq_self, Bool.not_true, natneg, not_true_eq_false, bne_self_eq_false]
  · have hs : szv (m.length + rowsum m) 1048576 = -1 := by unfold szv; rw [if_neg h1]
    rw [hs, if_pos (by omega)]
end Go.Vam
