/- Plain laws (2): a determinant is 0 just where the table sends something to nothing. -/
import Derived.Test.YtdoimfkonaeceaaPlD
namespace Go.Vam
open Go Go.RowKit
set_option linter.unusedSimpArgs false
set_option linter.unusedVariables false
set_option linter.unusedSectionVars false

/-- A row less the multiple of R that clears column k. -/
def clp (p : Int) (c k : Nat) (R v : List Int) : List Int := plusv p c v R ((p - gI v k) * invp p (gI R k) % p)
section
variable {p : Int} {r : Nat} (hP : isP p = true) (hr : r ≤ 1048576)
include hP hr
theorem det_clear2 {M m0 : List (List Int)} {R : List Int} {k : Nat} {d0 : Int} (hk : k < r) (hM : Mat p r r M) (hMk : gR M k = R) (hR : gI R k ≠ 0) :
    ∃ x, loop (s_l02Det_L2 p (m0, d0, (k : Int)) (invp p (gI R k))) BIG (M, ((k + 1 : Nat) : Int)) = some x ∧ loop (i_field_determinant_L2 p (m0, d0, (k : Int))) BIG (M, ((k + 1 : Nat) : Int)) = some x ∧
      (Mat p r r x ∧ ∀ j, j < r → gR x j = if k < j then clp p r k R (gR M j) else gR M j) := by
  have hp := isP_le hP
  have hRk := (hMk ▸ hM.row hk : Vec p r R)
  have e4 := hRk.get hk
  have e5 := hRk.1
  obtain ⟨i1, i2, i3⟩ := inv_facts (a := gI R k) hP (by omega) e4.2
  have v2 := i_field_inv_eq (a := gI R k) hP (by omega) e4.2
  unfold clp
  generalize invp p (gI R k) = iv at i1 i2 i3 v2
  refine loop_two (fun s => Mat p r r s.1 ∧ ∃ i : Nat, s.2 = (i : Int) ∧ i ≤ r ∧ k < i ∧ ∀ j, j < r → gR s.1 j = if k < j ∧ j < i then plusv p r (gR M j) R ((p - gI (gR M j) k) * iv % p) else gR M j) (fun s => r - s.2.toNat) _ ⟨hM, k + 1, rfl, by omega, by omega, fun j _ => by rw [if_neg (by omega)]⟩ (by rw [BIG_val]; simp only []; omega) ?_
  rintro ⟨m, t⟩ ⟨hm, i, rfl, hi, hki, hg⟩
  simp only [] at hm hg
  have hmk : gR m k = R := by rw [hg k hk, if_neg (by omega), hMk]
  unfold s_l02Det_L2 i_field_determinant_L2
  have e1 := hm.1
  by_cases hir : i < r
  · have e2 := (hm.row hir).1
    have e3 := (hm.row hir).get hk
    have hgi : gR m i = gR M i := by rw [hg i hir, if_neg (by omega)]
    refine .inl ?_
    have w1 : w64 (p - gI (gR m i) k) = p - gI (gR m i) k := w_in (by omega) (by omega)
    have w2 : w64 (0 - gI (gR m i) k) = 0 - gI (gR m i) k := w_in (by omega) (by omega)
    have q1 := mul_abs (a := p - gI (gR m i) k) (b := iv) (A := 13) (B := 13) (by omega) (by omega)
    have q2 := mul_abs (a := 0 - gI (gR m i) k) (b := iv) (A := 13) (B := 13) (by omega) (by omega)
    have q3 := Int.mul_nonneg (a := p - gI (gR m i) k) (b := iv) (by omega) (by omega)
    have w3 : w64 ((p - gI (gR m i) k) * iv) = (p - gI (gR m i) k) * iv := w_in (by omega) (by omega)
    have w4 : w64 ((0 - gI (gR m i) k) * iv) = (0 - gI (gR m i) k) * iv := w_in (by omega) (by omega)
    have w5 : ((p - gI (gR m i) k) * iv).tmod p = (p - gI (gR m i) k) * iv % p := tmod_nn (by omega)
    have hn := mod_num (a := (p - gI (gR m i) k) * iv) (p := p) (by omega)
    have f1 := s_l02Plus_eq (p := p) (n := r) (a := gR m i) (b := R) (k := (p - gI (gR m i) k) * iv % p) (by omega) (by omega) hr hn.1 (by omega) (hm.row hir) hRk
    have f2 := i_field_plus_eq (p := p) (n := r) (a := gR m i) (b := R) (k := (0 - gI (gR m i) k) * iv) (by omega) (by omega) hr (by omega) (hm.row hir) hRk
    have f3 : plusv p r (gR m i) R ((0 - gI (gR m i) k) * iv) = plusv p r (gR m i) R ((p - gI (gR m i) k) * iv % p) := by
      refine plusv_congr ?_
      rw [Int.emod_emod_of_dvd _ (Int.dvd_refl p)]
      have : (p - gI (gR m i) k) * iv = (0 - gI (gR m i) k) * iv + p * iv := by rw [← Int.add_mul]; congr 1; omega
      rw [this, Int.add_mul_emod_self_left]
    simp only [show (i : Int) < (m.length : Int) by omega, if_true, idxR (show i < m.length by omega), idxR (show k < m.length by omega), idxI (show k < (gR m i).length by omega), some_bind, hmk, idxI (show k < R.length by omega), chk_bind (show ¬ p = 0 by omega), v2, w1, w2, w3, w4, w5, f1, f2, f3, Int.toNat_natCast]
    refine ⟨_, rfl, rfl, ⟨hm.set hir (plusv_vec (by omega) ..), i + 1, ?_, by omega, by omega, fun j hj => ?_⟩, ?_⟩
    · rw [w_in (by omega) (by omega)]; rfl
    · simp only []
      rw [gR_set (by omega)]
      by_cases hij : i = j
      · subst hij
        rw [if_pos rfl, if_pos ⟨hki, by omega⟩, hgi]
      · rw [if_neg hij, hg j hj]
        by_cases h : k < j ∧ j < i
        · rw [if_pos h, if_pos ⟨h.1, by omega⟩]
        · rw [if_neg h, if_neg (by omega)]
    · rw [w_in (by omega) (by omega)]; simp only []; omega
  · refine .inr ?_
    simp only [show ¬ (i : Int) < (m.length : Int) by omega, if_false]
    refine ⟨_, rfl, rfl, hm, fun j hj => ?_⟩
    rw [hg j hj]
    by_cases h : k < j
    · rw [if_pos ⟨h, by omega⟩, if_pos h]
    · rw [if_neg (by omega), if_neg h]
end

section
variable {p : Int} {r k : Nat} {M y : List (List Int)} {R : List Int} (hP : isP p = true) (hk : k < r) (hM : Mat p r r M) (hMk : gR M k = R) (hR : gI R k ≠ 0)
  (hy : ∀ j, j < r → gR y j = if k < j then clp p r k R (gR M j) else gR M j)
include hP hk hM hMk hR hy
theorem clear_ker (x : Nat → Int) : KerP p r r y x ↔ KerP p r r M x := by
  have hyk : gR y k = R := by rw [hy k hk, if_neg (by omega), hMk]
  have hrow : ∀ j, j < r → k < j → rd r (gR y j) x % p = (rd r (gR M j) x + ((p - gI (gR M j) k) * invp p (gI R k) % p) * rd r R x) % p := by
    intro j hj hkj
    rw [hy j hj, if_pos hkj]
    exact rd_plusv x
  constructor
  · intro h j hj
    have hRx : p ∣ rd r R x := by have := h k hk; rwa [hyk] at this
    by_cases hkj : k < j
    · have h1 := (dvd_congr (hrow j hj hkj)).1 (h j hj)
      exact (Int.dvd_add_left (Int.dvd_mul_of_dvd_right hRx)).1 h1
    · have := h j hj; rwa [hy j hj, if_neg hkj] at this
  · intro h j hj
    have hRx : p ∣ rd r R x := by have := h k hk; rwa [hMk] at this
    by_cases hkj : k < j
    · exact (dvd_congr (hrow j hj hkj)).2 (Int.dvd_add (h j hj) (Int.dvd_mul_of_dvd_right hRx))
    · rw [hy j hj, if_neg hkj]; exact h j hj
theorem clear_tri (ht : Tri r k M) : Tri r (k + 1) y := by
  have hp := isP_le hP
  have hRk := (hMk ▸ hM.row hk : Vec p r R)
  have e4 := hRk.get hk
  obtain ⟨i1, i2, i3⟩ := inv_facts (a := gI R k) hP (by omega) e4.2
  intro j hj
  by_cases hjk : j < k
  · obtain ⟨t1, t2⟩ := ht j hjk
    refine ⟨by rw [hy j (by omega), if_neg (by omega)]; exact t1, fun i hi hir => ?_⟩
    rw [hy i hir]
    split
    · unfold clp
      have hRj : gI R j = 0 := by rw [← hMk]; exact t2 k hjk hk
      exact plusv_zero_at (by omega) (t2 i hi hir) hRj
    · exact t2 i hi hir
  · have hjk' : j = k := by omega
    subst hjk'
    refine ⟨by rw [hy j hk, if_neg (by omega), hMk]; exact hR, fun i hi hir => ?_⟩
    rw [hy i hir, if_pos hi]
    unfold clp
    rw [plusv_at hk]
    generalize gI (gR M i) j = e
    generalize gI R j = a at i3
    generalize invp p a = v at i3
    have h1 : (p - e) * v % p * a % p = (p - e) % p := by
      rw [mul_mod_l (emm _ _), Int.mul_assoc, Int.mul_comm v, Int.mul_emod, i3, Int.mul_one, emm]
    rw [Int.add_emod, h1, ← Int.add_emod]
    have : e + (p - e) = p := by omega
    rw [this, Int.emod_self]
end
theorem swap_row {p : Int} {r x k : Nat} {M : List (List Int)} (hM : Mat p r r M) (hx : x < r) (hk : k < r) (i : Nat) : gR ((M.set x (gR M k)).set k (gR M x)) i = if i = k then gR M x else if i = x then gR M k else gR M i := by
  have := hM.1
  rw [gR_set (by rw [List.length_set]; omega), gR_set (by omega)]
  by_cases h : i = k
  · rw [if_pos h.symm, if_pos h]
  · rw [if_neg (fun e => h e.symm), if_neg h]
    by_cases h2 : i = x
    · rw [if_pos h2.symm, if_pos h2]
    · rw [if_neg (fun e => h2 e.symm), if_neg h2]
theorem swap_ker {p : Int} {r x k : Nat} {M : List (List Int)} (hM : Mat p r r M) (hx : x < r) (hk : k < r) (u : Nat → Int) : KerP p r r ((M.set x (gR M k)).set k (gR M x)) u ↔ KerP p r r M u := by
  constructor
  · intro h i hi
    by_cases h1 : i = k
    · have := h x hx
      rw [swap_row hM hx hk] at this
      by_cases h2 : x = k
      · rw [if_pos h2, h2] at this; rw [h1]; exact this
      · rw [if_neg h2, if_pos rfl] at this; rw [h1]; exact this
    · by_cases h2 : i = x
      · have := h k hk
        rw [swap_row hM hx hk, if_pos rfl] at this
        rw [h2]; exact this
      · have := h i hi
        rw [swap_row hM hx hk, if_neg h1, if_neg h2] at this
        exact this
  · intro h i hi
    rw [swap_row hM hx hk]
    split
    · exact h x hx
    · split
      · exact h k hk
      · exact h i hi
theorem swap_tri {p : Int} {r x k : Nat} {M : List (List Int)} (hM : Mat p r r M) (hx : x < r) (hk : k < r) (hkx : k ≤ x) (ht : Tri r k M) : Tri r k ((M.set x (gR M k)).set k (gR M x)) := by
  intro j hj
  obtain ⟨t1, t2⟩ := ht j hj
  refine ⟨by rw [swap_row hM hx hk, if_neg (by omega), if_neg (by omega)]; exact t1, fun i hi hir => ?_⟩
  rw [swap_row hM hx hk]
  split
  · exact t2 x (by omega) hx
  · split
    · exact t2 k hj hk
    · exact t2 i hi hir

theorem find_eq2 {p : Int} {r c : Nat} {m : List (List Int)} (hm : Mat p r c m) {k s : Nat} (hr : r ≤ 1048576) (hk : k < c) (hs : s ≤ r) :
    ∃ b, loop (findStep m (k : Int)) BIG (s : Int) = some b ∧ ∃ x : Nat, b = (x : Int) ∧ s ≤ x ∧ x ≤ r ∧ (x < r → gI (gR m x) k ≠ 0) ∧ ∀ i, s ≤ i → i < x → gI (gR m i) k = 0 := by
  refine loop_inv (fun t => ∃ x : Nat, t = (x : Int) ∧ s ≤ x ∧ x ≤ r ∧ ∀ i, s ≤ i → i < x → gI (gR m i) k = 0) (fun t => r - t.toNat) _ ⟨s, rfl, by omega, hs, fun i h1 h2 => by omega⟩ (by rw [BIG_val]; omega) ?_
  rintro t ⟨x, rfl, h1, h2, h0⟩
  unfold findStep
  have e1 := hm.1
  by_cases hx : x < r
  · have e2 := (hm.row hx).1
    rw [if_pos (by omega), idxR (by omega), some_bind, idxI (by omega), some_bind, some_bind]
    by_cases hz : gI (gR m x) k = 0
    · simp only [hz, ieq_self, if_true]
      refine .inl ⟨_, rfl, ⟨x + 1, ?_, by omega, by omega, fun i i1 i2 => by
        rcases Nat.lt_succ_iff_lt_or_eq.1 i2 with h | h
        · exact h0 i i1 h
        · rw [h]; exact hz⟩, ?_⟩
      · rw [w_in (by omega) (by omega)]; rfl
      · rw [w_in (by omega) (by omega)]; omega
    · have : ieq (gI (gR m x) k) 0 = false := by simp [ieq, hz]
      rw [this]
      exact .inr ⟨_, rfl, x, rfl, h1, h2, fun _ => hz, h0⟩
  · rw [if_neg (by omega), some_bind]
    exact .inr ⟨_, rfl, x, rfl, h1, h2, fun h => absurd h hx, h0⟩

section
variable {p : Int} {r : Nat} (hP : isP p = true) (hr : r ≤ 1048576)
include hP hr
theorem det_two2 {m v1 : List (List Int)} (hm : Mat p r r m) (hv : v1.length = r) :
    ∃ b, loop (s_l02Det_L0 p) BIG (m, 1, 0) = some b ∧ loop (i_field_determinant_L0 p v1) BIG (m, 1, 0) = some b ∧ (match b with | .inl d => d ≠ 0 ∧ ¬ Sg p r r m | .inr d => d = 0 ∧ Sg p r r m) := by
  have hp := isP_le hP
  generalize hM0 : m = M0
  rw [hM0] at hm
  refine loop_two (fun s => Mat p r r s.1 ∧ 0 ≤ s.2.1 ∧ s.2.1 < p ∧ s.2.1 ≠ 0 ∧ (∀ u, KerP p r r s.1 u ↔ KerP p r r M0 u) ∧ ∃ k : Nat, s.2.2 = (k : Int) ∧ k ≤ r ∧ Tri r k s.1) (fun s => r - s.2.2.toNat) _ ⟨hm, (by decide : (0 : Int) ≤ 1), (show (1 : Int) < p by omega), (by decide : (1 : Int) ≠ 0), fun _ => Iff.rfl, 0, rfl, by omega, fun j hj => by omega⟩ (by rw [BIG_val]; simp only []; omega) ?_
  rintro ⟨m, d, t⟩ ⟨hm, hd0, hd1, hdn, hker, k, rfl, hk, htri⟩
  simp only [] at hm hd0 hd1 hdn hker htri
  have e1 := hm.1
  unfold s_l02Det_L0 i_field_determinant_L0
  by_cases hkr : k < r
  · obtain ⟨b, h1, x, rfl, h2, h3, h4, hz⟩ := find_eq2 hm (k := k) (s := k) hr hkr hk
    have l1 : s_l02Det_L1 (m, d, (k : Int)) = findStep m (k : Int) := rfl
    have l2 : i_field_determinant_L1 (m, d, (k : Int)) = findStep m (k : Int) := rfl
    have c1 : (k : Int) < (m.length : Int) := by omega
    have c2 : (k : Int) < (v1.length : Int) := by omega
    by_cases hx : x = r
    · refine .inr ?_
      have hx' : (x : Int) = (m.length : Int) := by omega
      simp only [c1, c2, if_true, l1, l2, h1, some_bind, hx']
      obtain ⟨u, u1, u2⟩ := tri_stuck hP hm htri hkr fun i hi1 hi2 => hz i hi1 (by omega)
      exact ⟨_, rfl, rfl, rfl, u, u1, (hker u).1 u2⟩
    refine .inl ?_
    have hx' : ¬ (x : Int) = (m.length : Int) := by omega
    have hxr : x < r := by omega
    have hne := h4 hxr
    have e3 := (hm.row hxr).1
    have e4 := (hm.row hxr).get hkr
    obtain ⟨i1, i2, i3⟩ := inv_facts (a := gI (gR m x) k) hP (by omega) e4.2
    have f1 := s_l01Inv_eq (a := gI (gR m x) k) hP (by omega) e4.2
    by_cases hxk : x = k
    · have c3 : ¬ (k : Int) < (x : Int) := by omega
      have c4 : (x : Int) = (k : Int) := by omega
      have hM : Mat p r r m := hm
      have hMk : gR m k = gR m x := by rw [hxk]
      have e5 := hM.1
      obtain ⟨y, y1, y2, y3, y4⟩ := det_clear2 (p := p) (r := r) (M := m) (m0 := m) (R := gR m x) (k := k) (d0 := d) hP hr hkr hM hMk hne
      have q := mul_abs (a := d) (b := gI (gR m x) k) (A := 13) (B := 13) (by omega) (by omega)
      have q0 := Int.mul_nonneg (a := d) (b := gI (gR m x) k) (by omega) (by omega)
      have w3 : w64 (d * gI (gR m x) k) = d * gI (gR m x) k := w_in (by omega) (by omega)
      have w4 : (d * gI (gR m x) k).tmod p = d * gI (gR m x) k % p := tmod_nn (by omega)
      have w5 := i_field_num_eq (p := p) (n := d * gI (gR m x) k) (by omega) (by omega) (by omega) (by omega)
      have w6 : w64 ((k : Int) + 1) = ((k + 1 : Nat) : Int) := by rw [w_in (by omega) (by omega)]; rfl
      have hn := mod_num (a := d * gI (gR m x) k) (p := p) (by omega)
      simp only [c1, c2, if_true, l1, l2, h1, some_bind, hx', if_false, c3, not_true_eq_false, show ((x : Int) = (k : Int)) = True from eq_true c4, idxR (show k < m.length by omega), hMk, idxI (show k < (gR m x).length by omega), chk_bind (show ¬ p = 0 by omega), f1, w3, w4, w5, w6, y1, y2]
      exact ⟨_, rfl, rfl, ⟨y3, hn.1, hn.2, (fun e => ((mul_zero_mod hP ⟨hd0, hd1⟩ e4).1 e).elim hdn hne), fun u => (clear_ker hP hkr hM hMk hne y4 u).trans (hker u), k + 1, rfl, by omega, clear_tri hP hkr hM hMk hne y4 htri⟩, by simp only [Int.toNat_natCast]; omega⟩
    · have c3 : (k : Int) < (x : Int) := by omega
      have c4 : ¬ (x : Int) = (k : Int) := by omega
      have g2 : (m.set k (gR m x)).set x (gR m k) = (m.set x (gR m k)).set k (gR m x) := List.set_comm _ _ (fun h => hxk h.symm)
      have hn0 := mod_num (a := p - d) (p := p) (by omega)
      have hdn2 : (p - d) % p ≠ 0 := by
        rw [Int.emod_eq_of_lt (show 0 ≤ p - d by omega) (by omega)]; omega
      have w7 : w64 (p - d) = p - d := w_in (by omega) (by omega)
      have w8 : w64 (0 - d) = 0 - d := w_in (by omega) (by omega)
      have w9 : (p - d).tmod p = (p - d) % p := tmod_nn (by omega)
      have w10 : i_field_num p (0 - d) = some ((p - d) % p) := by
        rw [i_field_num_eq (by omega) (by omega) (by omega) (by omega)]
        have : p - d = 0 - d + p := by omega
        rw [this, Int.add_emod_right]
      have hM : Mat p r r ((m.set x (gR m k)).set k (gR m x)) := (hm.set hxr (hm.row hkr)).set hkr (hm.row hxr)
      have hMk : gR ((m.set x (gR m k)).set k (gR m x)) k = gR m x := by rw [gR_set (by rw [List.length_set]; omega), if_pos rfl]
      have e5 := hM.1
      obtain ⟨y, y1, y2, y3, y4⟩ := det_clear2 (p := p) (r := r) (M := ((m.set x (gR m k)).set k (gR m x))) (m0 := m) (R := gR m x) (k := k) (d0 := d) hP hr hkr hM hMk hne
      have q := mul_abs (a := ((p - d) % p)) (b := gI (gR m x) k) (A := 13) (B := 13) (by omega) (by omega)
      have q0 := Int.mul_nonneg (a := ((p - d) % p)) (b := gI (gR m x) k) (by omega) (by omega)
      have w3 : w64 (((p - d) % p) * gI (gR m x) k) = ((p - d) % p) * gI (gR m x) k := w_in (by omega) (by omega)
      have w4 : (((p - d) % p) * gI (gR m x) k).tmod p = ((p - d) % p) * gI (gR m x) k % p := tmod_nn (by omega)
      have w5 := i_field_num_eq (p := p) (n := ((p - d) % p) * gI (gR m x) k) (by omega) (by omega) (by omega) (by omega)
      have w6 : w64 ((k : Int) + 1) = ((k + 1 : Nat) : Int) := by rw [w_in (by omega) (by omega)]; rfl
      have hn := mod_num (a := ((p - d) % p) * gI (gR m x) k) (p := p) (by omega)
      simp only [c1, c2, if_true, l1, l2, h1, some_bind, hx', if_false, c3, c4, not_false_eq_true, idxR (show x < m.length by omega), idxR (show k < m.length by omega), idxR (show x < (m.set k (gR m x)).length by rw [List.length_set]; omega), idxR (show k < (m.set x (gR m k)).length by rw [List.length_set]; omega), Int.toNat_natCast, g2, w7, w8, w9, w10, idxR (show k < ((m.set x (gR m k)).set k (gR m x)).length by omega), hMk, idxI (show k < (gR m x).length by omega), chk_bind (show ¬ p = 0 by omega), f1, w3, w4, w5, w6, y1, y2]
      exact ⟨_, rfl, rfl, ⟨y3, hn.1, hn.2, (fun e => ((mul_zero_mod hP hn0 e4).1 e).elim hdn2 hne), fun u => ((clear_ker hP hkr hM hMk hne y4 u).trans (swap_ker hm hxr hkr u)).trans (hker u), k + 1, rfl, by omega, clear_tri hP hkr hM hMk hne y4 (swap_tri hm hxr hkr h2 htri)⟩, by simp only [Int.toNat_natCast]; omega⟩
  · refine .inr ?_
    simp only [show ¬ (k : Int) < (m.length : Int) by omega, show ¬ (k : Int) < (v1.length : Int) by omega, if_false]
    refine ⟨_, rfl, rfl, hdn, fun ⟨u, ⟨q, hq1, hq2⟩, hu⟩ => ?_⟩
    have hkk : k = r := by omega
    subst hkk
    exact hq2 (tri_free hP hm htri ((hker u).2 hu) q hq1)
theorem Det_iff {m : List (List Int)} (hm : Mat p r r m) : ∃ d, s_l02Det p m = some d ∧ i_field_determinant p m = some d ∧ (d = 0 ↔ Sg p r r m) := by
  obtain ⟨b, h1, h2, h3⟩ := det_two2 hP hr hm hm.1
  have hz := hm.sz hr hr
  unfold s_l02Det i_field_determinant
  rw [s_l01Own2_eq hz, i_cloneRows_eq hz, some_bind, some_bind, h1, h2, some_bind]
  cases b with
  | inl d => exact ⟨d, rfl, rfl, fun e => absurd e h3.1, fun e => absurd e h3.2⟩
  | inr d => exact ⟨d, rfl, rfl, fun _ => h3.2, fun _ => h3.1⟩
end
end Go.Vam
