import Derived.Test.YtcijfjeeggfgmaaPlG0
import Derived.Test.YtcijfjeeggfgmaaFmG0
/- Plain laws (2): a determinant is 0 just where the table sends something to nothing. -/
namespace Go.Vam
open Go Go.RowKit
set_option linter.unusedSimpArgs false
set_option linter.unusedVariables false
set_option linter.unusedSectionVars false

/-- A row less the multiple of R that clears column k. -/
def clp (p : Int) (c k : Nat) (R v : List Int) : List Int := plusv p c v R ((p - gI v k) * invp p (gI R k) % p)
section
variable {p : Int} {r : Nat} (hP : isP p = true) (hr : r ≤ 1048576)
include hP hr
theorem det_clear2 {M m0 : List (List Int)} {R : List Int} {k : Nat} {d0 : Int} (hk : k < r) (hM : Mat p r r M) (hMk : gR M k = R) (hR : gI R k ≠ 0) :
    ∃ x, loop (s_l02Det_L2 p (m0, d0, (k : Int)) (invp p (gI R k))) BIG (M, ((k + 1 : Nat) : Int)) = some x ∧ loop (i_field_determinant_L2 p (m0, d0, (k : Int))) BIG (M, ((k + 1 : Nat) : Int)) = some x ∧
      (Mat p r r x ∧ ∀ j, j < r → gR x j = if k < j then clp p r k R (gR M j) else gR M j) := by
  have hp := isP_le hP
  have hRk := (hMk ▸ hM.row hk : Vec p r R)
  have e4 := hRk.get hk
  have e5 := hRk.1
  obtain ⟨i1, i2, i3⟩ := inv_facts (a := gI R k) hP (by omega) e4.2
  have v2 := i_field_inv_eq (a := gI R k) hP (by omega) e4.2
  unfold clp
  generalize invp p (gI R k) = iv at i1 i2 i3 v2
  refine loop_two (fun s => Mat p r r s.1 ∧ ∃ i : Nat, s.2 = (i : Int) ∧ i ≤ r ∧ k < i ∧ ∀ j, j < r → gR s.1 j = if k < j ∧ j < i then plusv p r (gR M j) R ((p - gI (gR M j) k) * iv % p) else gR M j) (fun s => r - s.2.toNat) _ ⟨hM, k + 1, rfl, by omega, by omega, fun j _ => by rw [if_neg (by omega)]⟩ (by rw [BIG_val]; simp only []; omega) ?_
  rintro ⟨m, t⟩ ⟨hm, i, rfl, hi, hki, hg⟩
  simp only [] at hm hg
  have hmk : gR m k = R := by rw [hg k hk, if_neg (by omega), hMk]
  unfold s_l02Det_L2 i_field_determinant_L2
  have e1 := hm.1
  by_cases hir : i < r
  · have e2 := (hm.row hir).1
    have e3 := (hm.row hir).get hk
    have hgi : gR m i = gR M i := by rw [hg i hir, if_neg (by omega)]
    refine .inl ?_
    have w1 : w64 (p - gI (gR m i) k) = p - gI (gR m i) k := w_in (by omega) (by omega)
    have w2 : w64 (0 - gI (gR m i) k) = 0 - gI (gR m i) k := w_in (by omega) (by omega)
    have q1 := mul_abs (a := p - gI (gR m i) k) (b := iv) (A := 13) (B := 13) (by omega) (by omega)
    have q2 := mul_abs (a := 0 - gI (gR m i) k) (b := iv) (A := 13) (B := 13) (by omega) (by omega)
    have q3 := Int.mul_nonneg (a := p - gI (gR m i) k) (b := iv) (by omega) (by omega)
    have w3 : w64 ((p - gI (gR m i) k) * iv) = (p - gI (gR m i) k) * iv := w_in (by omega) (by omega)
    have w4 : w64 ((0 - gI (gR m i) k) * iv) = (0 - gI (gR m i) k) * iv := w_in (by omega) (by omega)
    have w5 : ((p - gI (gR m i) k) * iv).tmod p = (p - gI (gR m i) k) * iv % p := tmod_nn (by omega)
    have hn := mod_num (a := (p - gI (gR m i) k) * iv) (p := p) (by omega)
    have f1 := s_l02Plus_eq (p := p) (n := r) (a := gR m i) (b := R) (k := (p - gI (gR m i) k) * iv % p) (by omega) (by omega) hr hn.1 (by omega) (hm.row hir) hRk
    have f2 := i_field_plus_eq (p := p) (n := r) (a := gR m i) (b := R) (k := (0 - gI (gR m i) k) * iv) (by omega) (by omega) hr (by omega) (hm.row hir) hRk
    have f3 : plusv p r (gR m i) R ((0 - gI (gR m i) k) * iv) = plusv p r (gR m i) R ((p - gI (gR m i) k) * iv % p) := by
      refine plusv_congr ?_
      rw [Int.emod_emod_of_dvd _ (Int.dvd_refl p)]
      have : (p - gI (gR m i) k) * iv = (0 - gI (gR m i) k) * iv + p * iv := by rw [← Int.add_mul]; congr 1; omega
      rw [this, Int.add_mul_emod_self_left]
    simp only [show (i : Int) < (m.length : Int) by omega, if_true, idxR (show i < m.length by omega), idxR (show k < m.length by omega), idxI (show k < (gR m i).length by omega), some_bind, hmk, idxI (show k < R.length by omega), chk_bind (show ¬ p = 0 by omega), v2, w1, w2, w3, w4, w5, f1, f2, f3, Int.toNat_natCast]
    refine ⟨_, rfl, rfl, ⟨hm.set hir (plusv_vec (by omega) ..), i + 1, ?_, by omega, by omega, fun j hj => ?_⟩, ?_⟩
    · rw [w_in (by omega) (by omega)]; rfl
    · simp only []
      rw [gR_set (by omega)]
      by_cases hij : i = j
      · subst hij
        rw [if_pos rfl, if_pos ⟨hki, by omega⟩, hgi]
      · rw [if_neg hij, hg j hj]
        by_cases h : k < j ∧ j < i
        · rw [if_pos h, if_pos ⟨h.1, by omega⟩]
        · rw [if_neg h, if_neg (by omega)]
    · rw [w_in (by omega) (by omega)]; simp only []; omega
  · refine .inr ?_
    simp only [show ¬ (i : Int) < (m.length : Int) by omega, if_false]
    refine ⟨_, rfl, rfl, hm, fun j hj => ?_⟩
    rw [hg j hj]
    by_cases h : k < j
    · rw [if_pos ⟨h, by omega⟩, if_pos h]
    · rw [if_neg (by omega), if_neg h]
end

section
variable {p : Int} {r k : Nat} {M y : List (List Int)} {R : List Int} (hP : isP p = true) (hk : k < r) (hM : Mat p r r M) (hMk : gR M k = R) (hR : gI R k ≠ 0)
  (hy : ∀ j, j < r → gR y j = if k < j then clp p r k R (gR M j) else gR M j)
include hP hk hM hMk hR hy
theorem clear_ker (x : Nat → Int) : KerP p r r y x ↔ KerP p r r M x := by
  have hyk : gR y k = R := by rw [hy k hk, if_neg (by omega), hMk]
  have hrow : ∀ j, j < r → k < j → rd r (gR y j) x % p = (rd r (gR M j) x + ((p - gI (gR M j) k) * invp p (gI R k) % p) * rd r R x) % p := by
    intro j hj hkj
    rw [hy j hj, if_pos hkj]
    exact rd_plusv x
  constructor
  · intro h j hj
    have hRx : p ∣ rd r R x := by have := h k hk; rwa [hyk] at this
    by_cases hkj : k < j
    · have h1 := (dvd_congr (hrow j hj hkj)).1 (h j hj)
      exact (Int.dvd_add_left (Int.dvd_mul_of_dvd_right hRx)).1 h1
    · have := h j hj; rwa [hy j hj, if_neg hkj] at this
  · intro h j hj
    have hRx : p ∣ rd r R x := by have := h k hk; rwa [hMk] at this
    by_cases hkj : k < j
    · exact (dvd_congr (hrow j hj hkj)).2 (Int.dvd_add (h j hj) (Int.dvd_mul_of_dvd_right hRx))
    · rw [hy j hj, if_neg hkj]; exact h j hj
theorem clear_tri (ht : Tri r k M) : Tri r (k + 1) y := by
  have hp := isP_le hP
  have hRk := (hMk ▸ hM.row hk : Vec p r R)
  have e4 := hRk.get hk
  obtain ⟨i1, i2, i3⟩ := inv_facts (a := gI R k) hP (by omega) e4.2
  intro j hj
  by_cases hjk : j < k
  · obtain ⟨t1, t2⟩ := ht j hjk
    refine ⟨by rw [hy j (by omega), if_neg (by omega)]; exact t1, fun i hi hir => ?_⟩
    rw [hy i hir]
    split
    · unfold clp
      have hRj : gI R j = 0 := by rw [← hMk]; exact t2 k hjk hk
      exact plusv_zero_at (by omega) (t2 i hi hir) hRj
    · exact t2 i hi hir
  · have hjk' : j = k := by omega
    subst hjk'
    refine ⟨by rw [hy j hk, if_neg (by omega), hMk]; exact hR, fun i hi hir => ?_⟩
    rw [hy i hir, if_pos hi]
    unfold clp
    rw [plusv_at hk]
    generalize gI (gR M i) j = e
    generalize gI R j = a at i3
    generalize invp p a = v at i3
    have h1 : (p - e) * v % p * a % p = (p - e) % p := by
      rw [mul_mod_l (emm _ _), Int.mul_assoc, Int.mul_comm v, Int.mul_emod, i3, Int.mul_one, emm]
    rw [Int.add_emod, h1, ← Int.add_emod]
    have : e + (p - e) = p := by omega
    rw [this, Int.emod_self]
end
theorem swap_row {p : Int} {r x k : Nat} {M : List (List Int)} (hM : Mat p r r M) (hx : x < r) (hk : k < r) (i : Nat) : gR ((M.set x (gR M k)).set k (gR M x)) i = if i = k then gR M x else if i = x then gR M k else gR M i := by
  have := hM.1
  rw [gR_set (by rw [List.length_set]; omega), gR_set (by omega)]
  by_cases h : i = k
  · rw [if_pos h.symm, if_pos h]
  · rw [if_neg (fun e => h e.symm), if_neg h]
    by_cases h2 : i = x
    · rw [if_pos h2.symm, if_pos h2]
    · rw [if_neg (fun e => h2 e.symm), if_neg h2]
theorem swap_ker {p : Int} {r x k : Nat} {M : List (List Int)} (hM : Mat p r r M) (hx : x < r) (hk : k < r) (u : Nat → Int) : KerP p r r ((M.set x (gR M k)).set k (gR M x)) u ↔ KerP p r r M u := by
  constructor
  · intro h i hi
    by_cases h1 : i = k
    · have := h x hx
      rw [swap_row hM hx hk] at this
      by_cases h2 : x = k
      · rw [if_pos h2, h2] at this; rw [h1]; exact this
      · rw [if_neg h2, if_pos rfl] at this; rw [h1]; exact this
    · by_cases h2 : i = x
      · have := h k hk
        rw [swap_row hM hx hk, if_pos rfl] at this
        rw [h2]; exact this
      · have := h i hi
        rw [swap_row hM hx hk, if_neg h1, if_neg h2] at this
        exact this
  · intro h i hi
    rw [swap_row hM hx hk]
    split
    · exact h x hx
    · split
      · exact h k hk
      · exact h i hi
theorem swap_tri {p : Int} {r x k : Nat} {M : List (List Int)} (hM : Mat p r r M) (hx : x < r) (hk : k < r) (hkx : k ≤ x) (ht : Tri r k M) : Tri r k ((M.set x (gR M k)).set k (gR M x)) := by
  intro j hj
  obtain ⟨t1, t2⟩ := ht j hj
  refine ⟨by rw [swap_row hM hx hk, if_neg (by omega), if_neg (by omega)]; exact t1, fun i hi hir => ?_⟩
  rw [swap_row hM hx hk]
  split
  · exact t2 x (by omega) hx
  · split
    · exact t2 k hj hk
    · exact t2 i hi hir

theorem find_eq2 {p : Int} {r c : Nat} {m : List (List Int)} (hm : Mat p r c m) {k s : Nat} (hr : r ≤ 1048576) (hk : k < c) (hs : s ≤ r) :
    ∃ b, loop (findStep m (k : Int)) BIG (s : Int) = some b ∧ ∃ x : Nat, b = (x : Int) ∧ s ≤ x ∧ x ≤ r ∧ (x < r → gI (gR m x) k ≠ 0) ∧ ∀ i, s ≤ i → i < x → gI (gR m i) k = 0 := by
  refine loop_inv (fun t => ∃ x : Nat, t = (x : Int) ∧ s ≤ x ∧ x ≤ r ∧ ∀ i, s ≤ i → i < x → gI (gR m i) k = 0) (fun t => r - t.toNat) _ ⟨s, rfl, by omega, hs, fun i h1 h2 => by omega⟩ (by rw [BIG_val]; omega) ?_
  rintro t ⟨x, rfl, h1, h2, h0⟩
  unfold findStep
  have e1 := hm.1
  by_cases hx : x < r
  · have e2 := (hm.row hx).1
    rw [if_pos (by omega), idxR (by omega), some_bind, idxI (by omega), some_bind, some_bind]
    by_cases hz : gI (gR m x) k = 0
    · simp only [hz, ieq_self, if_true]
      refine .inl ⟨_, rfl, ⟨x + 1, ?_, by omega, by omega, fun i i1 i2 => by
        rcases Nat.lt_succ_iff_lt_or_eq.1 i2 with h | h
        · exact h0 i i1 h
        · rw [h]; exact hz⟩, ?_⟩
      · rw [w_in (by omega) (by omega)]; rfl
      · rw [w_in (by omega) (by omega)]; omega
    · have : ieq (gI (gR m x) k) 0 = false := by simp [ieq, hz]
      rw [this]
      exact .inr ⟨_, rfl, x, rfl, h1, h2, fun _ => hz, h0⟩
  · rw [if_neg (by omega), some_bind]
    exact .inr ⟨_, rfl, x, rfl, h1, h2, fun h => absurd h hx, h0⟩

section
variable {p : Int} {r : Nat} (hP : isP p = true) (hr : r ≤ 1048576)
include hP hr
theorem det_two2 {m v1 : List (List Int)} (hm : Mat p r r m) (hv : v1.length = r) :
    ∃ b, loop (s_l02Det_L0 p) BIG (m, 1, 0) = some b ∧ loop (i_field_determinant_L0 p v1) BIG (m, 1, 0) = some b ∧ (match b with | .inl d => d ≠ 0 ∧ ¬ Sg p r r m | .inr d => d = 0 ∧ Sg p r r m) := by
  have hp := isP_le hP
  generalize hM0 : m = M0
  rw [hM0] at hm
  refine loop_two (fun s => Mat p r r s.1 ∧ 0 ≤ s.2.1 ∧ s.2.1 < p ∧ s.2.1 ≠ 0 ∧ (∀ u, KerP p r r s.1 u ↔ KerP p r r M0 u) ∧ ∃ k : Nat, s.2.2 = (k : Int) ∧ k ≤ r ∧ Tri r k s.1) (fun s => r - s.2.2.toNat) _ ⟨hm, (by decide : (0 : Int) ≤ 1), (show (1 : Int) < p by omega), (by decide : (1 : Int) ≠ 0), fun _ => Iff.rfl, 0, rfl, by omega, fun j hj => by omega⟩ (by rw [BIG_val]; simp only []; omega) ?_
  rintro ⟨m, d, t⟩ ⟨hm, hd0, hd1, hdn, hker, k, rfl, hk, htri⟩
  simp only [] at hm hd0 hd1 hdn hker htri
  have e1 := hm.1
  unfold s_l02Det_L0 i_field_determinant_L0
  by_cases hkr : k < r
  · obtain ⟨b, h1, x, rfl, h2, h3, h4, hz⟩ := find_eq2 hm (k := k) (s := k) hr hkr hk
    have l1 : s_l02Det_L1 (m, d, (k : Int)) = findStep m (k : Int) := rfl
    have l2 : i_field_determinant_L1 (m, d, (k : Int)) = findStep m (k : Int) := rfl
    have c1 : (k : Int) < (m.length : Int) := by omega
    have c2 : (k : Int) < (v1.length : Int) := by omega
    by_cases hx : x = r
    · refine .inr ?_
      have hx' : (x : Int) = (m.length : Int) := by omega
      simp only [c1, c2, if_true, l1, l2, h1, some_bind, hx']
      obtain ⟨u, u1, u2⟩ := tri_stuck hP hm htri hkr fun i hi1 hi2 => hz i hi1 (by omega)
      exact ⟨_, rfl, rfl, rfl, u, u1, (hker u).1 u2⟩
    refine .inl ?_
    have hx' : ¬ (x : Int) = (m.length : Int) := by omega
    have hxr : x < r := by omega
    have hne := h4 hxr
    have e3 := (hm.row hxr).1
    have e4 := (hm.row hxr).get hkr
    obtain ⟨i1, i2, i3⟩ := inv_facts (a := gI (gR m x) k) hP (by omega) e4.2
    have f1 := s_l01Inv_eq (a := gI (gR m x) k) hP (by omega) e4.2
    by_cases hxk : x = k
    · have c3 : ¬ (k : Int) < (x : Int) := by omega
      have c4 : (x : Int) = (k : Int) := by omega
      have hM : Mat p r r m := hm
      have hMk : gR m k = gR m x := by rw [hxk]
      have e5 := hM.1
      obtain ⟨y, y1, y2, y3, y4⟩ := det_clear2 (p := p) (r := r) (M := m) (m0 := m) (R := gR m x) (k := k) (d0 := d) hP hr hkr hM hMk hne
      have q := mul_abs (a := d) (b := gI (gR m x) k) (A := 13) (B := 13) (by omega) (by omega)
      have q0 := Int.mul_nonneg (a := d) (b := gI (gR m x) k) (by omega) (by omega)
      have w3 : w64 (d * gI (gR m x) k) = d * gI (gR m x) k := w_in (by omega) (by omega)
      have w4 : (d * gI (gR m x) k).tmod p = d * gI (gR m x) k % p := tmod_nn (by omega)
      have w5 := i_field_num_eq (p := p) (n := d * gI (gR m x) k) (by omega) (by omega) (by omega) (by omega)
      have w6 : w64 ((k : Int) + 1) = ((k + 1 : Nat) : Int) := by rw [w_in (by omega) (by omega)]; rfl
      have hn := mod_num (a := d * gI (gR m x) k) (p := p) (by omega)
      simp only [c1, c2, if_true, l1, l2, h1, some_bind, hx', if_false, c3, not_true_eq_false, show ((x : Int) = (k : Int)) = True from eq_true c4, idxR (show k < m.length by omega), hMk, idxI (show k < (gR m x).length by omega), chk_bind (show ¬ p = 0 by omega), f1, w3, w4, w5, w6, y1, y2]
      exact ⟨_, rfl, rfl, ⟨y3, hn.1, hn.2, (fun e => ((mul_zero_mod hP ⟨hd0, hd1⟩ e4).1 e).elim hdn hne), fun u => (clear_ker hP hkr hM hMk hne y4 u).trans (hker u), k + 1, rfl, by omega, clear_tri hP hkr hM hMk hne y4 htri⟩, by simp only [Int.toNat_natCast]; omega⟩
    · have c3 : (k : Int) < (x : Int) := by omega
      have c4 : ¬ (x : Int) = (k : Int) := by omega
      have g2 : (m.set k (gR m x)).set x (gR m k) = (m.set x (gR m k)).set k (gR m x) := List.set_comm _ _ (fun h => hxk h.symm)
      have hn0 := mod_num (a := p - d) (p := p) (by omega)
      have hdn2 : (p - d) % p ≠ 0 := by
        rw [Int.emod_eq_of_lt (show 0 ≤ p - d by omega) (by omega)]; omega
      have w7 : w64 (p - d) = p - d := w_in (by omega) (by omega)
      have w8 : w64 (0 - d) = 0 - d := w_in (by omega) (by omega)
      have w9 : (p - d).tmod p = (p - d) % p := tmod_nn (by omega)
      have w10 : i_field_num p (0 - d) = some ((p - d) % p) := by
        rw [i_field_num_eq (by omega) (by omega) (by omega) (by omega)]
        have : p - d = 0 - d + p := by omega
        rw [this, Int.add_emod_right]
      have hM : Mat p r r ((m.set x (gR m k)).set k (gR m x)) := (hm.set hxr (hm.row hkr)).set hkr (hm.row hxr)
      have hMk : gR ((m.set x (gR m k)).set k (gR m x)) k = gR m x := by rw [gR_set (by rw [List.length_set]; omega), if_pos rfl]
      have e5 := hM.1
      obtain ⟨y, y1, y2, y3, y4⟩ := det_clear2 (p := p) (r := r) (M := ((m.set x (gR m k)).set k (gR m x))) (m0 := m) (R := gR m x) (k := k) (d0 := d) hP hr hkr hM hMk hne
      have q := mul_abs (a := ((p - d) % p)) (b := gI (gR m x) k) (A := 13) (B := 13) (by omega) (by omega)
      have q0 := Int.mul_nonneg (a := ((p - d) % p)) (b := gI (gR m x) k) (by omega) (by omega)
      have w3 : w64 (((p - d) % p) * gI (gR m x) k) = ((p - d) % p) * gI (gR m x) k := w_in (by omega) (by omega)
      have w4 : (((p - d) % p) * gI (gR m x) k).tmod p = ((p - d) % p) * gI (gR m x) k % p := tmod_nn (by omega)
      have w5 := i_field_num_eq (p := p) (n := ((p - d) % p) * gI (gR m x) k) (by omega) (by omega) (by omega) (by omega)
      have w6 : w64 ((k : Int) + 1) = ((k + 1 : Nat) : Int) := by rw [w_in (by omega) (by omega)]; rfl
      have hn := mod_num (a := ((p - d) % p) * gI (gR m x) k) (p := p) (by omega)
      simp only [c1, c2, if_true, l1, l2, h1, some_bind, hx', if_false, c3, c4, not_false_eq_true, idxR (show x < m.length by omega), idxR (show k < m.length by omega), idxR (show x < (m.set k (gR m x)).length by rw [List.length_set]; omega), idxR (show k < (m.set x (gR m k)).length by rw [List.length_set]; omega), Int.toNat_natCast, g2, w7, w8, w9, w10, idxR (show k < ((m.set x (gR m k)).set k (gR m x)).length by omega), hMk, idxI (show k < (gR m x).length by omega), chk_bind (show ¬ p = 0 by omega), f1, w3, w4, w5, w6, y1, y2]
      exact ⟨_, rfl, rfl, ⟨y3, hn.1, hn.2, (fun e => ((mul_zero_mod hP hn0 e4).1 e).elim hdn2 hne), fun u => ((clear_ker hP hkr hM hMk hne y4 u).trans (swap_ker hm hxr hkr u)).trans (hker u), k + 1, rfl, by omega, clear_tri hP hkr hM hMk hne y4 (swap_tri hm hxr hkr h2 htri)⟩, by simp only [Int.toNat_natCast]; omega⟩
  · refine .inr ?_
    simp only [show ¬ (k : Int) < (m.length : Int) by omega, show ¬ (k : Int) < (v1.length : Int) by omega, if_false]
    refine ⟨_, rfl, rfl, hdn, fun ⟨u, ⟨q, hq1, hq2⟩, hu⟩ => ?_⟩
    have hkk : k = r := by omega
    subst hkk
    exact hq2 (tri_free hP hm htri ((hker u).2 hu) q hq1)
theorem Det_iff {m : List (List Int)} (hm : Mat p r r m) : ∃ d, s_l02Det p m = some d ∧ i_field_determinant p m = some d ∧ (d = 0 ↔ Sg p r r m) := by
  obtain ⟨b, h1, h2, h3⟩ := det_two2 hP hr hm hm.1
  have hz := hm.sz hr hr
  unfold s_l02Det i_field_determinant
  rw [s_l01Own2_eq hz, i_cloneRows_eq hz, some_bind, some_bind, h1, h2, some_bind]
  cases b with
  | inl d => exact ⟨d, rfl, rfl, fun e => absurd e h3.1, fun e => absurd e h3.2⟩
  | inr d => exact ⟨d, rfl, rfl, fun _ => h3.2, fun _ => h3.1⟩
end
end Go.Vam

/- Plain laws: reduced rows, one put to the others at a time. -/
namespace Go.Vam
open Go Go.RowKit
set_option linter.unusedSimpArgs false
set_option linter.unusedVariables false
set_option linter.unusedSectionVars false

theorem s_l12First_lead (v : List Int) : s_l12First v = i_lead v := rfl
/-- Rows with a one of their own, nothing ahead of it, nothing else in its column. -/
structure Ech (p : Int) (n : Nat) (B : List (List Int)) (ld : Nat → Nat) : Prop where
  mat : Mat p B.length n B
  lt : ∀ j, j < B.length → ld j < n
  one : ∀ j, j < B.length → gI (gR B j) (ld j) = 1
  pre : ∀ j, j < B.length → ∀ q, q < ld j → gI (gR B j) q = 0
  col : ∀ j, j < B.length → ∀ i, i < B.length → i ≠ j → gI (gR B i) (ld j) = 0
  srt : ∀ i j, i < j → j < B.length → ld i < ld j
theorem Ech.first {p : Int} {n : Nat} {B : List (List Int)} {ld : Nat → Nat} (h : Ech p n B ld) (hn : n ≤ 1048576) {j : Nat} (hj : j < B.length) : s_l12First (gR B j) = some (ld j : Int) := by
  have e := (h.mat.row hj).1
  obtain ⟨f, f1, _, f3, f4, f5⟩ := first_two (v := gR B j) (q := ld j) (by omega) (by have := h.lt j hj; omega) (by rw [h.one j hj]; omega)
  have : f = ld j := by
    rcases Nat.lt_or_ge f (ld j) with hlt | hge
    · exact absurd (h.pre j hj f hlt) f4
    · omega
  rw [s_l12First_lead, f3, this]
section
variable {p : Int} {n : Nat} {B : List (List Int)} {ld : Nat → Nat} (hp : 3 ≤ p) (hp2 : p ≤ 13) (hn : n ≤ 1048576) (hB : Ech p n B ld) (hBl : B.length ≤ 1048576)
include hp hp2 hn hB hBl
end

/-- A row less what it has at f. -/
def lessv (p : Int) (n f : Nat) (R v : List Int) : List Int := plusv p n v R (gI v f * -1)
section
variable {p : Int} {n f : Nat} {B : List (List Int)} {R : List Int} {ld : Nat → Nat} (hp : 3 ≤ p) (hp2 : p ≤ 13) (hn : n ≤ 1048576) (hB : Ech p n B ld) (hBl : B.length ≤ 1048575) (hR : Vec p n R) (hf : f < n)
include hp hp2 hn hB hBl hR hf
end
end Go.Vam

/- Plain laws: reduced rows in order; they are told by what they send to nothing. -/
namespace Go.Vam
open Go Go.RowKit
set_option linter.unusedSimpArgs false
set_option linter.unusedVariables false
set_option linter.unusedSectionVars false

theorem mod_dvd {p a b : Int} : a % p = b % p ↔ p ∣ a - b := by
  rw [Int.emod_eq_emod_iff_emod_sub_eq_zero, Int.dvd_iff_emod_eq_zero]
def Kr (p : Int) (n : Nat) (B : List (List Int)) (u : Nat → Int) : Prop := ∀ j, j < B.length → p ∣ rd n (gR B j) u
theorem lessv_at {p : Int} {n f q : Nat} {R v : List Int} (hq : q < n) : gI (lessv p n f R v) q = (gI v q + (gI v f * -1) * gI R q) % p := plusv_at hq
theorem lessv_vec {p : Int} (hp : 0 < p) (n f : Nat) (R v : List Int) : Vec p n (lessv p n f R v) := plusv_vec hp ..
theorem lessv_idle {p : Int} {n f q : Nat} {R v : List Int} (hv : Vec p n v) (hq : q < n) (h : gI R q = 0 ∨ gI v f = 0) : gI (lessv p n f R v) q = gI v q := by
  rw [lessv_at hq]
  have e := hv.get hq
  have : gI v f * -1 * gI R q = 0 := by rcases h with h | h <;> rw [h] <;> simp
  rw [this, Int.add_zero, mod_small e.1 e.2]
/-- Rows with one row more at pos, cleared of what they had at its lead. -/
theorem Ech.put {p : Int} {n f pos : Nat} {B B' : List (List Int)} {R : List Int} {ld : Nat → Nat} (hp : 1 < p) (hB : Ech p n B ld) (hR : Vec p n R) (hf : f < n)
    (hR1 : gI R f = 1) (hRp : ∀ q, q < f → gI R q = 0) (hRl : ∀ j, j < B.length → gI R (ld j) = 0)
    (hpos : pos ≤ B.length) (hlo : ∀ j, j < pos → ld j < f) (hhi : ∀ j, pos ≤ j → j < B.length → f < ld j)
    (hl : B'.length = B.length + 1) (hg : ∀ j, j < B.length + 1 → gR B' j = if j < pos then lessv p n f R (gR B j) else if j = pos then R else lessv p n f R (gR B (j - 1))) :
    Ech p n B' (fun j => if j < pos then ld j else if j = pos then f else ld (j - 1)) ∧ ∀ u, Kr p n B' u ↔ Kr p n B u ∧ p ∣ rd n R u := by
  have hne : ∀ j, j < B.length → ld j ≠ f := by
    intro j hj
    by_cases h : j < pos
    · have := hlo j h; omega
    · have := hhi j (by omega) hj; omega
  have l1 : ∀ j, j < B.length → gI (lessv p n f R (gR B j)) (ld j) = 1 := by
    intro j hj
    rw [lessv_idle (hB.mat.row hj) (hB.lt j hj) (.inl (hRl j hj))]; exact hB.one j hj
  have l2 : ∀ j, j < B.length → ∀ i, i < B.length → i ≠ j → gI (lessv p n f R (gR B i)) (ld j) = 0 := by
    intro j hj i hi hij
    rw [lessv_idle (hB.mat.row hi) (hB.lt j hj) (.inl (hRl j hj))]; exact hB.col j hj i hi hij
  have l3 : ∀ j, j < B.length → ∀ q, q < ld j → gI (lessv p n f R (gR B j)) q = 0 := by
    intro j hj q hq
    have hln := hB.lt j hj
    by_cases h : f < ld j
    · rw [lessv_idle (hB.mat.row hj) (by omega) (.inr (hB.pre j hj f h))]; exact hB.pre j hj q hq
    · rw [lessv_idle (hB.mat.row hj) (by omega) (.inl (hRp q (by omega)))]; exact hB.pre j hj q hq
  have l4 : ∀ j, j < B.length → gI (lessv p n f R (gR B j)) f = 0 := by
    intro j hj
    rw [lessv_at hf, hR1]
    have : gI (gR B j) f + gI (gR B j) f * -1 * 1 = 0 := by omega
    rw [this]; rfl
  have l5 : ∀ j u, p ∣ rd n R u → (p ∣ rd n (lessv p n f R (gR B j)) u ↔ p ∣ rd n (gR B j) u) := by
    intro j u hu
    unfold lessv
    rw [dvd_congr (rd_plusv u)]
    exact Int.dvd_add_left (Int.dvd_mul_of_dvd_right hu)
  constructor
  · constructor
    · refine ⟨by omega, fun j hj => ?_⟩
      show Vec p n (gR B' j)
      rw [hg j (by omega)]
      split
      · exact lessv_vec (by omega) ..
      · split
        · exact hR
        · exact lessv_vec (by omega) ..
    · intro j hj
      try simp only []
      split
      · exact hB.lt j (by omega)
      · split
        · exact hf
        · exact hB.lt (j - 1) (by omega)
    · intro j hj
      try simp only []
      rw [hg j (by omega)]
      by_cases h1 : j < pos
      · simp only [h1, if_true]; exact l1 j (by omega)
      · by_cases h2 : j = pos
        · simp only [h1, h2, if_false, if_true, Nat.lt_irrefl]; exact hR1
        · simp only [h1, h2, if_false]; exact l1 (j - 1) (by omega)
    · intro j hj q hq
      try simp only [] at hq
      rw [hg j (by omega)]
      by_cases h1 : j < pos
      · simp only [h1, if_true] at hq ⊢; exact l3 j (by omega) q hq
      · by_cases h2 : j = pos
        · simp only [h1, h2, if_false, if_true, Nat.lt_irrefl] at hq ⊢; exact hRp q hq
        · simp only [h1, h2, if_false] at hq ⊢; exact l3 (j - 1) (by omega) q hq
    · intro j hj i hi hij
      try simp only []
      rw [hg i (by omega)]
      by_cases h1 : j < pos
      · rw [if_pos h1]
        by_cases g1 : i < pos
        · rw [if_pos g1]; exact l2 j (by omega) i (by omega) hij
        · rw [if_neg g1]
          by_cases g2 : i = pos
          · rw [if_pos g2]; exact hRl j (by omega)
          · rw [if_neg g2]; exact l2 j (by omega) (i - 1) (by omega) (by omega)
      · rw [if_neg h1]
        by_cases h2 : j = pos
        · rw [if_pos h2]
          by_cases g1 : i < pos
          · rw [if_pos g1]; exact l4 i (by omega)
          · rw [if_neg g1, if_neg (by omega)]; exact l4 (i - 1) (by omega)
        · rw [if_neg h2]
          by_cases g1 : i < pos
          · rw [if_pos g1]; exact l2 (j - 1) (by omega) i (by omega) (by omega)
          · rw [if_neg g1]
            by_cases g2 : i = pos
            · rw [if_pos g2]; exact hRl (j - 1) (by omega)
            · rw [if_neg g2]; exact l2 (j - 1) (by omega) (i - 1) (by omega) (by omega)
    · intro i j hij hj
      try simp only []
      by_cases h1 : j < pos
      · rw [if_pos h1, if_pos (by omega)]; exact hB.srt i j hij (by omega)
      · by_cases h2 : j = pos
        · rw [if_neg h1, if_pos h2, if_pos (by omega)]; exact hlo i (by omega)
        · rw [if_neg h1, if_neg h2]
          by_cases g1 : i < pos
          · rw [if_pos g1]; exact hB.srt i (j - 1) (by omega) (by omega)
          · rw [if_neg g1]
            by_cases g2 : i = pos
            · rw [if_pos g2]; exact hhi (j - 1) (by omega) (by omega)
            · rw [if_neg g2]; exact hB.srt (i - 1) (j - 1) (by omega) (by omega)
  · intro u
    constructor
    · intro h
      have hRu : p ∣ rd n R u := by
        have := h pos (by omega)
        rwa [hg pos (by omega), if_neg (by omega), if_pos rfl] at this
      refine ⟨fun j hj => ?_, hRu⟩
      by_cases h1 : j < pos
      · have := h j (by omega)
        rw [hg j (by omega), if_pos h1] at this
        exact (l5 j u hRu).1 this
      · have := h (j + 1) (by omega)
        rw [hg (j + 1) (by omega), if_neg (by omega), if_neg (by omega)] at this
        exact (l5 j u hRu).1 this
    · intro ⟨h, hRu⟩ j hj
      rw [hg j (by omega)]
      split
      · exact (l5 j u hRu).2 (h j (by omega))
      · split
        · exact hRu
        · exact (l5 (j - 1) u hRu).2 (h (j - 1) (by omega))

/-- Leads rise: the j-th stands at j or behind. -/
theorem Ech.ge {p : Int} {n : Nat} {B : List (List Int)} {ld : Nat → Nat} (h : Ech p n B ld) : ∀ j, j < B.length → j ≤ ld j := by
  intro j
  induction j with
  | zero => intro _; omega
  | succ j ih =>
    intro hj
    have h1 := ih (by omega)
    have h2 := h.srt j (j + 1) (by omega) hj
    omega
theorem Ech.le {p : Int} {n : Nat} {B : List (List Int)} {ld : Nat → Nat} (h : Ech p n B ld) : B.length ≤ n := by
  by_cases h0 : B.length = 0
  · omega
  · have h1 := h.ge (B.length - 1) (by omega)
    have h2 := h.lt (B.length - 1) (by omega)
    omega
def isLd (k : Nat) (ld : Nat → Nat) (q : Nat) : Bool := (List.range k).any fun j => decide (ld j = q)
theorem isLd_iff {k : Nat} {ld : Nat → Nat} {q : Nat} : isLd k ld q = true ↔ ∃ j, j < k ∧ ld j = q := by
  unfold isLd
  simp only [List.any_eq_true, List.mem_range, decide_eq_true_eq]
/-- The row that a lead's place belongs to. -/
def rowOf (ld : Nat → Nat) (q : Nat) : Nat → Nat
  | 0 => 0
  | k + 1 => if ld k = q then k else rowOf ld q k
theorem rowOf_spec {ld : Nat → Nat} {q : Nat} : ∀ {k : Nat}, (∃ j, j < k ∧ ld j = q) → rowOf ld q k < k ∧ ld (rowOf ld q k) = q
  | 0, ⟨j, h, _⟩ => by omega
  | k + 1, ⟨j, h, e⟩ => by
    unfold rowOf
    by_cases hk : ld k = q
    · rw [if_pos hk]; exact ⟨by omega, hk⟩
    · rw [if_neg hk]
      have hj : j < k := by
        rcases Nat.lt_succ_iff_lt_or_eq.1 h with h | h
        · exact h
        · rw [h] at e; exact absurd e hk
      have := rowOf_spec ⟨j, hj, e⟩
      exact ⟨by omega, this.2⟩
theorem Ech.inj {p : Int} {n : Nat} {B : List (List Int)} {ld : Nat → Nat} (h : Ech p n B ld) {i j : Nat} (hi : i < B.length) (hj : j < B.length) (e : ld i = ld j) : i = j := by
  rcases Nat.lt_trichotomy i j with h1 | h1 | h1
  · have := h.srt i j h1 hj; omega
  · exact h1
  · have := h.srt j i h1 hi; omega
theorem sumN_two {f : Nat → Int} {n i k : Nat} (hi : i < n) (hk : k < n) (hne : i ≠ k) (h : ∀ q, q < n → q ≠ i → q ≠ k → f q = 0) : sumN f n = f i + f k := by
  have e : sumN f n = sumN (fun q => if q = i then f i else if q = i then 0 else f q) n := sumN_congr fun q _ => by
    by_cases h : q = i
    · rw [if_pos h, h]
    · rw [if_neg h, if_neg h]
  have e2 : sumN (fun q => if q = i then 0 else f q) n = f k := by
    rw [sumN_one hk (fun q hq hqk => by
      try simp only []
      by_cases h1 : q = i
      · rw [if_pos h1]
      · rw [if_neg h1]; exact h q hq h1 hqk)]
    rw [if_neg (by omega)]
  have e3 := sumN_upd (fun q => if q = i then 0 else f q) i (f i) n hi (by simp)
  have e4 : sumN f n = sumN (fun q => if q = i then f i else (fun q => if q = i then 0 else f q) q) n := e
  rw [e4, e3, e2]; omega
end Go.Vam

/- Plain laws: both programs' reduced bases are reduced rows in order, and send the same to nothing. -/
namespace Go.Vam
open Go Go.RowKit
set_option linter.unusedSimpArgs false
set_option linter.unusedVariables false
set_option linter.unusedSectionVars false

structure RedK (r c : Nat) (m : List (List Int)) (d k : Nat) (piv : Nat → Nat) : Prop where
  red : Red r c m d piv
  plt : ∀ j, j < d → piv j < k
  pre : ∀ j, j < d → ∀ q, q < piv j → gI (gR m j) q = 0
  srt : ∀ i j, i < j → j < d → piv i < piv j
  low : ∀ i, d ≤ i → i < r → ∀ q, q < k → gI (gR m i) q = 0
theorem RedK.skip {r c d k : Nat} {m : List (List Int)} {piv : Nat → Nat} (h : RedK r c m d k piv) (h0 : ∀ i, d ≤ i → i < r → gI (gR m i) k = 0) : RedK r c m d (k + 1) piv :=
  ⟨h.red, fun j hj => Nat.lt_succ_of_lt (h.plt j hj), h.pre, h.srt, fun i h1 h2 q hq => (Nat.lt_succ_iff_lt_or_eq.1 hq).elim (h.low i h1 h2 q) (fun e => e ▸ h0 i h1 h2)⟩
section
variable {p : Int} {r c k d x : Nat} {m : List (List Int)} {piv : Nat → Nat} {R : List Int} (hP : isP p = true) (hm : Mat p r c m) (hk : k < c) (hd : d < r) (hdx : d ≤ x) (hx : x < r)
  (hne : gI (gR m x) k ≠ 0) (hRe : R = scalev p c (gR m x) (invp p (gI (gR m x) k)))
include hP hm hk hd hdx hx hne hRe
theorem clrm_row (i : Nat) (hi : i < r) : gR (clrm p r c k d R ((m.set x (gR m d)).set d R)) i = if i = d then R else clr p c k R (if i = x then gR m d else gR m i) := by
  have e1 := hm.1
  unfold clrm
  rw [gR_vecN _ hi]
  by_cases hid : i = d
  · rw [if_pos hid, if_pos hid]
  · rw [if_neg hid, if_neg hid, gR_set (by rw [List.length_set]; omega), if_neg (by omega), gR_set (by omega)]
    by_cases hix : i = x
    · rw [if_pos hix.symm, if_pos hix]
    · rw [if_neg (fun e => hix e.symm), if_neg hix]
theorem RedK.step (h : RedK r c m d k piv) : RedK r c (clrm p r c k d R ((m.set x (gR m d)).set d R)) (d + 1) (k + 1) (fun j => if j = d then k else piv j) := by
  have hp := isP_le hP
  have row := clrm_row hP hm hk hd hdx hx hne hRe
  have e4 := (hm.row hx).get hk
  obtain ⟨i1, i2, i3⟩ := inv_facts (a := gI (gR m x) k) hP (by omega) e4.2
  have hR0 : ∀ q, q < k → gI R q = 0 := by
    intro q hq
    rw [hRe]; unfold scalev
    rw [gI_vecN _ (by omega), h.low x hdx hx q hq]; simp
  have hent : ∀ v q, q < k → gI v q = 0 → gI (clr p c k R v) q = 0 := by
    intro v q hq hv
    unfold clr plusv
    rw [gI_vecN _ (by omega), hv, hR0 q hq]; simp
  refine ⟨h.red.step hP hm hk hd hdx hx hne hRe, fun j hj => ?_, fun j hj q hq => ?_, fun i j hij hj => ?_, fun i h1 h2 q hq => ?_⟩
  · try simp only []
    split
    · omega
    · have := h.plt j (by omega); omega
  · try simp only [] at hq
    rw [row j (by omega)]
    by_cases hjd : j = d
    · rw [if_pos hjd] at hq ⊢; exact hR0 q hq
    · rw [if_neg hjd] at hq ⊢
      have h3 := h.plt j (by omega)
      rw [if_neg (by omega)]
      exact hent _ q (by omega) (h.pre j (by omega) q hq)
  · try simp only []
    rw [if_neg (show ¬ i = d by omega)]
    split
    · exact h.plt i (by omega)
    · exact h.srt i j hij (by omega)
  · rw [row i h2, if_neg (by omega)]
    by_cases hqk : q < k
    · refine hent _ q hqk ?_
      split
      · exact h.low d (Nat.le_refl _) hd q hqk
      · exact h.low i (by omega) h2 q hqk
    · have hqe : q = k := by omega
      subst hqe
      have hRk : gI R q = 1 := by rw [hRe]; unfold scalev; rw [gI_vecN _ hk, i3]
      unfold clr plusv
      rw [gI_vecN _ hk, hRk, Int.mul_one]
      generalize gI (if i = x then gR m d else gR m i) q = e
      rw [Int.add_emod, Int.emod_emod_of_dvd _ (Int.dvd_refl p), ← Int.add_emod]
      have : e + (p - e) = p := by omega
      rw [this, Int.emod_self]
end
section
variable {p : Int} {r c : Nat} (hP : isP p = true) (hr0 : 0 < r) (hr : r ≤ 1048576) (hc : c ≤ 1048576)
include hP hr0 hr hc
end
end Go.Vam

/- Plain laws: rows reduced one at a time; IsAutomorphism. -/
namespace Go.Vam
open Go Go.RowKit
set_option linter.unusedSimpArgs false
set_option linter.unusedVariables false
set_option linter.unusedSectionVars false

section
variable {p : Int} {n : Nat} (hP : isP p = true) (hn : n ≤ 1048000)
include hP hn
end

section
variable {p : Int} {w : List Int} {m : List (List Int)} (hP : isP p = true) (hl : w.length ≤ 4) (hw : Vec p w.length w) (hm : Mat p (2 ^ w.length) (2 ^ w.length) m)
include hP hl hw hm
end
end Go.Vam

/- Plain laws: kernels; both programs make the same reduced basis of what a table sends to nothing. -/
namespace Go.Vam
open Go Go.RowKit
set_option linter.unusedSimpArgs false
set_option linter.unusedVariables false
set_option linter.unusedSectionVars false

theorem Ech.nil (p : Int) (n : Nat) : Ech p n [] (fun _ => 0) :=
  ⟨⟨rfl, fun i hi => by simp at hi⟩, fun j hj => by simp at hj, fun j hj => by simp at hj, fun j hj => by simp at hj, fun j hj => by simp at hj, fun i j _ hj => by simp at hj⟩
section
variable {p : Int} {n : Nat} {B : List (List Int)} {ld : Nat → Nat} (hP : isP p = true) (hn : n ≤ 1048000) (hB : Ech p n B ld)
include hP hn hB
end
end Go.Vam

/- Plain law: the reduced rows that a table sends to nothing. -/
namespace Go.Vam
open Go Go.RowKit
set_option linter.unusedSimpArgs false
set_option linter.unusedVariables false
set_option linter.unusedSectionVars false

section
variable {p : Int} {n : Nat} {B : List (List Int)} {ld : Nat → Nat} (hP : isP p = true) (hn : n ≤ 1048000) (hB : Ech p n B ld)
include hP hn hB
end
end Go.Vam

/- Plain laws: ranks, kernels and how many vectors they have. -/
namespace Go.Vam
open Go Go.RowKit
set_option linter.unusedSimpArgs false
set_option linter.unusedVariables false
set_option linter.unusedSectionVars false

theorem sumN_add (f g : Nat → Int) (n : Nat) : sumN (fun q => f q + g q) n = sumN f n + sumN g n := by
  have := sumN_lin f g 1 n
  simp only [Int.one_mul] at this
  exact this
theorem sumN_mulL (k : Int) (f : Nat → Int) (n : Nat) : sumN (fun q => k * f q) n = k * sumN f n := by
  have := sumN_lin (fun _ => 0) f k n
  simp only [Int.zero_add, sumN_zero] at this
  exact this
theorem sumN_mulR (k : Int) (f : Nat → Int) (n : Nat) : sumN (fun q => f q * k) n = sumN f n * k := by
  rw [Int.mul_comm, ← sumN_mulL]
  exact sumN_congr fun q _ => Int.mul_comm _ _
theorem sumN_comm (f : Nat → Nat → Int) (m : Nat) : ∀ n, sumN (fun i => sumN (fun j => f i j) m) n = sumN (fun j => sumN (fun i => f i j) n) m
  | 0 => by simp only [sumN]; rw [sumN_zero]
  | n + 1 => by
    simp only [sumN]
    rw [sumN_add, sumN_comm f m n]
theorem sumN_dvd {p : Int} {f : Nat → Int} : ∀ {n : Nat}, (∀ k, k < n → p ∣ f k) → p ∣ sumN f n
  | 0, _ => Int.dvd_zero p
  | n + 1, h => by
    simp only [sumN]
    exact Int.dvd_add (sumN_dvd fun k hk => h k (by omega)) (h n (by omega))
theorem sumN_sub (f g : Nat → Int) (n : Nat) : sumN (fun q => f q - g q) n = sumN f n - sumN g n := by
  have := sumN_lin f g (-1) n
  have e : sumN (fun q => f q - g q) n = sumN (fun q => f q + -1 * g q) n := sumN_congr fun q _ => by omega
  rw [e, this]; omega
theorem dvd_trans_sub {p a b c : Int} (h1 : p ∣ a - b) (h2 : p ∣ b - c) : p ∣ a - c := by
  have := Int.dvd_add h1 h2
  rwa [show a - b + (b - c) = a - c by omega] at this
section
variable {p : Int} {n : Nat} {B : List (List Int)} {ld : Nat → Nat} (h : Ech p n B ld)
include h
theorem Ech.at_lead (g : Nat → Int) (q : Nat) : sumN (fun j => if ld j = q then g j else 0) B.length = if isLd B.length ld q = true then g (rowOf ld q B.length) else 0 := by
  by_cases hq : isLd B.length ld q = true
  · rw [if_pos hq]
    obtain ⟨a1, a2⟩ := rowOf_spec (isLd_iff.1 hq)
    rw [sumN_one a1 (fun j hj hne => if_neg fun e => hne (h.inj hj a1 (by rw [e, a2]))), if_pos a2]
  · rw [if_neg hq, sumN_congr (g := fun _ => 0) fun j hj => if_neg fun e => hq (isLd_iff.2 ⟨j, hj, e⟩)]
    exact sumN_zero _
/-- A sum over all places: those without a lead, and the leads. -/
theorem Ech.split (g : Nat → Int) : sumN g n = sumN (fun q => if isLd B.length ld q = true then 0 else g q) n + sumN (fun j => g (ld j)) B.length := by
  have e1 : sumN (fun j => g (ld j)) B.length = sumN (fun j => sumN (fun q => if ld j = q then g q else 0) n) B.length :=
    sumN_congr fun j hj => by rw [sumN_one (h.lt j hj) (fun q _ hq => if_neg fun e => hq e.symm), if_pos rfl]
  rw [e1, sumN_comm, ← sumN_add]
  refine sumN_congr fun q hq => ?_
  have e2 : sumN (fun j => if ld j = q then g q else 0) B.length = if isLd B.length ld q = true then g q else 0 := h.at_lead (fun _ => g q) q
  rw [e2]
  split <;> omega
end
end Go.Vam

/- Plain laws: the equations of derivations; both programs' bases of derivations are one. -/
namespace Go.Vam
open Go Go.RowKit
set_option linter.unusedSimpArgs false
set_option linter.unusedVariables false
set_option linter.unusedSectionVars false

theorem gR_append {x y : List (List Int)} {k : Nat} : gR (x ++ y) k = if k < x.length then gR x k else gR y (k - x.length) := by
  unfold gR
  rw [List.getD_eq_getElem?_getD, List.getElem?_append]
  by_cases h : k < x.length
  · rw [if_pos h, if_pos h, List.getD_eq_getElem?_getD]
  · rw [if_neg h, if_neg h, List.getD_eq_getElem?_getD]
theorem Mat.append {p : Int} {a b c : Nat} {x y : List (List Int)} (hx : Mat p a c x) (hy : Mat p b c y) : Mat p (a + b) c (x ++ y) := by
  have h1 := hx.1
  refine ⟨by rw [List.length_append, hx.1, hy.1], fun i hi => ?_⟩
  rw [gR_append]
  split
  · exact hx.2 i (by omega)
  · exact hy.2 (i - x.length) (by omega)
section
variable {p : Int} {w : List Int} (hP : isP p = true) (hl : w.length ≤ 4) (hw : Vec p w.length w)
include hP hl hw
end
end Go.Vam

/- Plain laws: what is drawn from a code. -/
namespace Go.Vam
open Go Go.RowKit
set_option linter.unusedSimpArgs false
set_option linter.unusedVariables false
set_option linter.unusedSectionVars false

/-- A source of numbers: bytes, and a place among them. -/
structure Src (c : List Int) (a : Int) : Prop where
  len : c.length ≤ 4096
  byte : ∀ x ∈ c, 0 ≤ x ∧ x ≤ 255
  pos : 0 ≤ a
  le : a ≤ c.length

theorem band_le (h : Int) : 0 ≤ w64 (band .u64 h 16777215) ∧ w64 (band .u64 h 16777215) ≤ 16777215 := by
  have h1 : ((BitVec.ofInt 64 h &&& BitVec.ofInt 64 16777215).toNat : Nat) ≤ 16777215 := by
    rw [BitVec.toNat_and]
    exact Nat.le_trans Nat.and_le_right (by decide)
  have h2 : band .u64 h 16777215 = ((BitVec.ofInt 64 h &&& BitVec.ofInt 64 16777215).toNat : Int) := by
    unfold band
    show IntKind.u64.wrap ((BitVec.ofInt 64 h &&& BitVec.ofInt 64 16777215).toNat : Int) = _
    generalize (BitVec.ofInt 64 h &&& BitVec.ofInt 64 16777215).toNat = n at h1
    simp only [IntKind.wrap, IntKind.signed, IntKind.bits]
    simp
    omega
  rw [h2, w_in (by omega) (by omega)]
  omega
theorem next_eq {c : List Int} {a h n : Int} (hS : Src c a) (hn : 1 ≤ n) (hn2 : n ≤ 4611686018427387904) :
    ∃ r a' h', s_l01Next c a h n = some (r, (c, a', h')) ∧ 0 ≤ r ∧ r < n ∧ Src c a' := by
  unfold s_l01Next
  rw [if_neg (by omega)]
  by_cases hlt : a < (c.length : Int)
  · obtain ⟨k, rfl⟩ := Int.eq_ofNat_of_zero_le hS.pos
    have hk : k < c.length := by omega
    rw [if_pos (by omega), idxI hk, some_bind, some_bind, chk_bind (by omega)]
    have hb := hS.byte (gI c k) (by rw [show gI c k = c[k] from by unfold gI; simp [hk]]; exact List.getElem_mem hk)
    obtain ⟨b1, b2⟩ := band_le (shr .u64 (IntKind.u64.wrap ((IntKind.u64.wrap (h * 6364136223846793005)) + 1442695040888963407)) 33)
    refine ⟨_, _, _, rfl, ?_, ?_, hS.len, hS.byte, ?_, ?_⟩
    · simp only []
      rw [w_in (x := gI c k) (by omega) (by omega), w_in (by omega) (by omega), tmod_nn (by omega)]
      exact Int.emod_nonneg _ (by omega)
    · simp only []
      rw [w_in (x := gI c k) (by omega) (by omega), w_in (by omega) (by omega), tmod_nn (by omega)]
      exact Int.emod_lt_of_pos _ (by omega)
    · simp only []; have := hS.len; rw [w_in (by omega) (by omega)]; omega
    · simp only []; have := hS.len; rw [w_in (by omega) (by omega)]; omega
  · rw [if_neg hlt, some_bind, chk_bind (by omega)]
    obtain ⟨b1, b2⟩ := band_le (shr .u64 (IntKind.u64.wrap ((IntKind.u64.wrap (h * 6364136223846793005)) + 1442695040888963407)) 33)
    refine ⟨_, _, _, rfl, ?_, ?_, hS⟩
    · simp only []
      rw [tmod_nn (by omega)]
      exact Int.emod_nonneg _ (by omega)
    · simp only []
      rw [tmod_nn (by omega)]
      exact Int.emod_lt_of_pos _ (by omega)
theorem pick_eq {c : List Int} {a h : Int} {l : List Int} (hS : Src c a) (hl : 1 ≤ l.length) (hl2 : l.length ≤ 100) :
    ∃ x a' h', s_l01Pick c a h l = some (x, (c, a', h')) ∧ x ∈ l ∧ Src c a' := by
  unfold s_l01Pick
  obtain ⟨r, a', h', e, r1, r2, r3⟩ := next_eq (h := h) (n := (l.length : Int)) hS (by omega) (by omega)
  rw [e, some_bind]
  obtain ⟨k, rfl⟩ := Int.eq_ofNat_of_zero_le r1
  have hk : k < l.length := by omega
  rw [idxk hk, some_bind]
  exact ⟨_, _, _, rfl, List.getElem_mem hk, r3⟩
theorem size_eq {c : List Int} {a h : Int} (hS : Src c a) : ∃ (n : Nat) (a' h' : Int), s_l02Size c a h = some ((n : Int), (c, a', h')) ∧ 1 ≤ n ∧ n ≤ 6 ∧ Src c a' := by
  unfold s_l02Size
  obtain ⟨r1, a1, h1, e1, p1, q1, S1⟩ := next_eq (h := h) (n := 3) hS (by omega) (by omega)
  obtain ⟨r2, a2, h2, e2, p2, q2, S2⟩ := next_eq (h := h1) (n := 4) S1 (by omega) (by omega)
  obtain ⟨r3, a3, h3, e3, p3, q3, S3⟩ := next_eq (h := h2) (n := 6) S2 (by omega) (by omega)
  obtain ⟨x, a4, h4, e4, m4, S4⟩ := pick_eq (h := h3) (l := [r1, r2, r3]) S3 (by simp) (by simp)
  simp only [e1, e2, e3, e4, some_bind]
  have hx : 0 ≤ x ∧ x < 6 := by
    simp only [List.mem_cons, List.not_mem_nil, or_false] at m4
    omega
  rw [w_in (by omega) (by omega)]
  exact ⟨(1 + x).toNat, _, _, by rw [show (((1 + x).toNat : Nat) : Int) = 1 + x by omega], by omega, by omega, S4⟩
theorem bad_eq {c : List Int} {a h : Int} (hS : Src c a) : ∃ (p a' h' : Int), s_l01Bad c a h = some (p, (c, a', h')) ∧ -3 ≤ p ∧ p ≤ 17 ∧ Src c a' := by
  unfold s_l01Bad s_l01DrawPrime
  obtain ⟨r1, a1, h1, e1, p1, q1, S1⟩ := next_eq (h := h) (n := 24) hS (by omega) (by omega)
  rw [e1, some_bind]
  by_cases h0 : r1 = 0
  · simp only [h0, if_true]
    obtain ⟨x, a4, h4, e4, m4, S4⟩ := pick_eq (h := h1) (l := [2, 9, 17, 1, 0, -3]) S1 (by simp) (by simp)
    rw [e4, some_bind]
    refine ⟨_, _, _, rfl, ?_, ?_, S4⟩ <;> (simp only [List.mem_cons, List.not_mem_nil, or_false] at m4; omega)
  · simp only [h0, if_false]
    obtain ⟨x, a4, h4, e4, m4, S4⟩ := pick_eq (h := h1) (l := [3, 5, 7, 11, 13, 3, 5, 7]) S1 (by simp) (by simp)
    rw [e4, some_bind, some_bind]
    refine ⟨_, _, _, rfl, ?_, ?_, S4⟩ <;> (simp only [List.mem_cons, List.not_mem_nil, or_false] at m4; omega)
theorem vec_one {p r : Int} (h1 : 0 ≤ r) (h2 : r < p) : Vec p 1 [r] := ⟨rfl, fun k hk => by
  have : k = 0 := by omega
  subst this
  exact ⟨h1, h2⟩⟩
theorem mat_one {p : Int} {n : Nat} {v : List Int} (h : Vec p n v) : Mat p 1 n [v] := ⟨rfl, fun k hk => by
  have : k = 0 := by omega
  subst this
  exact h⟩
theorem list_eq {c : List Int} {a h p : Int} {n : Nat} (hS : Src c a) (hp : 1 ≤ p) (hp2 : p ≤ 100) (hn : n ≤ 1000) : ∃ v a' h', s_l01List c a h p (n : Int) = some (v, (c, a', h')) ∧ Vec p n v ∧ Src c a' := by
  unfold s_l01List
  obtain ⟨b, h1, v, a', h', rfl, h3, h4⟩ := loop_inv (step := s_l01List_L0 p) (fun s => ∃ (k : Nat) (a' h' : Int) (out : List Int), s = (c, a', h', ((n - k : Nat) : Int), out) ∧ k ≤ n ∧ Vec p k out ∧ Src c a') (fun s => s.2.2.2.1.toNat)
    (fun b => ∃ v a' h', b = (c, a', h', v) ∧ Vec p n v ∧ Src c a') (s := (c, a, h, (n : Int), [])) ⟨0, a, h, [], rfl, by omega, ⟨rfl, by simp⟩, hS⟩ (by rw [BIG_val]; simp only []; omega) (by
      rintro s ⟨k, a', h', out, rfl, hk, hv, hS'⟩
      unfold s_l01List_L0
      by_cases hkn : k < n
      · refine .inl ?_
        obtain ⟨r, a2, h2, e, r1, r2, S2⟩ := next_eq (h := h') (n := p) hS' hp (by omega)
        have e3 := hv.1
        simp only [show (0 : Int) < ((n - k : Nat) : Int) by omega, if_true, e, some_bind]
        rw [chk_bind (by simp only [List.length_cons, List.length_nil]; omega), w_in (by omega) (by omega)]
        refine ⟨_, rfl, ⟨k + 1, a2, h2, out ++ [r], by congr 4; omega, by omega, hv.append (y := [r]) (vec_one r1 r2), S2⟩, by simp only []; omega⟩
      · have : k = n := by omega
        subst this
        refine .inr ⟨(c, a', h', out), ?_, out, a', h', rfl, hv, hS'⟩
        simp)
  rw [h1, some_bind]
  exact ⟨v, a', h', rfl, h3, h4⟩
/-- A table is drawn. -/
theorem draw_eq {c : List Int} {a h p : Int} {r k : Nat} (hS : Src c a) (hp : isP p = true) (hr : r ≤ 100) (hk : k ≤ 100) : ∃ m a' h', s_l02Draw c a h p (r : Int) (k : Int) = some (m, (c, a', h')) ∧ Mat p r k m ∧ Src c a' := by
  have hp' := isP_le hp
  unfold s_l02Draw
  obtain ⟨b, h1, m, a', h', rfl, h3, h4⟩ := loop_inv (step := s_l02Draw_L0 p (r : Int) (k : Int)) (fun s => ∃ (i : Nat) (a' h' : Int) (out : List (List Int)), s = (c, a', h', out, (i : Int)) ∧ i ≤ r ∧ Mat p i k out ∧ Src c a') (fun s => r - s.2.2.2.2.toNat)
    (fun b => ∃ m a' h', b = (c, a', h', m) ∧ Mat p r k m ∧ Src c a') (s := (c, a, h, [], 0)) ⟨0, a, h, [], rfl, by omega, ⟨rfl, fun i hi => by omega⟩, hS⟩ (by rw [BIG_val]; simp only []; omega) (by
      rintro s ⟨i, a', h', out, rfl, hi, hm, hS'⟩
      unfold s_l02Draw_L0
      by_cases hir : i < r
      · refine .inl ?_
        obtain ⟨v, a1, h1, e1, v1, S1⟩ := list_eq (h := h') (p := p) (n := k) hS' (by omega) (by omega) (by omega)
        simp only [show (i : Int) < (r : Int) by omega, if_true, e1, some_bind]
        have key : ∃ (a2 h2 : Int) (row : List Int), (((if 0 < (i : Int) then
              (s_l01Next c a1 h1 4).bind fun v10 => some (v10.2.1, v10.2.2.1, v10.2.2.2, ieq v10.1 0)
            else some (c, a1, h1, false)) : Option ((List Int) × Int × Int × Bool)).bind fun x11 =>
            ((if x11.2.2.2 = true then
              (s_l01Next x11.1 x11.2.1 x11.2.2.1 (i : Int)).bind fun v15 =>
              (idx out v15.1).bind fun v16 =>
              (s_l01Next v15.2.1 v15.2.2.1 v15.2.2.2 p).bind fun v17 =>
              (s_l02Scale p v16 v17.1).bind fun v18 =>
              (s_l01Next v17.2.1 v17.2.2.1 v17.2.2.2 (i : Int)).bind fun v19 =>
              (idx out v19.1).bind fun v20 =>
              (s_l01Next v19.2.1 v19.2.2.1 v19.2.2.2 p).bind fun v21 =>
              (s_l02Plus p v18 v20 v21.1).bind fun v22 =>
              some (v21.2.1, v21.2.2.1, v21.2.2.2, v22)
            else
              some (x11.1, x11.2.1, x11.2.2.1, v)) : Option ((List Int) × Int × Int × (List Int)))) = some (c, a2, h2, row) ∧ Vec p k row ∧ Src c a2 := by
          have plain : ∀ (a2 h2 : Int), Src c a2 → ∃ (a2' h2' : Int) (row : List Int), (some (c, a2, h2, v) : Option ((List Int) × Int × Int × (List Int))) = some (c, a2', h2', row) ∧ Vec p k row ∧ Src c a2' := fun a2 h2 S => ⟨a2, h2, v, rfl, v1, S⟩
          by_cases h0 : 0 < (i : Int)
          · obtain ⟨r2, a2, h2, e2, p2, q2, S2⟩ := next_eq (h := h1) (n := 4) S1 (by omega) (by omega)
            simp only [h0, if_true, e2, some_bind]
            cases hx : ieq r2 0 with
            | false => simp only [Bool.false_eq_true, if_false]; exact plain a2 h2 S2
            | true =>
              have em := hm.1
              obtain ⟨r3, a3, h3, e3, p3, q3, S3⟩ := next_eq (h := h2) (n := (i : Int)) S2 (by omega) (by omega)
              obtain ⟨r4, a4, h4, e4, p4, q4, S4⟩ := next_eq (h := h3) (n := p) S3 (by omega) (by omega)
              obtain ⟨r5, a5, h5, e5, p5, q5, S5⟩ := next_eq (h := h4) (n := (i : Int)) S4 (by omega) (by omega)
              obtain ⟨r6, a6, h6, e6, p6, q6, S6⟩ := next_eq (h := h5) (n := p) S5 (by omega) (by omega)
              obtain ⟨x3, rfl⟩ := Int.eq_ofNat_of_zero_le p3
              obtain ⟨x5, rfl⟩ := Int.eq_ofNat_of_zero_le p5
              have f3 : idx out (x3 : Int) = some (gR out x3) := idxR (by omega)
              have f5 : idx out (x5 : Int) = some (gR out x5) := idxR (by omega)
              have w3 := hm.row (i := x3) (by omega)
              have w5 := hm.row (i := x5) (by omega)
              have g3 := s_l02Scale_eq (p := p) (n := k) (a := gR out x3) (k := r4) (by omega) (by omega) (by omega) (by omega) (by omega) w3
              have w6 := scalev_vec (p := p) (by omega) k (gR out x3) r4
              have g6 := s_l02Plus_eq (p := p) (n := k) (a := scalev p k (gR out x3) r4) (b := gR out x5) (k := r6) (by omega) (by omega) (by omega) (by omega) (by omega) w6 w5
              simp only [if_true, e3, some_bind, Int.ofNat_eq_natCast, f3, e4, g3, e5, f5, e6, g6]
              exact ⟨a6, h6, _, rfl, plusv_vec (by omega) .., S6⟩
          · simp only [h0, if_false, some_bind, Bool.false_eq_true]
            exact plain a1 h1 S1
        obtain ⟨a2, h2, row, e2, v2, S2⟩ := key
        obtain ⟨x, ex, e3⟩ := bind_some e2
        simp only [ex, some_bind, e3]
        have em := hm.1
        rw [chk_bind (by simp only [List.length_cons, List.length_nil]; omega), w_in (by omega) (by omega)]
        exact ⟨_, rfl, ⟨i + 1, a2, h2, out ++ [row], rfl, by omega, Mat.append hm (mat_one v2), S2⟩, by simp only []; omega⟩
      · have : i = r := by omega
        subst this
        refine .inr ⟨(c, a', h', out), ?_, out, a', h', rfl, hm, hS'⟩
        simp)
  rw [h1, some_bind]
  exact ⟨m, a', h', rfl, h3, h4⟩
/-- A table that is not large. -/
def tabS (m : List (List Int)) : Prop := m.length ≤ 17 ∧ ∀ x ∈ m, x.length ≤ 18
theorem tabS.sz {m : List (List Int)} (h : tabS m) : szM m := ⟨by have := h.1; omega, fun r hr => by have := h.2 r hr; omega⟩
theorem tabS.of {p : Int} {r k : Nat} {m : List (List Int)} (h : Mat p r k m) (hr : r ≤ 17) (hk : k ≤ 18) : tabS m := by
  refine ⟨by rw [h.1]; exact hr, fun x hx => ?_⟩
  obtain ⟨i, hi, rfl⟩ := List.getElem_of_mem hx
  have e := (h.2 i (by have := h.1; omega)).1
  rw [← gR_get hi] at e
  omega
theorem tabS.set {m : List (List Int)} (h : tabS m) (i : Nat) {x : List Int} (hx : x.length ≤ 18) : tabS (m.set i x) := by
  refine ⟨by rw [List.length_set]; exact h.1, fun y hy => ?_⟩
  rcases List.mem_or_eq_of_mem_set hy with h1 | h1
  · exact h.2 y h1
  · rw [h1]; exact hx
theorem spoil_eq {c : List Int} {a h : Int} {r k : Nat} (hS : Src c a) (hr0 : 1 ≤ r) (hr : r ≤ 7) (hk0 : 1 ≤ k) (hk : k ≤ 7) :
    ∃ (p : Int) (m : List (List Int)) (a' h' : Int), s_l02Spoil c a h (r : Int) (k : Int) = some ((p, m), (c, a', h')) ∧ -3 ≤ p ∧ p ≤ 17 ∧ tabS m ∧ Src c a' := by
  unfold s_l02Spoil
  obtain ⟨p, a1, h1, e1, p1, p2, S1⟩ := bad_eq (h := h) hS
  rw [e1, some_bind]
  simp only []
  rw [s_l01Prime_eq, some_bind]
  cases hP : isP p with
  | false =>
    simp only [if_true]
    exact ⟨p, [[1]], a1, h1, rfl, p1, p2, ⟨by simp, by simp⟩, S1⟩
  | true =>
    have hp := isP_le hP
    simp only [Bool.true_eq_false, if_false]
    obtain ⟨m, a2, h2, e2, m2, S2⟩ := draw_eq (h := h1) (p := p) (r := r) (k := k) S1 hP (by omega) (by omega)
    obtain ⟨r3, a3, h3, e3, p3, q3, S3⟩ := next_eq (h := h2) (n := 36) S2 (by omega) (by omega)
    have em := m2.1
    have hT := tabS.of m2 (by omega) (by omega)
    have w0 := (m2.row (i := 0) (by omega)).1
    have f0 : idx m 0 = some (gR m 0) := idxR0 (by omega)
    rw [e2, some_bind]
    simp only []
    rw [e3, some_bind]
    simp only []
    have fin : ∀ (a' h' : Int) (m' : List (List Int)), tabS m' → Src c a' → ∃ (p' : Int) (m'' : List (List Int)) (a'' h'' : Int), (some ((p, m'), (c, a', h')) : Option ((Int × List (List Int)) × (List Int × Int × Int))) = some ((p', m''), (c, a'', h'')) ∧ -3 ≤ p' ∧ p' ≤ 17 ∧ tabS m'' ∧ Src c a'' :=
      fun a' h' m' hx hs => ⟨p, m', a', h', rfl, p1, p2, hx, hs⟩
    by_cases c0 : r3 = 0
    · obtain ⟨x, a4, h4, e4, m4, S4⟩ := pick_eq (h := h3) (l := [-1, p]) S3 (by simp) (by simp)
      have g0 : idx (gR m 0) 0 = some (gI (gR m 0) 0) := by
        have := idxI (v := gR m 0) (k := 0) (by omega)
        simpa using this
      simp only [c0, if_true, f0, some_bind, e4, g0]
      exact fin a4 h4 _ (hT.set 0 (by rw [List.length_set]; omega)) S4
    simp only [c0, if_false]
    by_cases c1 : r3 = 1
    · simp only [c1, if_true, f0, some_bind]
      rw [chk_bind (by simp only [List.length_cons, List.length_nil]; omega), some_bind]
      exact fin a3 h3 _ (hT.set 0 (by rw [List.length_append]; simp only [List.length_cons, List.length_nil]; omega)) S3
    simp only [c1, if_false]
    by_cases c2 : r3 = 2
    · simp only [c2, if_true, some_bind]
      exact fin a3 h3 [] ⟨by simp, by simp⟩ S3
    simp only [c2, if_false]
    by_cases c3 : r3 = 3
    · obtain ⟨m', a4, h4, e4, m4, S4⟩ := draw_eq (h := h3) (p := p) (r := 17) (k := 2) S3 hP (by omega) (by omega)
      simp only [Int.cast_ofNat_Int] at e4
      simp only [c3, if_true, e4, some_bind]
      exact fin a4 h4 m' (tabS.of m4 (by omega) (by omega)) S4
    simp only [c3, if_false]
    by_cases c4 : r3 = 4
    · obtain ⟨m', a4, h4, e4, m4, S4⟩ := draw_eq (h := h3) (p := p) (r := 2) (k := 17) S3 hP (by omega) (by omega)
      simp only [Int.cast_ofNat_Int] at e4
      simp only [c4, if_true, e4, some_bind]
      exact fin a4 h4 m' (tabS.of m4 (by omega) (by omega)) S4
    simp only [c4, if_false, some_bind]
    exact fin a3 h3 m hT S3
theorem from_eq {c : List Int} (hc : c.length ≤ 4096) (hb : ∀ x ∈ c, 0 ≤ x ∧ x ≤ 255) : ∃ h', s_l01From c = some (c, 0, h') ∧ Src c 0 := by
  unfold s_l01From
  obtain ⟨b, h1, h', rfl⟩ := loop_inv (step := s_l01From_L0 c) (fun s => ∃ (k : Nat) (h' : Int), s = (c, 0, h', (k : Int)) ∧ k ≤ c.length) (fun s => c.length - s.2.2.2.toNat)
    (fun b => ∃ h' : Int, b = (c, (0 : Int), h')) (s := (c, 0, IntKind.u64.wrap (4409 + (IntKind.u64.wrap ((c.length : Int)))), 0)) ⟨0, _, rfl, by omega⟩ (by rw [BIG_val]; simp only []; omega) (by
      rintro s ⟨k, h', rfl, hk⟩
      unfold s_l01From_L0
      by_cases hkn : k < c.length
      · refine .inl ?_
        simp only [lt_cast hkn, if_true, some_bind, ilt_true (show (k : Int) < 4096 by omega), idxI hkn]
        rw [w_in (by omega) (by omega)]
        exact ⟨_, rfl, ⟨k + 1, _, rfl, by omega⟩, by simp only []; omega⟩
      · have : k = c.length := by omega
        subst this
        refine .inr ⟨(c, 0, h'), ?_, h', rfl⟩
        simp)
  rw [h1, some_bind]
  exact ⟨h', rfl, hc, hb, by omega, by omega⟩
end Go.Vam

/- Plain laws: reflections keep the products of vectors. -/
namespace Go.Vam
open Go Go.RowKit
set_option linter.unusedSimpArgs false
set_option linter.unusedVariables false
set_option linter.unusedSectionVars false

/-- The product of vectors, as an integer. -/
def pairS (n : Nat) (w x y : List Int) : Int := sumN (fun k => gI x k * gI y k * gI w k) n
theorem pairp_S (p : Int) (n : Nat) (w x y : List Int) : pairp p n w x y = pairS n w x y % p := rfl
theorem pairS_comm (n : Nat) (w x y : List Int) : pairS n w x y = pairS n w y x := by
  unfold pairS
  exact sumN_congr fun k _ => by rw [Int.mul_comm (gI x k)]
theorem pairS_lin {p : Int} {n : Nat} {w x x' u y : List Int} {c : Int} (h : ∀ k, k < n → gI x' k % p = (gI x k + c * gI u k) % p) : pairS n w x' y % p = (pairS n w x y + c * pairS n w u y) % p := by
  unfold pairS
  rw [← sumN_lin]
  refine sumN_mod fun k hk => ?_
  rw [Int.mul_assoc, mul_mod_l (h k hk)]
  congr 1
  rw [Int.add_mul, Int.mul_assoc, Int.mul_assoc, Int.mul_assoc]
/-- What the reflection in u makes of v. -/
def reflv (p : Int) (n : Nat) (w u v : List Int) : List Int := plusv p n v u (-2 * pairS n w u v * invp p (pairp p n w u u))
theorem reflv_vec {p : Int} (hp : 0 < p) (n : Nat) (w u v : List Int) : Vec p n (reflv p n w u v) := plusv_vec hp ..
theorem reflv_at {p : Int} {n k : Nat} {w u v : List Int} (hk : k < n) : gI (reflv p n w u v) k = (gI v k + (-2 * pairS n w u v * invp p (pairp p n w u u)) * gI u k) % p := plusv_at hk
theorem inv_dvd {p a : Int} (hP : isP p = true) (h0 : a % p ≠ 0) : p ∣ invp p (a % p) * a - 1 := by
  have hp := isP_le hP
  have hn := mod_num (a := a) (p := p) (by omega)
  obtain ⟨_, _, i3⟩ := inv_facts (a := a % p) hP (by omega) hn.2
  rw [← mod_dvd, Int.emod_eq_of_lt (show (0 : Int) ≤ 1 by omega) (by omega), Int.mul_comm, ← i3]
  exact (mul_mod_l (emm a p)).symm
theorem reflv_pair {p : Int} {n : Nat} {w u : List Int} (hP : isP p = true) (hu : pairp p n w u u ≠ 0) (x y : List Int) :
    pairp p n w (reflv p n w u x) (reflv p n w u y) = pairp p n w x y := by
  rw [pairp_S, pairp_S]
  have ht := inv_dvd hP (a := pairS n w u u) hu
  rw [← pairp_S] at ht
  have hx : ∀ k, k < n → gI (reflv p n w u x) k % p = (gI x k + (-2 * pairS n w u x * invp p (pairp p n w u u)) * gI u k) % p := fun k hk => by rw [reflv_at hk, emm]
  have hy : ∀ k, k < n → gI (reflv p n w u y) k % p = (gI y k + (-2 * pairS n w u y * invp p (pairp p n w u u)) * gI u k) % p := fun k hk => by rw [reflv_at hk, emm]
  have h1 := mod_dvd.1 (pairS_lin (w := w) (y := reflv p n w u y) hx)
  have h2 := mod_dvd.1 (pairS_lin (w := w) (y := x) hy)
  have h3 := mod_dvd.1 (pairS_lin (w := w) (y := u) hy)
  rw [pairS_comm n w x (reflv p n w u y), pairS_comm n w u (reflv p n w u y)] at h1
  rw [pairS_comm n w y x, pairS_comm n w u x] at *
  rw [pairS_comm n w y u] at h3
  generalize hX : pairS n w x u = X at *
  generalize hY : pairS n w u y = Y at *
  generalize invp p (pairp p n w u u) = t at *
  generalize pairS n w u u = Q at *
  generalize pairS n w x y = Z at *
  generalize pairS n w (reflv p n w u x) (reflv p n w u y) = A at *
  generalize pairS n w (reflv p n w u y) x = B at *
  generalize pairS n w (reflv p n w u y) u = C at *
  rw [mod_dvd]
  obtain ⟨k1, e1⟩ := h1
  obtain ⟨k2, e2⟩ := h2
  obtain ⟨k3, e3⟩ := h3
  obtain ⟨k4, e4⟩ := ht
  exact ⟨k1 + k2 + (-2 * X * t) * k3 + 4 * X * Y * t * k4, by grind⟩
/-- The reflection's table. -/
def reflm (p : Int) (n : Nat) (w u : List Int) : List (List Int) := turnm n n (vecN n fun k => reflv p n w u (axis n k))
theorem pairS_axis {n k : Nat} {w u : List Int} (hk : k < n) : pairS n w u (axis n k) = gI u k * gI w k := by
  unfold pairS
  rw [sumN_one hk (fun q hq hqk => by rw [gI_axis hk, if_neg hqk]; simp), gI_axis hk, if_pos rfl, Int.mul_one]
theorem reflm_at {p : Int} {n r k : Nat} {w u : List Int} (hr : r < n) (hk : k < n) : gI (gR (reflm p n w u) r) k = ((if r = k then 1 else 0) + (-2 * (gI u k * gI w k) * invp p (pairp p n w u u)) * gI u r) % p := by
  unfold reflm
  rw [turnm_at hk hr, gR_vecN _ hk, reflv_at hr, gI_axis hk, pairS_axis hk]
theorem refl_times {p : Int} {n i : Nat} {w u : List Int} {m : List (List Int)} (hp : 0 < p) (hi : i < n) :
    gR (turnm n n (timesm p n n n (reflm p n w u) m)) i = reflv p n w u (gR (turnm n n m) i) := by
  have hv := (reflv_vec hp n w u (gR (turnm n n m) i)).1
  rw [extI hv (f := gI (reflv p n w u (gR (turnm n n m) i))) fun k _ => rfl]
  refine extI (by unfold turnm; rw [gR_vecN _ hi, vecN_len]) fun r hr => ?_
  rw [turnm_at hr hi, reflv_at hr, turnm_at hr hi]
  unfold timesm
  rw [gR_vecN _ hr, gI_vecN _ hi]
  have e1 : sumN (fun j => gI (gR (reflm p n w u) r) j * gI (gR m j) i) n % p = sumN (fun j => (if r = j then gI (gR m j) i else 0) + (-2 * invp p (pairp p n w u u) * gI u r) * (gI u j * gI (gR m j) i * gI w j)) n % p := by
    refine sumN_mod fun j hj => ?_
    rw [reflm_at hr hj, mul_mod_l (emm _ _)]
    congr 1
    split <;> grind
  rw [e1, sumN_lin, sumN_one hr (fun q hq hqr => if_neg (fun e => hqr e.symm)), if_pos rfl]
  congr 2
  have e2 : sumN (fun k => gI u k * gI (gR m k) i * gI w k) n = pairS n w u (gR (turnm n n m) i) := by
    unfold pairS
    exact sumN_congr fun k hk => by rw [turnm_at hk hi]
  rw [e2]
  grind
/-- A table whose columns have the products of the basis. -/
def IsoT (p : Int) (n : Nat) (w : List Int) (m : List (List Int)) : Prop := ∀ i, i < n → ∀ j, j < n → pairp p n w (gR (turnm n n m) i) (gR (turnm n n m) j) = if i = j then gI w i else 0
theorem IsoT.refl {p : Int} {n : Nat} {w u : List Int} {m : List (List Int)} (hP : isP p = true) (h : IsoT p n w m) (hu : pairp p n w u u ≠ 0) : IsoT p n w (timesm p n n n (reflm p n w u) m) := by
  have hp := isP_le hP
  intro i hi j hj
  rw [refl_times (by omega) hi, refl_times (by omega) hj, reflv_pair hP hu]
  exact h i hi j hj
end Go.Vam

/- Plain laws: decompositions into reflections; HasSquareNorm. -/
namespace Go.Vam
open Go Go.RowKit
set_option linter.unusedSimpArgs false
set_option linter.unusedVariables false
set_option linter.unusedSectionVars false

section
variable {p : Int} {n : Nat} {w u : List Int} (hP : isP p = true) (hn0 : 0 < n) (hn : n ≤ 1000) (hwl : w.length = n) (hw : Vec p n w) (hu : Vec p n u) (hQ : pairp p n w u u ≠ 0)
include hP hn0 hn hwl hw hu hQ
end
section
variable {p : Int} {n : Nat} {w : List Int} (hP : isP p = true) (hn0 : 0 < n) (hn : n ≤ 1000) (hwl : w.length = n) (hw : Vec p n w) (hz : ∀ k, k < n → gI w k ≠ 0)
include hP hn0 hn hwl hw hz
end
end Go.Vam

/- Plain laws: systems of equations and spans. -/
namespace Go.Vam
open Go Go.RowKit
set_option linter.unusedSimpArgs false
set_option linter.unusedVariables false
set_option linter.unusedSectionVars false

theorem likeI_self {v : List Int} (h : v.length ≤ 1048576) : l_likeInts v v = some true := by
  unfold l_likeInts
  simp only [not_true_eq_false, if_false]
  obtain ⟨b, h1, h2⟩ := any_loop (l_likeInts_L0 v v) v.length (fun _ => false) (fun _ => true) (by rw [BIG_val]; omega)
    (fun k hk _ => by
      unfold l_likeInts_L0
      simp only [lt_cast hk, if_true, idxI hk, some_bind, not_true_eq_false, if_false]
      rw [w_in (by omega) (by omega)]; rfl) (fun k hk hf => by cases hf) (by
      unfold l_likeInts_L0
      simp only [lt_cast_self, if_false])
  rcases h2 with ⟨rfl, _⟩ | ⟨k, _, _, hf, _⟩
  · rw [h1, some_bind]
  · cases hf
end Go.Vam

/- Plain law: FnKernels. -/
namespace Go.Vam
open Go Go.RowKit
set_option linter.unusedSimpArgs false
set_option linter.unusedVariables false
set_option linter.unusedSectionVars false

theorem zero_vec {n : Nat} (hn : n ≤ 1048576) : l_zero5 (vecN n fun _ => (0 : Int)) = some true := by
  unfold l_zero5
  obtain ⟨b, h1, h2⟩ := any_loop (l_zero5_L0 (vecN n fun _ => (0 : Int))) n (fun _ => false) (fun _ => true) (by rw [BIG_val]; omega)
    (fun k hk _ => by
      unfold l_zero5_L0
      rw [if_pos (by rw [vecN_len]; omega), idxI (by rw [vecN_len]; exact hk), some_bind, gI_vecN _ hk]
      simp only [not_true_eq_false, if_false]
      rw [w_in (by omega) (by omega)]; rfl) (fun k hk hf => by cases hf) (by
      unfold l_zero5_L0
      rw [if_neg (by rw [vecN_len]; omega)])
  rcases h2 with ⟨rfl, _⟩ | ⟨k, _, _, hf, _⟩
  · rw [h1, some_bind]
  · cases hf
end Go.Vam

/- Plain laws: determinants of numbers, by expansion; they are multiplied with tables. -/
namespace Go.Vam
open Go Go.RowKit
set_option linter.unusedSimpArgs false
set_option linter.unusedVariables false
set_option linter.unusedSectionVars false

def skipN (i a : Nat) : Nat := if a < i then a else a + 1
def sgnN (i : Nat) : Int := if i % 2 = 0 then 1 else -1
/-- The determinant of the first n rows and columns, expanded along column 0. -/
def detN : Nat → (Nat → Nat → Int) → Int
  | 0, _ => 1
  | n + 1, M => sumN (fun i => sgnN i * M i 0 * detN n (fun a b => M (skipN i a) (b + 1))) (n + 1)
theorem sgnN_succ (i : Nat) : sgnN (i + 1) = - sgnN i := by
  unfold sgnN
  rcases Nat.mod_two_eq_zero_or_one i with h | h
  · rw [if_neg (by omega), if_pos h]
  · rw [if_pos (by omega), if_neg (by omega)]; rfl
theorem skipN_lt {n i a : Nat} (ha : a < n) : skipN i a < n + 1 := by unfold skipN; split <;> omega
theorem detN_congr : ∀ (n : Nat) {M M' : Nat → Nat → Int}, (∀ i, i < n → ∀ j, j < n → M i j = M' i j) → detN n M = detN n M'
  | 0, _, _, _ => rfl
  | n + 1, M, M', h => by
    unfold detN
    refine sumN_congr fun i hi => ?_
    rw [h i hi 0 (by omega), detN_congr n fun a ha b hb => h _ (skipN_lt ha) (b + 1) (by omega)]
theorem dvd_mul_sub {p a b x y : Int} (h1 : p ∣ a - b) (h2 : p ∣ x - y) : p ∣ a * x - b * y := by
  have e : a * x - b * y = (a - b) * x + b * (x - y) := by rw [Int.sub_mul, Int.mul_sub]; omega
  rw [e]
  exact Int.dvd_add (Int.dvd_mul_of_dvd_left h1) (Int.dvd_mul_of_dvd_right h2)
theorem sumN_cong_dvd {p : Int} {f g : Nat → Int} {n : Nat} (h : ∀ k, k < n → p ∣ f k - g k) : p ∣ sumN f n - sumN g n := by
  rw [← sumN_sub]; exact sumN_dvd h
theorem detN_mod {p : Int} : ∀ (n : Nat) {M M' : Nat → Nat → Int}, (∀ i, i < n → ∀ j, j < n → p ∣ M i j - M' i j) → p ∣ detN n M - detN n M'
  | 0, _, _, _ => by unfold detN; simp
  | n + 1, M, M', h => by
    unfold detN
    refine sumN_cong_dvd fun i hi => ?_
    refine dvd_mul_sub (dvd_mul_sub (by simp) (h i hi 0 (by omega))) (detN_mod n fun a ha b hb => h _ (skipN_lt ha) (b + 1) (by omega))

/-- Row i replaced. -/
def rowU (M : Nat → Nat → Int) (i : Nat) (r : Nat → Int) : Nat → Nat → Int := fun a b => if a = i then r b else M a b
theorem rowU_self (M : Nat → Nat → Int) (i : Nat) : rowU M i (M i) = M := by
  funext a b; unfold rowU; split
  · rename_i h; rw [h]
  · rfl
/-- Where row i stands when row k is left out. -/
def backN (k i : Nat) : Nat := if i < k then i else i - 1
theorem skipN_eq {k i a : Nat} (h : i ≠ k) : skipN k a = i ↔ a = backN k i := by
  unfold skipN backN
  constructor
  · intro e; split at e <;> split <;> omega
  · intro e; split at e <;> split <;> omega
theorem backN_lt {n k i : Nat} (hk : k < n + 1) (hi : i < n + 1) (h : i ≠ k) : backN k i < n := by unfold backN; split <;> omega
theorem minor_rowU {M : Nat → Nat → Int} {i k : Nat} {r : Nat → Int} (h : i ≠ k) : (fun a b => rowU M i r (skipN k a) (b + 1)) = rowU (fun a b => M (skipN k a) (b + 1)) (backN k i) (fun b => r (b + 1)) := by
  funext a b
  unfold rowU
  by_cases e : skipN k a = i
  · rw [if_pos e, if_pos ((skipN_eq h).1 e)]
  · rw [if_neg e, if_neg fun e' => e ((skipN_eq h).2 e')]
theorem minor_rowU_self {M : Nat → Nat → Int} {i : Nat} {r : Nat → Int} : (fun a b => rowU M i r (skipN i a) (b + 1)) = (fun a b => M (skipN i a) (b + 1)) := by
  funext a b
  unfold rowU
  rw [if_neg (by unfold skipN; split <;> omega)]
theorem detN_lin : ∀ (n : Nat) (M : Nat → Nat → Int) (i : Nat) (r s : Nat → Int) (c : Int), i < n →
    detN n (rowU M i (fun b => r b + c * s b)) = detN n (rowU M i r) + c * detN n (rowU M i s)
  | 0, _, _, _, _, _, h => by omega
  | n + 1, M, i, r, s, c, h => by
    unfold detN
    rw [← sumN_lin]
    refine sumN_congr fun k hk => ?_
    by_cases e : i = k
    · subst e
      rw [minor_rowU_self, minor_rowU_self, minor_rowU_self]
      simp only [rowU, if_true]
      grind
    · rw [minor_rowU e, minor_rowU e, minor_rowU e, detN_lin n _ _ (fun b => r (b + 1)) (fun b => s (b + 1)) c (backN_lt hk h e)]
      simp only [rowU, if_neg fun e' : k = i => e e'.symm]
      grind
theorem detN_adj : ∀ (n : Nat) (M : Nat → Nat → Int) (i : Nat), i + 1 < n → (∀ b, M i b = M (i + 1) b) → detN n M = 0
  | 0, _, _, h, _ => by omega
  | n + 1, M, i, h, he => by
    unfold detN
    rw [sumN_two (i := i) (k := i + 1) (by omega) h (by omega) fun k hk h1 h2 => ?_]
    · have e : (fun a b => M (skipN (i + 1) a) (b + 1)) = (fun a b => M (skipN i a) (b + 1)) := by
        funext a b
        by_cases ha : a = i
        · subst ha
          have e1 : skipN (a + 1) a = a := by unfold skipN; rw [if_pos (by omega)]
          have e2 : skipN a a = a + 1 := by unfold skipN; rw [if_neg (by omega)]
          rw [e1, e2]; exact he _
        · have : skipN (i + 1) a = skipN i a := by unfold skipN; split <;> split <;> omega
          rw [this]
      rw [e, sgnN_succ, he 0]
      grind
    · have : detN n (fun a b => M (skipN k a) (b + 1)) = 0 := by
        by_cases hki : k < i
        · refine detN_adj n _ (i - 1) (by omega) fun b => ?_
          have e1 : skipN k (i - 1) = i := by unfold skipN; rw [if_neg (by omega)]; omega
          have e2 : skipN k (i - 1 + 1) = i + 1 := by unfold skipN; rw [if_neg (by omega)]; omega
          simp only [e1, e2]; exact he _
        · refine detN_adj n _ i (by omega) fun b => ?_
          have e1 : skipN k i = i := by unfold skipN; rw [if_pos (by omega)]
          have e2 : skipN k (i + 1) = i + 1 := by unfold skipN; rw [if_pos (by omega)]
          simp only [e1, e2]; exact he _
      rw [this, Int.mul_zero]
theorem detN_swap_of {n i k : Nat} (hi : i < n) (hk : k < n) (hne : i ≠ k) (alt : ∀ M : Nat → Nat → Int, (∀ b, M i b = M k b) → detN n M = 0) (M : Nat → Nat → Int) :
    detN n (rowU (rowU M i (M k)) k (M i)) = - detN n M := by
  have key : ∀ r s : Nat → Int, detN n (rowU (rowU M i r) k s) + detN n (rowU (rowU M i s) k r) = 0 := by
    intro r s
    have h0 := alt (rowU (rowU M i (fun b => r b + 1 * s b)) k (fun b => r b + 1 * s b)) fun b => by
      simp only [rowU, if_true, if_neg hne]
    have h1 := alt (rowU (rowU M i r) k r) fun b => by simp only [rowU, if_true, if_neg hne]
    have h2 := alt (rowU (rowU M i s) k s) fun b => by simp only [rowU, if_true, if_neg hne]
    have cm : ∀ u v : Nat → Int, rowU (rowU M i u) k v = rowU (rowU M k v) i u := by
      intro u v; funext a b; unfold rowU
      by_cases a1 : a = i
      · subst a1; rw [if_neg hne, if_pos rfl, if_pos rfl]
      · simp only [if_neg a1]
    rw [detN_lin n (rowU M i (fun b => r b + 1 * s b)) k r s 1 hk, cm, cm, detN_lin n (rowU M k r) i r s 1 hi, detN_lin n (rowU M k s) i r s 1 hi] at h0
    rw [cm] at h1 h2
    rw [cm, cm]
    omega
  have h := key (M k) (M i)
  have e : rowU (rowU M i (M i)) k (M k) = M := by rw [rowU_self, rowU_self]
  rw [e] at h
  omega
theorem detN_alt {n : Nat} : ∀ (t i : Nat) (M : Nat → Nat → Int), i + 1 + t < n → (∀ b, M i b = M (i + 1 + t) b) → detN n M = 0
  | 0, i, M, h, he => detN_adj n M i h he
  | t + 1, i, M, h, he => by
    have hs := detN_swap_of (n := n) (i := i + 1 + t) (k := i + 1 + (t + 1)) (by omega) h (by omega) (fun M hM => detN_adj n M (i + 1 + t) (by omega) hM) M
    have h0 := detN_alt (n := n) t i (rowU (rowU M (i + 1 + t) (M (i + 1 + (t + 1)))) (i + 1 + (t + 1)) (M (i + 1 + t))) (by omega) fun b => by
      simp only [rowU, if_true, if_neg (show i ≠ i + 1 + (t + 1) by omega), if_neg (show i ≠ i + 1 + t by omega), if_neg (show i + 1 + t ≠ i + 1 + (t + 1) by omega)]
      exact he b
    omega
theorem detN_same {n i k : Nat} (hi : i < n) (hk : k < n) (hne : i ≠ k) (M : Nat → Nat → Int) (he : ∀ b, M i b = M k b) : detN n M = 0 := by
  rcases Nat.lt_or_gt_of_ne hne with h | h
  · exact detN_alt (k - i - 1) i M (by omega) fun b => by rw [he b]; congr 1; omega
  · exact detN_alt (i - k - 1) k M (by omega) fun b => by rw [← he b]; congr 1; omega
theorem detN_swap {n i k : Nat} (hi : i < n) (hk : k < n) (hne : i ≠ k) (M : Nat → Nat → Int) : detN n (rowU (rowU M i (M k)) k (M i)) = - detN n M :=
  detN_swap_of hi hk hne (fun M hM => detN_same hi hk hne M hM) M
theorem detN_row0 {n i : Nat} (hi : i < n) (M : Nat → Nat → Int) : detN n (rowU M i (fun _ => 0)) = 0 := by
  have h := detN_lin n M i (fun _ => 0) (fun _ => 0) 1 hi
  have e : (fun b : Nat => (0 : Int) + 1 * 0) = fun _ => 0 := by funext b; rfl
  rw [show (fun b => (fun _ : Nat => (0 : Int)) b + 1 * (fun _ : Nat => (0 : Int)) b) = fun _ => 0 from e] at h
  omega
/-- A row replaced by a sum of multiples of it and of other rows. -/
theorem detN_comb {n k : Nat} (hk : k < n) (M : Nat → Nat → Int) (c : Nat → Int) : ∀ m, m ≤ n → detN n (rowU M k (fun b => sumN (fun j => c j * M j b) m)) = if k < m then c k * detN n M else 0
  | 0, _ => by rw [if_neg (by omega)]; exact detN_row0 hk M
  | m + 1, h => by
    have e : (fun b => sumN (fun j => c j * M j b) (m + 1)) = (fun b => sumN (fun j => c j * M j b) m + c m * M m b) := by funext b; rfl
    rw [e, detN_lin n M k _ (fun b => M m b) (c m) hk, detN_comb hk M c m (by omega)]
    by_cases hm : m = k
    · subst hm
      rw [if_neg (by omega), if_pos (by omega)]
      have : rowU M m (fun b => M m b) = M := rowU_self M m
      rw [this]; omega
    · have : detN n (rowU M k (fun b => M m b)) = 0 := detN_same (i := k) (k := m) hk (by omega) (fun e => hm e.symm) _ fun b => by
        simp only [rowU, if_true, if_neg hm]
      rw [this]
      by_cases hkm : k < m
      · rw [if_pos hkm, if_pos (by omega)]; omega
      · rw [if_neg hkm, if_neg (by omega)]; omega
/-- Multiples of row k added to all others. -/
theorem detN_clear {n k : Nat} (hk : k < n) (M : Nat → Nat → Int) (c : Nat → Int) : detN n (fun a b => if a = k then M k b else M a b + c a * M k b) = detN n M := by
  have key : ∀ m, m ≤ n → detN n (fun a b => if a = k then M k b else if a < m then M a b + c a * M k b else M a b) = detN n M := by
    intro m
    induction m with
    | zero =>
      intro _
      refine detN_congr n fun a ha b hb => ?_
      by_cases e : a = k
      · rw [if_pos e, e]
      · rw [if_neg e, if_neg (by omega)]
    | succ m ih =>
      intro hm
      rw [← ih (by omega)]
      by_cases e : m = k
      · refine detN_congr n fun a ha b hb => ?_
        by_cases e2 : a = k
        · rw [if_pos e2, if_pos e2]
        · rw [if_neg e2, if_neg e2]
          by_cases e3 : a < m
          · rw [if_pos e3, if_pos (by omega)]
          · rw [if_neg e3, if_neg (by omega)]
      · generalize hH : (fun a b => if a = k then M k b else if a < m then M a b + c a * M k b else M a b) = H
        have h1 := detN_lin n H m (fun b => H m b) (fun b => H k b) (c m) (by omega)
        have h2 : detN n (rowU H m (fun b => H k b)) = 0 := detN_same (i := m) (k := k) (by omega) hk e _ fun b => by
          simp only [rowU, if_true, if_neg fun e' : k = m => e e'.symm]
        have h3 : rowU H m (fun b => H m b) = H := rowU_self H m
        rw [h2, h3, Int.mul_zero, Int.add_zero] at h1
        rw [← h1]
        refine detN_congr n fun a ha b hb => ?_
        unfold rowU
        rw [← hH]
        simp only [if_true]
        by_cases e2 : a = k
        · rw [if_pos e2, if_neg (by omega)]; rw [if_pos e2]
        · rw [if_neg e2]
          by_cases e3 : a = m
          · subst e3
            rw [if_pos (by omega), if_pos rfl, if_neg e2, if_neg (by omega)]
          · rw [if_neg e3, if_neg e2]
            by_cases e4 : a < m
            · rw [if_pos e4, if_pos (by omega)]
            · rw [if_neg e4, if_neg (by omega)]
  rw [← key n (Nat.le_refl n)]
  refine detN_congr n fun a ha b hb => ?_
  by_cases e : a = k
  · rw [if_pos e, if_pos e]
  · rw [if_neg e, if_neg e, if_pos ha]

def mulN (n : Nat) (A B : Nat → Nat → Int) : Nat → Nat → Int := fun a b => sumN (fun j => A a j * B j b) n
def prodN (f : Nat → Int) : Nat → Int
  | 0 => 1
  | k + 1 => prodN f k * f k
theorem detN_upper {n : Nat} (U B : Nat → Nat → Int) (hU : ∀ i j, j < i → i < n → U i j = 0) : detN n (mulN n U B) = prodN (fun i => U i i) n * detN n B := by
  have key : ∀ m, m ≤ n → detN n (fun a b => if a < m then mulN n U B a b else B a b) = prodN (fun i => U i i) m * detN n B := by
    intro m
    induction m with
    | zero =>
      intro _
      simp only [prodN, Int.one_mul]
      exact detN_congr n fun a ha b hb => by rw [if_neg (by omega)]
    | succ m ih =>
      intro hm
      simp only [prodN]
      have ih' := ih (by omega)
      generalize hH : (fun a b => if a < m then mulN n U B a b else B a b) = H at ih'
      have h1 := detN_comb (n := n) (k := m) (by omega) H (fun j => U m j) n (Nat.le_refl n)
      rw [if_pos (by omega), ih'] at h1
      have e : detN n (fun a b => if a < m + 1 then mulN n U B a b else B a b) = detN n (rowU H m (fun b => sumN (fun j => U m j * H j b) n)) := by
        refine detN_congr n fun a ha b hb => ?_
        unfold rowU
        by_cases e1 : a = m
        · subst e1
          rw [if_pos (by omega), if_pos rfl]
          unfold mulN
          refine sumN_congr fun j hj => ?_
          by_cases e2 : j < a
          · rw [hU a j e2 (by omega), Int.zero_mul, Int.zero_mul]
          · rw [← hH]; simp only [if_neg e2]
        · rw [if_neg e1, ← hH]
          by_cases e2 : a < m
          · simp only [if_pos e2, if_pos (show a < m + 1 by omega)]
          · simp only [if_neg e2, if_neg (show ¬ a < m + 1 by omega)]
      rw [e, h1]
      grind
  rw [← key n (Nat.le_refl n)]
  exact detN_congr n fun a ha b hb => by rw [if_pos ha]
def idN : Nat → Nat → Int := fun a b => if a = b then 1 else 0
theorem detN_id : ∀ n, detN n idN = 1
  | 0 => rfl
  | n + 1 => by
    unfold detN
    have hz : ∀ k, k < n + 1 → k ≠ 0 → sgnN k * idN k 0 * detN n (fun a b => idN (skipN k a) (b + 1)) = 0 := fun k hk h => by
      unfold idN; rw [if_neg h]; simp
    have h0 : sumN (fun i => sgnN i * idN i 0 * detN n (fun a b => idN (skipN i a) (b + 1))) (n + 1) = sumN (fun q => if q = 0 then sgnN 0 * idN 0 0 * detN n (fun a b => idN (skipN 0 a) (b + 1)) else 0) (n + 1) := by
      refine sumN_congr fun k hk => ?_
      by_cases e : k = 0
      · rw [if_pos e, e]
      · rw [if_neg e]; exact hz k hk e
    rw [h0, sumN_upd (fun _ => 0) 0 _ (n + 1) (by omega) rfl, sumN_zero, Int.zero_add]
    have : detN n (fun a b => idN (skipN 0 a) (b + 1)) = detN n idN := detN_congr n fun a ha b hb => by
      have hz : skipN 0 a = a + 1 := by unfold skipN; rw [if_neg (by omega)]
      rw [hz]
      unfold idN
      by_cases e : a = b
      · rw [if_pos e, if_pos (by omega)]
      · rw [if_neg e, if_neg (by omega)]
    rw [this, detN_id n]
    rfl
theorem mulN_id {n : Nat} (A : Nat → Nat → Int) (a b : Nat) (hb : b < n) : mulN n A idN a b = A a b := by
  unfold mulN idN
  have : sumN (fun j => A a j * if j = b then 1 else 0) n = sumN (fun q => if q = b then A a b else 0) n := by
    refine sumN_congr fun j hj => ?_
    by_cases e : j = b
    · rw [if_pos e, if_pos e, Int.mul_one, e]
    · rw [if_neg e, if_neg e, Int.mul_zero]
  rw [this, sumN_upd (fun _ => 0) b _ n hb rfl, sumN_zero, Int.zero_add]
theorem detN_tri {n : Nat} (U : Nat → Nat → Int) (hU : ∀ i j, j < i → i < n → U i j = 0) : detN n U = prodN (fun i => U i i) n := by
  have h := detN_upper U idN hU
  rw [detN_id, Int.mul_one] at h
  rw [← h]
  exact detN_congr n fun a ha b hb => (mulN_id U a b hb).symm
/-- Columns ahead of k are those of an upper table, column k is 0 from row k on. -/
theorem detN_stuck : ∀ (n k : Nat) (M : Nat → Nat → Int), k < n → (∀ i j, j < k → j < i → i < n → M i j = 0) → (∀ i, k ≤ i → i < n → M i k = 0) → detN n M = 0
  | 0, _, _, h, _, _ => by omega
  | n + 1, 0, M, _, _, h0 => by
    unfold detN
    rw [sumN_congr (g := fun _ => 0) fun i hi => by rw [h0 i (by omega) hi]; simp]
    exact sumN_zero _
  | n + 1, k + 1, M, h, ht, h0 => by
    unfold detN
    rw [sumN_congr (g := fun _ => 0) fun i hi => ?_]
    · exact sumN_zero _
    · by_cases e : i = 0
      · subst e
        rw [detN_stuck n k _ (by omega) (fun a b hb hab ha => ?_) (fun a ha1 ha2 => ?_), Int.mul_zero]
        · have : skipN 0 a = a + 1 := by unfold skipN; rw [if_neg (by omega)]
          simp only [this]; exact ht (a + 1) (b + 1) (by omega) (by omega) (by omega)
        · have : skipN 0 a = a + 1 := by unfold skipN; rw [if_neg (by omega)]
          simp only [this]; exact h0 (a + 1) (by omega) (by omega)
      · rw [ht i 0 (by omega) (by omega) hi]; simp

/-- The steps of an elimination: what they do to a product's determinant. -/
def QN (p : Int) (n : Nat) (A A' : Nat → Nat → Int) (s : Int) : Prop := (s = 1 ∨ s = -1) ∧ ∀ B, p ∣ detN n (mulN n A' B) - s * detN n (mulN n A B)
theorem QN.refl (p : Int) (n : Nat) (A : Nat → Nat → Int) : QN p n A A 1 := ⟨.inl rfl, fun B => by simp⟩
theorem QN.clear {p : Int} {n k : Nat} {A M : Nat → Nat → Int} {s : Int} (hk : k < n) (h : QN p n A M s) (c : Nat → Int) : QN p n A (fun a b => if a = k then M k b else M a b + c a * M k b) s := by
  refine ⟨h.1, fun B => ?_⟩
  have e : detN n (mulN n (fun a b => if a = k then M k b else M a b + c a * M k b) B) = detN n (mulN n M B) := by
    rw [← detN_clear hk (mulN n M B) c]
    refine detN_congr n fun a ha b hb => ?_
    unfold mulN
    by_cases ea : a = k
    · subst ea
      simp only [if_true]
    · simp only [if_neg ea]
      rw [← sumN_lin]
      refine sumN_congr fun j hj => ?_
      grind
  rw [e]; exact h.2 B
theorem QN.swap {p : Int} {n i k : Nat} {A M : Nat → Nat → Int} {s : Int} (hi : i < n) (hk : k < n) (hne : i ≠ k) (h : QN p n A M s) : QN p n A (rowU (rowU M i (M k)) k (M i)) (-s) := by
  refine ⟨by rcases h.1 with e | e <;> rw [e] <;> simp, fun B => ?_⟩
  have e : detN n (mulN n (rowU (rowU M i (M k)) k (M i)) B) = - detN n (mulN n M B) := by
    rw [← detN_swap hi hk hne (mulN n M B)]
    refine detN_congr n fun a ha b hb => ?_
    unfold rowU mulN
    by_cases e1 : a = k
    · simp only [if_pos e1]
    · simp only [if_neg e1]
      by_cases e2 : a = i
      · simp only [if_pos e2]
      · simp only [if_neg e2]
  rw [e]
  have := h.2 B
  have e2 : -detN n (mulN n M B) - -s * detN n (mulN n A B) = -(detN n (mulN n M B) - s * detN n (mulN n A B)) := by grind
  rw [e2]
  exact Int.dvd_neg.2 this
/-- An inverse of a number that p does not divide. -/
theorem inv_ex {p a : Int} (hP : isP p = true) (h : ¬ p ∣ a) : ∃ v, p ∣ a * v - 1 := by
  have hp := isP_le hP
  have h1 := mod_num (a := a) (p := p) (by omega)
  have h2 : a % p ≠ 0 := fun e => h (Int.dvd_iff_emod_eq_zero.2 e)
  obtain ⟨i1, i2, i3⟩ := inv_facts (a := a % p) hP (by omega) h1.2
  refine ⟨invp p (a % p), ?_⟩
  rw [← mod_dvd, mul_mod_l (emm a p).symm, i3]
  exact (Int.emod_eq_of_lt (by omega) (by omega)).symm
theorem elim_ex {p : Int} {n : Nat} (hP : isP p = true) (A : Nat → Nat → Int) : ∀ k, k ≤ n → ∃ M s, QN p n A M s ∧ ∀ j, j < k → ∀ i, j < i → i < n → p ∣ M i j := by
  intro k
  induction k with
  | zero => intro _; exact ⟨A, 1, QN.refl p n A, fun j hj => by omega⟩
  | succ k ih =>
    intro hk
    obtain ⟨M, s, hq, ht⟩ := ih (by omega)
    -- with a number at (k, k)
    have step : ∀ (M : Nat → Nat → Int) (s : Int), QN p n A M s → (∀ j, j < k → ∀ i, j < i → i < n → p ∣ M i j) → ¬ p ∣ M k k → ∃ M s, QN p n A M s ∧ ∀ j, j < k + 1 → ∀ i, j < i → i < n → p ∣ M i j := by
      intro M s hq ht hn
      obtain ⟨v, hv⟩ := inv_ex hP hn
      refine ⟨_, s, hq.clear (k := k) (by omega) (fun a => if k < a then - (M a k * v) else 0), fun j hj i hji hi => ?_⟩
      by_cases hjk : j < k
      · by_cases e : i = k
        · simp only [if_pos e]; exact ht j hjk k (by omega) (by omega)
        · simp only [if_neg e]
          exact Int.dvd_add (ht j hjk i hji hi) (Int.dvd_mul_of_dvd_right (ht j hjk k hjk (by omega)))
      · have : j = k := by omega
        subst this
        simp only [if_neg (show i ≠ j by omega), if_pos hji]
        have e : M i j + -(M i j * v) * M j j = -(M i j * (M j j * v - 1)) := by grind
        rw [e]
        exact Int.dvd_neg.2 (Int.dvd_mul_of_dvd_right hv)
    by_cases hx : ∃ x, k ≤ x ∧ x < n ∧ ¬ p ∣ M x k
    · obtain ⟨x, h1, h2, h3⟩ := hx
      by_cases e : x = k
      · subst e; exact step M s hq ht h3
      · refine step _ _ (hq.swap (i := x) (k := k) h2 (by omega) e) (fun j hj i hji hi => ?_) (by simp only [rowU, if_true]; exact h3)
        unfold rowU
        by_cases e1 : i = k
        · simp only [if_pos e1]; exact ht j hj x (by omega) h2
        · simp only [if_neg e1]
          by_cases e2 : i = x
          · simp only [if_pos e2]; exact ht j hj k hj (by omega)
          · simp only [if_neg e2]; exact ht j hj i hji hi
    · refine ⟨M, s, hq, fun j hj i hji hi => ?_⟩
      by_cases hjk : j < k
      · exact ht j hjk i hji hi
      · have : j = k := by omega
        subst this
        exact Classical.byContradiction fun hn => hx ⟨i, by omega, hi, hn⟩
theorem detN_mul {p : Int} {n : Nat} (hP : isP p = true) (A B : Nat → Nat → Int) : p ∣ detN n (mulN n A B) - detN n A * detN n B := by
  obtain ⟨M, s, hq, ht⟩ := elim_ex (n := n) hP A n (Nat.le_refl n)
  -- exact zeros
  let U : Nat → Nat → Int := fun i j => if j < i then 0 else M i j
  have hUM : ∀ i, i < n → ∀ j, j < n → p ∣ U i j - M i j := by
    intro i hi j hj
    simp only [U]
    split
    · rename_i h
      rw [Int.zero_sub]; exact Int.dvd_neg.2 (ht j hj i h hi)
    · simp
  have hU0 : ∀ i j, j < i → i < n → U i j = 0 := fun i j h _ => by simp only [U, if_pos h]
  have hB : ∀ B, p ∣ detN n (mulN n U B) - s * detN n (mulN n A B) := by
    intro B
    have h1 : p ∣ detN n (mulN n U B) - detN n (mulN n M B) := detN_mod n fun a ha b hb => by
      unfold mulN
      exact sumN_cong_dvd fun j hj => dvd_mul_sub (hUM a ha j hj) (by simp)
    exact dvd_trans_sub h1 (hq.2 B)
  have h1 := hB B
  have h2 := hB idN
  rw [detN_upper U B hU0] at h1
  rw [detN_upper U idN hU0, detN_id, Int.mul_one] at h2
  have e : detN n (mulN n A idN) = detN n A := detN_congr n fun a ha b hb => mulN_id A a b hb
  rw [e] at h2
  generalize detN n (mulN n A B) = x at h1 ⊢
  generalize prodN (fun i => U i i) n = u at h1 h2
  generalize detN n A = y at h2 ⊢
  generalize detN n B = z at h1 ⊢
  rcases hq.1 with e | e
  · subst e
    have : x - y * z = (u - 1 * y) * z - (u * z - 1 * x) := by grind
    rw [this]
    exact Int.dvd_sub (Int.dvd_mul_of_dvd_left h2) h1
  · subst e
    have : x - y * z = (u * z - -1 * x) - (u - -1 * y) * z := by grind
    rw [this]
    exact Int.dvd_sub h1 (Int.dvd_mul_of_dvd_left h2)
end Go.Vam

/- Plain laws: the programs' determinant is the expansion's. -/
namespace Go.Vam
open Go Go.RowKit
set_option linter.unusedSimpArgs false
set_option linter.unusedVariables false
set_option linter.unusedSectionVars false

def asN (m : List (List Int)) : Nat → Nat → Int := fun a b => gI (gR m a) b
def detL (r : Nat) (m : List (List Int)) : Int := detN r (asN m)
theorem prodN_congr {f g : Nat → Int} : ∀ {n : Nat}, (∀ k, k < n → f k = g k) → prodN f n = prodN g n
  | 0, _ => rfl
  | n + 1, h => by simp only [prodN, prodN_congr (n := n) fun k hk => h k (by omega), h n (by omega)]
/-- What the elimination keeps. -/
def DetInv (p : Int) (r : Nat) (M0 M : List (List Int)) (d : Int) (k : Nat) : Prop :=
  ∃ s : Int, p ∣ detL r M0 - s * detL r M ∧ p ∣ d - s * prodN (fun j => gI (gR M j) j) k
theorem DetInv.refl (p : Int) (r : Nat) (M0 : List (List Int)) : DetInv p r M0 M0 1 0 := ⟨1, by simp, by simp [prodN]⟩
theorem DetInv.stuck {p : Int} {r k : Nat} {M0 M : List (List Int)} {d : Int} (h : DetInv p r M0 M d k) (ht : Tri r k M) (hk : k < r) (h0 : ∀ i, k ≤ i → i < r → gI (gR M i) k = 0) : p ∣ 0 - detL r M0 := by
  obtain ⟨s, h1, _⟩ := h
  have e : detL r M = 0 := detN_stuck r k _ hk (fun i j hj hji hi => (ht j hj).2 i hji hi) h0
  rw [e, Int.mul_zero, Int.sub_zero] at h1
  rw [Int.zero_sub]; exact Int.dvd_neg.2 h1
theorem DetInv.full {p : Int} {r : Nat} {M0 M : List (List Int)} {d : Int} (h : DetInv p r M0 M d r) (ht : Tri r r M) : p ∣ d - detL r M0 := by
  obtain ⟨s, h1, h2⟩ := h
  have e : detL r M = prodN (fun j => gI (gR M j) j) r := detN_tri _ fun i j hji hi => (ht j (by omega)).2 i hji hi
  rw [e] at h1
  have := Int.dvd_sub h2 h1
  have e2 : d - s * prodN (fun j => gI (gR M j) j) r - (detL r M0 - s * prodN (fun j => gI (gR M j) j) r) = d - detL r M0 := by omega
  rwa [e2] at this
theorem DetInv.swap {p : Int} {r x k : Nat} {M0 M : List (List Int)} {d : Int} (h : DetInv p r M0 M d k) (hM : Mat p r r M) (hx : x < r) (hk : k < r) (hkx : k ≤ x) (hne : x ≠ k) :
    DetInv p r M0 ((M.set x (gR M k)).set k (gR M x)) ((p - d) % p) k := by
  obtain ⟨s, h1, h2⟩ := h
  have e : detL r ((M.set x (gR M k)).set k (gR M x)) = - detL r M := by
    unfold detL
    rw [← detN_swap hx hk hne (asN M)]
    refine detN_congr r fun a ha b hb => ?_
    unfold asN rowU
    rw [swap_row hM hx hk]
    by_cases e1 : a = k
    · simp only [if_pos e1]
    · simp only [if_neg e1]
      by_cases e2 : a = x
      · simp only [if_pos e2]
      · simp only [if_neg e2]
  have e3 : prodN (fun j => gI (gR ((M.set x (gR M k)).set k (gR M x)) j) j) k = prodN (fun j => gI (gR M j) j) k := prodN_congr fun j hj => by
    rw [swap_row hM hx hk, if_neg (by omega), if_neg (by omega)]
  refine ⟨-s, ?_, ?_⟩
  · rw [e]
    have : detL r M0 - -s * -detL r M = detL r M0 - s * detL r M := by grind
    rw [this]; exact h1
  · rw [e3]
    have h3 : p ∣ (p - d) % p - (p - d) := by rw [← mod_dvd, emm]
    have h4 : p ∣ (p - d) - -s * prodN (fun j => gI (gR M j) j) k := by
      have : (p - d) - -s * prodN (fun j => gI (gR M j) j) k = p - (d - s * prodN (fun j => gI (gR M j) j) k) := by grind
      rw [this]
      exact Int.dvd_sub (Int.dvd_refl p) h2
    exact dvd_trans_sub h3 h4
theorem DetInv.clear {p : Int} {r k : Nat} {M0 M y : List (List Int)} {R : List Int} {d : Int} (h : DetInv p r M0 M d k) (hk : k < r) (hMk : gR M k = R) (hy : ∀ j, j < r → gR y j = if k < j then clp p r k R (gR M j) else gR M j) :
    DetInv p r M0 y (d * gI R k % p) (k + 1) := by
  obtain ⟨s, h1, h2⟩ := h
  have e : p ∣ detL r y - detL r M := by
    unfold detL
    rw [← detN_clear hk (asN M) (fun a => if k < a then (p - gI (gR M a) k) * invp p (gI R k) % p else 0)]
    refine detN_mod r fun a ha b hb => ?_
    simp only [asN]
    rw [hy a ha]
    by_cases e1 : a = k
    · rw [if_neg (by omega), if_pos e1, e1]; simp
    · rw [if_neg e1]
      by_cases e2 : k < a
      · rw [if_pos e2, if_pos e2]
        unfold clp
        rw [plusv_at hb, hMk, ← mod_dvd, emm]
      · rw [if_neg e2, if_neg e2]; simp
  have e3 : prodN (fun j => gI (gR y j) j) (k + 1) = prodN (fun j => gI (gR M j) j) k * gI R k := by
    simp only [prodN]
    rw [hy k hk, if_neg (by omega), hMk, prodN_congr (g := fun j => gI (gR M j) j) fun j hj => by rw [hy j (by omega), if_neg (by omega)]]
  refine ⟨s, ?_, ?_⟩
  · have : detL r M0 - s * detL r y = (detL r M0 - s * detL r M) - s * (detL r y - detL r M) := by grind
    rw [this]
    exact Int.dvd_sub h1 (Int.dvd_mul_of_dvd_right e)
  · rw [e3]
    have h3 : p ∣ d * gI R k % p - d * gI R k := by rw [← mod_dvd, emm]
    refine dvd_trans_sub h3 ?_
    have : d * gI R k - s * (prodN (fun j => gI (gR M j) j) k * gI R k) = (d - s * prodN (fun j => gI (gR M j) j) k) * gI R k := by grind
    rw [this]
    exact Int.dvd_mul_of_dvd_left h2

section
variable {p : Int} {r : Nat} (hP : isP p = true) (hr : r ≤ 1048576)
include hP hr
theorem det_two3 {m v1 : List (List Int)} (hm : Mat p r r m) (hv : v1.length = r) :
    ∃ b, loop (s_l02Det_L0 p) BIG (m, 1, 0) = some b ∧ loop (i_field_determinant_L0 p v1) BIG (m, 1, 0) = some b ∧ (match b with | .inl d => 0 ≤ d ∧ d < p ∧ p ∣ d - detL r m | .inr d => 0 ≤ d ∧ d < p ∧ p ∣ d - detL r m) := by
  have hp := isP_le hP
  generalize hM0 : m = M0
  rw [hM0] at hm
  refine loop_two (fun s => Mat p r r s.1 ∧ 0 ≤ s.2.1 ∧ s.2.1 < p ∧ ∃ k : Nat, s.2.2 = (k : Int) ∧ k ≤ r ∧ Tri r k s.1 ∧ DetInv p r M0 s.1 s.2.1 k) (fun s => r - s.2.2.toNat) _ ⟨hm, (by decide : (0 : Int) ≤ 1), (show (1 : Int) < p by omega), 0, rfl, by omega, fun j hj => by omega, DetInv.refl p r M0⟩ (by rw [BIG_val]; simp only []; omega) ?_
  rintro ⟨m, d, t⟩ ⟨hm, hd0, hd1, k, rfl, hk, htri, hinv⟩
  simp only [] at hm hd0 hd1 htri hinv
  have e1 := hm.1
  unfold s_l02Det_L0 i_field_determinant_L0
  by_cases hkr : k < r
  · obtain ⟨b, h1, x, rfl, h2, h3, h4, hz⟩ := find_eq2 hm (k := k) (s := k) hr hkr hk
    have l1 : s_l02Det_L1 (m, d, (k : Int)) = findStep m (k : Int) := rfl
    have l2 : i_field_determinant_L1 (m, d, (k : Int)) = findStep m (k : Int) := rfl
    have c1 : (k : Int) < (m.length : Int) := by omega
    have c2 : (k : Int) < (v1.length : Int) := by omega
    by_cases hx : x = r
    · refine .inr ?_
      have hx' : (x : Int) = (m.length : Int) := by omega
      simp only [c1, c2, if_true, l1, l2, h1, some_bind, hx']
      exact ⟨_, rfl, rfl, by omega, by omega, hinv.stuck htri hkr fun i hi1 hi2 => hz i hi1 (by omega)⟩
    refine .inl ?_
    have hx' : ¬ (x : Int) = (m.length : Int) := by omega
    have hxr : x < r := by omega
    have hne := h4 hxr
    have e3 := (hm.row hxr).1
    have e4 := (hm.row hxr).get hkr
    obtain ⟨i1, i2, i3⟩ := inv_facts (a := gI (gR m x) k) hP (by omega) e4.2
    have f1 := s_l01Inv_eq (a := gI (gR m x) k) hP (by omega) e4.2
    by_cases hxk : x = k
    · have c3 : ¬ (k : Int) < (x : Int) := by omega
      have c4 : (x : Int) = (k : Int) := by omega
      have hM : Mat p r r m := hm
      have hMk : gR m k = gR m x := by rw [hxk]
      have e5 := hM.1
      obtain ⟨y, y1, y2, y3, y4⟩ := det_clear2 (p := p) (r := r) (M := m) (m0 := m) (R := gR m x) (k := k) (d0 := d) hP hr hkr hM hMk hne
      have q := mul_abs (a := d) (b := gI (gR m x) k) (A := 13) (B := 13) (by omega) (by omega)
      have q0 := Int.mul_nonneg (a := d) (b := gI (gR m x) k) (by omega) (by omega)
      have w3 : w64 (d * gI (gR m x) k) = d * gI (gR m x) k := w_in (by omega) (by omega)
      have w4 : (d * gI (gR m x) k).tmod p = d * gI (gR m x) k % p := tmod_nn (by omega)
      have w5 := i_field_num_eq (p := p) (n := d * gI (gR m x) k) (by omega) (by omega) (by omega) (by omega)
      have w6 : w64 ((k : Int) + 1) = ((k + 1 : Nat) : Int) := by rw [w_in (by omega) (by omega)]; rfl
      have hn := mod_num (a := d * gI (gR m x) k) (p := p) (by omega)
      simp only [c1, c2, if_true, l1, l2, h1, some_bind, hx', if_false, c3, not_true_eq_false, show ((x : Int) = (k : Int)) = True from eq_true c4, idxR (show k < m.length by omega), hMk, idxI (show k < (gR m x).length by omega), chk_bind (show ¬ p = 0 by omega), f1, w3, w4, w5, w6, y1, y2]
      exact ⟨_, rfl, rfl, ⟨y3, hn.1, hn.2, k + 1, rfl, by omega, clear_tri hP hkr hM hMk hne y4 htri, hinv.clear hkr hMk y4⟩, by simp only [Int.toNat_natCast]; omega⟩
    · have c3 : (k : Int) < (x : Int) := by omega
      have c4 : ¬ (x : Int) = (k : Int) := by omega
      have g2 : (m.set k (gR m x)).set x (gR m k) = (m.set x (gR m k)).set k (gR m x) := List.set_comm _ _ (fun h => hxk h.symm)
      have hn0 := mod_num (a := p - d) (p := p) (by omega)
      have w7 : w64 (p - d) = p - d := w_in (by omega) (by omega)
      have w8 : w64 (0 - d) = 0 - d := w_in (by omega) (by omega)
      have w9 : (p - d).tmod p = (p - d) % p := tmod_nn (by omega)
      have w10 : i_field_num p (0 - d) = some ((p - d) % p) := by
        rw [i_field_num_eq (by omega) (by omega) (by omega) (by omega)]
        have : p - d = 0 - d + p := by omega
        rw [this, Int.add_emod_right]
      have hM : Mat p r r ((m.set x (gR m k)).set k (gR m x)) := (hm.set hxr (hm.row hkr)).set hkr (hm.row hxr)
      have hMk : gR ((m.set x (gR m k)).set k (gR m x)) k = gR m x := by rw [gR_set (by rw [List.length_set]; omega), if_pos rfl]
      have e5 := hM.1
      obtain ⟨y, y1, y2, y3, y4⟩ := det_clear2 (p := p) (r := r) (M := ((m.set x (gR m k)).set k (gR m x))) (m0 := m) (R := gR m x) (k := k) (d0 := d) hP hr hkr hM hMk hne
      have q := mul_abs (a := ((p - d) % p)) (b := gI (gR m x) k) (A := 13) (B := 13) (by omega) (by omega)
      have q0 := Int.mul_nonneg (a := ((p - d) % p)) (b := gI (gR m x) k) (by omega) (by omega)
      have w3 : w64 (((p - d) % p) * gI (gR m x) k) = ((p - d) % p) * gI (gR m x) k := w_in (by omega) (by omega)
      have w4 : (((p - d) % p) * gI (gR m x) k).tmod p = ((p - d) % p) * gI (gR m x) k % p := tmod_nn (by omega)
      have w5 := i_field_num_eq (p := p) (n := ((p - d) % p) * gI (gR m x) k) (by omega) (by omega) (by omega) (by omega)
      have w6 : w64 ((k : Int) + 1) = ((k + 1 : Nat) : Int) := by rw [w_in (by omega) (by omega)]; rfl
      have hn := mod_num (a := ((p - d) % p) * gI (gR m x) k) (p := p) (by omega)
      simp only [c1, c2, if_true, l1, l2, h1, some_bind, hx', if_false, c3, c4, not_false_eq_true, idxR (show x < m.length by omega), idxR (show k < m.length by omega), idxR (show x < (m.set k (gR m x)).length by rw [List.length_set]; omega), idxR (show k < (m.set x (gR m k)).length by rw [List.length_set]; omega), Int.toNat_natCast, g2, w7, w8, w9, w10, idxR (show k < ((m.set x (gR m k)).set k (gR m x)).length by omega), hMk, idxI (show k < (gR m x).length by omega), chk_bind (show ¬ p = 0 by omega), f1, w3, w4, w5, w6, y1, y2]
      exact ⟨_, rfl, rfl, ⟨y3, hn.1, hn.2, k + 1, rfl, by omega, clear_tri hP hkr hM hMk hne y4 (swap_tri hm hxr hkr h2 htri), (hinv.swap hm hxr hkr h2 hxk).clear hkr hMk y4⟩, by simp only [Int.toNat_natCast]; omega⟩
  · refine .inr ?_
    simp only [show ¬ (k : Int) < (m.length : Int) by omega, show ¬ (k : Int) < (v1.length : Int) by omega, if_false]
    have hkk : k = r := by omega
    subst hkk
    exact ⟨_, rfl, rfl, hd0, hd1, hinv.full htri⟩
theorem Det_val {m : List (List Int)} (hm : Mat p r r m) : ∃ d, s_l02Det p m = some d ∧ i_field_determinant p m = some d ∧ (d = 0 ↔ Sg p r r m) ∧ 0 ≤ d ∧ d < p ∧ p ∣ d - detL r m := by
  obtain ⟨d, a1, a2, a3⟩ := Det_iff hP hr hm
  refine ⟨d, a1, a2, a3, ?_⟩
  obtain ⟨b, h1, h2, h3⟩ := det_two3 hP hr hm hm.1
  have hz := hm.sz hr hr
  unfold i_field_determinant at a2
  rw [i_cloneRows_eq hz, some_bind, h2, some_bind] at a2
  cases b with
  | inl d' => cases a2; exact h3
  | inr d' => cases a2; exact h3
end
end Go.Vam

/- Plain laws: products are associative; turned products; ranks and determinants of products. -/
namespace Go.Vam
open Go Go.RowKit
set_option linter.unusedSimpArgs false
set_option linter.unusedVariables false
set_option linter.unusedSectionVars false

theorem timesm_at {p : Int} {r n c i k : Nat} {a b : List (List Int)} (hi : i < r) (hk : k < c) : gI (gR (timesm p r n c a b) i) k = sumN (fun j => gI (gR a i) j * gI (gR b j) k) n % p := by
  unfold timesm
  rw [gR_vecN _ hi, gI_vecN _ hk]
theorem timesm_ext {p : Int} {r n n' c : Nat} {a b a' b' : List (List Int)} (h : ∀ i, i < r → ∀ k, k < c → sumN (fun j => gI (gR a i) j * gI (gR b j) k) n % p = sumN (fun j => gI (gR a' i) j * gI (gR b' j) k) n' % p) : timesm p r n c a b = timesm p r n' c a' b' := by
  unfold timesm
  exact vecN_congr fun i hi => vecN_congr fun k hk => h i hi k hk
theorem timesm_assoc {p : Int} {r n m c : Nat} {a b d : List (List Int)} : timesm p r m c (timesm p r n m a b) d = timesm p r n c a (timesm p n m c b d) := by
  refine timesm_ext fun i hi k hk => ?_
  have e1 : sumN (fun j => gI (gR (timesm p r n m a b) i) j * gI (gR d j) k) m % p = sumN (fun j => sumN (fun t => gI (gR a i) t * gI (gR b t) j * gI (gR d j) k) n) m % p := by
    refine sumN_mod fun j hj => ?_
    rw [timesm_at hi hj, sumN_mulR]
    exact mul_mod_l (emm _ _)
  have e2 : sumN (fun t => gI (gR a i) t * gI (gR (timesm p n m c b d) t) k) n % p = sumN (fun t => sumN (fun j => gI (gR a i) t * gI (gR b t) j * gI (gR d j) k) m) n % p := by
    refine sumN_mod fun t ht => ?_
    rw [timesm_at ht hk]
    rw [show sumN (fun j => gI (gR a i) t * gI (gR b t) j * gI (gR d j) k) m = gI (gR a i) t * sumN (fun j => gI (gR b t) j * gI (gR d j) k) m by
      rw [← sumN_mulL]; exact sumN_congr fun j _ => Int.mul_assoc ..]
    exact mul_mod_r (emm _ _)
  rw [e1, e2, sumN_comm]
end Go.Vam

/- Plain laws: powers, exponents are added. -/
namespace Go.Vam
open Go Go.RowKit
set_option linter.unusedSimpArgs false
set_option linter.unusedVariables false
set_option linter.unusedSectionVars false

theorem unitm_at {n i k : Nat} (hi : i < n) (hk : k < n) : gI (gR (unitm n) i) k = if k = i then 1 else 0 := by
  unfold unitm
  rw [gR_vecN _ hi, ← gI_get (by simpa using hk), List.getElem_set]
  by_cases e : i = k
  · rw [if_pos e, if_pos e.symm]
  · rw [if_neg e, if_neg fun h => e h.symm]; simp
theorem mat_self {p : Int} {r c : Nat} {m : List (List Int)} (h : Mat p r c m) : vecN r (fun i => vecN c fun k => gI (gR m i) k) = m :=
  (extR h.1 fun i hi => extI (h.row hi).1 fun k hk => rfl).symm
theorem times_one {p : Int} {r n : Nat} {a : List (List Int)} (ha : Mat p r n a) : timesm p r n n a (unitm n) = a := by
  conv => rhs; rw [← mat_self ha]
  unfold timesm
  refine vecN_congr fun i hi => vecN_congr fun k hk => ?_
  have : sumN (fun j => gI (gR a i) j * gI (gR (unitm n) j) k) n = sumN (fun q => if q = k then gI (gR a i) k else 0) n := by
    refine sumN_congr fun j hj => ?_
    rw [unitm_at hj hk]
    by_cases e : k = j
    · rw [if_pos e, if_pos e.symm, Int.mul_one, e]
    · rw [if_neg e, if_neg fun h => e h.symm, Int.mul_zero]
  have hv := (ha.row hi).get hk
  rw [this, sumN_upd (fun _ => 0) k _ n hk rfl, sumN_zero, Int.zero_add, mod_small hv.1 hv.2]
theorem one_times {p : Int} {n c : Nat} {a : List (List Int)} (ha : Mat p n c a) : timesm p n n c (unitm n) a = a := by
  conv => rhs; rw [← mat_self ha]
  unfold timesm
  refine vecN_congr fun i hi => vecN_congr fun k hk => ?_
  have : sumN (fun j => gI (gR (unitm n) i) j * gI (gR a j) k) n = sumN (fun q => if q = i then gI (gR a i) k else 0) n := by
    refine sumN_congr fun j hj => ?_
    rw [unitm_at hi hj]
    by_cases e : j = i
    · rw [if_pos e, if_pos e, Int.one_mul, e]
    · rw [if_neg e, if_neg e, Int.zero_mul]
  have hv := (ha.row hi).get hk
  rw [this, sumN_upd (fun _ => 0) i _ n hi rfl, sumN_zero, Int.zero_add, mod_small hv.1 hv.2]

def powm (p : Int) (n : Nat) (a : List (List Int)) : Nat → List (List Int)
  | 0 => unitm n
  | k + 1 => timesm p n n n (powm p n a k) a
theorem powm_mat {p : Int} (hp : 1 < p) (n : Nat) (a : List (List Int)) : ∀ k, Mat p n n (powm p n a k)
  | 0 => unitm_mat hp n
  | k + 1 => timesm_mat (by omega) n n n _ _
theorem powm_add {p : Int} (hp : 1 < p) (n : Nat) (a : List (List Int)) (i : Nat) : ∀ j, timesm p n n n (powm p n a i) (powm p n a j) = powm p n a (i + j)
  | 0 => times_one (powm_mat hp n a i)
  | j + 1 => by
    show timesm p n n n (powm p n a i) (timesm p n n n (powm p n a j) a) = timesm p n n n (powm p n a (i + j)) a
    rw [← timesm_assoc, powm_add hp n a i j]
theorem powm_sq {p : Int} (hp : 1 < p) (n : Nat) {a : List (List Int)} : ∀ j, powm p n (timesm p n n n a a) j = powm p n a (2 * j)
  | 0 => rfl
  | j + 1 => by
    show timesm p n n n (powm p n (timesm p n n n a a) j) (timesm p n n n a a) = timesm p n n n (timesm p n n n (powm p n a (2 * j)) a) a
    rw [powm_sq hp n j, timesm_assoc]
theorem powm_one {p : Int} (hp : 1 < p) {n : Nat} {a : List (List Int)} (ha : Mat p n n a) : powm p n a 1 = a := one_times ha
theorem i_pow_loop {p : Int} {n : Nat} {a : List (List Int)} {k : Nat} (hp : 1 < p) (hp2 : p ≤ 13) (hn0 : 0 < n) (hn : n ≤ 16) (ha : Mat p n n a) (hk2 : k ≤ 1000) :
    loop (i_PowerMatrix_L0 p) BIG ((k : Int), unitm n, a) = some (powm p n a k) := by
  obtain ⟨T, hT⟩ : ∃ T, T = powm p n a k := ⟨_, rfl⟩
  have h00 : timesm p n n n (unitm n) (powm p n a k) = T := by rw [hT]; exact one_times (powm_mat hp n a k)
  rw [← hT]
  clear hT
  have key : ∃ b, loop (i_PowerMatrix_L0 p) BIG ((k : Int), unitm n, a) = some b ∧ b = T := by
    refine loop_inv (fun s => ∃ j : Nat, s.1 = (j : Int) ∧ j ≤ 1000 ∧ Mat p n n s.2.1 ∧ Mat p n n s.2.2 ∧ timesm p n n n s.2.1 (powm p n s.2.2 j) = T) (fun s => s.1.toNat) (fun b => b = T) (s := ((k : Int), unitm n, a)) ?_ (by rw [BIG_val]; simp only []; omega) ?_
    · exact ⟨k, rfl, hk2, unitm_mat hp n, ha, h00⟩
    rintro ⟨t, x, y⟩ ⟨j, rfl, h2, hx, hy, he⟩
    simp only [] at hx hy he
    have exy2 := i_field_times_eq (p := p) (r := n) (n := n) (c := n) (by omega) hp2 (by omega) hn0 (by omega) (by omega) hx hy
    have eyy2 := i_field_times_eq (p := p) (r := n) (n := n) (c := n) (by omega) hp2 (by omega) hn0 (by omega) (by omega) hy hy
    have mxy := timesm_mat (p := p) (by omega) n n n x y
    have myy := timesm_mat (p := p) (by omega) n n n y y
    unfold i_PowerMatrix_L0
    simp only []
    by_cases hk0 : 0 < j
    · have hd : (j : Int).tdiv 2 = ((j / 2 : Nat) : Int) := by rw [Int.tdiv_eq_ediv_of_nonneg (by omega)]; omega
      have hm : (j : Int).tmod 2 = ((j % 2 : Nat) : Int) := by rw [Int.tmod_eq_emod_of_nonneg (by omega)]; omega
      refine .inl ?_
      have c0 : (0 : Int) < (j : Int) := by omega
      have hw : w64 ((j / 2 : Nat) : Int) = ((j / 2 : Nat) : Int) := w_in (by omega) (by omega)
      simp only [c0, if_true, hd, hm, hw]
      by_cases ho : j % 2 = 1
      · have c1 : ((j % 2 : Nat) : Int) = 1 := by omega
        simp only [c1, if_true, exy2, eyy2, some_bind]
        refine ⟨_, rfl, ⟨j / 2, rfl, by omega, mxy, myy, ?_⟩, by simp only [Int.toNat_natCast]; omega⟩
        simp only []
        rw [powm_sq hp, timesm_assoc, ← he]
        congr 1
        have h1 := powm_add hp n y 1 (2 * (j / 2))
        rw [powm_one hp hy] at h1
        rw [h1]
        congr 1; omega
      · have c1 : ¬ ((j % 2 : Nat) : Int) = 1 := by omega
        simp only [c1, if_false, eyy2, some_bind]
        refine ⟨_, rfl, ⟨j / 2, rfl, by omega, hx, myy, ?_⟩, by simp only [Int.toNat_natCast]; omega⟩
        simp only []
        rw [powm_sq hp, ← he]
        congr 2; omega
    · have c0 : ¬ (0 : Int) < (j : Int) := by omega
      have j0 : j = 0 := by omega
      subst j0
      refine .inr ?_
      simp only [c0, if_false]
      exact ⟨_, rfl, by rw [← he]; exact (times_one hx).symm⟩
  obtain ⟨b, h1, rfl⟩ := key
  exact h1
theorem i_PowerMatrix_val {p : Int} {n : Nat} {a : List (List Int)} {k : Nat} (hm : isMat p a = true) (hl : a.length = wid a) (hn : a.length = n) (hk : k ≤ 1000) : i_PowerMatrix p a (k : Int) = some (powm p n a k, 0) := by
  obtain ⟨h1, h2, h3, hP, h4, h5⟩ := isMat_sz hm
  have hp := isP_le hP
  have hz : szM a := h3.sz (by omega) (by omega)
  have hq : sqC p a = 0 := by unfold sqC; rw [if_pos hm, if_pos hl]
  unfold i_PowerMatrix
  rw [i_checkSquare_eq hz, some_bind, i_inRange_eq, some_bind, hq]
  have hkd : (decide ((0 : Int) ≤ (k : Int)) && decide ((k : Int) ≤ 1000)) = true := by
    rw [Bool.and_eq_true, decide_eq_true_eq, decide_eq_true_eq]; omega
  rw [hkd]
  simp only [not_true_eq_false, if_false, Bool.true_eq_false]
  rw [i_unit_eq hz.1, some_bind, i_cloneRows_eq hz, some_bind, i_pow_loop (n := a.length) (by omega) (by omega) (by omega) (by omega) (by have := h3; rwa [← hl] at this) hk, some_bind, hn]
end Go.Vam

/- Plain laws: norms of elements; ConjugationBy. -/
namespace Go.Vam
open Go Go.RowKit
set_option linter.unusedSimpArgs false
set_option linter.unusedVariables false
set_option linter.unusedSectionVars false

theorem sumN_split (f : Nat → Int) (a b : Nat) : sumN f (a + b) = sumN f a + sumN (fun k => f (a + k)) b := by
  induction b with
  | zero => simp [sumN]
  | succ b ih => rw [← Nat.add_assoc]; simp only [sumN]; rw [ih]; omega
section
variable {p : Int} {w x : List Int} (hP : isP p = true) (hl : w.length ≤ 4) (hw : Vec p w.length w) (hx : Vec p (2 ^ w.length) x)
include hP hl hw hx
end
section
variable {p : Int} {w a b : List Int} (hP : isP p = true) (hl : w.length ≤ 4) (hw : Vec p w.length w) (ha : Vec p (2 ^ w.length) a) (hb : Vec p (2 ^ w.length) b)
include hP hl hw ha hb
end
end Go.Vam
