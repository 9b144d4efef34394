/- Plain laws: two loops side by side, square tables, powers of tables. -/
import Derived.Test.YtdoimfkonaeceaaPlP
namespace Go.Vam
open Go Go.RowKit
set_option linter.unusedSimpArgs false
set_option linter.unusedVariables false

/-- Two loops that take the same steps. -/
theorem loop_two {S B : Type} {f g : S → Option (S ⊕ B)} (I : S → Prop) (μ : S → Nat) (Q : B → Prop) {s : S} (h0 : I s) (hm : μ s < BIG)
    (hr : ∀ s, I s → (∃ s', f s = some (.inl s') ∧ g s = some (.inl s') ∧ I s' ∧ μ s' < μ s) ∨ (∃ b, f s = some (.inr b) ∧ g s = some (.inr b) ∧ Q b)) :
    ∃ b, loop f BIG s = some b ∧ loop g BIG s = some b ∧ Q b := by
  have key : ∀ (n : Nat) (s : S), I s → μ s < n → ∃ b, loop f n s = some b ∧ loop g n s = some b ∧ Q b := by
    intro n
    induction n with
    | zero => intro s _ h; omega
    | succ n ih =>
      intro s hI hn
      rcases hr s hI with ⟨s', h1, h2, h3, h4⟩ | ⟨b, h1, h2, h3⟩
      · rw [loop_succ, loop_succ, h1, h2]
        exact ih s' h3 (by omega)
      · rw [loop_succ, loop_succ, h1, h2]
        exact ⟨b, rfl, rfl, h3⟩
  exact key BIG s h0 hm

/-! ### Square tables -/
def sqC (p : Int) (m : List (List Int)) : Int := if isMat p m then (if m.length = wid m then 0 else 2) else 1
theorem sqC_zero {p : Int} {m : List (List Int)} (h : sqC p m = 0) : isMat p m = true ∧ m.length = wid m := by
  unfold sqC at h
  split at h
  · split at h
    · exact ⟨by assumption, by assumption⟩
    · omega
  · omega
theorem s_l02Square_eq {p : Int} {m : List (List Int)} (h : szM m) : s_l02Square p m = some (sqC p m) := by
  unfold s_l02Square sqC
  rw [s_l02Is_eq h, some_bind]
  cases hm : isMat p m with
  | false => simp
  | true =>
    obtain ⟨h1, h2, h3, hP, h4, h5⟩ := isMat_sz hm
    have hw : (gR m 0).length = wid m := rfl
    simp only [Bool.true_eq_false, if_false, if_true]
    rw [idxR0 (by omega), some_bind, hw]
    by_cases hl : m.length = wid m
    · rw [if_neg (by omega), if_pos hl]
    · rw [if_pos (by omega), if_neg hl]
theorem i_checkSquare_eq {p : Int} {m : List (List Int)} (h : szM m) : i_checkSquare p m = some (sqC p m) := by
  unfold i_checkSquare sqC
  rw [checkM1 h, some_bind]
  cases hm : isMat p m with
  | false => simp
  | true =>
    obtain ⟨h1, h2, h3, hP, h4, h5⟩ := isMat_sz hm
    have hw : (gR m 0).length = wid m := rfl
    simp only [if_true, not_true_eq_false, if_false]
    rw [idxR0 (by omega), some_bind, hw]
    by_cases hl : m.length = wid m
    · rw [if_neg (by omega), if_pos hl]
    · rw [if_pos (by omega), if_neg hl]

/-! ### The unit -/
def unitm (n : Nat) : List (List Int) := vecN n fun i => (List.replicate n (0 : Int)).set i 1
theorem unitm_mat {p : Int} (hp : 1 < p) (n : Nat) : Mat p n n (unitm n) := Mat.mk' fun i hi => by
  refine ⟨by simp, fun k hk => ?_⟩
  rw [← gI_get (by simpa using hk), List.getElem_set]
  split
  · omega
  · simp; omega
theorem s_l02Unit_eq {n : Nat} (hn : n ≤ 1048576) : s_l02Unit (n : Int) = some (unitm n) := by
  unfold s_l02Unit
  rw [map_loop _ n (fun i => (List.replicate n (0 : Int)).set i 1) (by rw [BIG_val]; omega)]
  · rfl
  · intro i hi out ho
    unfold s_l02Unit_L0
    simp only [show (i : Int) < n by omega, if_true]
    rw [chk_bind (by omega), some_bind, Int.toNat_natCast, idxI (by simpa using hi), some_bind, chk_bind (by simp only [List.length_cons, List.length_nil]; omega), w_in (by omega) (by omega)]
    rfl
  · intro out ho
    unfold s_l02Unit_L0
    simp
theorem i_unit_eq {n : Nat} (hn : n ≤ 1048576) : i_unit (n : Int) = some (unitm n) := by
  unfold i_unit
  rw [map_loop _ n (fun i => (List.replicate n (0 : Int)).set i 1) (by rw [BIG_val]; omega)]
  · rfl
  · intro i hi out ho
    unfold i_unit_L0
    simp only [show (i : Int) < n by omega, if_true]
    rw [chk_bind (by omega), some_bind, Int.toNat_natCast, idxI (by simpa using hi), some_bind, chk_bind (by simp only [List.length_cons, List.length_nil]; omega), w_in (by omega) (by omega)]
    rfl
  · intro out ho
    unfold i_unit_L0
    simp

/-! ### Powers -/
theorem pow_two {p : Int} {n : Nat} {a : List (List Int)} {k : Int} (hp : 1 < p) (hp2 : p ≤ 13) (hn0 : 0 < n) (hn : n ≤ 16) (ha : Mat p n n a) (hk : 0 ≤ k) (hk2 : k ≤ 1000) :
    ∃ x, loop (s_PowerMatrix_L0 p) BIG (k, unitm n, a) = some x ∧ loop (i_PowerMatrix_L0 p) BIG (k, unitm n, a) = some x ∧ Mat p n n x := by
  refine loop_two (fun s => 0 ≤ s.1 ∧ s.1 ≤ 1000 ∧ Mat p n n s.2.1 ∧ Mat p n n s.2.2) (fun s => s.1.toNat) (Mat p n n) ⟨hk, hk2, unitm_mat hp n, ha⟩ (by rw [BIG_val]; simp only []; omega) ?_
  rintro ⟨k, x, y⟩ ⟨h1, h2, hx, hy⟩
  simp only [] at h1 h2 hx hy
  have exy1 := s_l02Times_eq (p := p) (r := n) (n := n) (c := n) (by omega) hp2 (by omega) hn0 (by omega) (by omega) hx hy
  have exy2 := i_field_times_eq (p := p) (r := n) (n := n) (c := n) (by omega) hp2 (by omega) hn0 (by omega) (by omega) hx hy
  have eyy1 := s_l02Times_eq (p := p) (r := n) (n := n) (c := n) (by omega) hp2 (by omega) hn0 (by omega) (by omega) hy hy
  have eyy2 := i_field_times_eq (p := p) (r := n) (n := n) (c := n) (by omega) hp2 (by omega) hn0 (by omega) (by omega) hy hy
  have mxy := timesm_mat (p := p) (by omega) n n n x y
  have myy := timesm_mat (p := p) (by omega) n n n y y
  unfold s_PowerMatrix_L0 i_PowerMatrix_L0
  simp only []
  by_cases hk0 : 0 < k
  · have hd : k.tdiv 2 = k / 2 := Int.tdiv_eq_ediv_of_nonneg (by omega)
    refine .inl ?_
    simp only [hk0, if_true, hd]
    by_cases ho : k.tmod 2 = 1
    · simp only [ho, if_true, exy1, exy2, eyy1, eyy2, some_bind]
      refine ⟨_, rfl, rfl, ?_, ?_⟩
      · rw [w_in (by omega) (by omega)]
        exact ⟨by simp only []; omega, by simp only []; omega, mxy, myy⟩
      · rw [w_in (by omega) (by omega)]; simp only []; omega
    · simp only [ho, if_false, eyy1, eyy2, some_bind]
      refine ⟨_, rfl, rfl, ?_, ?_⟩
      · rw [w_in (by omega) (by omega)]
        exact ⟨by simp only []; omega, by simp only []; omega, hx, myy⟩
      · rw [w_in (by omega) (by omega)]; simp only []; omega
  · refine .inr ?_
    simp only [hk0, if_false]
    exact ⟨_, rfl, rfl, hx⟩

theorem PowerMatrix_eq {p k : Int} {m : List (List Int)} (h : szM m) : ∃ V C, s_PowerMatrix p m k = some (V, C) ∧ i_PowerMatrix p m k = some (V, C) ∧ smallM V := by
  unfold s_PowerMatrix i_PowerMatrix
  rw [s_l02Square_eq h, i_checkSquare_eq h, some_bind, some_bind, s_l01In_eq, i_inRange_eq, some_bind]
  by_cases h0 : sqC p m = 0
  · obtain ⟨hm, hl⟩ := sqC_zero h0
    obtain ⟨h1, h2, h3, hP, h4, h5⟩ := isMat_sz hm
    have hp := isP_le hP
    rw [h0]
    simp only [if_true, not_true_eq_false, if_false, some_bind]
    by_cases hk : 0 ≤ k ∧ k ≤ 1000
    · simp only [hk.1, hk.2, decide_true, Bool.and_self, Bool.not_true, Bool.false_eq_true, Bool.true_eq_false, if_false, some_bind, not_true_eq_false]
      rw [s_l02Unit_eq h.1, i_unit_eq h.1, some_bind, some_bind, s_l01Own2_eq h, i_cloneRows_eq h, some_bind, some_bind]
      obtain ⟨x, e1, e2, hx⟩ := pow_two (p := p) (n := m.length) (a := m) (k := k) (by omega) (by omega) (by omega) (by omega) (hl ▸ h3) hk.1 hk.2
      rw [e1, e2]
      exact ⟨x, 0, rfl, rfl, smallM.of hx (by omega) (by omega)⟩
    · have hkd : (decide (0 ≤ k) && decide (k ≤ 1000)) = false := by
        simp only [Bool.and_eq_false_iff, decide_eq_false_iff_not]; omega
      rw [hkd]
      exact ⟨[], 2, by simp, by simp, smallM.nil⟩
  · simp only [h0, if_false, if_true, not_false_eq_true, some_bind, Bool.false_eq_true]
    exact ⟨[], sqC p m, rfl, rfl, smallM.nil⟩

theorem LawPower {p k : Int} {m : List (List Int)} (hm : lenM m) : l_FnExactPowerMatrix p m k = some true := by
  unfold l_FnExactPowerMatrix
  rw [szM_eq hm (by omega) (by omega), some_bind]
  by_cases h1 : ((m.length + rowsum m : Nat) : Int) ≤ 1048576
  · have hs : szv (m.length + rowsum m) 1048576 = 1048576 - ((m.length + rowsum m : Nat) : Int) := by unfold szv; rw [if_pos h1]
    rw [hs, if_neg (by omega)]
    obtain ⟨za, ra⟩ := sz_split (m := m) (by omega) h1
    obtain ⟨V, C, e3, e4, z1, z2, z3⟩ := PowerMatrix_eq (p := p) (k := k) za
    have e1 := toM_eq za.1 za.2
    have e5 := eqM_self ⟨z1, z2⟩
    have e6 := eqM_self za
    have e8 := markM_1 za.1 ra
    have e10 := markM_1 z1 z3
    have e11 := heldM_1 z1 z3
    simp only [e1, e3, e4, e5, e6, e8, e10, e11, some_bind, Bool.true_eq_false, Bool.false_eq_true, if_false, if_true, ieq_self, Bool.not_true, natneg, not_true_eq_false]
  · have hs : szv (m.length + rowsum m) 1048576 = -1 := by unfold szv; rw [if_neg h1]
    rw [hs, if_pos (by omega)]
end Go.Vam
