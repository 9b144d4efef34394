/- Plain laws: spaces: frames, skew tables, isometries. -/
import Derived.Test.YtdoimfkonaeceaaPlS
namespace Go.Vam
open Go Go.RowKit
set_option linter.unusedSimpArgs false
set_option linter.unusedVariables false
set_option linter.unusedSectionVars false

/-! ### Helpers of the laws -/
theorem szSp_eq {p : Int} {w : List Int} {left : Int} (hl : lenI w) (h0 : 0 ≤ left) (h1 : left ≤ 1048576) : l_szSpace p w left = some (szv w.length left) := by
  unfold l_szSpace
  rw [szI_eq hl h0 h1, some_bind]
  unfold szv
  split
  · rw [if_neg (by omega)]
  · rw [if_pos (by omega)]
theorem toSp_eq {p : Int} {w : List Int} (h : w.length ≤ 1048576) : l_toSpace p w = some (p, w) := by
  unfold l_toSpace; rw [toI_eq h, some_bind]
theorem eqSp_self {p : Int} {w : List Int} (h : w.length ≤ 1048576) : l_eqSpace p w p w = some true := by
  unfold l_eqSpace; rw [if_neg (by simp), eqI_self h, some_bind, if_neg (by simp)]

/-! ### Spaces -/
def isSp (p : Int) (w : List Int) : Bool := isP p && (decide (1 ≤ (w.length : Int)) && decide ((w.length : Int) ≤ 6)) && nums p w
def hasZ (w : List Int) : Bool := w.any fun x => decide ((0 : Int) = x)
theorem isSp_iff {p : Int} {w : List Int} (h : isSp p w = true) : isP p = true ∧ 1 ≤ w.length ∧ w.length ≤ 6 ∧ Vec p w.length w := by
  simp only [isSp, Bool.and_eq_true, decide_eq_true_eq] at h
  exact ⟨h.1.1, by omega, by omega, Vec.of h.2⟩
theorem s_l03Is_eq {p : Int} {w : List Int} (hw : w.length ≤ 1048576) : s_l03Is p w = some (isSp p w) := by
  unfold s_l03Is isSp
  rw [s_l01Prime_eq, some_bind]
  cases hP : isP p with
  | false => simp
  | true =>
    have hp := isP_le hP
    simp only [if_true, s_l01In_eq, some_bind, Bool.true_and]
    cases (decide (1 ≤ (w.length : Int)) && decide ((w.length : Int) ≤ 6)) with
    | false => simp
    | true => simp only [if_true, Bool.true_and, s_l01Numbers_eq (show 0 ≤ p by omega) (show p ≤ 1048576 by omega) hw, some_bind]
theorem i_IsSpace_eq {p : Int} {w : List Int} (hw : w.length ≤ 1048576) : i_IsSpace p w = some (isSp p w) := by
  unfold i_IsSpace isSp i_length_I i_Space_field
  rw [i_IsPrime_eq, some_bind]
  cases hP : isP p with
  | false => simp
  | true =>
    have hp := isP_le hP
    simp only [if_true, i_inRange_eq, some_bind, Bool.true_and]
    cases (decide (1 ≤ (w.length : Int)) && decide ((w.length : Int) ≤ 6)) with
    | false => simp
    | true => simp only [if_true, Bool.true_and, i_field_is_eq (show 0 ≤ p by omega) (show p ≤ 1048576 by omega) hw, some_bind]
theorem contains_eq {xs : List Int} {a : Int} (h : xs.length ≤ 1048576) : g_slices_Contains_LI_I xs a = some (xs.any fun x => decide (a = x)) := by
  unfold g_slices_Contains_LI_I g_slices_Index_LI_I
  obtain ⟨b, h1, h2⟩ := any_loop (g_slices_Index_LI_I_L0 xs a) xs.length (fun k => decide (a = gI xs k)) (fun k => (k : Int)) (by rw [BIG_val]; omega)
    (fun k hk hf => by
      unfold g_slices_Index_LI_I_L0
      have : ¬ a = gI xs k := by simpa using hf
      simp only [show (k : Int) < (xs.length : Int) by omega, if_true, idxI hk, some_bind, this, if_false]
      rw [w_in (by omega) (by omega)]; rfl) (fun k hk hf => by
      unfold g_slices_Index_LI_I_L0
      have : a = gI xs k := by simpa using hf
      simp only [show (k : Int) < (xs.length : Int) by omega, if_true, idxI hk, some_bind, ← this]) (by
      unfold g_slices_Index_LI_I_L0
      simp)
  have e : (xs.any fun x => decide (a = x)) = (List.range xs.length).any fun k => decide (a = gI xs k) := (any_range xs (fun x => decide (a = x)) 0).symm
  rw [e, h1]
  rcases h2 with ⟨rfl, h3⟩ | ⟨k, hk, rfl, hf, h3, _⟩
  · rw [h3]; simp [ile]
  · rw [h3]; simp [ile]
theorem i_Space_regular_eq {p : Int} {w : List Int} (h : w.length ≤ 1048576) : i_Space_regular p w = some (!hasZ w) := by
  unfold i_Space_regular hasZ
  rw [contains_eq h, some_bind]
theorem mul_zero_mod {p a b : Int} (hP : isP p = true) (ha : 0 ≤ a ∧ a < p) (hb : 0 ≤ b ∧ b < p) : a * b % p = 0 ↔ a = 0 ∨ b = 0 := by
  constructor
  · intro h
    have key : ∀ P, P = 3 ∨ P = 5 ∨ P = 7 ∨ P = 11 ∨ P = 13 → ∀ A, A < P → ∀ B, B < P → (A * B) % P = 0 → A = 0 ∨ B = 0 := by
      intro P hP
      rcases hP with rfl | rfl | rfl | rfl | rfl <;> decide
    have hp := isP_cases hP
    have e1 : a = (a.toNat : Int) := by omega
    have e2 : b = (b.toNat : Int) := by omega
    have e3 : p = (p.toNat : Int) := by omega
    have := key p.toNat (by omega) a.toNat (by omega) b.toNat (by omega) (by
      rw [e1, e2, e3, ← Int.natCast_mul, ← Int.natCast_emod] at h
      exact_mod_cast h)
    omega
  · rintro (rfl | rfl) <;> simp
theorem s_l03Disc_eq {p : Int} {w : List Int} (hP : isP p = true) (hw : Vec p w.length w) (h : w.length ≤ 1048576) : ∃ d, s_l03Disc p w = some d ∧ (d = 0 ↔ hasZ w = true) := by
  have hp := isP_le hP
  unfold s_l03Disc
  obtain ⟨h1, h2⟩ := fold_loop (s_l03Disc_L0 p w) w.length (fun k s => (s * gI w k) % p) 1 (fun k s => 0 ≤ s ∧ s < p ∧ (s = 0 ↔ ∃ j, j < k ∧ gI w j = 0)) id (by rw [BIG_val]; omega)
    ⟨by omega, by omega, fun h => by omega, fun ⟨j, hj, _⟩ => by omega⟩
    (fun k s hk hs => by
      have := mod_num (a := s * gI w k) (p := p) (by omega)
      refine ⟨this.1, this.2, ?_⟩
      rw [mul_zero_mod hP ⟨hs.1, hs.2.1⟩ (hw.get hk), hs.2.2]
      constructor
      · rintro (⟨j, hj, hz⟩ | hz)
        · exact ⟨j, by omega, hz⟩
        · exact ⟨k, by omega, hz⟩
      · rintro ⟨j, hj, hz⟩
        rcases Nat.lt_succ_iff_lt_or_eq.1 hj with h | rfl
        · exact .inl ⟨j, h, hz⟩
        · exact .inr hz)
    (fun k s hk hs => by
      unfold s_l03Disc_L0
      have h1 := hw.get hk
      have h3 := mul_abs (a := s) (b := gI w k) (A := 13) (B := 13) (by omega) (by omega)
      have h4 := Int.mul_nonneg hs.1 h1.1
      simp only [show (k : Int) < w.length by omega, if_true, idxI hk, some_bind]
      rw [chk_bind (by omega), w_in (x := s * gI w k) (by omega) (by omega), w_in (by omega) (by omega), tmod_nn (by omega)]
      rfl) (fun s hs => by
      unfold s_l03Disc_L0
      simp)
  rw [h1, some_bind]
  refine ⟨_, rfl, ?_⟩
  simp only [id]
  rw [h2.2.2]
  unfold hasZ
  rw [List.any_eq_true]
  constructor
  · rintro ⟨j, hj, hz⟩
    exact ⟨w[j], List.getElem_mem hj, by rw [gI_get hj, hz]; rfl⟩
  · rintro ⟨x, hx, hz⟩
    obtain ⟨j, hj, rfl⟩ := List.getElem_of_mem hx
    refine ⟨j, hj, ?_⟩
    rw [gI_get hj] at hz
    exact (of_decide_eq_true hz).symm

/-! ### Frames -/
def fr (p : Int) (w : List Int) (m : List (List Int)) : Bool := isMat p m && (decide (m.length = w.length) && decide (wid m = w.length))
theorem fr_iff {p : Int} {w : List Int} {m : List (List Int)} (h : fr p w m = true) : isMat p m = true ∧ m.length = w.length ∧ Mat p w.length w.length m := by
  simp only [fr, Bool.and_eq_true, decide_eq_true_eq] at h
  obtain ⟨h1, h2, h3, hP, h4, h5⟩ := isMat_sz h.1
  refine ⟨h.1, h.2.1, ?_⟩
  rw [h.2.1, h.2.2] at h3
  exact h3
def shC (p : Int) (w : List Int) (m : List (List Int)) : Int := if isSp p w then (if fr p w m then (if hasZ w then 5 else 0) else 2) else 1
theorem shC_zero {p : Int} {w : List Int} {m : List (List Int)} (h : shC p w m = 0) : isSp p w = true ∧ fr p w m = true ∧ hasZ w = false := by
  unfold shC at h
  split at h
  · split at h
    · split at h
      · omega
      · exact ⟨by assumption, by assumption, by simpa using ‹¬ hasZ w = true›⟩
    · omega
  · omega
theorem s_l10Shape_eq {p : Int} {w : List Int} {m : List (List Int)} (hw : w.length ≤ 1048576) (h : szM m) : s_l10Shape p w m = some (shC p w m) := by
  unfold s_l10Shape shC fr
  rw [s_l03Is_eq hw, some_bind]
  cases hs : isSp p w with
  | false => simp
  | true =>
    obtain ⟨hP, g1, g2, g3⟩ := isSp_iff hs
    obtain ⟨d, d1, d2⟩ := s_l03Disc_eq hP g3 hw
    simp only [Bool.true_eq_false, if_false, if_true, s_l02Is_eq h, some_bind]
    cases hm : isMat p m with
    | false => simp
    | true =>
      obtain ⟨h1, h2, h3, _, h4, h5⟩ := isMat_sz hm
      have hwd : (gR m 0).length = wid m := rfl
      simp only [Bool.true_eq_false, if_false, Bool.true_and]
      by_cases hl : m.length = w.length
      · simp only [hl, not_true_eq_false, if_false, idxR0 (show 0 < m.length by omega), some_bind, hwd, decide_true, Bool.true_and]
        by_cases hl2 : wid m = w.length
        · have : ieq ((w.length : Nat) : Int) (w.length : Int) = true := ieq_self _
          simp only [hl2, this, Bool.not_true, Bool.false_eq_true, if_false, decide_true, if_true, d1, some_bind]
          cases hz : hasZ w with
          | false =>
            have : ¬ d = 0 := fun e => by rw [d2.1 e] at hz; cases hz
            simp [this]
          | true => simp [d2.2 hz]
        · have : ieq ((wid m : Nat) : Int) (w.length : Int) = false := by simp [ieq]; omega
          simp [hl2, this]
      · simp only [show ((m.length : Int) = (w.length : Int)) = False from eq_false (by omega), not_false_eq_true, if_true, some_bind]
        simp [hl]
theorem i_Space_isFrame_eq {p : Int} {w : List Int} {m : List (List Int)} (hP : isP p = true) (h : szM m) : i_Space_isFrame p w m = some (fr p w m) := by
  unfold i_Space_isFrame fr i_Space_field i_Space_dim
  simp only [some_bind, i_field_isMatrix_eq hP h]
  cases hm : isMat p m with
  | false => simp
  | true =>
    obtain ⟨h1, h2, h3, _, h4, h5⟩ := isMat_sz hm
    have hwd : (gR m 0).length = wid m := rfl
    simp only [if_true, Bool.true_and]
    by_cases hl : m.length = w.length
    · simp only [hl, if_true, idxR0 (show 0 < m.length by omega), some_bind, hwd, decide_true, Bool.true_and]
      simp [ieq]
    · simp only [show ((m.length : Int) = (w.length : Int)) = False from eq_false (by omega), if_false, some_bind]
      simp [hl]
theorem i_checkFrame_eq {p : Int} {w : List Int} {m : List (List Int)} (hw : w.length ≤ 1048576) (h : szM m) : i_checkFrame p w m = some (shC p w m) := by
  unfold i_checkFrame shC
  rw [i_IsSpace_eq hw, some_bind]
  cases hs : isSp p w with
  | false => simp
  | true =>
    obtain ⟨hP, g1, g2, g3⟩ := isSp_iff hs
    simp only [Bool.true_eq_false, if_false, if_true, i_Space_isFrame_eq hP h, i_Space_regular_eq hw, some_bind]
    cases fr p w m <;> cases hasZ w <;> simp

/-! ### Skew tables -/
def skB (p : Int) (w : List Int) (m : List (List Int)) (i j : Nat) : Bool := decide ((gI (gR m j) i * gI w j + gI (gR m i) j * gI w i) % p = 0)
def skA (p : Int) (w : List Int) (m : List (List Int)) : Bool := (List.range w.length).all fun i => (List.range w.length).all (skB p w m i)
section
variable {p : Int} {w : List Int} {m : List (List Int)} (hP : isP p = true) (hn : w.length ≤ 1048576) (hw : Vec p w.length w) (hm : Mat p w.length w.length m)
include hP hn hw hm
theorem sk_bounds {i j : Nat} (hi : i < w.length) (hj : j < w.length) : (gI (gR m j) i * gI w j).natAbs ≤ 169 ∧ 0 ≤ gI (gR m j) i * gI w j := by
  have hp := isP_le hP
  have h1 := (hm.row hj).get hi
  have h2 := hw.get hj
  exact ⟨mul_abs (A := 13) (B := 13) (by omega) (by omega), Int.mul_nonneg h1.1 h2.1⟩
theorem s_l10Skew_eq : s_l10Skew p w m = some (skA p w m) := by
  have hp := isP_le hP
  have e1 := hm.1
  have inner : ∀ i, i < w.length → loop (s_l10Skew_L1 p w m (i : Int)) BIG 0 = some (if (List.range w.length).all (skB p w m i) then .inl () else .inr (.inr (.inr false))) := by
    intro i hi
    have e3 := (hm.row hi).1
    have core : ∀ j, j < w.length → s_l10Skew_L1 p w m (i : Int) (j : Int) = if ¬ (gI (gR m j) i * gI w j + gI (gR m i) j * gI w i) % p = 0 then some (.inr (.inr (.inr (.inr false)))) else some (.inl ((j + 1 : Nat) : Int)) := by
      intro j hj
      have e2 := (hm.row hj).1
      obtain ⟨b1, b2⟩ := sk_bounds hP hn hw hm hi hj
      obtain ⟨b3, b4⟩ := sk_bounds hP hn hw hm hj hi
      unfold s_l10Skew_L1
      simp only [show (j : Int) < (m.length : Int) by omega, if_true, idxR (show j < m.length by omega), idxR (show i < m.length by omega), idxI (show i < (gR m j).length by omega), idxI (show j < (gR m i).length by omega), idxI hi, idxI hj, some_bind]
      rw [chk_bind (by omega), w_in (x := gI (gR m j) i * gI w j) (by omega) (by omega), w_in (x := gI (gR m i) j * gI w i) (by omega) (by omega), w_in (x := gI (gR m j) i * gI w j + gI (gR m i) j * gI w i) (by omega) (by omega), w_in (x := (j : Int) + 1) (by omega) (by omega), tmod_nn (by omega)]
      rfl
    refine all_loop _ w.length (skB p w m i) _ (by rw [BIG_val]; omega) ?_ ?_ ?_
    · intro j hj hf
      have := of_decide_eq_true hf
      rw [core j hj, if_neg (by simp [this])]
    · intro j hj hf
      have := of_decide_eq_false hf
      rw [core j hj, if_pos this]
    · unfold s_l10Skew_L1
      simp [e1]
  unfold s_l10Skew
  rw [all_loop _ w.length (fun i => (List.range w.length).all (skB p w m i)) false (by rw [BIG_val]; omega)]
  · rw [some_bind]
    unfold skA
    cases (List.range w.length).all fun i => (List.range w.length).all (skB p w m i) <;> rfl
  · intro i hi hf
    unfold s_l10Skew_L0
    rw [if_pos (by omega), inner i hi, hf, w_in (by omega) (by omega)]; rfl
  · intro i hi hf
    unfold s_l10Skew_L0
    rw [if_pos (by omega), inner i hi, hf]; rfl
  · unfold s_l10Skew_L0
    simp [e1]
theorem i_Space_isSkew_eq : i_Space_isSkew p w m = some (skA p w m) := by
  have hp := isP_le hP
  have e1 := hm.1
  have inner : ∀ i, i < w.length → loop (i_Space_isSkew_L1 p w m (i : Int)) BIG 0 = some (if (List.range w.length).all (skB p w m i) then .inl () else .inr (.inr (.inr false))) := by
    intro i hi
    have e3 := (hm.row hi).1
    have core : ∀ j, j < w.length → i_Space_isSkew_L1 p w m (i : Int) (j : Int) = if ¬ (gI (gR m j) i * gI w j + gI (gR m i) j * gI w i) % p = 0 then some (.inr (.inr (.inr (.inr false)))) else some (.inl ((j + 1 : Nat) : Int)) := by
      intro j hj
      have e2 := (hm.row hj).1
      obtain ⟨b1, b2⟩ := sk_bounds hP hn hw hm hi hj
      obtain ⟨b3, b4⟩ := sk_bounds hP hn hw hm hj hi
      unfold i_Space_isSkew_L1 i_Space_field
      simp only [show (j : Int) < (m.length : Int) by omega, if_true, idxR (show j < m.length by omega), idxR (show i < m.length by omega), idxI (show i < (gR m j).length by omega), idxI (show j < (gR m i).length by omega), idxI hi, idxI hj, some_bind]
      rw [Int.mul_comm (gI w j), Int.mul_comm (gI w i), w_in (x := gI (gR m j) i * gI w j) (by omega) (by omega), w_in (x := gI (gR m i) j * gI w i) (by omega) (by omega), w_in (x := gI (gR m j) i * gI w j + gI (gR m i) j * gI w i) (by omega) (by omega), i_field_num_eq (by omega) (by omega) (by omega) (by omega), some_bind, w_in (x := (j : Int) + 1) (by omega) (by omega)]
      rfl
    refine all_loop _ w.length (skB p w m i) _ (by rw [BIG_val]; omega) ?_ ?_ ?_
    · intro j hj hf
      have := of_decide_eq_true hf
      rw [core j hj, if_neg (by simp [this])]
    · intro j hj hf
      have := of_decide_eq_false hf
      rw [core j hj, if_pos this]
    · unfold i_Space_isSkew_L1
      simp [e1]
  unfold i_Space_isSkew
  rw [all_loop _ w.length (fun i => (List.range w.length).all (skB p w m i)) false (by rw [BIG_val]; omega)]
  · rw [some_bind]
    unfold skA
    cases (List.range w.length).all fun i => (List.range w.length).all (skB p w m i) <;> rfl
  · intro i hi hf
    unfold i_Space_isSkew_L0
    rw [if_pos (by omega), inner i hi, hf, w_in (by omega) (by omega)]; rfl
  · intro i hi hf
    unfold i_Space_isSkew_L0
    rw [if_pos (by omega), inner i hi, hf]; rfl
  · unfold i_Space_isSkew_L0
    simp [e1]
end
theorem IsSkewMatrix_eq {p : Int} {w : List Int} {m : List (List Int)} (hw : w.length ≤ 1048576) (h : szM m) : ∃ V C, s_IsSkewMatrix p w m = some (V, C) ∧ i_IsSkewMatrix p w m = some (V, C) := by
  unfold s_IsSkewMatrix i_IsSkewMatrix
  rw [s_l10Shape_eq hw h, i_checkFrame_eq hw h, some_bind, some_bind]
  by_cases h0 : shC p w m = 0
  · obtain ⟨a1, a2, a3⟩ := shC_zero h0
    obtain ⟨hP, g1, g2, g3⟩ := isSp_iff a1
    obtain ⟨b1, b2, b3⟩ := fr_iff a2
    simp only [h0, not_true_eq_false, if_false, s_l10Skew_eq hP hw g3 b3, i_Space_isSkew_eq hP hw g3 b3, some_bind]
    exact ⟨_, _, rfl, rfl⟩
  · simp only [h0, not_false_eq_true, if_true]
    exact ⟨_, _, rfl, rfl⟩
theorem LawIsSkewMatrix {p : Int} {w : List Int} {m : List (List Int)} (hw : lenI w) (hm : lenM m) : l_FnExactIsSkewMatrix p w m = some true := by
  unfold l_FnExactIsSkewMatrix
  rw [szSp_eq hw (by omega) (by omega), some_bind]
  by_cases h1 : ((w.length : Nat) : Int) ≤ 1048576
  · have hs : szv w.length 1048576 = 1048576 - ((w.length : Nat) : Int) := by unfold szv; rw [if_pos h1]
    rw [hs, if_neg (by omega), szM_eq hm (by omega) (by omega), some_bind]
    by_cases h2 : ((m.length + rowsum m : Nat) : Int) ≤ 1048576 - ((w.length : Nat) : Int)
    · have hs2 : szv (m.length + rowsum m) (1048576 - ((w.length : Nat) : Int)) = 1048576 - ((w.length : Nat) : Int) - ((m.length + rowsum m : Nat) : Int) := by unfold szv; rw [if_pos h2]
      rw [hs2, if_neg (by omega)]
      obtain ⟨za, ra⟩ := sz_split (m := m) (by omega) h2
      have hw' : w.length ≤ 1048576 := by omega
      obtain ⟨V, C, e3, e4⟩ := IsSkewMatrix_eq (p := p) hw' za
      have e1 := toM_eq za.1 za.2
      have e2 := toSp_eq (p := p) hw'
      have e5 := eqSp_self (p := p) hw'
      have e6 := eqM_self za
      simp only [e1, e2, e3, e4, e5, e6, some_bind, Bool.true_eq_false, Bool.false_eq_true, if_false, if_true, ieq_self, Bool.not_true, natneg, not_true_eq_false, bne_self_eq_false]
    · have hs2 : szv (m.length + rowsum m) (1048576 - ((w.length : Nat) : Int)) = -1 := by unfold szv; rw [if_neg h2]
      rw [hs2, if_pos (by omega)]
  · have hs : szv w.length 1048576 = -1 := by unfold szv; rw [if_neg h1]
    rw [hs, if_pos (by omega)]
end Go.Vam
