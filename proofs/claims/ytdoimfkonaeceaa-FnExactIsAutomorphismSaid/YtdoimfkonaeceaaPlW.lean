/- Plain laws: the bivector of a skew table. -/
import Derived.Test.YtdoimfkonaeceaaPlU
namespace Go.Vam
open Go Go.RowKit
set_option linter.unusedSimpArgs false
set_option linter.unusedVariables false
set_option linter.unusedSectionVars false

theorem shl_k : ∀ k : Nat, k < 8 → shl .i64 1 (k : Int) = ((2 ^ k : Nat) : Int) := by decide
theorem wrap_k : ∀ k : Nat, k < 8 → IntKind.u64.wrap (k : Int) = (k : Int) := by decide
theorem bor_k : ∀ i : Nat, i < 6 → ∀ j : Nat, j < 6 → i < j → bor .i64 (((2 ^ i : Nat)) : Int) (((2 ^ j : Nat)) : Int) = ((2 ^ i + 2 ^ j : Nat) : Int) := by decide
theorem pow_k : ∀ n : Nat, n < 7 → ∀ i : Nat, i < n → ∀ j : Nat, j < n → i < j → 2 ^ i + 2 ^ j < 2 ^ n := by decide
theorem pow_le : ∀ n : Nat, n < 8 → 2 ^ n ≤ 128 := by decide
theorem hasZ_ne {w : List Int} (h : hasZ w = false) {k : Nat} (hk : k < w.length) : gI w k ≠ 0 := by
  intro h0
  have : hasZ w = true := by
    unfold hasZ
    rw [List.any_eq_true]
    exact ⟨w[k], List.getElem_mem hk, by rw [gI_get hk, h0]; rfl⟩
  rw [h] at this; cases this

section
variable {p : Int} {w : List Int} {m : List (List Int)} (hP : isP p = true) (hn : w.length ≤ 6) (hw : Vec p w.length w) (hz : hasZ w = false) (hm : Mat p w.length w.length m)
include hP hn hw hz hm
theorem biv_inner {i : Nat} (hi : i < w.length) {x : List Int} (y : List Int) (hx : x.length = 2 ^ w.length) :
    ∃ z, loop (s_BivectorOfMatrix_L1 p w m (y, (i : Int))) BIG (x, ((i + 1 : Nat) : Int)) = some z ∧ loop (i_BivectorOfMatrix_L1 p w m (y, (i : Int))) BIG (x, ((i + 1 : Nat) : Int)) = some z ∧ z.length = 2 ^ w.length := by
  have hp := isP_le hP
  have e1 := hm.1
  have e2 := (hm.row hi).1
  refine loop_two (fun s => s.1.length = 2 ^ w.length ∧ ∃ j : Nat, s.2 = (j : Int) ∧ i < j ∧ j ≤ w.length) (fun s => w.length - s.2.toNat) _ ⟨hx, i + 1, rfl, by omega, by omega⟩ (by rw [BIG_val]; simp only []; omega) ?_
  rintro ⟨x, t⟩ ⟨hx, j, rfl, hij, hj⟩
  simp only [] at hx
  unfold s_BivectorOfMatrix_L1 i_BivectorOfMatrix_L1 i_Space_field
  by_cases hjn : j < w.length
  · refine .inl ?_
    have h1 := (hm.row hi).get hjn
    have h2 := hw.get hjn
    have h3 := hasZ_ne hz hjn
    obtain ⟨i1, i2, i3⟩ := inv_facts (a := gI w j) hP (by omega) h2.2
    have f1 := s_l01Inv_eq (a := gI w j) hP (by omega) h2.2
    have f2 := i_field_inv_eq (a := gI w j) hP (by omega) h2.2
    have q := mul_abs (a := gI (gR m i) j) (b := invp p (gI w j)) (A := 13) (B := 13) (by omega) (by omega)
    have q0 := Int.mul_nonneg (a := gI (gR m i) j) (b := invp p (gI w j)) (by omega) (by omega)
    have w1 : w64 (gI (gR m i) j * invp p (gI w j)) = gI (gR m i) j * invp p (gI w j) := w_in (by omega) (by omega)
    have w2 : (gI (gR m i) j * invp p (gI w j)).tmod p = gI (gR m i) j * invp p (gI w j) % p := tmod_nn q0
    have w3 := i_field_num_eq (p := p) (n := gI (gR m i) j * invp p (gI w j)) (by omega) (by omega) (by omega) (by omega)
    have w4 : w64 ((j : Int) + 1) = ((j + 1 : Nat) : Int) := by rw [w_in (by omega) (by omega)]; rfl
    have a1 := shl_k i (by omega)
    have a2 := shl_k j (by omega)
    have a3 := wrap_k i (by omega)
    have a4 := wrap_k j (by omega)
    have a5 := bor_k i (by omega) j (by omega) hij
    have a6 := pow_k w.length (by omega) i hi j hjn hij
    have a7 := pow_le w.length (by omega)
    have a80 : ∀ A B : Nat, A + B < 1000 → w64 ((A : Int) + (B : Int)) = ((A + B : Nat) : Int) := fun A B h => by rw [w_in (by omega) (by omega)]; rfl
    have a8 := a80 (2 ^ i) (2 ^ j) (Nat.lt_of_lt_of_le a6 (Nat.le_trans a7 (by decide)))
    simp only [show (j : Int) < (m.length : Int) by omega, if_true, a1, a2, a3, a4, a5, a8, chk_bind (show (0 : Int) ≤ (i : Int) by omega), chk_bind (show (0 : Int) ≤ (j : Int) by omega), idxR (show i < m.length by omega), idxI (show j < (gR m i).length by omega), idxI hjn, some_bind, f1, f2,
      chk_bind (show ¬ p = 0 by omega), w1, w2, w3, w4, idxI (show 2 ^ i + 2 ^ j < x.length by omega), Int.toNat_natCast]
    exact ⟨_, rfl, rfl, ⟨by simp only [List.length_set]; exact hx, j + 1, rfl, by omega, by omega⟩, by simp only [Int.toNat_natCast]; omega⟩
  · refine .inr ?_
    simp only [show ¬ (j : Int) < (m.length : Int) by omega, if_false]
    exact ⟨_, rfl, rfl, hx⟩
theorem biv_outer {x : List Int} (hx : x.length = 2 ^ w.length) :
    ∃ z, loop (s_BivectorOfMatrix_L0 p w m) BIG (x, 0) = some z ∧ loop (i_BivectorOfMatrix_L0 p w m) BIG (x, 0) = some z ∧ z.length = 2 ^ w.length := by
  have e1 := hm.1
  refine loop_two (fun s => s.1.length = 2 ^ w.length ∧ ∃ j : Nat, s.2 = (j : Int) ∧ j ≤ w.length) (fun s => w.length - s.2.toNat) _ ⟨hx, 0, rfl, by omega⟩ (by rw [BIG_val]; simp only []; omega) ?_
  rintro ⟨x, t⟩ ⟨hx, i, rfl, hi⟩
  simp only [] at hx
  unfold s_BivectorOfMatrix_L0 i_BivectorOfMatrix_L0
  by_cases hin : i < w.length
  · refine .inl ?_
    obtain ⟨z, z1, z2, z3⟩ := biv_inner hP hn hw hz hm hin x hx
    have w4 : w64 ((i : Int) + 1) = ((i + 1 : Nat) : Int) := by rw [w_in (by omega) (by omega)]; rfl
    simp only [show (i : Int) < (m.length : Int) by omega, if_true, w4, z1, z2, some_bind]
    exact ⟨_, rfl, rfl, ⟨z3, i + 1, rfl, by omega⟩, by simp only [Int.toNat_natCast]; omega⟩
  · refine .inr ?_
    simp only [show ¬ (i : Int) < (m.length : Int) by omega, if_false]
    exact ⟨_, rfl, rfl, hx⟩
end
theorem BivectorOfMatrix_eq {p : Int} {w : List Int} {m : List (List Int)} (hw : w.length ≤ 1048576) (h : szM m) : ∃ V C, s_BivectorOfMatrix p w m = some (V, C) ∧ i_BivectorOfMatrix p w m = some (V, C) ∧ V.length ≤ 128 := by
  unfold s_BivectorOfMatrix i_BivectorOfMatrix s_l04Zero s_l04Size i_Space_nothing i_Space_dim
  rw [s_l10Shape_eq hw h, i_checkFrame_eq hw h, some_bind, some_bind]
  by_cases h0 : shC p w m = 0
  · obtain ⟨a1, a2, a3⟩ := shC_zero h0
    obtain ⟨hP, g1, g2, g3⟩ := isSp_iff a1
    obtain ⟨b1, b2, b3⟩ := fr_iff a2
    simp only [h0, not_true_eq_false, if_false, if_true, s_l10Skew_eq hP hw g3 b3, i_Space_isSkew_eq hP hw g3 b3, some_bind]
    cases skA p w m with
    | false => exact ⟨[], 5, by simp, by simp, by simp⟩
    | true =>
      have c1 := shl_k w.length (by omega)
      have c2 := wrap_k w.length (by omega)
      have c3 := pow_le w.length (by omega)
      obtain ⟨z, z1, z2, z3⟩ := biv_outer hP g2 g3 a3 b3 (x := List.replicate (2 ^ w.length) 0) (by simp)
      simp only [Bool.not_true, Bool.false_eq_true, if_false, some_bind, not_true_eq_false, c1, c2, chk_bind (show (0 : Int) ≤ (w.length : Int) by omega), chk_bind (show (0 : Int) ≤ ((2 ^ w.length : Nat) : Int) ∧ ((2 ^ w.length : Nat) : Int) ≤ 1099511627776 by omega), Int.toNat_natCast, z1, z2, Bool.true_eq_false]
      exact ⟨_, _, rfl, rfl, by omega⟩
  · simp only [h0, not_false_eq_true, if_true, if_false, some_bind, Bool.false_eq_true]
    exact ⟨_, _, rfl, rfl, by simp⟩
theorem markSp_1 {p : Int} {w : List Int} (h : w.length ≤ 1048576) : l_markSpace p w 1 = some (((1 + w.length : Nat) : Int)) := by
  unfold l_markSpace; rw [markI_1 h, some_bind]
theorem LawBivectorOfMatrix {p : Int} {w : List Int} {m : List (List Int)} (hw : lenI w) (hm : lenM m) : l_FnExactBivectorOfMatrix p w m = some true := by
  unfold l_FnExactBivectorOfMatrix
  rw [szSp_eq hw (by omega) (by omega), some_bind]
  by_cases h1 : ((w.length : Nat) : Int) ≤ 1048576
  · have hs : szv w.length 1048576 = 1048576 - ((w.length : Nat) : Int) := by unfold szv; rw [if_pos h1]
    rw [hs, if_neg (by omega), szM_eq hm (by omega) (by omega), some_bind]
    by_cases h2 : ((m.length + rowsum m : Nat) : Int) ≤ 1048576 - ((w.length : Nat) : Int)
    · have hs2 : szv (m.length + rowsum m) (1048576 - ((w.length : Nat) : Int)) = 1048576 - ((w.length : Nat) : Int) - ((m.length + rowsum m : Nat) : Int) := by unfold szv; rw [if_pos h2]
      rw [hs2, if_neg (by omega)]
      obtain ⟨za, ra⟩ := sz_split (m := m) (by omega) h2
      have hw' : w.length ≤ 1048576 := by omega
      obtain ⟨V, C, e3, e4, hV⟩ := BivectorOfMatrix_eq (p := p) hw' za
      have e1 := toM_eq za.1 za.2
      have e2 := toSp_eq (p := p) hw'
      have e5 := eqSp_self (p := p) hw'
      have e6 := eqM_self za
      have e7 := eqI_self (v := V) (by omega)
      have e8 := markSp_1 (p := p) hw'
      have e9 : l_markInt64SS m ((1 + w.length : Nat) : Int) = some (((1 + w.length + rowsum m : Nat) : Int), mrkM (1 + w.length) m) := markM_eq (by have := za.1; omega) (by omega)
      have e10 := markI_1 (xs := V) (by omega)
      have e11 := heldI_1 (xs := V) (by omega)
      simp only [e1, e2, e3, e4, e5, e6, e7, e8, e9, e10, e11, some_bind, Bool.true_eq_false, Bool.false_eq_true, if_false, if_true, ieq_self, Bool.not_true, natneg, not_true_eq_false, bne_self_eq_false]
    · have hs2 : szv (m.length + rowsum m) (1048576 - ((w.length : Nat) : Int)) = -1 := by unfold szv; rw [if_neg h2]
      rw [hs2, if_pos (by omega)]
  · have hs : szv w.length 1048576 = -1 := by unfold szv; rw [if_neg h1]
    rw [hs, if_pos (by omega)]
end Go.Vam
