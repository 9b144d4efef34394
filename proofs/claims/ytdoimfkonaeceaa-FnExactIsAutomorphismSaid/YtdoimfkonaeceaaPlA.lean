/- Plain laws: the signed basis of a doubling. -/
import Derived.Test.YtdoimfkonaeceaaPlZ
namespace Go.Vam
open Go Go.RowKit
set_option linter.unusedSimpArgs false
set_option linter.unusedVariables false
set_option linter.unusedSectionVars false

theorem bxor_k : ∀ i : Nat, i < 16 → ∀ j : Nat, j < 16 → bxor .i64 (i : Int) (j : Int) = ((i ^^^ j : Nat) : Int) := by decide
theorem xor_lt {n i j : Nat} (hi : i < 2 ^ n) (hj : j < 2 ^ n) : i ^^^ j < 2 ^ n := Nat.xor_lt_two_pow hi hj
theorem lt_cast {a b : Nat} (h : a < b) : ((a : Int) < (b : Int)) = True := eq_true (Int.ofNat_lt.2 h)
theorem lt_cast_self (a : Nat) : ((a : Int) < (a : Int)) = False := eq_false (by omega)
section
variable {p : Int} {w : List Int} (hP : isP p = true) (hl : w.length ≤ 4) (hw : Vec p w.length w)
/-- The product of two axes. -/
def axm (p : Int) (w : List Int) (i j : Nat) : List Int := mulp p w (axis (2 ^ w.length) i) (axis (2 ^ w.length) j)
def prodm (p : Int) (w : List Int) : List (List Int) := vecN (2 ^ w.length) fun i => vecN (2 ^ w.length) fun j => gI (axm p w i j) (i ^^^ j)
include hP hl hw
theorem axm_vec {i j : Nat} (hi : i < 2 ^ w.length) (hj : j < 2 ^ w.length) : Vec p (2 ^ w.length) (axm p w i j) :=
  mulp_vec hP hl hw (axis_vec (by have := isP_le hP; omega) hi) (axis_vec (by have := isP_le hP; omega) hj)
theorem prodm_mat : Mat p (2 ^ w.length) (2 ^ w.length) (prodm p w) := Mat.mk' fun i hi => Vec.mk' fun j hj => (axm_vec hP hl hw hi hj).get (xor_lt hi hj)
theorem s_l11Basis_eq : s_l11Basis p w = some (prodm p w) := by
  have hp := isP_le hP
  have h16 := two_le hl
  unfold s_l11Basis
  rw [map_loop _ (2 ^ w.length) (fun i => vecN (2 ^ w.length) fun j => gI (axm p w i j) (i ^^^ j)) (by rw [BIG_val]; omega)]
  · rfl
  · intro i hi out ho
    unfold s_l11Basis_L0
    simp only [s_l11Size_eq hl, some_bind, lt_cast hi, if_true]
    rw [map_loop _ (2 ^ w.length) (fun j => gI (axm p w i j) (i ^^^ j)) (by rw [BIG_val]; omega)]
    · rw [some_bind, chk_bind (by simp only [List.length_cons, List.length_nil]; omega), w_in (by omega) (by omega)]; rfl
    · intro j hj o2 ho2
      unfold s_l11Basis_L1
      have hi' := axis_vec (p := p) (by omega) hi
      have hj' := axis_vec (p := p) (by omega) hj
      have hx := xor_lt hi hj
      have e1 := (axm_vec hP hl hw hi hj).1
      simp only [s_l11Size_eq hl, some_bind, lt_cast hj, if_true, s_l11One_eq hl hi, s_l11One_eq hl hj, s_l11Times_eq hP hl hw hi' hj', bxor_k i (by omega) j (by omega)]
      rw [show mulp p w (axis (2 ^ w.length) i) (axis (2 ^ w.length) j) = axm p w i j from rfl, idxI (by omega), some_bind, chk_bind (by simp only [List.length_cons, List.length_nil]; omega), w_in (by omega) (by omega)]
      rfl
    · intro o2 ho2
      unfold s_l11Basis_L1
      simp only [s_l11Size_eq hl, some_bind, lt_cast_self, if_false]
  · intro out ho
    unfold s_l11Basis_L0
    simp only [s_l11Size_eq hl, some_bind, lt_cast_self, if_false]
theorem i_Doubling_products_eq : i_Doubling_products p w = some (prodm p w) := by
  have hp := isP_le hP
  have h16 := two_le hl
  have e0 := (unitm_mat (p := p) (by omega) (2 ^ w.length)).1
  unfold i_Doubling_products
  rw [i_Doubling_size_eq hl, some_bind, i_unit_eq (by omega), some_bind, map_loop _ (2 ^ w.length) (fun i => vecN (2 ^ w.length) fun j => gI (axm p w i j) (i ^^^ j)) (by rw [BIG_val]; omega)]
  · rfl
  · intro i hi out ho
    unfold i_Doubling_products_L0
    simp only [e0, lt_cast hi, if_true, idxR (show i < (unitm (2 ^ w.length)).length by omega), gR_unitm hi, some_bind, i_Doubling_size_eq hl, i_unit_eq (show 2 ^ w.length ≤ 1048576 by omega)]
    rw [map_loop _ (2 ^ w.length) (fun j => gI (axm p w i j) (i ^^^ j)) (by rw [BIG_val]; omega)]
    · rw [some_bind, chk_bind (by simp only [List.length_cons, List.length_nil]; omega), w_in (by omega) (by omega)]; rfl
    · intro j hj o2 ho2
      unfold i_Doubling_products_L1
      have hi' := axis_vec (p := p) (by omega) hi
      have hj' := axis_vec (p := p) (by omega) hj
      have hx := xor_lt hi hj
      have e1 := (axm_vec hP hl hw hi hj).1
      simp only [e0, lt_cast hj, if_true, idxR (show j < (unitm (2 ^ w.length)).length by omega), gR_unitm hj, some_bind, i_Doubling_times_eq hP hl hw hi' hj', bxor_k i (by omega) j (by omega)]
      rw [show mulp p w (axis (2 ^ w.length) i) (axis (2 ^ w.length) j) = axm p w i j from rfl, idxI (by omega), some_bind, chk_bind (by simp only [List.length_cons, List.length_nil]; omega), w_in (by omega) (by omega)]
      rfl
    · intro o2 ho2
      unfold i_Doubling_products_L1
      simp only [e0, lt_cast_self, if_false]
  · intro out ho
    unfold i_Doubling_products_L0
    simp only [e0, lt_cast_self, if_false]
end

def sgE (T : List (List Int)) (i j : Nat) : Int :=
  w64 (w64 (2 * bxor .i64 ((i / 2 : Nat) : Int) ((j / 2 : Nat) : Int)) + (if ¬ gI (gR T (i / 2)) (j / 2) = 1 then w64 (1 - (w64 ((i : Int) + (j : Int))).tmod 2) else (w64 ((i : Int) + (j : Int))).tmod 2))
def sgm (T : List (List Int)) (n : Nat) : List (List Int) := vecN (2 * n) fun i => vecN (2 * n) fun j => sgE T i j
section
variable {p : Int} {w : List Int} {T : List (List Int)} (hl : w.length ≤ 4) (hT : Mat p (2 ^ w.length) (2 ^ w.length) T)
include hl hT
theorem half_facts {i : Nat} (hi : i < 2 * 2 ^ w.length) : w64 ((i : Int).tdiv 2) = ((i / 2 : Nat) : Int) ∧ i / 2 < 2 ^ w.length := by
  have h16 := two_le hl
  rw [Int.tdiv_eq_ediv_of_nonneg (by omega), w_in (by omega) (by omega)]
  constructor <;> omega
theorem w2_size : w64 (2 * ((2 ^ w.length : Nat) : Int)) = ((2 * 2 ^ w.length : Nat) : Int) := by
  have h16 := two_le hl
  generalize 2 ^ w.length = n at h16
  rw [w_in (by omega) (by omega)]; omega
theorem s_signed : loop (s_SignedBasis_L1 p w T) BIG ([], 0) = some (sgm T (2 ^ w.length)) := by
  have h16 := two_le hl
  have e0 := hT.1
  refine map_loop _ (2 * 2 ^ w.length) (fun i => vecN (2 * 2 ^ w.length) fun j => sgE T i j) (by rw [BIG_val]; omega) ?_ ?_
  · intro i hi out ho
    unfold s_SignedBasis_L1
    simp only [s_l11Size_eq hl, some_bind, w2_size hl hT, lt_cast hi, if_true]
    rw [map_loop _ (2 * 2 ^ w.length) (fun j => sgE T i j) (by rw [BIG_val]; omega)]
    · rw [some_bind, chk_bind (by simp only [List.length_cons, List.length_nil]; omega), w_in (by omega) (by omega)]; rfl
    · intro j hj o2 ho2
      unfold s_SignedBasis_L2
      obtain ⟨h1, h2⟩ := half_facts hl hT hi
      obtain ⟨h3, h4⟩ := half_facts hl hT hj
      have e3 := (hT.row h2).1
      simp only [s_l11Size_eq hl, some_bind, w2_size hl hT, lt_cast hj, if_true, h1, h3, idxR (show i / 2 < T.length by omega), idxI (show j / 2 < (gR T (i / 2)).length by omega)]
      have hx : ((if ¬ gI (gR T (i / 2)) (j / 2) = 1 then some (w64 (1 - (w64 ((i : Int) + (j : Int))).tmod 2)) else some ((w64 ((i : Int) + (j : Int))).tmod 2)) : Option Int) = some (if ¬ gI (gR T (i / 2)) (j / 2) = 1 then w64 (1 - (w64 ((i : Int) + (j : Int))).tmod 2) else (w64 ((i : Int) + (j : Int))).tmod 2) := by split <;> rfl
      rw [hx, some_bind, chk_bind (by simp only [List.length_cons, List.length_nil]; omega), w_in (x := (j : Int) + 1) (by omega) (by omega)]
      rfl
    · intro o2 ho2
      unfold s_SignedBasis_L2
      simp only [s_l11Size_eq hl, some_bind, w2_size hl hT, lt_cast_self, if_false]
  · intro out ho
    unfold s_SignedBasis_L1
    simp only [s_l11Size_eq hl, some_bind, w2_size hl hT, lt_cast_self, if_false]
theorem i_signed : loop (i_SignedBasis_L0 p w T ((2 ^ w.length : Nat) : Int)) BIG ([], 0) = some (sgm T (2 ^ w.length)) := by
  have h16 := two_le hl
  have e0 := hT.1
  refine map_loop _ (2 * 2 ^ w.length) (fun i => vecN (2 * 2 ^ w.length) fun j => sgE T i j) (by rw [BIG_val]; omega) ?_ ?_
  · intro i hi out ho
    unfold i_SignedBasis_L0
    simp only [i_Doubling_size_eq hl, some_bind, w2_size hl hT, lt_cast hi, if_true]
    rw [map_loop _ (2 * 2 ^ w.length) (fun j => sgE T i j) (by rw [BIG_val]; omega)]
    · rw [some_bind, chk_bind (by simp only [List.length_cons, List.length_nil]; omega), w_in (by omega) (by omega)]; rfl
    · intro j hj o2 ho2
      unfold i_SignedBasis_L1
      obtain ⟨h1, h2⟩ := half_facts hl hT hi
      obtain ⟨h3, h4⟩ := half_facts hl hT hj
      have e3 := (hT.row h2).1
      simp only [some_bind, w2_size hl hT, lt_cast hj, if_true, h1, h3, idxR (show i / 2 < T.length by omega), idxI (show j / 2 < (gR T (i / 2)).length by omega)]
      have hx : ((if ¬ gI (gR T (i / 2)) (j / 2) = 1 then some (w64 (1 - (w64 ((i : Int) + (j : Int))).tmod 2)) else some ((w64 ((i : Int) + (j : Int))).tmod 2)) : Option Int) = some (if ¬ gI (gR T (i / 2)) (j / 2) = 1 then w64 (1 - (w64 ((i : Int) + (j : Int))).tmod 2) else (w64 ((i : Int) + (j : Int))).tmod 2) := by split <;> rfl
      rw [hx, some_bind, chk_bind (by simp only [List.length_cons, List.length_nil]; omega), w_in (x := (j : Int) + 1) (by omega) (by omega)]
      rfl
    · intro o2 ho2
      unfold i_SignedBasis_L1
      simp only [some_bind, w2_size hl hT, lt_cast_self, if_false]
  · intro out ho
    unfold i_SignedBasis_L0
    simp only [some_bind, w2_size hl hT, lt_cast_self, if_false]
end
theorem sgm_small {T : List (List Int)} {n : Nat} (hn : n ≤ 16) : smallM (sgm T n) := by
  refine ⟨by simp [sgm]; omega, fun r hr => ?_, ?_⟩
  · obtain ⟨k, _, rfl⟩ := mem_vecN.1 hr
    simp; omega
  · unfold sgm
    rw [rowsum_vecN (2 * n) (2 * n) _ (fun i _ => by simp)]
    exact Nat.le_trans (Nat.mul_le_mul (show 2 * n ≤ 32 by omega) (show 2 * n ≤ 32 by omega)) (by decide)
def noSign (p x : Int) : Bool := !(decide (x = 1)) && !(ieq x (p - 1))
theorem SignedBasis_eq {p : Int} {w : List Int} (hw : w.length ≤ 1048576) : ∃ V C, s_SignedBasis p w = some (V, C) ∧ i_SignedBasis p w = some (V, C) ∧ smallM V := by
  unfold s_SignedBasis i_SignedBasis
  rw [s_l11Is_eq hw, i_IsDoubling_eq hw, some_bind, some_bind]
  cases hd : isDb p w with
  | false => exact ⟨[], 1, by simp, by simp, smallM.nil⟩
  | true =>
    obtain ⟨hP, hl, hv, _⟩ := isDb_iff hd
    have hp := isP_le hP
    have w1 : w64 (p - 1) = p - 1 := w_in (by omega) (by omega)
    have hT := prodm_mat hP hl hv
    have h16 := two_le hl
    have c1 : g_slices_ContainsFunc_LI_I_of_i_SignedBasis_c1 w p w = some (w.any (noSign p)) := by
      unfold g_slices_ContainsFunc_LI_I_of_i_SignedBasis_c1 g_slices_IndexFunc_LI_I_of_i_SignedBasis_c1
      refine contains_loop w 0 (noSign p) hw _ (fun k hk => ?_) ?_
      · unfold g_slices_IndexFunc_LI_I_of_i_SignedBasis_c1_L0 i_SignedBasis_c1 noSign
        rw [if_pos (by omega), idxI hk, some_bind, w1, w_in (x := (k : Int) + 1) (by omega) (by omega)]
        show _ = if (!(decide (gI w k = 1)) && !(ieq (gI w k) (p - 1))) = true then _ else _
        by_cases h : gI w k = 1
        · simp [h]
        · simp [h]
      · unfold g_slices_IndexFunc_LI_I_of_i_SignedBasis_c1_L0
        simp
    obtain ⟨b, b1, b2⟩ := any_loop (s_SignedBasis_L0 p w) w.length (fun k => noSign p (gI w k)) (fun _ => (([] : List (List Int)), (5 : Int))) (by rw [BIG_val]; omega)
      (fun k hk hf => by
        unfold s_SignedBasis_L0
        unfold noSign at hf
        rw [if_pos (by omega), idxI hk, some_bind, w1, w_in (x := (k : Int) + 1) (by omega) (by omega)]
        by_cases h : gI w k = 1
        · simp [h]
        · simp [h] at hf ⊢
          simp [hf]) (fun k hk hf => by
        unfold s_SignedBasis_L0
        unfold noSign at hf
        rw [if_pos (by omega), idxI hk, some_bind, w1]
        by_cases h : gI w k = 1
        · simp [h] at hf
        · simp [h] at hf ⊢
          simp [hf]) (by
        unfold s_SignedBasis_L0
        simp)
    have e : w.any (noSign p) = (List.range w.length).any fun k => noSign p (gI w k) := (any_range w (noSign p) 0).symm
    simp only [Bool.true_eq_false, if_false, c1, some_bind, b1]
    rcases b2 with ⟨rfl, h3⟩ | ⟨k, hk, rfl, hf, h3, _⟩
    · rw [e, h3]
      have s1 := s_signed hl hT
      have s2 := i_signed hl hT
      simp only [Bool.false_eq_true, if_false, s_l11Basis_eq hP hl hv, i_Doubling_products_eq hP hl hv, i_Doubling_size_eq hl, some_bind, s1, s2]
      exact ⟨_, _, rfl, rfl, sgm_small h16⟩
    · rw [e, h3]
      exact ⟨[], 5, by simp, by simp, smallM.nil⟩
theorem LawSignedBasis {p : Int} {w : List Int} (hw : lenI w) : l_FnExactSignedBasis p w = some true := by
  unfold l_FnExactSignedBasis
  rw [szDb_eq hw (by omega) (by omega), some_bind]
  by_cases h1 : ((w.length : Nat) : Int) ≤ 1048576
  · have hs : szv w.length 1048576 = 1048576 - ((w.length : Nat) : Int) := by unfold szv; rw [if_pos h1]
    rw [hs, if_neg (by omega)]
    have hw' : w.length ≤ 1048576 := by omega
    obtain ⟨V, C, e3, e4, z1, z2, z3⟩ := SignedBasis_eq (p := p) hw'
    have e2 := toDb_eq (p := p) hw'
    have e5 := eqDb_self (p := p) hw'
    have e7 := eqM_self ⟨z1, z2⟩
    have e8 := markDb_1 (p := p) hw'
    have e10 := markM_1 z1 z3
    have e11 := heldM_1 z1 z3
    simp only [e2, e3, e4, e5, e7, e8, e10, e11, some_bind, Bool.true_eq_false, Bool.false_eq_true, if_false, if_true, ieq_self, Bool.not_true, natneg, not_true_eq_false, bne_self_eq_false]
  · have hs : szv w.length 1048576 = -1 := by unfold szv; rw [if_neg h1]
    rw [hs, if_pos (by omega)]
end Go.Vam
