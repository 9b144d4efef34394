/- Plain laws: commutators, associators, inner derivations. -/
import Derived.Test.YtdoimfkonaeceaaPlY
namespace Go.Vam
open Go Go.RowKit
set_option linter.unusedSimpArgs false
set_option linter.unusedVariables false
set_option linter.unusedSectionVars false

theorem plusv_scalev2 {p : Int} {n : Nat} {a b : List Int} {k l : Int} : plusv p n a (scalev p n b k) l = plusv p n a b (k * l) := by
  unfold plusv
  refine vecN_congr fun i hi => ?_
  unfold scalev
  rw [gI_vecN _ hi, Int.add_emod, Int.mul_emod l, Int.emod_emod_of_dvd _ (Int.dvd_refl p), ← Int.mul_emod, ← Int.add_emod]
  congr 2
  rw [Int.mul_comm (gI b i), ← Int.mul_assoc, Int.mul_comm l]
theorem neg_one_mod {p : Int} : (p - 1) % p = (-1) % p := by
  have : p - 1 = -1 + p := by omega
  rw [this, Int.add_emod_right]
theorem s_l11Minus_eq {p : Int} {n : Nat} {a b : List Int} (hp : 3 ≤ p) (hp2 : p ≤ 13) (hn : n ≤ 1048576) (ha : Vec p n a) (hb : Vec p n b) : s_l11Minus p a b = some (plusv p n a b (-1)) := by
  unfold s_l11Minus
  rw [w_in (by omega) (by omega), s_l11Scale_eq hp hp2 hn (by omega) (by omega) hb, some_bind, s_l11Add_eq hp hp2 hn ha (scalev_vec (by omega) ..), some_bind, plusv_scalev, plusv_congr neg_one_mod]
section
variable {p : Int} {w a b c : List Int} (hP : isP p = true) (hl : w.length ≤ 4) (hw : Vec p w.length w) (ha : Vec p (2 ^ w.length) a) (hb : Vec p (2 ^ w.length) b) (hc : Vec p (2 ^ w.length) c)
def commv (p : Int) (w a b : List Int) : List Int := plusv p (2 ^ w.length) (mulp p w a b) (mulp p w b a) (-1)
def assov (p : Int) (w a b c : List Int) : List Int := plusv p (2 ^ w.length) (mulp p w (mulp p w a b) c) (mulp p w a (mulp p w b c)) (-1)
include hP hl hw ha hb
theorem commv_vec : Vec p (2 ^ w.length) (commv p w a b) := plusv_vec (by have := isP_le hP; omega) ..
theorem s_comm_eq : s_l12Commutator p w a b = some (commv p w a b) := by
  have hp := isP_le hP
  have h16 := two_le hl
  unfold s_l12Commutator
  rw [s_l11Times_eq hP hl hw ha hb, some_bind, s_l11Times_eq hP hl hw hb ha, some_bind, s_l11Minus_eq hp.1 hp.2 (by omega) (mulp_vec hP hl hw ha hb) (mulp_vec hP hl hw hb ha), some_bind]
  rfl
theorem i_comm_eq : i_Doubling_commutator p w a b = some (commv p w a b) := by
  have hp := isP_le hP
  have h16 := two_le hl
  unfold i_Doubling_commutator i_Doubling_field
  rw [some_bind, i_Doubling_times_eq hP hl hw ha hb, some_bind, i_Doubling_times_eq hP hl hw hb ha, some_bind, i_field_plus_eq (by omega) (by omega) (by omega) (by omega) (mulp_vec hP hl hw ha hb) (mulp_vec hP hl hw hb ha), some_bind]
  rfl
include hc
theorem assov_vec : Vec p (2 ^ w.length) (assov p w a b c) := plusv_vec (by have := isP_le hP; omega) ..
theorem s_asso_eq : s_l12Associator p w a b c = some (assov p w a b c) := by
  have hp := isP_le hP
  have h16 := two_le hl
  have m1 := mulp_vec hP hl hw ha hb
  have m2 := mulp_vec hP hl hw hb hc
  unfold s_l12Associator
  rw [s_l11Times_eq hP hl hw ha hb, some_bind, s_l11Times_eq hP hl hw m1 hc, some_bind, s_l11Times_eq hP hl hw hb hc, some_bind, s_l11Times_eq hP hl hw ha m2, some_bind, s_l11Minus_eq hp.1 hp.2 (by omega) (mulp_vec hP hl hw m1 hc) (mulp_vec hP hl hw ha m2), some_bind]
  rfl
theorem i_asso_eq : i_Doubling_associator p w a b c = some (assov p w a b c) := by
  have hp := isP_le hP
  have h16 := two_le hl
  have m1 := mulp_vec hP hl hw ha hb
  have m2 := mulp_vec hP hl hw hb hc
  unfold i_Doubling_associator i_Doubling_field
  rw [some_bind, i_Doubling_times_eq hP hl hw ha hb, some_bind, i_Doubling_times_eq hP hl hw m1 hc, some_bind, i_Doubling_times_eq hP hl hw hb hc, some_bind, i_Doubling_times_eq hP hl hw ha m2, some_bind, i_field_plus_eq (by omega) (by omega) (by omega) (by omega) (mulp_vec hP hl hw m1 hc) (mulp_vec hP hl hw ha m2), some_bind]
  rfl
end
/-- An axis. -/
def axis (n k : Nat) : List Int := (List.replicate n (0 : Int)).set k 1
theorem axis_vec {p : Int} (hp : 1 < p) {n k : Nat} (hk : k < n) : Vec p n (axis n k) := by
  have := (unitm_mat hp n).row hk
  unfold unitm at this
  rw [gR_vecN _ hk] at this
  exact this
theorem gR_unitm {n k : Nat} (hk : k < n) : gR (unitm n) k = axis n k := by unfold unitm; rw [gR_vecN _ hk]; rfl
theorem s_l11One_eq {p : Int} {w : List Int} (hl : w.length ≤ 4) {k : Nat} (hk : k < 2 ^ w.length) : s_l11One p w (k : Int) = some (axis (2 ^ w.length) k) := by
  have h16 := two_le hl
  unfold s_l11One axis
  rw [s_l11Size_eq hl, some_bind, chk_bind (by omega), some_bind, Int.toNat_natCast, idxI (by simpa using hk), some_bind, Int.toNat_natCast]
section
variable {p : Int} {n : Nat} {m : List (List Int)} (hn : n ≤ 1048576) (hm : Mat p n n m)
include hn hm
theorem s_l11Columns_eq : s_l11Columns m = some (turnm n n m) := by
  unfold s_l11Columns
  have e1 := hm.1
  rw [map_loop _ n (fun k => vecN n fun i => gI (gR m i) k) (by rw [BIG_val]; omega)]
  · rfl
  · intro k hk out ho
    unfold s_l11Columns_L0
    simp only [show (k : Int) < m.length by omega, if_true]
    rw [map_loop _ n (fun i => gI (gR m i) k) (by rw [BIG_val]; omega)]
    · rw [some_bind, chk_bind (by simp only [List.length_cons, List.length_nil]; omega), w_in (by omega) (by omega)]; rfl
    · intro i hi o2 ho2
      unfold s_l11Columns_L1
      have e3 := (hm.row hi).1
      simp only [show (i : Int) < m.length by omega, if_true, idxR (show i < m.length by omega), idxI (show k < (gR m i).length by omega), some_bind]
      rw [chk_bind (by simp only [List.length_cons, List.length_nil]; omega), w_in (by omega) (by omega)]; rfl
    · intro o2 ho2
      unfold s_l11Columns_L1
      simp [e1]
  · intro out ho
    unfold s_l11Columns_L0
    simp [e1]
end
section
variable {p : Int} {w a b : List Int} (hP : isP p = true) (hl : w.length ≤ 4) (hw : Vec p w.length w) (ha : Vec p (2 ^ w.length) a) (hb : Vec p (2 ^ w.length) b)
def innv (p : Int) (w a b x : List Int) : List Int := plusv p (2 ^ w.length) (commv p w (commv p w a b) x) (assov p w a b x) (-3)
def innm (p : Int) (w a b : List Int) : List (List Int) := vecN (2 ^ w.length) fun k => innv p w a b (axis (2 ^ w.length) k)
include hP hl hw ha hb
theorem innm_mat : Mat p (2 ^ w.length) (2 ^ w.length) (innm p w a b) := Mat.mk' fun k hk => plusv_vec (by have := isP_le hP; omega) ..
theorem s_l14Inner_eq : s_l14Inner p w a b = some (turnm (2 ^ w.length) (2 ^ w.length) (innm p w a b)) := by
  have hp := isP_le hP
  have h16 := two_le hl
  have hc := commv_vec hP hl hw ha hb
  unfold s_l14Inner
  rw [s_comm_eq hP hl hw ha hb, some_bind, map_loop _ (2 ^ w.length) (fun k => innv p w a b (axis (2 ^ w.length) k)) (by rw [BIG_val]; omega)]
  · rw [some_bind]
    have := s_l11Columns_eq (by omega) (innm_mat hP hl hw ha hb)
    unfold innm at this ⊢
    rw [this, some_bind]
  · intro k hk out ho
    unfold s_l14Inner_L0
    have hx := axis_vec (p := p) (by omega) hk
    have h1 := commv_vec hP hl hw hc hx
    have h2 := assov_vec hP hl hw ha hb hx
    simp only [s_l11Size_eq hl, some_bind, show ((k : Int) < ((2 ^ w.length : Nat) : Int)) = True from eq_true (Int.ofNat_lt.2 hk), if_true, s_l11One_eq hl hk, s_comm_eq hP hl hw hc hx, s_asso_eq hP hl hw ha hb hx]
    rw [s_l11Scale_eq hp.1 hp.2 (by omega) (by omega) (by omega) h2, some_bind, s_l11Minus_eq hp.1 hp.2 (by omega) h1 (scalev_vec (by omega) ..), some_bind, plusv_scalev2, chk_bind (by simp only [List.length_cons, List.length_nil]; omega), w_in (by omega) (by omega)]
    rfl
  · intro out ho
    unfold s_l14Inner_L0
    simp only [s_l11Size_eq hl, some_bind, show (((2 ^ w.length : Nat) : Int) < ((2 ^ w.length : Nat) : Int)) = False from eq_false (by omega), if_false]
theorem i_inner_eq : i_Doubling_matrixOf_of_i_InnerDerivation_c1 p w p w a b = some (turnm (2 ^ w.length) (2 ^ w.length) (innm p w a b)) := by
  have hp := isP_le hP
  have h16 := two_le hl
  have hpos := two_pos w.length
  have hc := commv_vec hP hl hw ha hb
  have e1 := (unitm_mat (p := p) (by omega) (2 ^ w.length)).1
  unfold i_Doubling_matrixOf_of_i_InnerDerivation_c1
  rw [i_Doubling_size_eq hl, some_bind, i_unit_eq (by omega), some_bind, map_loop _ (2 ^ w.length) (fun k => innv p w a b (axis (2 ^ w.length) k)) (by rw [BIG_val]; omega)]
  · have hm := innm_mat hP hl hw ha hb
    rw [some_bind]
    have := i_transpose_eq hpos (by omega) (by omega) hm
    unfold innm at this ⊢
    rw [this, some_bind]
  · intro k hk out ho
    unfold i_Doubling_matrixOf_of_i_InnerDerivation_c1_L0 i_InnerDerivation_c1 i_Doubling_field
    have hx := axis_vec (p := p) (by omega) hk
    have h1 := commv_vec hP hl hw hc hx
    have h2 := assov_vec hP hl hw ha hb hx
    simp only [e1, show ((k : Int) < ((2 ^ w.length : Nat) : Int)) = True from eq_true (Int.ofNat_lt.2 hk), if_true, idxR (show k < (unitm (2 ^ w.length)).length by omega), gR_unitm hk, some_bind, i_comm_eq hP hl hw ha hb, i_comm_eq hP hl hw hc hx, i_asso_eq hP hl hw ha hb hx]
    rw [i_field_plus_eq (by omega) (by omega) (by omega) (by omega) h1 h2, some_bind, some_bind, chk_bind (by simp only [List.length_cons, List.length_nil]; omega), w_in (by omega) (by omega)]
    rfl
  · intro out ho
    unfold i_Doubling_matrixOf_of_i_InnerDerivation_c1_L0
    simp only [e1, show (((2 ^ w.length : Nat) : Int) < ((2 ^ w.length : Nat) : Int)) = False from eq_false (by omega), if_false]
end
theorem InnerDerivation_eq {p : Int} {w a b : List Int} (hw : w.length ≤ 1048576) (ha : a.length ≤ 1048576) (hb : b.length ≤ 1048576) :
    ∃ V C, s_InnerDerivation p w a b = some (V, C) ∧ i_InnerDerivation p w a b = some (V, C) ∧ smallM V := by
  have hsv : szM [a, b] := ⟨by simp, fun x hx => by
    simp only [List.mem_cons, List.not_mem_nil, or_false] at hx
    rcases hx with rfl | rfl
    · exact ha
    · exact hb⟩
  unfold s_InnerDerivation i_InnerDerivation
  rw [s_l14Elements_eq hw hsv, i_checkThree_eq hw hsv (by simp) (by simp), some_bind, some_bind]
  by_cases h0 : thC p w [a, b] [] = 0
  · obtain ⟨a1, a2, a3, _⟩ := thC_zero h0
    obtain ⟨hP, hl, hw', _⟩ := isDb_iff a1
    have h16 := two_le hl
    have hA := a3 a (by simp)
    have hB := a3 b (by simp)
    simp only [h0, not_true_eq_false, if_false, s_l14Inner_eq hP hl hw' hA hB, i_inner_eq hP hl hw' hA hB, some_bind]
    exact ⟨_, _, rfl, rfl, smallM.of (turnm_mat (innm_mat hP hl hw' hA hB)) (by omega) (by omega)⟩
  · simp only [h0, not_false_eq_true, if_true]
    exact ⟨_, _, rfl, rfl, smallM.nil⟩
theorem LawInnerDerivation {p : Int} {w a b : List Int} (hw : lenI w) (ha : lenI a) (hb : lenI b) : l_FnExactInnerDerivation p w a b = some true := by
  unfold l_FnExactInnerDerivation
  by_cases g1 : 1048576 < (a.length : Int)
  · rw [if_pos g1]
  by_cases g2 : 1048576 < (b.length : Int)
  · rw [if_neg g1, if_pos g2]
  rw [if_neg g1, if_neg g2, szDb_eq hw (by omega) (by omega), some_bind]
  by_cases h1 : ((w.length : Nat) : Int) ≤ 1048576
  · have hs : szv w.length 1048576 = 1048576 - ((w.length : Nat) : Int) := by unfold szv; rw [if_pos h1]
    rw [hs, if_neg (by omega)]
    have hw' : w.length ≤ 1048576 := by omega
    have ha' : a.length ≤ 1048576 := by omega
    have hb' : b.length ≤ 1048576 := by omega
    obtain ⟨V, C, e3, e4, z1, z2, z3⟩ := InnerDerivation_eq (p := p) hw' ha' hb'
    have e1 := toI_eq ha'
    have e0 := toI_eq hb'
    have e2 := toDb_eq (p := p) hw'
    have e5 := eqDb_self (p := p) hw'
    have e6 := eqI_self ha'
    have e6b := eqI_self hb'
    have e7 := eqM_self ⟨z1, z2⟩
    have e8 := markDb_1 (p := p) hw'
    have e9 : l_markInt64S a ((1 + w.length : Nat) : Int) = some (((1 + w.length + a.length : Nat) : Int), mrkI (1 + w.length) a) := markI_eq (by omega)
    have e9b : l_markInt64S b ((1 + w.length + a.length : Nat) : Int) = some (((1 + w.length + a.length + b.length : Nat) : Int), mrkI (1 + w.length + a.length) b) := markI_eq (by omega)
    have e10 := markM_1 z1 z3
    have e11 := heldM_1 z1 z3
    simp only [e0, e1, e2, e3, e4, e5, e6, e6b, e7, e8, e9, e9b, e10, e11, some_bind, Bool.true_eq_false, Bool.false_eq_true, if_false, if_true, ieq_self, Bool.not_true, natneg, not_true_eq_false, bne_self_eq_false]
  · have hs : szv w.length 1048576 = -1 := by unfold szv; rw [if_neg h1]
    rw [hs, if_pos (by omega)]
end Go.Vam
