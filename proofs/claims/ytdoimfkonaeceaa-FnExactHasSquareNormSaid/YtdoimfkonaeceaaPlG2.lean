import Derived.Test.YtdoimfkonaeceaaPlG1
/- Plain laws: commutators, associators, inner derivations. -/
namespace Go.Vam
open Go Go.RowKit
set_option linter.unusedSimpArgs false
set_option linter.unusedVariables false
set_option linter.unusedSectionVars false

theorem plusv_scalev2 {p : Int} {n : Nat} {a b : List Int} {k l : Int} : plusv p n a (scalev p n b k) l = plusv p n a b (k * l) := by
  unfold plusv
  refine vecN_congr fun i hi => ?_
  unfold scalev
  rw [gI_vecN _ hi, Int.add_emod, Int.mul_emod l, Int.emod_emod_of_dvd _ (Int.dvd_refl p), ← Int.mul_emod, ← Int.add_emod]
  congr 2
  rw [Int.mul_comm (gI b i), ← Int.mul_assoc, Int.mul_comm l]
theorem neg_one_mod {p : Int} : (p - 1) % p = (-1) % p := by
  have : p - 1 = -1 + p := by omega
  rw [this, Int.add_emod_right]
theorem s_l11Minus_eq {p : Int} {n : Nat} {a b : List Int} (hp : 3 ≤ p) (hp2 : p ≤ 13) (hn : n ≤ 1048576) (ha : Vec p n a) (hb : Vec p n b) : s_l11Minus p a b = some (plusv p n a b (-1)) := by
  unfold s_l11Minus
  rw [w_in (by omega) (by omega), s_l11Scale_eq hp hp2 hn (by omega) (by omega) hb, some_bind, s_l11Add_eq hp hp2 hn ha (scalev_vec (by omega) ..), some_bind, plusv_scalev, plusv_congr neg_one_mod]
section
variable {p : Int} {w a b c : List Int} (hP : isP p = true) (hl : w.length ≤ 4) (hw : Vec p w.length w) (ha : Vec p (2 ^ w.length) a) (hb : Vec p (2 ^ w.length) b) (hc : Vec p (2 ^ w.length) c)
def commv (p : Int) (w a b : List Int) : List Int := plusv p (2 ^ w.length) (mulp p w a b) (mulp p w b a) (-1)
def assov (p : Int) (w a b c : List Int) : List Int := plusv p (2 ^ w.length) (mulp p w (mulp p w a b) c) (mulp p w a (mulp p w b c)) (-1)
include hP hl hw ha hb
theorem commv_vec : Vec p (2 ^ w.length) (commv p w a b) := plusv_vec (by have := isP_le hP; omega) ..
theorem s_comm_eq : s_l12Commutator p w a b = some (commv p w a b) := by
  have hp := isP_le hP
  have h16 := two_le hl
  unfold s_l12Commutator
  rw [s_l11Times_eq hP hl hw ha hb, some_bind, s_l11Times_eq hP hl hw hb ha, some_bind, s_l11Minus_eq hp.1 hp.2 (by omega) (mulp_vec hP hl hw ha hb) (mulp_vec hP hl hw hb ha), some_bind]
  rfl
theorem i_comm_eq : i_Doubling_commutator p w a b = some (commv p w a b) := by
  have hp := isP_le hP
  have h16 := two_le hl
  unfold i_Doubling_commutator i_Doubling_field
  rw [some_bind, i_Doubling_times_eq hP hl hw ha hb, some_bind, i_Doubling_times_eq hP hl hw hb ha, some_bind, i_field_plus_eq (by omega) (by omega) (by omega) (by omega) (mulp_vec hP hl hw ha hb) (mulp_vec hP hl hw hb ha), some_bind]
  rfl
include hc
theorem assov_vec : Vec p (2 ^ w.length) (assov p w a b c) := plusv_vec (by have := isP_le hP; omega) ..
theorem s_asso_eq : s_l12Associator p w a b c = some (assov p w a b c) := by
  have hp := isP_le hP
  have h16 := two_le hl
  have m1 := mulp_vec hP hl hw ha hb
  have m2 := mulp_vec hP hl hw hb hc
  unfold s_l12Associator
  rw [s_l11Times_eq hP hl hw ha hb, some_bind, s_l11Times_eq hP hl hw m1 hc, some_bind, s_l11Times_eq hP hl hw hb hc, some_bind, s_l11Times_eq hP hl hw ha m2, some_bind, s_l11Minus_eq hp.1 hp.2 (by omega) (mulp_vec hP hl hw m1 hc) (mulp_vec hP hl hw ha m2), some_bind]
  rfl
theorem i_asso_eq : i_Doubling_associator p w a b c = some (assov p w a b c) := by
  have hp := isP_le hP
  have h16 := two_le hl
  have m1 := mulp_vec hP hl hw ha hb
  have m2 := mulp_vec hP hl hw hb hc
  unfold i_Doubling_associator i_Doubling_field
  rw [some_bind, i_Doubling_times_eq hP hl hw ha hb, some_bind, i_Doubling_times_eq hP hl hw m1 hc, some_bind, i_Doubling_times_eq hP hl hw hb hc, some_bind, i_Doubling_times_eq hP hl hw ha m2, some_bind, i_field_plus_eq (by omega) (by omega) (by omega) (by omega) (mulp_vec hP hl hw m1 hc) (mulp_vec hP hl hw ha m2), some_bind]
  rfl
end
/-- An axis. -/
def axis (n k : Nat) : List Int := (List.replicate n (0 : Int)).set k 1
theorem axis_vec {p : Int} (hp : 1 < p) {n k : Nat} (hk : k < n) : Vec p n (axis n k) := by
  have := (unitm_mat hp n).row hk
  unfold unitm at this
  rw [gR_vecN _ hk] at this
  exact this
theorem gR_unitm {n k : Nat} (hk : k < n) : gR (unitm n) k = axis n k := by unfold unitm; rw [gR_vecN _ hk]; rfl
theorem s_l11One_eq {p : Int} {w : List Int} (hl : w.length ≤ 4) {k : Nat} (hk : k < 2 ^ w.length) : s_l11One p w (k : Int) = some (axis (2 ^ w.length) k) := by
  have h16 := two_le hl
  unfold s_l11One axis
  rw [s_l11Size_eq hl, some_bind, chk_bind (by omega), some_bind, Int.toNat_natCast, idxI (by simpa using hk), some_bind, Int.toNat_natCast]
section
variable {p : Int} {n : Nat} {m : List (List Int)} (hn : n ≤ 1048576) (hm : Mat p n n m)
include hn hm
theorem s_l11Columns_eq : s_l11Columns m = some (turnm n n m) := by
  unfold s_l11Columns
  have e1 := hm.1
  rw [map_loop _ n (fun k => vecN n fun i => gI (gR m i) k) (by rw [BIG_val]; omega)]
  · rfl
  · intro k hk out ho
    unfold s_l11Columns_L0
    simp only [show (k : Int) < m.length by omega, if_true]
    rw [map_loop _ n (fun i => gI (gR m i) k) (by rw [BIG_val]; omega)]
    · rw [some_bind, chk_bind (by simp only [List.length_cons, List.length_nil]; omega), w_in (by omega) (by omega)]; rfl
    · intro i hi o2 ho2
      unfold s_l11Columns_L1
      have e3 := (hm.row hi).1
      simp only [show (i : Int) < m.length by omega, if_true, idxR (show i < m.length by omega), idxI (show k < (gR m i).length by omega), some_bind]
      rw [chk_bind (by simp only [List.length_cons, List.length_nil]; omega), w_in (by omega) (by omega)]; rfl
    · intro o2 ho2
      unfold s_l11Columns_L1
      simp [e1]
  · intro out ho
    unfold s_l11Columns_L0
    simp [e1]
end
section
variable {p : Int} {w a b : List Int} (hP : isP p = true) (hl : w.length ≤ 4) (hw : Vec p w.length w) (ha : Vec p (2 ^ w.length) a) (hb : Vec p (2 ^ w.length) b)
def innv (p : Int) (w a b x : List Int) : List Int := plusv p (2 ^ w.length) (commv p w (commv p w a b) x) (assov p w a b x) (-3)
def innm (p : Int) (w a b : List Int) : List (List Int) := vecN (2 ^ w.length) fun k => innv p w a b (axis (2 ^ w.length) k)
include hP hl hw ha hb
theorem innm_mat : Mat p (2 ^ w.length) (2 ^ w.length) (innm p w a b) := Mat.mk' fun k hk => plusv_vec (by have := isP_le hP; omega) ..
theorem s_l14Inner_eq : s_l14Inner p w a b = some (turnm (2 ^ w.length) (2 ^ w.length) (innm p w a b)) := by
  have hp := isP_le hP
  have h16 := two_le hl
  have hc := commv_vec hP hl hw ha hb
  unfold s_l14Inner
  rw [s_comm_eq hP hl hw ha hb, some_bind, map_loop _ (2 ^ w.length) (fun k => innv p w a b (axis (2 ^ w.length) k)) (by rw [BIG_val]; omega)]
  · rw [some_bind]
    have := s_l11Columns_eq (by omega) (innm_mat hP hl hw ha hb)
    unfold innm at this ⊢
    rw [this, some_bind]
  · intro k hk out ho
    unfold s_l14Inner_L0
    have hx := axis_vec (p := p) (by omega) hk
    have h1 := commv_vec hP hl hw hc hx
    have h2 := assov_vec hP hl hw ha hb hx
    simp only [s_l11Size_eq hl, some_bind, show ((k : Int) < ((2 ^ w.length : Nat) : Int)) = True from eq_true (Int.ofNat_lt.2 hk), if_true, s_l11One_eq hl hk, s_comm_eq hP hl hw hc hx, s_asso_eq hP hl hw ha hb hx]
    rw [s_l11Scale_eq hp.1 hp.2 (by omega) (by omega) (by omega) h2, some_bind, s_l11Minus_eq hp.1 hp.2 (by omega) h1 (scalev_vec (by omega) ..), some_bind, plusv_scalev2, chk_bind (by simp only [List.length_cons, List.length_nil]; omega), w_in (by omega) (by omega)]
    rfl
  · intro out ho
    unfold s_l14Inner_L0
    simp only [s_l11Size_eq hl, some_bind, show (((2 ^ w.length : Nat) : Int) < ((2 ^ w.length : Nat) : Int)) = False from eq_false (by omega), if_false]
theorem i_inner_eq : i_Doubling_matrixOf_of_i_InnerDerivation_c1 p w p w a b = some (turnm (2 ^ w.length) (2 ^ w.length) (innm p w a b)) := by
  have hp := isP_le hP
  have h16 := two_le hl
  have hpos := two_pos w.length
  have hc := commv_vec hP hl hw ha hb
  have e1 := (unitm_mat (p := p) (by omega) (2 ^ w.length)).1
  unfold i_Doubling_matrixOf_of_i_InnerDerivation_c1
  rw [i_Doubling_size_eq hl, some_bind, i_unit_eq (by omega), some_bind, map_loop _ (2 ^ w.length) (fun k => innv p w a b (axis (2 ^ w.length) k)) (by rw [BIG_val]; omega)]
  · have hm := innm_mat hP hl hw ha hb
    rw [some_bind]
    have := i_transpose_eq hpos (by omega) (by omega) hm
    unfold innm at this ⊢
    rw [this, some_bind]
  · intro k hk out ho
    unfold i_Doubling_matrixOf_of_i_InnerDerivation_c1_L0 i_InnerDerivation_c1 i_Doubling_field
    have hx := axis_vec (p := p) (by omega) hk
    have h1 := commv_vec hP hl hw hc hx
    have h2 := assov_vec hP hl hw ha hb hx
    simp only [e1, show ((k : Int) < ((2 ^ w.length : Nat) : Int)) = True from eq_true (Int.ofNat_lt.2 hk), if_true, idxR (show k < (unitm (2 ^ w.length)).length by omega), gR_unitm hk, some_bind, i_comm_eq hP hl hw ha hb, i_comm_eq hP hl hw hc hx, i_asso_eq hP hl hw ha hb hx]
    rw [i_field_plus_eq (by omega) (by omega) (by omega) (by omega) h1 h2, some_bind, some_bind, chk_bind (by simp only [List.length_cons, List.length_nil]; omega), w_in (by omega) (by omega)]
    rfl
  · intro out ho
    unfold i_Doubling_matrixOf_of_i_InnerDerivation_c1_L0
    simp only [e1, show (((2 ^ w.length : Nat) : Int) < ((2 ^ w.length : Nat) : Int)) = False from eq_false (by omega), if_false]
end
theorem InnerDerivation_eq {p : Int} {w a b : List Int} (hw : w.length ≤ 1048576) (ha : a.length ≤ 1048576) (hb : b.length ≤ 1048576) :
    ∃ V C, s_InnerDerivation p w a b = some (V, C) ∧ i_InnerDerivation p w a b = some (V, C) ∧ smallM V := by
  have hsv : szM [a, b] := ⟨by simp, fun x hx => by
    simp only [List.mem_cons, List.not_mem_nil, or_false] at hx
    rcases hx with rfl | rfl
    · exact ha
    · exact hb⟩
  unfold s_InnerDerivation i_InnerDerivation
  rw [s_l14Elements_eq hw hsv, i_checkThree_eq hw hsv (by simp) (by simp), some_bind, some_bind]
  by_cases h0 : thC p w [a, b] [] = 0
  · obtain ⟨a1, a2, a3, _⟩ := thC_zero h0
    obtain ⟨hP, hl, hw', _⟩ := isDb_iff a1
    have h16 := two_le hl
    have hA := a3 a (by simp)
    have hB := a3 b (by simp)
    simp only [h0, not_true_eq_false, if_false, s_l14Inner_eq hP hl hw' hA hB, i_inner_eq hP hl hw' hA hB, some_bind]
    exact ⟨_, _, rfl, rfl, smallM.of (turnm_mat (innm_mat hP hl hw' hA hB)) (by omega) (by omega)⟩
  · simp only [h0, not_false_eq_true, if_true]
    exact ⟨_, _, rfl, rfl, smallM.nil⟩
theorem LawInnerDerivation {p : Int} {w a b : List Int} (hw : lenI w) (ha : lenI a) (hb : lenI b) : l_FnExactInnerDerivation p w a b = some true := by
  unfold l_FnExactInnerDerivation
  by_cases g1 : 1048576 < (a.length : Int)
  · rw [if_pos g1]
  by_cases g2 : 1048576 < (b.length : Int)
  · rw [if_neg g1, if_pos g2]
  rw [if_neg g1, if_neg g2, szDb_eq hw (by omega) (by omega), some_bind]
  by_cases h1 : ((w.length : Nat) : Int) ≤ 1048576
  · have hs : szv w.length 1048576 = 1048576 - ((w.length : Nat) : Int) := by unfold szv; rw [if_pos h1]
    rw [hs, if_neg (by omega)]
    have hw' : w.length ≤ 1048576 := by omega
    have ha' : a.length ≤ 1048576 := by omega
    have hb' : b.length ≤ 1048576 := by omega
    obtain ⟨V, C, e3, e4, z1, z2, z3⟩ := InnerDerivation_eq (p := p) hw' ha' hb'
    have e1 := toI_eq ha'
    have e0 := toI_eq hb'
    have e2 := toDb_eq (p := p) hw'
    have e5 := eqDb_self (p := p) hw'
    have e6 := eqI_self ha'
    have e6b := eqI_self hb'
    have e7 := eqM_self ⟨z1, z2⟩
    have e8 := markDb_1 (p := p) hw'
    have e9 : l_markInt64S a ((1 + w.length : Nat) : Int) = some (((1 + w.length + a.length : Nat) : Int), mrkI (1 + w.length) a) := markI_eq (by omega)
    have e9b : l_markInt64S b ((1 + w.length + a.length : Nat) : Int) = some (((1 + w.length + a.length + b.length : Nat) : Int), mrkI (1 + w.length + a.length) b) := markI_eq (by omega)
    have e10 := markM_1 z1 z3
    have e11 := heldM_1 z1 z3
    simp only [e0, e1, e2, e3, e4, e5, e6, e6b, e7, e8, e9, e9b, e10, e11, some_bind, Bool.true_eq_false, Bool.false_eq_true, if_false, if_true, ieq_self, Bool.not_true, natneg, not_true_eq_false, bne_self_eq_false]
  · have hs : szv w.length 1048576 = -1 := by unfold szv; rw [if_neg h1]
    rw [hs, if_pos (by omega)]
end Go.Vam

/- Plain laws: the signed basis of a doubling. -/
namespace Go.Vam
open Go Go.RowKit
set_option linter.unusedSimpArgs false
set_option linter.unusedVariables false
set_option linter.unusedSectionVars false

theorem bxor_k : ∀ i : Nat, i < 16 → ∀ j : Nat, j < 16 → bxor .i64 (i : Int) (j : Int) = ((i ^^^ j : Nat) : Int) := by decide
theorem xor_lt {n i j : Nat} (hi : i < 2 ^ n) (hj : j < 2 ^ n) : i ^^^ j < 2 ^ n := Nat.xor_lt_two_pow hi hj
theorem lt_cast {a b : Nat} (h : a < b) : ((a : Int) < (b : Int)) = True := eq_true (Int.ofNat_lt.2 h)
theorem lt_cast_self (a : Nat) : ((a : Int) < (a : Int)) = False := eq_false (by omega)
section
variable {p : Int} {w : List Int} (hP : isP p = true) (hl : w.length ≤ 4) (hw : Vec p w.length w)
/-- The product of two axes. -/
def axm (p : Int) (w : List Int) (i j : Nat) : List Int := mulp p w (axis (2 ^ w.length) i) (axis (2 ^ w.length) j)
def prodm (p : Int) (w : List Int) : List (List Int) := vecN (2 ^ w.length) fun i => vecN (2 ^ w.length) fun j => gI (axm p w i j) (i ^^^ j)
include hP hl hw
theorem axm_vec {i j : Nat} (hi : i < 2 ^ w.length) (hj : j < 2 ^ w.length) : Vec p (2 ^ w.length) (axm p w i j) :=
  mulp_vec hP hl hw (axis_vec (by have := isP_le hP; omega) hi) (axis_vec (by have := isP_le hP; omega) hj)
theorem prodm_mat : Mat p (2 ^ w.length) (2 ^ w.length) (prodm p w) := Mat.mk' fun i hi => Vec.mk' fun j hj => (axm_vec hP hl hw hi hj).get (xor_lt hi hj)
theorem s_l11Basis_eq : s_l11Basis p w = some (prodm p w) := by
  have hp := isP_le hP
  have h16 := two_le hl
  unfold s_l11Basis
  rw [map_loop _ (2 ^ w.length) (fun i => vecN (2 ^ w.length) fun j => gI (axm p w i j) (i ^^^ j)) (by rw [BIG_val]; omega)]
  · rfl
  · intro i hi out ho
    unfold s_l11Basis_L0
    simp only [s_l11Size_eq hl, some_bind, lt_cast hi, if_true]
    rw [map_loop _ (2 ^ w.length) (fun j => gI (axm p w i j) (i ^^^ j)) (by rw [BIG_val]; omega)]
    · rw [some_bind, chk_bind (by simp only [List.length_cons, List.length_nil]; omega), w_in (by omega) (by omega)]; rfl
    · intro j hj o2 ho2
      unfold s_l11Basis_L1
      have hi' := axis_vec (p := p) (by omega) hi
      have hj' := axis_vec (p := p) (by omega) hj
      have hx := xor_lt hi hj
      have e1 := (axm_vec hP hl hw hi hj).1
      simp only [s_l11Size_eq hl, some_bind, lt_cast hj, if_true, s_l11One_eq hl hi, s_l11One_eq hl hj, s_l11Times_eq hP hl hw hi' hj', bxor_k i (by omega) j (by omega)]
      rw [show mulp p w (axis (2 ^ w.length) i) (axis (2 ^ w.length) j) = axm p w i j from rfl, idxI (by omega), some_bind, chk_bind (by simp only [List.length_cons, List.length_nil]; omega), w_in (by omega) (by omega)]
      rfl
    · intro o2 ho2
      unfold s_l11Basis_L1
      simp only [s_l11Size_eq hl, some_bind, lt_cast_self, if_false]
  · intro out ho
    unfold s_l11Basis_L0
    simp only [s_l11Size_eq hl, some_bind, lt_cast_self, if_false]
theorem i_Doubling_products_eq : i_Doubling_products p w = some (prodm p w) := by
  have hp := isP_le hP
  have h16 := two_le hl
  have e0 := (unitm_mat (p := p) (by omega) (2 ^ w.length)).1
  unfold i_Doubling_products
  rw [i_Doubling_size_eq hl, some_bind, i_unit_eq (by omega), some_bind, map_loop _ (2 ^ w.length) (fun i => vecN (2 ^ w.length) fun j => gI (axm p w i j) (i ^^^ j)) (by rw [BIG_val]; omega)]
  · rfl
  · intro i hi out ho
    unfold i_Doubling_products_L0
    simp only [e0, lt_cast hi, if_true, idxR (show i < (unitm (2 ^ w.length)).length by omega), gR_unitm hi, some_bind, i_Doubling_size_eq hl, i_unit_eq (show 2 ^ w.length ≤ 1048576 by omega)]
    rw [map_loop _ (2 ^ w.length) (fun j => gI (axm p w i j) (i ^^^ j)) (by rw [BIG_val]; omega)]
    · rw [some_bind, chk_bind (by simp only [List.length_cons, List.length_nil]; omega), w_in (by omega) (by omega)]; rfl
    · intro j hj o2 ho2
      unfold i_Doubling_products_L1
      have hi' := axis_vec (p := p) (by omega) hi
      have hj' := axis_vec (p := p) (by omega) hj
      have hx := xor_lt hi hj
      have e1 := (axm_vec hP hl hw hi hj).1
      simp only [e0, lt_cast hj, if_true, idxR (show j < (unitm (2 ^ w.length)).length by omega), gR_unitm hj, some_bind, i_Doubling_times_eq hP hl hw hi' hj', bxor_k i (by omega) j (by omega)]
      rw [show mulp p w (axis (2 ^ w.length) i) (axis (2 ^ w.length) j) = axm p w i j from rfl, idxI (by omega), some_bind, chk_bind (by simp only [List.length_cons, List.length_nil]; omega), w_in (by omega) (by omega)]
      rfl
    · intro o2 ho2
      unfold i_Doubling_products_L1
      simp only [e0, lt_cast_self, if_false]
  · intro out ho
    unfold i_Doubling_products_L0
    simp only [e0, lt_cast_self, if_false]
end

def sgE (T : List (List Int)) (i j : Nat) : Int :=
  w64 (w64 (2 * bxor .i64 ((i / 2 : Nat) : Int) ((j / 2 : Nat) : Int)) + (if ¬ gI (gR T (i / 2)) (j / 2) = 1 then w64 (1 - (w64 ((i : Int) + (j : Int))).tmod 2) else (w64 ((i : Int) + (j : Int))).tmod 2))
def sgm (T : List (List Int)) (n : Nat) : List (List Int) := vecN (2 * n) fun i => vecN (2 * n) fun j => sgE T i j
section
variable {p : Int} {w : List Int} {T : List (List Int)} (hl : w.length ≤ 4) (hT : Mat p (2 ^ w.length) (2 ^ w.length) T)
include hl hT
theorem half_facts {i : Nat} (hi : i < 2 * 2 ^ w.length) : w64 ((i : Int).tdiv 2) = ((i / 2 : Nat) : Int) ∧ i / 2 < 2 ^ w.length := by
  have h16 := two_le hl
  rw [Int.tdiv_eq_ediv_of_nonneg (by omega), w_in (by omega) (by omega)]
  constructor <;> omega
theorem w2_size : w64 (2 * ((2 ^ w.length : Nat) : Int)) = ((2 * 2 ^ w.length : Nat) : Int) := by
  have h16 := two_le hl
  generalize 2 ^ w.length = n at h16
  rw [w_in (by omega) (by omega)]; omega
theorem s_signed : loop (s_SignedBasis_L1 p w T) BIG ([], 0) = some (sgm T (2 ^ w.length)) := by
  have h16 := two_le hl
  have e0 := hT.1
  refine map_loop _ (2 * 2 ^ w.length) (fun i => vecN (2 * 2 ^ w.length) fun j => sgE T i j) (by rw [BIG_val]; omega) ?_ ?_
  · intro i hi out ho
    unfold s_SignedBasis_L1
    simp only [s_l11Size_eq hl, some_bind, w2_size hl hT, lt_cast hi, if_true]
    rw [map_loop _ (2 * 2 ^ w.length) (fun j => sgE T i j) (by rw [BIG_val]; omega)]
    · rw [some_bind, chk_bind (by simp only [List.length_cons, List.length_nil]; omega), w_in (by omega) (by omega)]; rfl
    · intro j hj o2 ho2
      unfold s_SignedBasis_L2
      obtain ⟨h1, h2⟩ := half_facts hl hT hi
      obtain ⟨h3, h4⟩ := half_facts hl hT hj
      have e3 := (hT.row h2).1
      simp only [s_l11Size_eq hl, some_bind, w2_size hl hT, lt_cast hj, if_true, h1, h3, idxR (show i / 2 < T.length by omega), idxI (show j / 2 < (gR T (i / 2)).length by omega)]
      have hx : ((if ¬ gI (gR T (i / 2)) (j / 2) = 1 then some (w64 (1 - (w64 ((i : Int) + (j : Int))).tmod 2)) else some ((w64 ((i : Int) + (j : Int))).tmod 2)) : Option Int) = some (if ¬ gI (gR T (i / 2)) (j / 2) = 1 then w64 (1 - (w64 ((i : Int) + (j : Int))).tmod 2) else (w64 ((i : Int) + (j : Int))).tmod 2) := by split <;> rfl
      rw [hx, some_bind, chk_bind (by simp only [List.length_cons, List.length_nil]; omega), w_in (x := (j : Int) + 1) (by omega) (by omega)]
      rfl
    · intro o2 ho2
      unfold s_SignedBasis_L2
      simp only [s_l11Size_eq hl, some_bind, w2_size hl hT, lt_cast_self, if_false]
  · intro out ho
    unfold s_SignedBasis_L1
    simp only [s_l11Size_eq hl, some_bind, w2_size hl hT, lt_cast_self, if_false]
theorem i_signed : loop (i_SignedBasis_L0 p w T ((2 ^ w.length : Nat) : Int)) BIG ([], 0) = some (sgm T (2 ^ w.length)) := by
  have h16 := two_le hl
  have e0 := hT.1
  refine map_loop _ (2 * 2 ^ w.length) (fun i => vecN (2 * 2 ^ w.length) fun j => sgE T i j) (by rw [BIG_val]; omega) ?_ ?_
  · intro i hi out ho
    unfold i_SignedBasis_L0
    simp only [i_Doubling_size_eq hl, some_bind, w2_size hl hT, lt_cast hi, if_true]
    rw [map_loop _ (2 * 2 ^ w.length) (fun j => sgE T i j) (by rw [BIG_val]; omega)]
    · rw [some_bind, chk_bind (by simp only [List.length_cons, List.length_nil]; omega), w_in (by omega) (by omega)]; rfl
    · intro j hj o2 ho2
      unfold i_SignedBasis_L1
      obtain ⟨h1, h2⟩ := half_facts hl hT hi
      obtain ⟨h3, h4⟩ := half_facts hl hT hj
      have e3 := (hT.row h2).1
      simp only [some_bind, w2_size hl hT, lt_cast hj, if_true, h1, h3, idxR (show i / 2 < T.length by omega), idxI (show j / 2 < (gR T (i / 2)).length by omega)]
      have hx : ((if ¬ gI (gR T (i / 2)) (j / 2) = 1 then some (w64 (1 - (w64 ((i : Int) + (j : Int))).tmod 2)) else some ((w64 ((i : Int) + (j : Int))).tmod 2)) : Option Int) = some (if ¬ gI (gR T (i / 2)) (j / 2) = 1 then w64 (1 - (w64 ((i : Int) + (j : Int))).tmod 2) else (w64 ((i : Int) + (j : Int))).tmod 2) := by split <;> rfl
      rw [hx, some_bind, chk_bind (by simp only [List.length_cons, List.length_nil]; omega), w_in (x := (j : Int) + 1) (by omega) (by omega)]
      rfl
    · intro o2 ho2
      unfold i_SignedBasis_L1
      simp only [some_bind, w2_size hl hT, lt_cast_self, if_false]
  · intro out ho
    unfold i_SignedBasis_L0
    simp only [some_bind, w2_size hl hT, lt_cast_self, if_false]
end
theorem sgm_small {T : List (List Int)} {n : Nat} (hn : n ≤ 16) : smallM (sgm T n) := by
  refine ⟨by simp [sgm]; omega, fun r hr => ?_, ?_⟩
  · obtain ⟨k, _, rfl⟩ := mem_vecN.1 hr
    simp; omega
  · unfold sgm
    rw [rowsum_vecN (2 * n) (2 * n) _ (fun i _ => by simp)]
    exact Nat.le_trans (Nat.mul_le_mul (show 2 * n ≤ 32 by omega) (show 2 * n ≤ 32 by omega)) (by decide)
def noSign (p x : Int) : Bool := !(decide (x = 1)) && !(ieq x (p - 1))
theorem SignedBasis_eq {p : Int} {w : List Int} (hw : w.length ≤ 1048576) : ∃ V C, s_SignedBasis p w = some (V, C) ∧ i_SignedBasis p w = some (V, C) ∧ smallM V := by
  unfold s_SignedBasis i_SignedBasis
  rw [s_l11Is_eq hw, i_IsDoubling_eq hw, some_bind, some_bind]
  cases hd : isDb p w with
  | false => exact ⟨[], 1, by simp, by simp, smallM.nil⟩
  | true =>
    obtain ⟨hP, hl, hv, _⟩ := isDb_iff hd
    have hp := isP_le hP
    have w1 : w64 (p - 1) = p - 1 := w_in (by omega) (by omega)
    have hT := prodm_mat hP hl hv
    have h16 := two_le hl
    have c1 : g_slices_ContainsFunc_LI_I_of_i_SignedBasis_c1 w p w = some (w.any (noSign p)) := by
      unfold g_slices_ContainsFunc_LI_I_of_i_SignedBasis_c1 g_slices_IndexFunc_LI_I_of_i_SignedBasis_c1
      refine contains_loop w 0 (noSign p) hw _ (fun k hk => ?_) ?_
      · unfold g_slices_IndexFunc_LI_I_of_i_SignedBasis_c1_L0 i_SignedBasis_c1 noSign
        rw [if_pos (by omega), idxI hk, some_bind, w1, w_in (x := (k : Int) + 1) (by omega) (by omega)]
        show _ = if (!(decide (gI w k = 1)) && !(ieq (gI w k) (p - 1))) = true then _ else _
        by_cases h : gI w k = 1
        · simp [h]
        · simp [h]
      · unfold g_slices_IndexFunc_LI_I_of_i_SignedBasis_c1_L0
        simp
    obtain ⟨b, b1, b2⟩ := any_loop (s_SignedBasis_L0 p w) w.length (fun k => noSign p (gI w k)) (fun _ => (([] : List (List Int)), (5 : Int))) (by rw [BIG_val]; omega)
      (fun k hk hf => by
        unfold s_SignedBasis_L0
        unfold noSign at hf
        rw [if_pos (by omega), idxI hk, some_bind, w1, w_in (x := (k : Int) + 1) (by omega) (by omega)]
        by_cases h : gI w k = 1
        · simp [h]
        · simp [h] at hf ⊢
          simp [hf]) (fun k hk hf => by
        unfold s_SignedBasis_L0
        unfold noSign at hf
        rw [if_pos (by omega), idxI hk, some_bind, w1]
        by_cases h : gI w k = 1
        · simp [h] at hf
        · simp [h] at hf ⊢
          simp [hf]) (by
        unfold s_SignedBasis_L0
        simp)
    have e : w.any (noSign p) = (List.range w.length).any fun k => noSign p (gI w k) := (any_range w (noSign p) 0).symm
    simp only [Bool.true_eq_false, if_false, c1, some_bind, b1]
    rcases b2 with ⟨rfl, h3⟩ | ⟨k, hk, rfl, hf, h3, _⟩
    · rw [e, h3]
      have s1 := s_signed hl hT
      have s2 := i_signed hl hT
      simp only [Bool.false_eq_true, if_false, s_l11Basis_eq hP hl hv, i_Doubling_products_eq hP hl hv, i_Doubling_size_eq hl, some_bind, s1, s2]
      exact ⟨_, _, rfl, rfl, sgm_small h16⟩
    · rw [e, h3]
      exact ⟨[], 5, by simp, by simp, smallM.nil⟩
theorem LawSignedBasis {p : Int} {w : List Int} (hw : lenI w) : l_FnExactSignedBasis p w = some true := by
  unfold l_FnExactSignedBasis
  rw [szDb_eq hw (by omega) (by omega), some_bind]
  by_cases h1 : ((w.length : Nat) : Int) ≤ 1048576
  · have hs : szv w.length 1048576 = 1048576 - ((w.length : Nat) : Int) := by unfold szv; rw [if_pos h1]
    rw [hs, if_neg (by omega)]
    have hw' : w.length ≤ 1048576 := by omega
    obtain ⟨V, C, e3, e4, z1, z2, z3⟩ := SignedBasis_eq (p := p) hw'
    have e2 := toDb_eq (p := p) hw'
    have e5 := eqDb_self (p := p) hw'
    have e7 := eqM_self ⟨z1, z2⟩
    have e8 := markDb_1 (p := p) hw'
    have e10 := markM_1 z1 z3
    have e11 := heldM_1 z1 z3
    simp only [e2, e3, e4, e5, e7, e8, e10, e11, some_bind, Bool.true_eq_false, Bool.false_eq_true, if_false, if_true, ieq_self, Bool.not_true, natneg, not_true_eq_false, bne_self_eq_false]
  · have hs : szv w.length 1048576 = -1 := by unfold szv; rw [if_neg h1]
    rw [hs, if_pos (by omega)]
end Go.Vam

/- Plain laws: systems of equations. -/
namespace Go.Vam
open Go Go.RowKit
set_option linter.unusedSimpArgs false
set_option linter.unusedVariables false
set_option linter.unusedSectionVars false

theorem first_two {v : List Int} {q : Nat} (hv : v.length ≤ 1048576) (hq : q < v.length) (h : gI v q ≠ 0) : ∃ f : Nat, f ≤ q ∧ s_l02First v = some (f : Int) ∧ i_lead v = some (f : Int) ∧ gI v f ≠ 0 ∧ ∀ j, j < f → gI v j = 0 := by
  obtain ⟨b, h1, h2⟩ := any_loop (s_l02First_L0 v) v.length (fun k => !decide (gI v k = 0)) (fun k => (k : Int)) (by rw [BIG_val]; omega)
    (fun k hk hf => by
      unfold s_l02First_L0
      have : gI v k = 0 := by simpa using hf
      simp only [show (k : Int) < (v.length : Int) by omega, if_true, idxI hk, some_bind, this, not_true_eq_false, if_false]
      rw [w_in (by omega) (by omega)]; rfl) (fun k hk hf => by
      unfold s_l02First_L0
      have : ¬ gI v k = 0 := by simpa using hf
      simp only [show (k : Int) < (v.length : Int) by omega, if_true, idxI hk, some_bind, this, not_false_eq_true]) (by
      unfold s_l02First_L0
      simp)
  rcases h2 with ⟨rfl, h3⟩ | ⟨f, hf, rfl, h4, h5, h6⟩
  · rw [List.any_eq_false] at h3
    have := h3 q (List.mem_range.2 hq)
    simp [h] at this
  · have h4' : gI v f ≠ 0 := by simpa using h4
    have h6' : ∀ j, j < f → gI v j = 0 := fun j hj => by simpa using h6 j hj
    refine ⟨f, ?_, ?_, ?_, h4', h6'⟩
    · rcases Nat.lt_or_ge q f with hqf | hqf
      · exact absurd (h6' q hqf) h
      · exact hqf
    · unfold s_l02First
      rw [h1]; rfl
    · unfold i_lead
      rw [loop_for (b := (f : Int)) (s := 0) (fun k => (k : Int)) f (by rw [BIG_val]; omega) rfl]
      · rfl
      · intro k hk
        unfold i_lead_L0
        simp only [show (k : Int) < (v.length : Int) by omega, if_true, idxI (show k < v.length by omega), some_bind, h6' k hk, ieq_self]
        rw [w_in (by omega) (by omega)]; rfl
      · unfold i_lead_L0
        have : ieq (gI v f) 0 = false := by simp [ieq, h4']
        simp only [show (f : Int) < (v.length : Int) by omega, if_true, idxI hf, some_bind, this, Bool.false_eq_true, if_false]

def augm (r : Nat) (m : List (List Int)) (v : List Int) : List (List Int) := vecN r fun i => gR m i ++ [gI v i]
section
variable {p : Int} {r c : Nat} {m : List (List Int)} {v : List Int} (hP : isP p = true) (hr0 : 0 < r) (hr : r ≤ 1048000) (hc0 : 0 < c) (hc : c ≤ 1048000) (hm : Mat p r c m) (hv : Vec p r v)
include hP hr0 hr hc0 hc hm hv
theorem augm_mat : Mat p r (c + 1) (augm r m v) := Mat.mk' fun i hi => by
  have h1 := hm.row hi
  have h2 := hv.get hi
  refine ⟨by simp [h1.1], fun k hk => ?_⟩
  have e : gI (gR m i ++ [gI v i]) k = if k < c then gI (gR m i) k else gI v i := by
    unfold gI
    rw [List.getD_eq_getElem?_getD, List.getElem?_append]
    have := h1.1
    by_cases hkc : k < c
    · rw [if_pos (by omega), if_pos hkc, List.getD_eq_getElem?_getD]
    · rw [if_neg (by omega), if_neg hkc]
      have : k - (gR m i).length = 0 := by omega
      rw [this]; rfl
  rw [e]
  split
  · exact h1.get (by assumption)
  · exact h2
theorem s_aug : loop (s_l02Solve_L0 m v) BIG ([], 0) = some (augm r m v) := by
  have e1 := hm.1
  have e2 := hv.1
  refine map_loop _ r _ (by rw [BIG_val]; omega) ?_ ?_
  · intro i hi out ho
    unfold s_l02Solve_L0
    have e3 := (hm.row hi).1
    simp only [show (i : Int) < (m.length : Int) by omega, if_true, idxR (show i < m.length by omega), some_bind, s_l01Own_eq (show (gR m i).length ≤ 1048576 by omega), idxI (show i < v.length by omega)]
    rw [chk_bind (by simp only [List.length_cons, List.length_nil]; omega), chk_bind (by simp only [List.length_cons, List.length_nil]; omega), w_in (by omega) (by omega)]
    rfl
  · intro out ho
    unfold s_l02Solve_L0
    simp [e1]
theorem i_aug : loop (i_field_solve_L0 m v) BIG ([], 0) = some (augm r m v) := by
  have e1 := hm.1
  have e2 := hv.1
  refine map_loop _ r _ (by rw [BIG_val]; omega) ?_ ?_
  · intro i hi out ho
    unfold i_field_solve_L0
    have e3 := (hm.row hi).1
    simp only [show (i : Int) < (m.length : Int) by omega, if_true, idxR (show i < m.length by omega), some_bind, clone_eq (show (gR m i).length ≤ 1048576 by omega), idxI (show i < v.length by omega)]
    rw [chk_bind (by simp only [List.length_cons, List.length_nil]; omega), chk_bind (by simp only [List.length_cons, List.length_nil]; omega), w_in (by omega) (by omega)]
    rfl
  · intro out ho
    unfold i_field_solve_L0
    simp [e1]
theorem Solve_eq : ∃ x : List Int × Bool, s_l02Solve p m v = some x ∧ i_field_solve p m v = some x ∧ x.1.length ≤ c := by
  have ha := augm_mat hP hr0 hr hc0 hc hm hv
  have s1 := s_aug hP hr0 hr hc0 hc hm hv
  have s2 := i_aug hP hr0 hr hc0 hc hm hv
  obtain ⟨b, b1, b2, d, hd, hb, piv, hred⟩ := Basis_eq hP hr0 (by omega) (by omega) ha
  have e1 := hm.1
  have e2 := (hm.row hr0).1
  have hbl := hb.1
  have two : ∃ y : List Int ⊕ (List Int × Bool), loop (s_l02Solve_L1 b (gR m 0)) BIG (List.replicate c 0, 0) = some y ∧ loop (i_field_solve_L1 (gR m 0) b) BIG (List.replicate c 0, 0) = some y ∧ (match y with | .inl z => z.length ≤ c | .inr z => z.1.length ≤ c) := by
    refine loop_two (fun s => s.1.length = c ∧ ∃ i : Nat, s.2 = (i : Int) ∧ i ≤ d) (fun s => d - s.2.toNat) _ ⟨by simp, 0, rfl, by omega⟩ (by rw [BIG_val]; simp only []; omega) ?_
    rintro ⟨x, t⟩ ⟨hx, i, rfl, hi⟩
    simp only [] at hx
    unfold s_l02Solve_L1 i_field_solve_L1
    by_cases hid : i < d
    · have h3 := hb.row hid
      obtain ⟨p1, p2, p3⟩ := hred i hid
      have h4 := h3.1
      obtain ⟨f, f1, f2, f3, f4, f5⟩ := first_two (v := gR b i) (q := piv i) (by omega) (by omega) (by rw [p2]; omega)
      by_cases hf : f = c
      · refine .inr ?_
        simp only [show (i : Int) < (b.length : Int) by omega, if_true, idxR (show i < b.length by omega), some_bind, f2, f3, show ((f : Int) = ((gR m 0).length : Int)) = True from eq_true (by omega)]
        exact ⟨_, rfl, rfl, by simp⟩
      · refine .inl ?_
        simp only [show (i : Int) < (b.length : Int) by omega, if_true, idxR (show i < b.length by omega), some_bind, f2, f3, show ((f : Int) = ((gR m 0).length : Int)) = False from eq_false (by omega), if_false, idxI (show (gR m 0).length < (gR b i).length by omega), idxI (show f < x.length by omega), Int.toNat_natCast]
        refine ⟨_, rfl, rfl, ⟨by simp only [List.length_set]; exact hx, i + 1, ?_, by omega⟩, ?_⟩
        · rw [w_in (by omega) (by omega)]; rfl
        · rw [w_in (by omega) (by omega)]; simp only []; omega
    · refine .inr ?_
      simp only [show ¬ (i : Int) < (b.length : Int) by omega, if_false]
      exact ⟨_, rfl, rfl, by simp only []; omega⟩
  obtain ⟨y, y1, y2, y3⟩ := two
  unfold s_l02Solve i_field_solve
  rw [← e2] at y1 y2
  simp only [s1, s2, some_bind, b1, b2, idxR0 (show 0 < m.length by omega), chk_bind (show 0 ≤ ((gR m 0).length : Int) ∧ ((gR m 0).length : Int) ≤ 1099511627776 by omega), Int.toNat_natCast, y1, y2]
  cases y with
  | inl z => exact ⟨_, rfl, rfl, y3⟩
  | inr z => exact ⟨_, rfl, rfl, y3⟩
end
theorem SolveMatrix_eq {p : Int} {m : List (List Int)} {v : List Int} (h : szM m) (hv : v.length ≤ 1048576) : ∃ V C, s_SolveMatrix p m v = some (V, C) ∧ i_SolveMatrix p m v = some (V, C) ∧ V.length ≤ 16 := by
  unfold s_SolveMatrix i_SolveMatrix
  rw [s_l02Is_eq h, checkM1 h, some_bind, some_bind]
  cases hm : isMat p m with
  | false => exact ⟨[], 1, by simp, by simp, by simp⟩
  | true =>
    obtain ⟨h1, h2, h3, hP, h4, h5⟩ := isMat_sz hm
    have hp := isP_le hP
    simp only [Bool.true_eq_false, if_false, if_true, not_true_eq_false]
    by_cases hl : v.length = m.length
    · rw [s_l01Numbers_eq (by omega) (by omega) hv, i_field_is_eq (by omega) (by omega) hv]
      simp only [hl, not_true_eq_false, if_false, some_bind]
      cases hn : nums p v with
      | false => exact ⟨[], 2, by simp, by simp, by simp⟩
      | true =>
        obtain ⟨x, x1, x2, x3⟩ := Solve_eq hP (r := m.length) (c := wid m) (v := v) (by omega) (by omega) (by omega) (by omega) h3 (hl ▸ Vec.of hn)
        simp only [Bool.not_true, Bool.false_eq_true, if_false, x1, x2, some_bind]
        cases hx : x.2 with
        | false => exact ⟨[], 4, by simp, by simp, by simp⟩
        | true => exact ⟨x.1, 0, by simp, by simp, by omega⟩
    · simp only [show ((v.length : Int) = (m.length : Int)) = False from eq_false (by omega), not_false_eq_true, if_true, some_bind]
      exact ⟨_, _, rfl, rfl, by simp⟩
theorem LawSolve {p : Int} {m : List (List Int)} {v : List Int} (hm : lenM m) (hv : lenI v) : l_FnExactSolveMatrix p m v = some true := by
  unfold l_FnExactSolveMatrix
  by_cases h1 : 1048576 < (v.length : Int)
  · rw [if_pos h1]
  rw [if_neg h1, szM_eq hm (by omega) (by omega), some_bind]
  by_cases h2 : ((m.length + rowsum m : Nat) : Int) ≤ 1048576
  · have hs : szv (m.length + rowsum m) 1048576 = 1048576 - ((m.length + rowsum m : Nat) : Int) := by unfold szv; rw [if_pos h2]
    rw [hs, if_neg (by omega)]
    have hsz : szM m := ⟨by omega, fun r hr => by have := rowsum_mem hr; omega⟩
    obtain ⟨V, C, e3, e4, hr⟩ := SolveMatrix_eq (p := p) hsz (v := v) (by omega)
    have e1 := toM_eq hsz.1 hsz.2
    have e2 : l_toInt64S v = some v := toI_eq (by omega)
    have e5 := eqI_self (v := V) (by omega)
    have e6 : l_eqInt64SS m m = some true := by rw [eqM_eq _ _ hsz.1 hsz.2]; simp
    have e7 : l_eqInt64S v v = some true := by rw [eqI_eq _ _ (by omega)]; simp
    have e8 := markM_1 hsz.1 (m := m) (by omega)
    have e9 : l_markInt64S v ((1 + rowsum m : Nat) : Int) = some (((1 + rowsum m + v.length : Nat) : Int), mrkI (1 + rowsum m) v) := markI_eq (by omega)
    have e10 := markI_1 (xs := V) (by omega)
    have e11 := heldI_1 (xs := V) (by omega)
    simp only [e1, e2, e3, e4, e5, e6, e7, e8, e9, e10, e11, some_bind, Bool.true_eq_false, Bool.false_eq_true, if_false, if_true, ieq_self, Bool.not_true, natneg, not_true_eq_false]
  · have hs : szv (m.length + rowsum m) 1048576 = -1 := by unfold szv; rw [if_neg h2]
    rw [hs, if_pos (by omega)]
end Go.Vam

/- Plain laws: isometries, orthogonal tables, their orders. -/
namespace Go.Vam
open Go Go.RowKit
set_option linter.unusedSimpArgs false
set_option linter.unusedVariables false
set_option linter.unusedSectionVars false

theorem sumN_mod {f g : Nat → Int} {p : Int} : ∀ {n : Nat}, (∀ k, k < n → f k % p = g k % p) → sumN f n % p = sumN g n % p
  | 0, _ => rfl
  | n + 1, h => by
    simp only [sumN]
    rw [Int.add_emod, sumN_mod (n := n) fun k hk => h k (by omega), h n (by omega), ← Int.add_emod]
/-- The pairing of a space. -/
def pairp (p : Int) (n : Nat) (w x y : List Int) : Int := sumN (fun k => gI x k * gI y k * gI w k) n % p
theorem pairp_comm (p : Int) (n : Nat) (w x y : List Int) : pairp p n w x y = pairp p n w y x := by
  unfold pairp
  congr 1
  exact sumN_congr fun k _ => by rw [Int.mul_comm (gI x k)]
section
variable {p : Int} {n : Nat} {w x y : List Int} (hP : isP p = true) (hn : n ≤ 1048576) (hw : Vec p n w) (hx : Vec p n x) (hy : Vec p n y)
include hP hn hw hx hy
theorem s_l03Pair_eq : s_l03Pair p w x y = some (pairp p n w x y) := by
  have hp := isP_le hP
  unfold s_l03Pair
  have e1 := hx.1; have e2 := hy.1; have e3 := hw.1
  obtain ⟨h1, h2⟩ := fold_loop (s_l03Pair_L0 p w x y) n (fun k s => (s + gI x k * gI y k % p * gI w k) % p) 0 (fun _ s => 0 ≤ s ∧ s < p) id (by rw [BIG_val]; omega) (by omega) (fun k s hk _ => mod_num (by omega))
    (fun k s hk hs => by
      unfold s_l03Pair_L0
      have h1 := hx.get hk; have h2 := hy.get hk; have h3 := hw.get hk
      have h4 := mul_abs (a := gI x k) (b := gI y k) (A := 13) (B := 13) (by omega) (by omega)
      have h5 := Int.mul_nonneg h1.1 h2.1
      have h6 := mod_num (a := gI x k * gI y k) (p := p) (by omega)
      have h7 := mul_abs (a := gI x k * gI y k % p) (b := gI w k) (A := 13) (B := 13) (by omega) (by omega)
      have h8 := Int.mul_nonneg h6.1 h3.1
      simp only [show (k : Int) < x.length by omega, if_true, idxI (show k < x.length by omega), idxI (show k < y.length by omega), idxI (show k < w.length by omega), some_bind]
      rw [chk_bind (by omega), chk_bind (by omega), w_in (x := gI x k * gI y k) (by omega) (by omega), tmod_nn h5, w_in (x := gI x k * gI y k % p * gI w k) (by omega) (by omega), w_in (x := s + gI x k * gI y k % p * gI w k) (by omega) (by omega), tmod_nn (a := s + gI x k * gI y k % p * gI w k) (by omega), w_in (x := (k : Int) + 1) (by omega) (by omega)]
      rfl) (fun s hs => by
      unfold s_l03Pair_L0
      simp [e1])
  rw [h1, some_bind]
  have key : ∀ k, foldN (fun k s => (s + gI x k * gI y k % p * gI w k) % p) 0 k = sumN (fun k => gI x k * gI y k * gI w k) k % p := by
    intro k
    induction k with
    | zero => simp [foldN, sumN]
    | succ k ih =>
      simp only [foldN, sumN, ih]
      rw [Int.add_emod, Int.emod_emod_of_dvd _ (Int.dvd_refl p), Int.mul_emod (gI x k * gI y k % p), Int.emod_emod_of_dvd _ (Int.dvd_refl p), ← Int.mul_emod, ← Int.add_emod]
  simp only [id, key]; rfl
theorem i_Space_pair_eq : i_Space_pair p w x y = some (pairp p n w x y) := by
  have hp := isP_le hP
  have e1 := hx.1; have e2 := hy.1; have e3 := hw.1
  have hwt : i_Space_weighted p w x = some (vecN n fun k => gI x k * gI w k % p) := by
    unfold i_Space_weighted
    rw [map_loop _ n (fun k => gI x k * gI w k % p) (by rw [BIG_val]; omega)]
    · rfl
    · intro i hi out ho
      unfold i_Space_weighted_L0 i_Space_field
      have h1 := hx.get hi; have h3 := hw.get hi
      have h4 := mul_abs (a := gI x i) (b := gI w i) (A := 13) (B := 13) (by omega) (by omega)
      simp only [show (i : Int) < x.length by omega, if_true, idxI (show i < x.length by omega), idxI (show i < w.length by omega), some_bind]
      rw [w_in (x := gI x i * gI w i) (by omega) (by omega), i_field_num_eq (by omega) (by omega) (by omega) (by omega), some_bind, chk_bind (by simp only [List.length_cons, List.length_nil]; omega), w_in (by omega) (by omega)]
      rfl
    · intro out ho
      unfold i_Space_weighted_L0
      simp [e1]
  have hv : Vec p n (vecN n fun k => gI x k * gI w k % p) := Vec.mk' fun k hk => mod_num (by omega)
  unfold i_Space_pair i_Space_field
  rw [some_bind, hwt, some_bind, i_field_dot_eq (by omega) (by omega) hn hv hy, some_bind]
  congr 1
  unfold dotp pairp
  refine sumN_mod fun k hk => ?_
  rw [gI_vecN _ hk, Int.mul_emod, Int.emod_emod_of_dvd _ (Int.dvd_refl p), ← Int.mul_emod, Int.mul_assoc, Int.mul_comm (gI w k), ← Int.mul_assoc]
end

/-- The rows of T pair as the space's own axes do. -/
def isoB (p : Int) (w : List Int) (T : List (List Int)) (i j : Nat) : Bool := decide (pairp p w.length w (gR T i) (gR T j) = if i = j then gI w i else 0)
theorem isoB_comm (p : Int) (w : List Int) (T : List (List Int)) (i j : Nat) : isoB p w T i j = isoB p w T j i := by
  unfold isoB
  rw [pairp_comm]
  by_cases h : i = j
  · subst h; rfl
  · rw [if_neg h, if_neg (fun e => h e.symm)]
theorem all_tri {n : Nat} {f : Nat → Nat → Bool} (hc : ∀ i j, f i j = f j i) : ((List.range n).all fun i => (List.range (i + 1)).all (f i)) = (List.range n).all fun i => (List.range n).all (f i) := by
  rw [Bool.eq_iff_iff]
  simp only [List.all_eq_true, List.mem_range]
  constructor
  · intro h i hi j hj
    rcases Nat.lt_or_ge i j with hij | hij
    · rw [hc]; exact h j hj i (by omega)
    · exact h i hi j (by omega)
  · intro h i hi j hj
    exact h i hi j (by omega)
section
variable {p : Int} {w : List Int} {T : List (List Int)} (hP : isP p = true) (hn : w.length ≤ 1048576) (hw : Vec p w.length w) (hT : Mat p w.length w.length T)
include hP hn hw hT
theorem s_iso_loop : loop (s_l03Isometry_L0 w p w T) BIG 0 = some (if (List.range w.length).all fun i => (List.range w.length).all (isoB p w T i) then .inl () else .inr false) := by
  rw [← all_tri (isoB_comm p w T)]
  have e1 := hT.1
  have inner : ∀ i, i < w.length → loop (s_l03Isometry_L1 w p w T (i : Int)) BIG 0 = some (if (List.range (i + 1)).all (isoB p w T i) then .inl () else .inr (.inr (.inr false))) := by
    intro i hi
    have core : ∀ j, j < i + 1 → s_l03Isometry_L1 w p w T (i : Int) (j : Int) = if isoB p w T i j = true then some (.inl ((j + 1 : Nat) : Int)) else some (.inr (.inr (.inr (.inr false)))) := by
      intro j hj
      unfold s_l03Isometry_L1
      have hpr := s_l03Pair_eq hP hn hw (hT.row hi) (hT.row (show j < w.length by omega))
      have he : ((if (i : Int) = (j : Int) then (idx w (i : Int)).bind fun v30 => some v30 else some 0) : Option Int) = some (if i = j then gI w i else 0) := by
        by_cases h : i = j
        · subst h; simp only [if_true, idxI hi, some_bind]
        · rw [if_neg (by omega), if_neg h]
      rw [if_pos (by omega), he, some_bind, idxR (by omega), some_bind, idxR (by omega), some_bind, hpr, some_bind, w_in (by omega) (by omega)]
      unfold isoB
      by_cases h : pairp p w.length w (gR T i) (gR T j) = if i = j then gI w i else 0
      · rw [if_neg (by simp [h]), if_pos (by simp [h])]; rfl
      · rw [if_pos h, if_neg (by simp [h])]
    refine all_loop _ (i + 1) (isoB p w T i) _ (by rw [BIG_val]; omega) ?_ ?_ ?_
    · intro j hj hf
      rw [core j hj, if_pos hf]
    · intro j hj hf
      rw [core j hj, if_neg (by simp [hf])]
    · unfold s_l03Isometry_L1
      rw [if_neg (by omega)]
  refine all_loop _ w.length (fun i => (List.range (i + 1)).all (isoB p w T i)) false (by rw [BIG_val]; omega) ?_ ?_ ?_
  · intro i hi hf
    unfold s_l03Isometry_L0
    rw [if_pos (by omega), inner i hi, hf, w_in (by omega) (by omega)]; rfl
  · intro i hi hf
    unfold s_l03Isometry_L0
    rw [if_pos (by omega), inner i hi, hf]; rfl
  · unfold s_l03Isometry_L0
    simp
theorem i_iso_loop : loop (i_isIsometry_L0 w p w T) BIG 0 = some (if (List.range w.length).all fun i => (List.range w.length).all (isoB p w T i) then .inl () else .inr false) := by
  have e1 := hT.1
  have inner : ∀ i, i < w.length → loop (i_isIsometry_L1 w p w T (i : Int) (gR T i)) BIG 0 = some (if (List.range w.length).all (isoB p w T i) then .inl () else .inr (.inr (.inr false))) := by
    intro i hi
    have core : ∀ j, j < w.length → i_isIsometry_L1 w p w T (i : Int) (gR T i) (j : Int) = if isoB p w T i j = true then some (.inl ((j + 1 : Nat) : Int)) else some (.inr (.inr (.inr (.inr false)))) := by
      intro j hj
      unfold i_isIsometry_L1
      have hpr := i_Space_pair_eq hP hn hw (hT.row hi) (hT.row hj)
      have he : ((if (i : Int) = (j : Int) then (idx w (i : Int)).bind fun v38 => some v38 else some 0) : Option Int) = some (if i = j then gI w i else 0) := by
        by_cases h : i = j
        · subst h; simp only [if_true, idxI hi, some_bind]
        · rw [if_neg (by omega), if_neg h]
      rw [if_pos (by omega), he, idxR (by omega), some_bind, some_bind, hpr, some_bind, w_in (by omega) (by omega)]
      unfold isoB
      by_cases h : pairp p w.length w (gR T i) (gR T j) = if i = j then gI w i else 0
      · rw [if_neg (by simp [h]), if_pos (by simp [h])]; rfl
      · rw [if_pos h, if_neg (by simp [h])]
    refine all_loop _ w.length (isoB p w T i) _ (by rw [BIG_val]; omega) ?_ ?_ ?_
    · intro j hj hf
      rw [core j hj, if_pos hf]
    · intro j hj hf
      rw [core j hj, if_neg (by simp [hf])]
    · unfold i_isIsometry_L1
      simp [e1]
  refine all_loop _ w.length (fun i => (List.range w.length).all (isoB p w T i)) false (by rw [BIG_val]; omega) ?_ ?_ ?_
  · intro i hi hf
    unfold i_isIsometry_L0
    rw [if_pos (by omega), idxR (by omega), some_bind, inner i hi, hf, w_in (by omega) (by omega)]; rfl
  · intro i hi hf
    unfold i_isIsometry_L0
    rw [if_pos (by omega), idxR (by omega), some_bind, inner i hi, hf]; rfl
  · unfold i_isIsometry_L0
    simp [e1]
end

theorem Isometry_eq {p : Int} {w : List Int} {m : List (List Int)} (hs : isSp p w = true) (h : szM m) : ∃ b, s_l03Isometry p w p w m = some b ∧ i_isIsometry p w p w m = some b ∧ (b = true → fr p w m = true) := by
  obtain ⟨hP, g1, g2, g3⟩ := isSp_iff hs
  have hp := isP_le hP
  have hwd : (gR m 0).length = wid m := rfl
  unfold s_l03Isometry i_isIsometry i_Space_dim i_Space_field
  by_cases hl : m.length = w.length
  · simp only [not_true_eq_false, if_false, hl, s_l02Is_eq h, i_field_isMatrix_eq hP h, some_bind]
    cases hm : isMat p m with
    | false => exact ⟨false, by simp, by simp, by simp⟩
    | true =>
      obtain ⟨h1, h2, h3, _, h4, h5⟩ := isMat_sz hm
      simp only [Bool.true_eq_false, if_false, idxR0 (show 0 < m.length by omega), some_bind, hwd]
      by_cases hl2 : wid m = w.length
      · have hmm : Mat p w.length w.length m := by rw [hl, hl2] at h3; exact h3
        have hfr : fr p w m = true := by simp [fr, hm, hl, hl2]
        obtain ⟨d, d1, d2⟩ := Det_eq hP (r := w.length) (by omega) hmm
        have t1 := i_transpose_eq (p := p) (r := w.length) (c := w.length) (m := m) (by omega) (by omega) (by omega) hmm
        have t2 := s_l02Turn_eq (p := p) (r := w.length) (c := w.length) (m := m) (by omega) (by omega) (by omega) hmm
        have hT := turnm_mat hmm
        have l1 := s_iso_loop hP (by omega) g3 hT
        have l2 := i_iso_loop hP (by omega) g3 hT
        simp only [hl2, not_true_eq_false, if_false, d1, d2, some_bind, t1, t2, l1, l2]
        cases ieq d 0 with
        | true => exact ⟨false, rfl, rfl, by simp⟩
        | false =>
          simp only [Bool.false_eq_true, if_false]
          cases (List.range w.length).all fun i => (List.range w.length).all (isoB p w (turnm w.length w.length m) i) with
          | true => exact ⟨true, rfl, rfl, fun _ => hfr⟩
          | false => exact ⟨false, rfl, rfl, by simp⟩
      · simp only [show ((wid m : Int) = (w.length : Int)) = False from eq_false (by omega), not_false_eq_true, if_true, some_bind]
        exact ⟨_, rfl, rfl, by simp⟩
  · simp only [not_true_eq_false, if_false, show ((m.length : Int) = (w.length : Int)) = False from eq_false (by omega), not_false_eq_true, if_true, some_bind, i_field_isMatrix_eq hP h]
    refine ⟨false, rfl, ?_, by simp⟩
    cases isMat p m <;> simp

/-- The code of an orthogonal table; and whether it is one. -/
theorem Orth_eq {p : Int} {w : List Int} {m : List (List Int)} (hw : w.length ≤ 1048576) (h : szM m) :
    ∃ V C K, s_IsOrthogonal p w m = some (V, C) ∧ i_IsOrthogonal p w m = some (V, C) ∧ s_l08Code p w m = some K ∧ i_checkOrthogonal p w m = some K ∧ (K = 0 → isSp p w = true ∧ fr p w m = true) := by
  unfold s_l08Code s_IsOrthogonal i_IsOrthogonal i_checkOrthogonal s_l08Is
  rw [s_l03Is_eq hw, i_IsSpace_eq hw, some_bind, some_bind]
  cases hs : isSp p w with
  | false => exact ⟨false, 1, 1, by simp, by simp, by simp, by simp, by simp⟩
  | true =>
    obtain ⟨hP, g1, g2, g3⟩ := isSp_iff hs
    obtain ⟨d, d1, d2⟩ := s_l03Disc_eq hP g3 hw
    obtain ⟨b, b1, b2, b3⟩ := Isometry_eq hs h
    simp only [Bool.true_eq_false, if_false, d1, i_Space_regular_eq hw, some_bind, b1, b2]
    cases hz : hasZ w with
    | true =>
      have := d2.2 hz
      exact ⟨false, 5, 5, by simp [this], by simp, by simp [this], by simp, by simp⟩
    | false =>
      have : ¬ d = 0 := fun e => by rw [d2.1 e] at hz; cases hz
      simp only [this, if_false, Bool.not_false, Bool.true_eq_false, some_bind]
      cases b with
      | true => exact ⟨true, 0, 0, by simp, by simp, by simp, by simp, fun _ => ⟨by trivial, b3 rfl⟩⟩
      | false => exact ⟨false, 0, 2, by simp, by simp, by simp, by simp, by simp⟩
theorem IsProper_eq {p : Int} {w : List Int} {m : List (List Int)} (hw : w.length ≤ 1048576) (h : szM m) : ∃ V C, s_IsProper p w m = some (V, C) ∧ i_IsProper p w m = some (V, C) := by
  obtain ⟨_, _, K, _, _, k1, k2, k3⟩ := Orth_eq (p := p) hw h
  unfold s_IsProper i_IsProper i_Space_field
  rw [k1, k2, some_bind, some_bind]
  by_cases h0 : K = 0
  · obtain ⟨a1, a2⟩ := k3 h0
    obtain ⟨hP, g1, g2, g3⟩ := isSp_iff a1
    obtain ⟨b1, b2, b3⟩ := fr_iff a2
    obtain ⟨d, d1, d2⟩ := Det_eq hP (r := w.length) (by omega) b3
    simp only [h0, not_true_eq_false, if_false, d1, d2, some_bind]
    exact ⟨_, _, rfl, rfl⟩
  · simp only [h0, not_false_eq_true, if_true]
    exact ⟨_, _, rfl, rfl⟩

/-! ### Orders -/
theorem s_l01Same_eq {a b : List Int} (h : a.length ≤ 1048576) : s_l01Same a b = some (decide (a = b)) := by
  unfold s_l01Same
  by_cases hl : a.length = b.length
  · rw [if_neg (by omega)]
    obtain ⟨r, h1, h2⟩ := cmp_loop a b hl (by omega) (s_l01Same_L0 a b) (fun k hk he => by
        unfold s_l01Same_L0
        simp only [show (k : Int) < a.length by omega, if_true, idxk hk, idxk (hl ▸ hk), some_bind, he, not_true_eq_false, if_false]
        rw [w_in (by omega) (by omega)]; rfl) (fun k hk he => by
        unfold s_l01Same_L0
        simp only [show (k : Int) < a.length by omega, if_true, idxk hk, idxk (hl ▸ hk), some_bind, he, not_false_eq_true]) (by
        unfold s_l01Same_L0
        simp) (by rw [BIG_val]; omega)
    rw [h1, some_bind]
    rcases h2 with ⟨rfl, rfl⟩ | ⟨rfl, h3⟩
    · simp
    · simp [h3]
  · rw [if_pos (by omega)]
    have : a ≠ b := fun e => hl (by rw [e])
    simp [this]
theorem slicesEqual_eq {a b : List Int} (h : a.length ≤ 1048576) : g_slices_Equal_LI_I a b = some (decide (a = b)) := s_l01Same_eq h
theorem s_l01Same2_eq {a b : List (List Int)} (h : a.length ≤ 1048576) (hr : ∀ r ∈ a, r.length ≤ 1048576) : s_l01Same2 a b = some (decide (a = b)) := by
  unfold s_l01Same2
  by_cases hl : a.length = b.length
  · rw [if_neg (by omega)]
    obtain ⟨r, h1, h2⟩ := cmp_loop a b hl (by omega) (s_l01Same2_L0 a b) (fun k hk he => by
        unfold s_l01Same2_L0
        simp only [show (k : Int) < a.length by omega, if_true, idxk hk, idxk (hl ▸ hk), some_bind]
        rw [s_l01Same_eq (hr _ (List.getElem_mem hk))]
        simp only [he, some_bind, decide_true, Bool.true_eq_false, if_false]
        rw [w_in (by omega) (by omega)]; rfl) (fun k hk he => by
        unfold s_l01Same2_L0
        simp only [show (k : Int) < a.length by omega, if_true, idxk hk, idxk (hl ▸ hk), some_bind]
        rw [s_l01Same_eq (hr _ (List.getElem_mem hk))]
        simp only [he, some_bind, decide_false, if_true]) (by
        unfold s_l01Same2_L0
        simp) (by rw [BIG_val]; omega)
    rw [h1, some_bind]
    rcases h2 with ⟨rfl, rfl⟩ | ⟨rfl, h3⟩
    · simp
    · simp [h3]
  · rw [if_pos (by omega)]
    have : a ≠ b := fun e => hl (by rw [e])
    simp [this]
theorem i_sameRows_eq {a b : List (List Int)} (h : a.length ≤ 1048576) (hr : ∀ r ∈ a, r.length ≤ 1048576) : i_sameRows a b = some (decide (a = b)) := by
  unfold i_sameRows g_slices_EqualFunc_LLI_LLI_LI_LI_of_g_slices_Equal_LI_I
  by_cases hl : a.length = b.length
  · rw [if_neg (by omega)]
    obtain ⟨r, h1, h2⟩ := cmp_loop a b hl (by omega) (g_slices_EqualFunc_LLI_LLI_LI_LI_of_g_slices_Equal_LI_I_L0 a b) (fun k hk he => by
        unfold g_slices_EqualFunc_LLI_LLI_LI_LI_of_g_slices_Equal_LI_I_L0
        simp only [show (k : Int) < a.length by omega, if_true, idxk hk, idxk (hl ▸ hk), some_bind]
        rw [slicesEqual_eq (hr _ (List.getElem_mem hk))]
        simp only [he, some_bind, decide_true, Bool.true_eq_false, if_false]
        rw [w_in (by omega) (by omega)]; rfl) (fun k hk he => by
        unfold g_slices_EqualFunc_LLI_LLI_LI_LI_of_g_slices_Equal_LI_I_L0
        simp only [show (k : Int) < a.length by omega, if_true, idxk hk, idxk (hl ▸ hk), some_bind]
        rw [slicesEqual_eq (hr _ (List.getElem_mem hk))]
        simp only [he, some_bind, decide_false, if_true]) (by
        unfold g_slices_EqualFunc_LLI_LLI_LI_LI_of_g_slices_Equal_LI_I_L0
        simp) (by rw [BIG_val]; omega)
    rw [h1, some_bind]
    rcases h2 with ⟨rfl, rfl⟩ | ⟨rfl, h3⟩
    · simp
    · simp [h3]
  · rw [if_pos (by omega)]
    have : a ≠ b := fun e => hl (by rw [e])
    simp [this]

/-- Two loops with ends of their own; the second one may take more steps. -/
theorem loop_ends {S B C : Type} {f : S → Option (S ⊕ B)} {g : S → Option (S ⊕ C)} (I : S → Prop) (μ : S → Nat) (Q : B → C → Prop) {s : S} (h0 : I s) (hm : μ s < BIG)
    (hr : ∀ s, I s → (∃ s', f s = some (.inl s') ∧ g s = some (.inl s') ∧ I s' ∧ μ s' < μ s) ∨ (∃ b c, f s = some (.inr b) ∧ (∀ n, μ s < n → loop g n s = some c) ∧ Q b c)) :
    ∃ b c, loop f BIG s = some b ∧ loop g BIG s = some c ∧ Q b c := by
  have key : ∀ (n : Nat) (s : S), I s → μ s < n → ∃ b c, loop f n s = some b ∧ loop g n s = some c ∧ Q b c := by
    intro n
    induction n with
    | zero => intro s _ h; omega
    | succ n ih =>
      intro s hI hn
      rcases hr s hI with ⟨s', h1, h2, h3, h4⟩ | ⟨b, c, h1, h2, h3⟩
      · rw [loop_succ, loop_succ, h1, h2]
        exact ih s' h3 (by omega)
      · rw [h2 _ hn, loop_succ, h1]
        exact ⟨b, c, rfl, rfl, h3⟩
  exact key BIG s h0 hm
section
variable {p : Int} {w : List Int} {m x : List (List Int)} {k : Nat} (hw : w.length ≤ 1048576) (h0 : 0 < w.length) (hp : 3 ≤ p) (hp2 : p ≤ 13) (hm : Mat p w.length w.length m) (hx : Mat p w.length w.length x) (hk : k ≤ 100000)
include hw h0 hp hp2 hm hx hk
theorem s_ord_end (he : x = unitm w.length) : s_OrthogonalOrder_L0 p m (unitm w.length) (x, (k : Int)) = some (.inr (.inl (k : Int))) := by
  have hz := hx.sz hw hw
  have q1 := s_l01Same2_eq (b := unitm w.length) hz.1 hz.2
  have hd : decide (x = unitm w.length) = true := by simp [he]
  unfold s_OrthogonalOrder_L0
  simp only [q1, hd, some_bind, Bool.true_eq_false, if_false]
theorem i_ord_end (he : x = unitm w.length) : i_OrthogonalOrder_L0 p w m (unitm w.length) (x, (k : Int)) = some (.inr (.inr ((k : Int), 0))) := by
  have hz := hx.sz hw hw
  have q2 := i_sameRows_eq (b := unitm w.length) hz.1 hz.2
  have hd : decide (x = unitm w.length) = true := by simp [he]
  unfold i_OrthogonalOrder_L0
  simp only [show ((k : Int) ≤ 100000) = True from eq_true (by omega), q2, hd, if_true, some_bind]
theorem s_ord_step (he : x ≠ unitm w.length) : s_OrthogonalOrder_L0 p m (unitm w.length) (x, (k : Int)) = if k = 100000 then some (.inr (.inr (0, 3))) else some (.inl (timesm p w.length w.length w.length x m, ((k + 1 : Nat) : Int))) := by
  have hz := hx.sz hw hw
  have q1 := s_l01Same2_eq (b := unitm w.length) hz.1 hz.2
  have t1 := s_l02Times_eq (p := p) (r := w.length) (n := w.length) (c := w.length) (by omega) (by omega) (by omega) (by omega) (by omega) (by omega) hx hm
  have w1 : w64 ((k : Int) + 1) = ((k + 1 : Nat) : Int) := by rw [w_in (by omega) (by omega)]; rfl
  have hd : decide (x = unitm w.length) = false := by simp [he]
  unfold s_OrthogonalOrder_L0
  simp only [q1, hd, some_bind, if_true, t1, w1]
  by_cases h : k = 100000
  · rw [if_pos h, if_pos (by omega)]
  · rw [if_neg h, if_neg (by omega)]
theorem i_ord_step (he : x ≠ unitm w.length) : i_OrthogonalOrder_L0 p w m (unitm w.length) (x, (k : Int)) = some (.inl (timesm p w.length w.length w.length x m, ((k + 1 : Nat) : Int))) := by
  have hz := hx.sz hw hw
  have q2 := i_sameRows_eq (b := unitm w.length) hz.1 hz.2
  have t2 := i_field_times_eq (p := p) (r := w.length) (n := w.length) (c := w.length) (by omega) (by omega) (by omega) (by omega) (by omega) (by omega) hx hm
  have w1 : w64 ((k : Int) + 1) = ((k + 1 : Nat) : Int) := by rw [w_in (by omega) (by omega)]; rfl
  have hd : decide (x = unitm w.length) = false := by simp [he]
  unfold i_OrthogonalOrder_L0 i_Space_field
  simp only [show ((k : Int) ≤ 100000) = True from eq_true (by omega), q2, hd, if_true, some_bind, Bool.false_eq_true, if_false, t2, w1]
end
theorem i_ord_out {p : Int} {w : List Int} {m u x : List (List Int)} {k : Nat} (hk : 100000 < k) : i_OrthogonalOrder_L0 p w m u (x, (k : Int)) = some (.inr (.inl ())) := by
  unfold i_OrthogonalOrder_L0
  simp only []
  rw [if_neg (by omega)]
theorem ord_loops {p : Int} {w : List Int} {m : List (List Int)} (hw : w.length ≤ 1048576) (h0 : 0 < w.length) (hp : 3 ≤ p) (hp2 : p ≤ 13) (hm : Mat p w.length w.length m) (N : Nat) (hN : N = 100003) :
    ∃ b c, loop (s_OrthogonalOrder_L0 p m (unitm w.length)) BIG (m, 1) = some b ∧ loop (i_OrthogonalOrder_L0 p w m (unitm w.length)) BIG (m, 1) = some c ∧
      ∃ V C, (match b with | .inl y => some (y, 0) | .inr t => some t) = some (V, C) ∧ (match c with | .inl _ => some ((0 : Int), (3 : Int)) | .inr t => some t) = some (V, C) := by
  refine loop_ends (fun s => Mat p w.length w.length s.1 ∧ ∃ k : Nat, s.2 = (k : Int) ∧ 1 ≤ k ∧ k ≤ 100000) (fun s => N - s.2.toNat) _ ⟨hm, 1, rfl, by omega, by omega⟩ (by rw [BIG_val]; simp only []; omega) ?_
  rintro ⟨x, t⟩ ⟨hx, k, rfl, hk1, hk2⟩
  simp only [] at hx
  by_cases he : x = unitm w.length
  · refine .inr ⟨.inl (k : Int), .inr ((k : Int), 0), s_ord_end hw h0 hp hp2 hm hx hk2 he, fun n hn => ?_, _, _, rfl, rfl⟩
    cases n with
    | zero => omega
    | succ n => rw [loop_succ, i_ord_end hw h0 hp hp2 hm hx hk2 he]
  · have e1 := s_ord_step hw h0 hp hp2 hm hx hk2 he
    have e2 := i_ord_step hw h0 hp hp2 hm hx hk2 he
    by_cases hk : k = 100000
    · rw [if_pos hk] at e1
      refine .inr ⟨.inr (0, 3), .inl (), e1, fun n hn => ?_, _, _, rfl, rfl⟩
      obtain ⟨n', rfl⟩ : ∃ n', n = n' + 2 := ⟨n - 2, by simp only [Int.toNat_natCast] at hn; omega⟩
      rw [loop_succ, e2]
      simp only []
      rw [loop_succ, i_ord_out (by omega)]
    · rw [if_neg hk] at e1
      exact .inl ⟨_, e1, e2, ⟨timesm_mat (by omega) .., k + 1, rfl, by omega, by omega⟩, by simp only [Int.toNat_natCast]; omega⟩
theorem OrthogonalOrder_eq {p : Int} {w : List Int} {m : List (List Int)} (hw : w.length ≤ 1048576) (h : szM m) : ∃ V C, s_OrthogonalOrder p w m = some (V, C) ∧ i_OrthogonalOrder p w m = some (V, C) := by
  obtain ⟨_, _, K, _, _, k1, k2, k3⟩ := Orth_eq (p := p) hw h
  unfold s_OrthogonalOrder i_OrthogonalOrder i_Space_dim
  rw [k1, k2, some_bind, some_bind]
  by_cases h0 : K = 0
  · obtain ⟨a1, a2⟩ := k3 h0
    obtain ⟨hP, g1, g2, g3⟩ := isSp_iff a1
    have hp := isP_le hP
    obtain ⟨b1, b2, b3⟩ := fr_iff a2
    simp only [h0, not_true_eq_false, if_false, some_bind]
    rw [b2, s_l02Unit_eq hw, i_unit_eq hw, some_bind, some_bind]
    obtain ⟨b, c, l1, l2, V, C, c1, c2⟩ := ord_loops (p := p) (m := m) hw (by omega) (by omega) (by omega) b3 _ rfl
    refine ⟨V, C, ?_, ?_⟩
    · rw [l1, some_bind]; cases b <;> exact c1
    · rw [l2, some_bind]; cases c <;> exact c2
  · simp only [h0, not_false_eq_true, if_true]
    exact ⟨_, _, rfl, rfl⟩

/-! ### The laws -/
theorem LawIsOrthogonal {p : Int} {w : List Int} {m : List (List Int)} (hw : lenI w) (hm : lenM m) : l_FnExactIsOrthogonal p w m = some true := by
  unfold l_FnExactIsOrthogonal
  rw [szSp_eq hw (by omega) (by omega), some_bind]
  by_cases h1 : ((w.length : Nat) : Int) ≤ 1048576
  · have hs : szv w.length 1048576 = 1048576 - ((w.length : Nat) : Int) := by unfold szv; rw [if_pos h1]
    rw [hs, if_neg (by omega), szM_eq hm (by omega) (by omega), some_bind]
    by_cases h2 : ((m.length + rowsum m : Nat) : Int) ≤ 1048576 - ((w.length : Nat) : Int)
    · have hs2 : szv (m.length + rowsum m) (1048576 - ((w.length : Nat) : Int)) = 1048576 - ((w.length : Nat) : Int) - ((m.length + rowsum m : Nat) : Int) := by unfold szv; rw [if_pos h2]
      rw [hs2, if_neg (by omega)]
      obtain ⟨za, ra⟩ := sz_split (m := m) (by omega) h2
      have hw' : w.length ≤ 1048576 := by omega
      obtain ⟨V, C, _, e3, e4, _⟩ := Orth_eq (p := p) hw' za
      have e1 := toM_eq za.1 za.2
      have e2 := toSp_eq (p := p) hw'
      have e5 := eqSp_self (p := p) hw'
      have e6 := eqM_self za
      simp only [e1, e2, e3, e4, e5, e6, some_bind, Bool.true_eq_false, Bool.false_eq_true, if_false, if_true, ieq_self, Bool.not_true, natneg, not_true_eq_false, bne_self_eq_false]
    · have hs2 : szv (m.length + rowsum m) (1048576 - ((w.length : Nat) : Int)) = -1 := by unfold szv; rw [if_neg h2]
      rw [hs2, if_pos (by omega)]
  · have hs : szv w.length 1048576 = -1 := by unfold szv; rw [if_neg h1]
    rw [hs, if_pos (by omega)]
theorem LawIsProper {p : Int} {w : List Int} {m : List (List Int)} (hw : lenI w) (hm : lenM m) : l_FnExactIsProper p w m = some true := by
  unfold l_FnExactIsProper
  rw [szSp_eq hw (by omega) (by omega), some_bind]
  by_cases h1 : ((w.length : Nat) : Int) ≤ 1048576
  · have hs : szv w.length 1048576 = 1048576 - ((w.length : Nat) : Int) := by unfold szv; rw [if_pos h1]
    rw [hs, if_neg (by omega), szM_eq hm (by omega) (by omega), some_bind]
    by_cases h2 : ((m.length + rowsum m : Nat) : Int) ≤ 1048576 - ((w.length : Nat) : Int)
    · have hs2 : szv (m.length + rowsum m) (1048576 - ((w.length : Nat) : Int)) = 1048576 - ((w.length : Nat) : Int) - ((m.length + rowsum m : Nat) : Int) := by unfold szv; rw [if_pos h2]
      rw [hs2, if_neg (by omega)]
      obtain ⟨za, ra⟩ := sz_split (m := m) (by omega) h2
      have hw' : w.length ≤ 1048576 := by omega
      obtain ⟨V, C, e3, e4⟩ := IsProper_eq (p := p) hw' za
      have e1 := toM_eq za.1 za.2
      have e2 := toSp_eq (p := p) hw'
      have e5 := eqSp_self (p := p) hw'
      have e6 := eqM_self za
      simp only [e1, e2, e3, e4, e5, e6, some_bind, Bool.true_eq_false, Bool.false_eq_true, if_false, if_true, ieq_self, Bool.not_true, natneg, not_true_eq_false, bne_self_eq_false]
    · have hs2 : szv (m.length + rowsum m) (1048576 - ((w.length : Nat) : Int)) = -1 := by unfold szv; rw [if_neg h2]
      rw [hs2, if_pos (by omega)]
  · have hs : szv w.length 1048576 = -1 := by unfold szv; rw [if_neg h1]
    rw [hs, if_pos (by omega)]
theorem LawOrthogonalOrder {p : Int} {w : List Int} {m : List (List Int)} (hw : lenI w) (hm : lenM m) : l_FnExactOrthogonalOrder p w m = some true := by
  unfold l_FnExactOrthogonalOrder
  rw [szSp_eq hw (by omega) (by omega), some_bind]
  by_cases h1 : ((w.length : Nat) : Int) ≤ 1048576
  · have hs : szv w.length 1048576 = 1048576 - ((w.length : Nat) : Int) := by unfold szv; rw [if_pos h1]
    rw [hs, if_neg (by omega), szM_eq hm (by omega) (by omega), some_bind]
    by_cases h2 : ((m.length + rowsum m : Nat) : Int) ≤ 1048576 - ((w.length : Nat) : Int)
    · have hs2 : szv (m.length + rowsum m) (1048576 - ((w.length : Nat) : Int)) = 1048576 - ((w.length : Nat) : Int) - ((m.length + rowsum m : Nat) : Int) := by unfold szv; rw [if_pos h2]
      rw [hs2, if_neg (by omega)]
      obtain ⟨za, ra⟩ := sz_split (m := m) (by omega) h2
      have hw' : w.length ≤ 1048576 := by omega
      obtain ⟨V, C, e3, e4⟩ := OrthogonalOrder_eq (p := p) hw' za
      have e1 := toM_eq za.1 za.2
      have e2 := toSp_eq (p := p) hw'
      have e5 := eqSp_self (p := p) hw'
      have e6 := eqM_self za
      simp only [e1, e2, e3, e4, e5, e6, some_bind, Bool.true_eq_false, Bool.false_eq_true, if_false, if_true, ieq_self, Bool.not_true, natneg, not_true_eq_false, bne_self_eq_false]
    · have hs2 : szv (m.length + rowsum m) (1048576 - ((w.length : Nat) : Int)) = -1 := by unfold szv; rw [if_neg h2]
      rw [hs2, if_pos (by omega)]
  · have hs : szv w.length 1048576 = -1 := by unfold szv; rw [if_neg h1]
    rw [hs, if_pos (by omega)]
end Go.Vam

/- Plain laws: products of axes; derivations. -/
namespace Go.Vam
open Go Go.RowKit
set_option linter.unusedSimpArgs false
set_option linter.unusedVariables false
set_option linter.unusedSectionVars false

/-! ### Where a product has something -/
def Zr (n : Nat) (x : List Int) : Prop := ∀ q, q < n → gI x q = 0
def Only (n k : Nat) (x : List Int) : Prop := ∀ q, q < n → q ≠ k → gI x q = 0
theorem plusv_zero_at {p : Int} {n q : Nat} {a b : List Int} {k : Int} (hq : q < n) (ha : gI a q = 0) (hb : gI b q = 0) : gI (plusv p n a b k) q = 0 := by
  unfold plusv; rw [gI_vecN _ hq, ha, hb]; simp
theorem starv_zero_at {p : Int} {n q : Nat} {a : List Int} (hq : q < n) (ha : gI a q = 0) : gI (starv p n a) q = 0 := by
  unfold starv
  rw [gI_set (by unfold scalev; simp; omega)]
  split
  · rename_i h; subst h; exact ha
  · unfold scalev; rw [gI_vecN _ hq, ha]; simp
theorem Zr.star {p : Int} {n : Nat} {a : List Int} (h : Zr n a) : Zr n (starv p n a) := fun q hq => starv_zero_at hq (h q hq)
theorem Only.star {p : Int} {n k : Nat} {a : List Int} (h : Only n k a) : Only n k (starv p n a) := fun q hq hk => starv_zero_at hq (h q hq hk)
theorem Zr.take {n h : Nat} {a : List Int} (hz : Zr n a) (hn : h ≤ n) : Zr h (a.take h) := fun q hq => by rw [gI_take hq]; exact hz q (by omega)
theorem Zr.drop {n h : Nat} {a : List Int} (hz : Zr (h + n) a) : Zr n (a.drop h) := fun q hq => by rw [gI_drop]; exact hz _ (by omega)
theorem gI_halves {p : Int} {h q : Nat} {a b c d : List Int} {k l : Int} (hq : q < h + h) : gI (plusv p h a b k ++ plusv p h c d l) q = if q < h then gI (plusv p h a b k) q else gI (plusv p h c d l) (q - h) := by
  rw [gI_append]
  have : (plusv p h a b k).length = h := by unfold plusv; simp
  rw [this]
theorem mulr_zero {p : Int} : ∀ (n : Nat) (w x y : List Int), (Zr (2 ^ n) x ∨ Zr (2 ^ n) y) → Zr (2 ^ n) (mulr p n w x y) := by
  intro n
  induction n with
  | zero =>
    intro w x y h q hq
    have hq0 : q = 0 := by simpa using hq
    subst hq0
    unfold mulr
    show gI x 0 * gI y 0 % p = 0
    rcases h with h | h
    · rw [h 0 (by decide)]; simp
    · rw [h 0 (by decide)]; simp
  | succ n ih =>
    intro w x y h
    have hpow : 2 ^ (n + 1) = 2 ^ n + 2 ^ n := by rw [Nat.pow_succ]; omega
    unfold mulr
    rw [hpow] at h ⊢
    have ih' := ih (w.take n)
    generalize 2 ^ n = d at h ih' ⊢
    have key : ∀ a b c e : List Int, Zr d a → Zr d b → Zr d c → Zr d e → ∀ k l, Zr (d + d) (plusv p d a b k ++ plusv p d c e l) := by
      intro a b c e ha hb hc he k l q hq
      rw [gI_halves hq]
      split
      · exact plusv_zero_at (by assumption) (ha q (by assumption)) (hb q (by assumption))
      · exact plusv_zero_at (by omega) (hc _ (by omega)) (he _ (by omega))
    rcases h with h | h
    · exact key _ _ _ _ (ih' _ _ (.inl (h.take (by omega)))) (ih' _ _ (.inr h.drop)) (ih' _ _ (.inr (h.take (by omega)))) (ih' _ _ (.inl h.drop)) _ _
    · exact key _ _ _ _ (ih' _ _ (.inr (h.take (by omega)))) (ih' _ _ (.inl h.drop.star)) (ih' _ _ (.inl h.drop)) (ih' _ _ (.inr (h.take (by omega)).star)) _ _
theorem xor_hi : ∀ n, n < 4 → ∀ i, i < 2 ^ n → ∀ j, j < 2 ^ n → i ^^^ (2 ^ n + j) = 2 ^ n + (i ^^^ j) ∧ (2 ^ n + i) ^^^ j = 2 ^ n + (i ^^^ j) ∧ (2 ^ n + i) ^^^ (2 ^ n + j) = i ^^^ j := by decide
theorem mulr_only {p : Int} : ∀ (n : Nat), n ≤ 4 → ∀ (w x y : List Int) (i j : Nat), i < 2 ^ n → j < 2 ^ n → Only (2 ^ n) i x → Only (2 ^ n) j y → Only (2 ^ n) (i ^^^ j) (mulr p n w x y) := by
  intro n
  induction n with
  | zero =>
    intro _ w x y i j hi hj hx hy q hq hk
    have h1 : q = 0 := by simpa using hq
    have h2 : i = 0 := by simpa using hi
    have h3 : j = 0 := by simpa using hj
    subst h1; subst h2; subst h3
    simp at hk
  | succ n ih =>
    intro hn w x y i j hi hj hx hy
    have hpow : 2 ^ (n + 1) = 2 ^ n + 2 ^ n := by rw [Nat.pow_succ]; omega
    have hX := xor_hi n (by omega)
    have hlt : ∀ a b, a < 2 ^ n → b < 2 ^ n → a ^^^ b < 2 ^ n := fun a b ha hb => xor_lt ha hb
    unfold mulr
    rw [hpow] at hi hj hx hy ⊢
    have ih' := ih (by omega) (w.take n)
    have iz := mulr_zero (p := p) n (w.take n)
    generalize 2 ^ n = d at hi hj hx hy ih' iz hX hlt ⊢
    have lo : ∀ a b c e : List Int, ∀ t, Only d t a → Only d t b → Zr d c → Zr d e → ∀ k l, Only (d + d) t (plusv p d a b k ++ plusv p d c e l) := by
      intro a b c e t ha hb hc he k l q hq hqt
      rw [gI_halves hq]
      split
      · exact plusv_zero_at (by assumption) (ha q (by assumption) hqt) (hb q (by assumption) hqt)
      · exact plusv_zero_at (by omega) (hc _ (by omega)) (he _ (by omega))
    have up : ∀ a b c e : List Int, ∀ t, Zr d a → Zr d b → Only d t c → Only d t e → ∀ k l, Only (d + d) (d + t) (plusv p d a b k ++ plusv p d c e l) := by
      intro a b c e t ha hb hc he k l q hq hqt
      rw [gI_halves hq]
      split
      · exact plusv_zero_at (by assumption) (ha q (by assumption)) (hb q (by assumption))
      · exact plusv_zero_at (by omega) (hc _ (by omega) (by omega)) (he _ (by omega) (by omega))
    have tk : ∀ (u : List Int) s, s < d → Only (d + d) s u → Only d s (u.take d) ∧ Zr d (u.drop d) := fun u s hs hu =>
      ⟨fun q hq hk => by rw [gI_take hq]; exact hu q (by omega) hk, fun q hq => by rw [gI_drop]; exact hu _ (by omega) (by omega)⟩
    have dp : ∀ (u : List Int) s, d ≤ s → Only (d + d) s u → Zr d (u.take d) ∧ Only d (s - d) (u.drop d) := fun u s hs hu =>
      ⟨fun q hq => by rw [gI_take hq]; exact hu q (by omega) (by omega), fun q hq hk => by rw [gI_drop]; exact hu _ (by omega) (by omega)⟩
    have oz : ∀ (u : List Int) s, Zr d u → Only d s u := fun u s hu q hq _ => hu q hq
    rcases Nat.lt_or_ge i d with hid | hid <;> rcases Nat.lt_or_ge j d with hjd | hjd
    · obtain ⟨x1, x2⟩ := tk x i hid hx
      obtain ⟨y1, y2⟩ := tk y j hjd hy
      exact lo _ _ _ _ _ (ih' _ _ i j hid hjd x1 y1) (oz _ _ (iz _ _ (.inr x2))) (iz _ _ (.inl y2)) (iz _ _ (.inl x2)) _ _
    · obtain ⟨x1, x2⟩ := tk x i hid hx
      obtain ⟨y1, y2⟩ := dp y j hjd hy
      have e : i ^^^ j = d + ((j - d) ^^^ i) := by
        have := (hX i hid (j - d) (by omega)).1
        rw [show d + (j - d) = j by omega] at this
        rw [this, Nat.xor_comm]
      rw [e]
      exact up _ _ _ _ _ (iz _ _ (.inr y1)) (iz _ _ (.inr x2)) (ih' _ _ (j - d) i (by omega) hid y2 x1) (oz _ _ (iz _ _ (.inl x2))) _ _
    · obtain ⟨x1, x2⟩ := dp x i hid hx
      obtain ⟨y1, y2⟩ := tk y j hjd hy
      have e : i ^^^ j = d + ((i - d) ^^^ j) := by
        have := (hX (i - d) (by omega) j hjd).2.1
        rw [show d + (i - d) = i by omega] at this
        exact this
      rw [e]
      exact up _ _ _ _ _ (iz _ _ (.inl x1)) (iz _ _ (.inl y2.star)) (oz _ _ (iz _ _ (.inl y2))) (ih' _ _ (i - d) j (by omega) hjd x2 y1.star) _ _
    · obtain ⟨x1, x2⟩ := dp x i hid hx
      obtain ⟨y1, y2⟩ := dp y j hjd hy
      have e : i ^^^ j = (j - d) ^^^ (i - d) := by
        have := (hX (i - d) (by omega) (j - d) (by omega)).2.2
        rw [show d + (i - d) = i by omega, show d + (j - d) = j by omega] at this
        rw [this, Nat.xor_comm]
      rw [e]
      exact lo _ _ _ _ _ (oz _ _ (iz _ _ (.inl x1))) (ih' _ _ (j - d) (i - d) (by omega) (by omega) y2.star x2) (iz _ _ (.inr x1)) (iz _ _ (.inr y1.star)) _ _
theorem gI_axis {n k q : Nat} (hk : k < n) : gI (axis n k) q = if q = k then 1 else 0 := by
  unfold axis
  rw [gI_set (by simpa using hk)]
  by_cases h : k = q
  · rw [if_pos h, if_pos h.symm]
  · rw [if_neg h, if_neg (fun e => h e.symm)]
    unfold gI
    rw [List.getD_eq_getElem?_getD, List.getElem?_replicate]
    split <;> rfl
theorem axm_only {p : Int} {w : List Int} (hl : w.length ≤ 4) {i j : Nat} (hi : i < 2 ^ w.length) (hj : j < 2 ^ w.length) : Only (2 ^ w.length) (i ^^^ j) (axm p w i j) := by
  unfold axm mulp
  refine mulr_only w.length hl w _ _ i j hi hj (fun q hq hk => ?_) (fun q hq hk => ?_)
  · rw [gI_axis hi, if_neg hk]
  · rw [gI_axis hj, if_neg hk]
theorem sumN_one {f : Nat → Int} {n k : Nat} (hk : k < n) (h : ∀ q, q < n → q ≠ k → f q = 0) : sumN f n = f k := by
  have key : ∀ m, m ≤ n → sumN f m = if k < m then f k else 0 := by
    intro m
    induction m with
    | zero => intro _; rfl
    | succ m ih =>
      intro hm
      rw [sumN, ih (by omega)]
      by_cases h1 : k < m
      · rw [if_pos h1, if_pos (by omega), h m (by omega) (by omega), Int.add_zero]
      · rw [if_neg h1]
        by_cases h2 : m = k
        · subst h2; rw [if_pos (by omega), Int.zero_add]
        · rw [if_neg (by omega), h m (by omega) h2, Int.add_zero]
  rw [key n (Nat.le_refl _), if_pos hk]
/-- A column. -/
def colv (n : Nat) (m : List (List Int)) (k : Nat) : List Int := vecN n fun i => gI (gR m i) k
section
variable {p : Int} {n k : Nat} {m : List (List Int)} (hn : n ≤ 1048576) (hm : Mat p n n m) (hk : k < n)
include hn hm hk
theorem colv_vec : Vec p n (colv n m k) := Vec.mk' fun i hi => (hm.row hi).get hk
theorem s_l14Column_eq : s_l14Column m (k : Int) = some (colv n m k) := by
  unfold s_l14Column
  have e1 := hm.1
  rw [map_loop _ n (fun i => gI (gR m i) k) (by rw [BIG_val]; omega)]
  · rfl
  · intro i hi out ho
    unfold s_l14Column_L0
    have e3 := (hm.row hi).1
    simp only [show (i : Int) < m.length by omega, if_true, idxR (show i < m.length by omega), idxI (show k < (gR m i).length by omega), some_bind]
    rw [chk_bind (by simp only [List.length_cons, List.length_nil]; omega), w_in (by omega) (by omega)]; rfl
  · intro out ho
    unfold s_l14Column_L0
    simp [e1]
theorem i_column_eq : i_column m (k : Int) = some (colv n m k) := s_l14Column_eq hn hm hk
theorem apply_only {v : List Int} (hv : Vec p n v) (ho : Only n k v) : applyv p n n m v = scalev p n (colv n m k) (gI v k) := by
  unfold applyv scalev
  refine vecN_congr fun i hi => ?_
  unfold dotp colv
  rw [gI_vecN _ hi, sumN_one hk (fun q hq hqk => by rw [ho q hq hqk, Int.mul_zero])]
end
theorem lead_zero {v : List Int} (hv : v.length ≤ 1048576) (hz : ∀ k, k < v.length → gI v k = 0) : i_lead v = some (v.length : Int) := by
  unfold i_lead
  rw [loop_for (b := (v.length : Int)) (s := 0) (fun k => (k : Int)) v.length (by rw [BIG_val]; omega) rfl]
  · rfl
  · intro k hk
    unfold i_lead_L0
    simp only [show (k : Int) < (v.length : Int) by omega, if_true, idxI hk, some_bind, hz k hk, ieq_self]
    rw [w_in (by omega) (by omega)]; rfl
  · unfold i_lead_L0
    simp
theorem i_isZero_eq {v : List Int} (hv : v.length ≤ 1048576) : ∃ b, i_isZero v = some b ∧ (b = true ↔ ∀ k, k < v.length → gI v k = 0) := by
  unfold i_isZero
  by_cases h : ∀ k, k < v.length → gI v k = 0
  · rw [lead_zero hv h, some_bind]
    exact ⟨_, rfl, by simp [ieq]; exact h⟩
  · have : ∃ q, q < v.length ∧ gI v q ≠ 0 := by
      apply Classical.byContradiction
      intro hc
      exact h fun k hk => Classical.byContradiction fun h0 => hc ⟨k, hk, h0⟩
    obtain ⟨q, hq, h0⟩ := this
    obtain ⟨f, f1, _, f3, f4, _⟩ := first_two hv hq h0
    rw [f3, some_bind]
    refine ⟨_, rfl, ?_⟩
    rw [ieq_nat, decide_eq_true_eq]
    constructor
    · intro e; omega
    · intro e; exact absurd e h
theorem diff_zero {p : Int} {n : Nat} {a b : List Int} (hp : 0 < p) (ha : Vec p n a) (hb : Vec p n b) : (∀ k, k < n → gI (plusv p n a b (-1)) k = 0) ↔ b = a := by
  constructor
  · intro h
    have : b = vecN n (gI a) := extI hb.1 fun k hk => by
      have h1 := h k hk
      unfold plusv at h1
      rw [gI_vecN _ hk] at h1
      have h2 := ha.get hk
      have h3 := hb.get hk
      have h4 : (gI a k + -1 * gI b k) = gI a k - gI b k := by omega
      rw [h4] at h1
      have h5 := Int.emod_emod_of_dvd (gI a k) (Int.dvd_refl p)
      have h6 : gI a k % p = gI b k % p := Int.emod_eq_emod_iff_emod_sub_eq_zero.2 h1
      rw [mod_small h2.1 h2.2, mod_small h3.1 h3.2] at h6
      exact h6.symm
    rw [this]; exact (extI ha.1 fun k _ => rfl).symm
  · rintro rfl k hk
    unfold plusv
    rw [gI_vecN _ hk]
    have : gI b k + -1 * gI b k = 0 := by omega
    rw [this]; simp

/-! ### Derivations -/
section
variable {p : Int} {w : List Int} {m : List (List Int)} (hP : isP p = true) (hl : w.length ≤ 4) (hw : Vec p w.length w) (hm : Mat p (2 ^ w.length) (2 ^ w.length) m)
def leib (p : Int) (w : List Int) (m : List (List Int)) (i j : Nat) : List Int :=
  plusv p (2 ^ w.length) (mulp p w (colv (2 ^ w.length) m i) (axis (2 ^ w.length) j)) (mulp p w (axis (2 ^ w.length) i) (colv (2 ^ w.length) m j)) 1
def imgv (p : Int) (w : List Int) (m : List (List Int)) (i j : Nat) : List Int := scalev p (2 ^ w.length) (colv (2 ^ w.length) m (i ^^^ j)) (gI (axm p w i j) (i ^^^ j))
def dvB (p : Int) (w : List Int) (m : List (List Int)) (i j : Nat) : Bool := decide (imgv p w m i j = leib p w m i j)
include hP hl hw hm
theorem s_l14Derivation_eq : s_l14Derivation p w m = some ((List.range (2 ^ w.length)).all fun i => (List.range (2 ^ w.length)).all (dvB p w m i)) := by
  have hp := isP_le hP
  have h16 := two_le hl
  have hT := prodm_mat hP hl hw
  have e0 := hT.1
  have inner : ∀ i : Nat, i < 2 ^ w.length → loop (s_l14Derivation_L1 p w m (prodm p w) ((2 ^ w.length : Nat) : Int) (i : Int)) BIG 0 = some (if (List.range (2 ^ w.length)).all (dvB p w m i) then .inl () else .inr (.inr (.inr false))) := by
    intro i hi
    have core : ∀ j : Nat, j < 2 ^ w.length → s_l14Derivation_L1 p w m (prodm p w) ((2 ^ w.length : Nat) : Int) (i : Int) (j : Int) = if dvB p w m i j = true then some (.inl ((j + 1 : Nat) : Int)) else some (.inr (.inr (.inr (.inr false)))) := by
      intro j hj
      have hx := xor_lt hi hj
      have e1 := (hT.row hi).1
      have ei := axis_vec (p := p) (by omega) hi
      have ej := axis_vec (p := p) (by omega) hj
      have ci := colv_vec (by omega) hm hi
      have cj := colv_vec (by omega) hm hj
      have cx := colv_vec (by omega) hm hx
      have hc := (axm_vec hP hl hw hi hj).get hx
      have hTij : gI (gR (prodm p w) i) j = gI (axm p w i j) (i ^^^ j) := by unfold prodm; rw [gR_vecN _ hi, gI_vecN _ hj]
      have sc := s_l11Scale_eq hp.1 hp.2 (show 2 ^ w.length ≤ 1048576 by omega) hc.1 (by omega) cx
      have ad := s_l11Add_eq hp.1 hp.2 (show 2 ^ w.length ≤ 1048576 by omega) (mulp_vec hP hl hw ci ej) (mulp_vec hP hl hw ei cj)
      unfold s_l14Derivation_L1
      simp only [lt_cast hj, if_true, idxR (show i < (prodm p w).length by omega), idxI (show j < (gR (prodm p w) i).length by omega), some_bind, hTij, bxor_k i (by omega) j (by omega), s_l14Column_eq (by omega) hm hx, s_l14Column_eq (by omega) hm hi, s_l14Column_eq (by omega) hm hj, sc, s_l11One_eq hl hi, s_l11One_eq hl hj,
        s_l11Times_eq hP hl hw ci ej, s_l11Times_eq hP hl hw ei cj, ad]
      have hlen : (scalev p (2 ^ w.length) (colv (2 ^ w.length) m (i ^^^ j)) (gI (axm p w i j) (i ^^^ j))).length ≤ 1048576 := by unfold scalev; simp; omega
      rw [s_l01Same_eq hlen, some_bind, w_in (by omega) (by omega)]
      show (if dvB p w m i j = false then _ else _) = _
      cases dvB p w m i j <;> rfl
    refine all_loop _ (2 ^ w.length) (dvB p w m i) _ (by rw [BIG_val]; omega) ?_ ?_ ?_
    · intro j hj hf
      rw [core j hj, if_pos hf]
    · intro j hj hf
      rw [core j hj, if_neg (by simp [hf])]
    · unfold s_l14Derivation_L1
      simp only [lt_cast_self, if_false]
  unfold s_l14Derivation
  rw [s_l11Basis_eq hP hl hw, some_bind, s_l11Size_eq hl, some_bind, all_loop _ (2 ^ w.length) (fun i => (List.range (2 ^ w.length)).all (dvB p w m i)) false (by rw [BIG_val]; omega)]
  · rw [some_bind]
    cases (List.range (2 ^ w.length)).all fun i => (List.range (2 ^ w.length)).all (dvB p w m i) <;> rfl
  · intro i hi hf
    unfold s_l14Derivation_L0
    rw [if_pos (by omega), inner i hi, hf, w_in (by omega) (by omega)]; rfl
  · intro i hi hf
    unfold s_l14Derivation_L0
    rw [if_pos (by omega), inner i hi, hf]; rfl
  · unfold s_l14Derivation_L0
    simp only [lt_cast_self, if_false]
theorem i_Doubling_isDerivation_eq : i_Doubling_isDerivation p w m = some ((List.range (2 ^ w.length)).all fun i => (List.range (2 ^ w.length)).all (dvB p w m i)) := by
  have hp := isP_le hP
  have h16 := two_le hl
  have e0 := (unitm_mat (p := p) (by omega) (2 ^ w.length)).1
  have inner : ∀ i : Nat, i < 2 ^ w.length → loop (i_Doubling_isDerivation_L1 p w m p (i : Int) (axis (2 ^ w.length) i) (unitm (2 ^ w.length))) BIG 0 = some (if (List.range (2 ^ w.length)).all (dvB p w m i) then .inl () else .inr (.inr (.inr false))) := by
    intro i hi
    have core : ∀ j : Nat, j < 2 ^ w.length → i_Doubling_isDerivation_L1 p w m p (i : Int) (axis (2 ^ w.length) i) (unitm (2 ^ w.length)) (j : Int) = if dvB p w m i j = true then some (.inl ((j + 1 : Nat) : Int)) else some (.inr (.inr (.inr (.inr false)))) := by
      intro j hj
      have hx := xor_lt hi hj
      have ei := axis_vec (p := p) (by omega) hi
      have ej := axis_vec (p := p) (by omega) hj
      have ci := colv_vec (by omega) hm hi
      have cj := colv_vec (by omega) hm hj
      have hav := axm_vec hP hl hw hi hj
      have m1 := mulp_vec hP hl hw ci ej
      have m2 := mulp_vec hP hl hw ei cj
      have p1 := i_field_plus_eq (p := p) (k := 1) (by omega) (by omega) (show 2 ^ w.length ≤ 1048576 by omega) (by omega) m1 m2
      have ap := i_field_apply_eq (show 0 < p by omega) (show p ≤ 13 by omega) (show 2 ^ w.length ≤ 1048576 by omega) (show 2 ^ w.length ≤ 1048576 by omega) hm hav
      rw [apply_only (by omega) hm hx hav (axm_only hl hi hj)] at ap
      have v1 : Vec p (2 ^ w.length) (leib p w m i j) := plusv_vec (by omega) ..
      have v2 : Vec p (2 ^ w.length) (imgv p w m i j) := scalev_vec (by omega) ..
      have p2 := i_field_plus_eq (p := p) (k := -1) (by omega) (by omega) (show 2 ^ w.length ≤ 1048576 by omega) (by omega) v1 v2
      have hlen : (plusv p (2 ^ w.length) (leib p w m i j) (imgv p w m i j) (-1)).length = 2 ^ w.length := by unfold plusv; simp
      obtain ⟨b, b1, b2⟩ := i_isZero_eq (v := plusv p (2 ^ w.length) (leib p w m i j) (imgv p w m i j) (-1)) (by omega)
      rw [hlen, diff_zero (by omega) v1 v2] at b2
      have hb : b = dvB p w m i j := by
        unfold dvB
        rw [Bool.eq_iff_iff, b2, decide_eq_true_eq]
      unfold i_Doubling_isDerivation_L1
      simp only [e0, lt_cast hj, if_true, idxR (show j < (unitm (2 ^ w.length)).length by omega), gR_unitm hj, some_bind, i_column_eq (by omega) hm hi, i_column_eq (by omega) hm hj, i_Doubling_times_eq hP hl hw ci ej, i_Doubling_times_eq hP hl hw ei cj, i_Doubling_times_eq hP hl hw ei ej, p1]
      rw [show mulp p w (axis (2 ^ w.length) i) (axis (2 ^ w.length) j) = axm p w i j from rfl, ap, some_bind]
      show ((i_field_plus p (leib p w m i j) (imgv p w m i j) (-1)).bind _) = _
      rw [p2, some_bind, b1, some_bind, hb, w_in (by omega) (by omega)]
      cases dvB p w m i j <;> rfl
    refine all_loop _ (2 ^ w.length) (dvB p w m i) _ (by rw [BIG_val]; omega) ?_ ?_ ?_
    · intro j hj hf
      rw [core j hj, if_pos hf]
    · intro j hj hf
      rw [core j hj, if_neg (by simp [hf])]
    · unfold i_Doubling_isDerivation_L1
      simp only [e0, lt_cast_self, if_false]
  unfold i_Doubling_isDerivation i_Doubling_field
  rw [some_bind, i_Doubling_size_eq hl, some_bind, i_unit_eq (by omega), some_bind, all_loop _ (2 ^ w.length) (fun i => (List.range (2 ^ w.length)).all (dvB p w m i)) false (by rw [BIG_val]; omega)]
  · rw [some_bind]
    cases (List.range (2 ^ w.length)).all fun i => (List.range (2 ^ w.length)).all (dvB p w m i) <;> rfl
  · intro i hi hf
    unfold i_Doubling_isDerivation_L0
    rw [e0, if_pos (by omega), idxR (by omega), some_bind, gR_unitm hi, i_Doubling_size_eq hl, some_bind, i_unit_eq (by omega), some_bind, inner i hi, hf, w_in (by omega) (by omega)]; rfl
  · intro i hi hf
    unfold i_Doubling_isDerivation_L0
    rw [e0, if_pos (by omega), idxR (by omega), some_bind, gR_unitm hi, i_Doubling_size_eq hl, some_bind, i_unit_eq (by omega), some_bind, inner i hi, hf]; rfl
  · unfold i_Doubling_isDerivation_L0
    simp only [e0, lt_cast_self, if_false]
end
theorem IsDerivation_eq {p : Int} {w : List Int} {m : List (List Int)} (hw : w.length ≤ 1048576) (h : szM m) : ∃ V C, s_IsDerivation p w m = some (V, C) ∧ i_IsDerivation p w m = some (V, C) := by
  have hsm : ∀ x ∈ [m], szM x := fun x hx => by simp only [List.mem_singleton] at hx; exact hx ▸ h
  unfold s_IsDerivation i_IsDerivation
  rw [s_l14Two_eq hw (by simp) hsm, i_checkThree_eq hw ⟨by simp, by simp⟩ (by simp) hsm, some_bind, some_bind]
  by_cases h0 : thC p w [] [m] = 0
  · obtain ⟨a1, a2, _, a4⟩ := thC_zero h0
    obtain ⟨hP, hl, hv, _⟩ := isDb_iff a1
    have hM := a4 m (by simp)
    simp only [h0, not_true_eq_false, if_false, s_l14Derivation_eq hP hl hv hM, i_Doubling_isDerivation_eq hP hl hv hM, some_bind]
    exact ⟨_, _, rfl, rfl⟩
  · simp only [h0, not_false_eq_true, if_true]
    exact ⟨_, _, rfl, rfl⟩
theorem LawIsDerivation {p : Int} {w : List Int} {m : List (List Int)} (hw : lenI w) (hm : lenM m) : l_FnExactIsDerivation p w m = some true := by
  unfold l_FnExactIsDerivation
  rw [szDb_eq hw (by omega) (by omega), some_bind]
  by_cases h1 : ((w.length : Nat) : Int) ≤ 1048576
  · have hs : szv w.length 1048576 = 1048576 - ((w.length : Nat) : Int) := by unfold szv; rw [if_pos h1]
    rw [hs, if_neg (by omega), szM_eq hm (by omega) (by omega), some_bind]
    by_cases h2 : ((m.length + rowsum m : Nat) : Int) ≤ 1048576 - ((w.length : Nat) : Int)
    · have hs2 : szv (m.length + rowsum m) (1048576 - ((w.length : Nat) : Int)) = 1048576 - ((w.length : Nat) : Int) - ((m.length + rowsum m : Nat) : Int) := by unfold szv; rw [if_pos h2]
      rw [hs2, if_neg (by omega)]
      obtain ⟨za, ra⟩ := sz_split (m := m) (by omega) h2
      have hw' : w.length ≤ 1048576 := by omega
      obtain ⟨V, C, e3, e4⟩ := IsDerivation_eq (p := p) hw' za
      have e1 := toM_eq za.1 za.2
      have e2 := toDb_eq (p := p) hw'
      have e5 := eqDb_self (p := p) hw'
      have e6 := eqM_self za
      simp only [e1, e2, e3, e4, e5, e6, some_bind, Bool.true_eq_false, Bool.false_eq_true, if_false, if_true, ieq_self, Bool.not_true, natneg, not_true_eq_false, bne_self_eq_false]
    · have hs2 : szv (m.length + rowsum m) (1048576 - ((w.length : Nat) : Int)) = -1 := by unfold szv; rw [if_neg h2]
      rw [hs2, if_pos (by omega)]
  · have hs : szv w.length 1048576 = -1 := by unfold szv; rw [if_neg h1]
    rw [hs, if_pos (by omega)]
end Go.Vam
