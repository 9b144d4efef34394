/- Plain laws: the laws of applying, adding, scaling tables. -/
import Derived.Test.YtdoimfkonaeceaaPlN
namespace Go.Vam
open Go Go.RowKit
set_option linter.unusedSimpArgs false
set_option linter.unusedVariables false

theorem isMat_sz {p : Int} {m : List (List Int)} (h : isMat p m = true) : m.length ≤ 16 ∧ wid m ≤ 16 ∧ Mat p m.length (wid m) m ∧ isP p = true ∧ 1 ≤ m.length ∧ 1 ≤ wid m := by
  obtain ⟨a, b, c, d, e, f⟩ := isMat_iff.1 h
  exact ⟨c, e, f, a, b, d⟩

/-! ### Results' sizes -/
theorem vec_sz {p : Int} {n : Nat} {v : List Int} (h : Vec p n v) : v.length = n := h.1
theorem rowsum_vecN (r c : Nat) (f : Nat → List Int) (h : ∀ i, i < r → (f i).length = c) : rowsum (vecN r f) = r * c := by
  unfold rowsum
  have : (vecN r f).map List.length = List.replicate r c := by
    apply List.ext_getElem
    · simp
    · intro k h1 h2
      simp only [List.getElem_map, List.getElem_replicate]
      rw [vecN_get]
      exact h k (by simpa using h1)
  rw [this]; simp
theorem mat_rowsum {p : Int} {r c : Nat} {m : List (List Int)} (h : Mat p r c m) : rowsum m = r * c := by
  have e : m = vecN r (gR m) := extR h.1 fun k hk => rfl
  rw [e]; exact rowsum_vecN r c _ fun i hi => (h.row hi).1

/-! ### Applying -/
def apV (p : Int) (m : List (List Int)) (v : List Int) : List Int := if isMat p m then (if v.length = wid m ∧ nums p v = true then applyv p m.length (wid m) m v else []) else []
def apC (p : Int) (m : List (List Int)) (v : List Int) : Int := if isMat p m then (if v.length = wid m ∧ nums p v = true then 0 else 2) else 1
theorem s_ApplyMatrix_eq {p : Int} {m : List (List Int)} {v : List Int} (h : szM m) (hv : v.length ≤ 1048576) : s_ApplyMatrix p m v = some (apV p m v, apC p m v) := by
  unfold s_ApplyMatrix apV apC
  rw [s_l02Is_eq h, some_bind]
  cases hm : isMat p m with
  | false => simp
  | true =>
    obtain ⟨h1, h2, h3, hP, h4, h5⟩ := isMat_sz hm
    have hp := isP_le hP
    simp only [Bool.true_eq_false, if_false, if_true]
    rw [idxR0 (by omega), some_bind]
    have hw : (gR m 0).length = wid m := rfl
    by_cases hl : v.length = wid m
    · rw [if_neg (by omega), s_l01Numbers_eq (by omega) (by omega) hv, some_bind, some_bind]
      cases hn : nums p v with
      | false => simp [hl]
      | true =>
        have hvv : Vec p (wid m) v := hl ▸ Vec.of hn
        simp only [Bool.not_true, Bool.false_eq_true, if_false, hl, and_self, if_true]
        rw [s_l02Apply_eq (by omega) (by omega) (by omega) (by omega) h3 hvv, some_bind]
    · rw [if_pos (by omega), some_bind]
      simp [hl]
theorem i_ApplyMatrix_eq {p : Int} {m : List (List Int)} {v : List Int} (h : szM m) (hv : v.length ≤ 1048576) : i_ApplyMatrix p m v = some (apV p m v, apC p m v) := by
  unfold i_ApplyMatrix apV apC
  rw [checkM1 h, some_bind]
  cases hm : isMat p m with
  | false => simp
  | true =>
    obtain ⟨h1, h2, h3, hP, h4, h5⟩ := isMat_sz hm
    have hp := isP_le hP
    simp only [if_true, not_true_eq_false, if_false]
    rw [idxR0 (by omega), some_bind]
    have hw : (gR m 0).length = wid m := rfl
    by_cases hl : v.length = wid m
    · rw [if_neg (by omega), i_field_is_eq (by omega) (by omega) hv, some_bind, some_bind]
      cases hn : nums p v with
      | false => simp [hl]
      | true =>
        have hvv : Vec p (wid m) v := hl ▸ Vec.of hn
        simp only [Bool.not_true, Bool.false_eq_true, if_false, hl, and_self, if_true]
        rw [i_field_apply_eq (by omega) (by omega) (by omega) (by omega) h3 hvv, some_bind]
    · rw [if_pos (by omega), some_bind]
      simp [hl]
theorem apV_sz (p : Int) (m : List (List Int)) (v : List Int) : (apV p m v).length ≤ 16 := by
  unfold apV
  split
  · rename_i h
    split
    · simp [applyv, (isMat_sz h).1]
    · simp
  · simp

theorem LawApply {p : Int} {m : List (List Int)} {v : List Int} (hm : lenM m) (hv : lenI v) : l_FnExactApplyMatrix p m v = some true := by
  unfold l_FnExactApplyMatrix
  by_cases h1 : 1048576 < (v.length : Int)
  · rw [if_pos h1]
  rw [if_neg h1, szM_eq hm (by omega) (by omega), some_bind]
  by_cases h2 : ((m.length + rowsum m : Nat) : Int) ≤ 1048576
  · have hs : szv (m.length + rowsum m) 1048576 = 1048576 - ((m.length + rowsum m : Nat) : Int) := by unfold szv; rw [if_pos h2]
    rw [hs, if_neg (by omega)]
    have hsz : szM m := ⟨by omega, fun r hr => by have := rowsum_mem hr; omega⟩
    have hr := apV_sz p m v
    have e1 := toM_eq hsz.1 hsz.2
    have e2 : l_toInt64S v = some v := toI_eq (by omega)
    have e3 := s_ApplyMatrix_eq (p := p) hsz (v := v) (by omega)
    have e4 := i_ApplyMatrix_eq (p := p) hsz (v := v) (by omega)
    have e5 : l_eqInt64S (apV p m v) (apV p m v) = some true := by rw [eqI_eq _ _ (by omega)]; simp
    have e6 : l_eqInt64SS m m = some true := by rw [eqM_eq _ _ hsz.1 hsz.2]; simp
    have e7 : l_eqInt64S v v = some true := by rw [eqI_eq _ _ (by omega)]; simp
    have e8 := markM_1 hsz.1 (m := m) (by omega)
    have e9 : l_markInt64S v ((1 + rowsum m : Nat) : Int) = some (((1 + rowsum m + v.length : Nat) : Int), mrkI (1 + rowsum m) v) := markI_eq (by omega)
    have e10 := markI_1 (xs := apV p m v) (by omega)
    have e11 := heldI_1 (xs := apV p m v) (by omega)
    simp only [e1, e2, e3, e4, e5, e6, e7, e8, e9, e10, e11, some_bind, Bool.true_eq_false, Bool.false_eq_true, if_false, if_true, ieq_self, Bool.not_true, natneg, not_true_eq_false]
  · have hs : szv (m.length + rowsum m) 1048576 = -1 := by unfold szv; rw [if_neg h2]
    rw [hs, if_pos (by omega)]

/-! ### Adding -/
def addm (p : Int) (r c : Nat) (a b : List (List Int)) : List (List Int) := vecN r fun i => plusv p c (gR a i) (gR b i) 1
theorem addm_mat {p : Int} (hp : 0 < p) (r c : Nat) (a b : List (List Int)) : Mat p r c (addm p r c a b) := Mat.mk' fun i _ => plusv_vec hp ..
def adV (p : Int) (a b : List (List Int)) : List (List Int) := if isMat p a && isMat p b then (if a.length = b.length ∧ wid a = wid b then addm p a.length (wid a) a b else []) else []
def adC (p : Int) (a b : List (List Int)) : Int := if isMat p a && isMat p b then (if a.length = b.length ∧ wid a = wid b then 0 else 2) else 1
section
variable {p : Int} {r c : Nat} {a b : List (List Int)} (hp : 0 < p) (hp2 : p ≤ 13) (hr : r ≤ 1048576) (hc : c ≤ 1048576) (ha : Mat p r c a) (hb : Mat p r c b)
include hp hp2 hr hc ha hb
theorem s_add_loop : loop (s_AddMatrices_L0 p a b) BIG ([], 0) = some (addm p r c a b) := by
  rw [map_loop _ r (fun i => plusv p c (gR a i) (gR b i) 1) (by rw [BIG_val]; omega)]
  · rfl
  · intro i hi out ho
    unfold s_AddMatrices_L0
    have e1 := ha.1; have e2 := hb.1
    simp only [show (i : Int) < a.length by omega, if_true, idxR (show i < a.length by omega), idxR (show i < b.length by omega), some_bind]
    rw [s_l02Plus_eq hp hp2 hc (by omega) (by omega) (ha.row hi) (hb.row hi), some_bind, chk_bind (by simp only [List.length_cons, List.length_nil]; omega), w_in (by omega) (by omega)]
    rfl
  · intro out ho
    unfold s_AddMatrices_L0
    have e1 := ha.1
    simp [e1]
theorem i_add_loop : loop (i_AddMatrices_L0 p a b) BIG ([], 0) = some (addm p r c a b) := by
  rw [map_loop _ r (fun i => plusv p c (gR a i) (gR b i) 1) (by rw [BIG_val]; omega)]
  · rfl
  · intro i hi out ho
    unfold i_AddMatrices_L0
    have e1 := ha.1; have e2 := hb.1
    simp only [show (i : Int) < a.length by omega, if_true, idxR (show i < a.length by omega), idxR (show i < b.length by omega), some_bind]
    rw [i_field_plus_eq hp hp2 hc (by omega) (ha.row hi) (hb.row hi), some_bind, chk_bind (by simp only [List.length_cons, List.length_nil]; omega), w_in (by omega) (by omega)]
    rfl
  · intro out ho
    unfold i_AddMatrices_L0
    have e1 := ha.1
    simp [e1]
end
theorem s_AddMatrices_eq {p : Int} {a b : List (List Int)} (ha : szM a) (hb : szM b) : s_AddMatrices p a b = some (adV p a b, adC p a b) := by
  unfold s_AddMatrices adV adC
  rw [s_l02Is_eq ha, some_bind]
  cases hma : isMat p a with
  | false => simp
  | true =>
    simp only [Bool.true_eq_false, if_false, Bool.true_and]
    rw [s_l02Is_eq hb, some_bind, some_bind]
    cases hmb : isMat p b with
    | false => simp
    | true =>
      obtain ⟨h1, h2, h3, hP, h4, h5⟩ := isMat_sz hma
      obtain ⟨g1, g2, g3, _, g4, g5⟩ := isMat_sz hmb
      have hp := isP_le hP
      simp only [Bool.not_true, Bool.false_eq_true, if_false, if_true]
      have hw : (gR a 0).length = wid a := rfl
      have hw' : (gR b 0).length = wid b := rfl
      by_cases hl : a.length = b.length
      · rw [if_neg (by omega), idxR0 (by omega), some_bind, idxR0 (by omega), some_bind, some_bind, hw, hw']
        by_cases hc : wid a = wid b
        · have e : ieq (wid a : Int) (wid b : Int) = true := by simp [ieq, hc]
          rw [e]
          simp only [Bool.not_true, Bool.false_eq_true, if_false]
          rw [s_add_loop (by omega) (by omega) (by omega) (by omega) h3 (hl ▸ hc ▸ g3), some_bind]
          simp [hl, hc]
        · have e : ieq (wid a : Int) (wid b : Int) = false := by simp [ieq]; omega
          rw [e]
          simp [hc]
      · rw [if_pos (by omega), some_bind]
        simp [hl]
theorem i_AddMatrices_eq {p : Int} {a b : List (List Int)} (ha : szM a) (hb : szM b) : i_AddMatrices p a b = some (adV p a b, adC p a b) := by
  unfold i_AddMatrices adV adC
  rw [checkM2 ha hb, some_bind]
  cases hma : isMat p a with
  | false => simp
  | true =>
    simp only [Bool.true_and]
    cases hmb : isMat p b with
    | false => simp
    | true =>
      obtain ⟨h1, h2, h3, hP, h4, h5⟩ := isMat_sz hma
      obtain ⟨g1, g2, g3, _, g4, g5⟩ := isMat_sz hmb
      have hp := isP_le hP
      simp only [if_true, not_true_eq_false, if_false]
      have hw : (gR a 0).length = wid a := rfl
      have hw' : (gR b 0).length = wid b := rfl
      by_cases hl : a.length = b.length
      · rw [if_neg (by omega), idxR0 (by omega), some_bind, idxR0 (by omega), some_bind, some_bind, hw, hw']
        by_cases hc : wid a = wid b
        · have e : ieq (wid a : Int) (wid b : Int) = true := by simp [ieq, hc]
          rw [e]
          simp only [Bool.not_true, Bool.false_eq_true, if_false]
          rw [i_add_loop (by omega) (by omega) (by omega) (by omega) h3 (hl ▸ hc ▸ g3), some_bind]
          simp [hl, hc]
        · have e : ieq (wid a : Int) (wid b : Int) = false := by simp [ieq]; omega
          rw [e]
          simp [hc]
      · rw [if_pos (by omega), some_bind]
        simp [hl]

/-- A table that is small. -/
def smallM (m : List (List Int)) : Prop := m.length ≤ 1048576 ∧ (∀ r ∈ m, r.length ≤ 1048576) ∧ rowsum m ≤ 1048576
theorem smallM.nil : smallM [] := ⟨by simp, by simp, by simp [rowsum]⟩
theorem smallM.of {p : Int} {r c : Nat} {m : List (List Int)} (h : Mat p r c m) (hr : r ≤ 1024) (hc : c ≤ 1024) : smallM m := by
  refine ⟨by have := h.1; omega, fun x hx => ?_, ?_⟩
  · obtain ⟨k, hk, rfl⟩ := List.getElem_of_mem hx
    have h1 := h.1
    rw [gR_get hk]
    have := (h.row (i := k) (by omega)).1
    omega
  · rw [mat_rowsum h]
    exact Nat.le_trans (Nat.mul_le_mul hr hc) (by decide)
theorem adV_sz (p : Int) (a b : List (List Int)) : smallM (adV p a b) := by
  unfold adV
  split
  · rename_i h
    simp only [Bool.and_eq_true] at h
    obtain ⟨h1, h2, h3, hP, h4, h5⟩ := isMat_sz h.1
    have hp := isP_le hP
    split
    · exact smallM.of (addm_mat (by omega) ..) (by omega) (by omega)
    · exact smallM.nil
  · exact smallM.nil

/-- What is known of an argument that passed the law's size check. -/
theorem sz_split {m : List (List Int)} {left : Int} (hl : left ≤ 1048576) (h : ((m.length + rowsum m : Nat) : Int) ≤ left) : szM m ∧ rowsum m ≤ 1048576 := by
  exact ⟨⟨by omega, fun r hr => by have := rowsum_mem hr; omega⟩, by omega⟩
theorem eqM_self {m : List (List Int)} (h : szM m) : l_eqInt64SS m m = some true := by rw [eqM_eq _ _ h.1 h.2]; simp
theorem eqI_self {v : List Int} (h : v.length ≤ 1048576) : l_eqInt64S v v = some true := by rw [eqI_eq _ _ h]; simp

theorem LawAdd {p : Int} {a b : List (List Int)} (ha : lenM a) (hb : lenM b) : l_FnExactAddMatrices p a b = some true := by
  unfold l_FnExactAddMatrices
  rw [szM_eq ha (by omega) (by omega), some_bind]
  by_cases h1 : ((a.length + rowsum a : Nat) : Int) ≤ 1048576
  · have hs : szv (a.length + rowsum a) 1048576 = 1048576 - ((a.length + rowsum a : Nat) : Int) := by unfold szv; rw [if_pos h1]
    rw [hs, if_neg (by omega), szM_eq hb (by omega) (by omega), some_bind]
    by_cases h2 : ((b.length + rowsum b : Nat) : Int) ≤ 1048576 - ((a.length + rowsum a : Nat) : Int)
    · have hs2 : szv (b.length + rowsum b) (1048576 - ((a.length + rowsum a : Nat) : Int)) = 1048576 - ((a.length + rowsum a : Nat) : Int) - ((b.length + rowsum b : Nat) : Int) := by unfold szv; rw [if_pos h2]
      rw [hs2, if_neg (by omega)]
      obtain ⟨za, ra⟩ := sz_split (m := a) (by omega) h1
      obtain ⟨zb, rb⟩ := sz_split (m := b) (by omega) h2
      obtain ⟨z1, z2, z3⟩ := adV_sz p a b
      have e1 := toM_eq za.1 za.2
      have e2 := toM_eq zb.1 zb.2
      have e3 := s_AddMatrices_eq (p := p) za zb
      have e4 := i_AddMatrices_eq (p := p) za zb
      have e5 := eqM_self ⟨z1, z2⟩
      have e6 := eqM_self za
      have e7 := eqM_self zb
      have e8 := markM_1 za.1 ra
      have e9 : l_markInt64SS b ((1 + rowsum a : Nat) : Int) = some (((1 + rowsum a + rowsum b : Nat) : Int), mrkM (1 + rowsum a) b) := markM_eq (by have := zb.1; omega) (by omega)
      have e10 := markM_1 z1 z3
      have e11 := heldM_1 z1 z3
      simp only [e1, e2, e3, e4, e5, e6, e7, e8, e9, e10, e11, some_bind, Bool.true_eq_false, Bool.false_eq_true, if_false, if_true, ieq_self, Bool.not_true, natneg, not_true_eq_false]
    · have hs2 : szv (b.length + rowsum b) (1048576 - ((a.length + rowsum a : Nat) : Int)) = -1 := by unfold szv; rw [if_neg h2]
      rw [hs2, if_pos (by omega)]
  · have hs : szv (a.length + rowsum a) 1048576 = -1 := by unfold szv; rw [if_neg h1]
    rw [hs, if_pos (by omega)]

/-! ### Scaling -/
def scalem (p : Int) (r c : Nat) (a : List (List Int)) (k : Int) : List (List Int) := vecN r fun i => scalev p c (gR a i) k
def scV (p : Int) (a : List (List Int)) (k : Int) : List (List Int) := if isMat p a then (if isNum p k then scalem p a.length (wid a) a k else []) else []
def scC (p : Int) (a : List (List Int)) (k : Int) : Int := if isMat p a then (if isNum p k then 0 else 2) else 1
theorem scV_sz (p : Int) (a : List (List Int)) (k : Int) : smallM (scV p a k) := by
  unfold scV
  split
  · rename_i h
    obtain ⟨h1, h2, h3, hP, h4, h5⟩ := isMat_sz h
    have hp := isP_le hP
    split
    · exact smallM.of (Mat.mk' fun i _ => scalev_vec (p := p) (by omega) ..) (r := a.length) (c := wid a) (by omega) (by omega)
    · exact smallM.nil
  · exact smallM.nil
theorem s_ScaleMatrix_eq {p k : Int} {a : List (List Int)} (ha : szM a) : s_ScaleMatrix p a k = some (scV p a k, scC p a k) := by
  unfold s_ScaleMatrix scV scC
  rw [s_l02Is_eq ha, some_bind]
  cases hma : isMat p a with
  | false => simp
  | true =>
    obtain ⟨h1, h2, h3, hP, h4, h5⟩ := isMat_sz hma
    have hp := isP_le hP
    simp only [Bool.true_eq_false, if_false, if_true]
    rw [w_in (by omega) (by omega), s_l01In_eq, some_bind]
    have e : (decide (0 ≤ k) && decide (k ≤ p - 1)) = isNum p k := rfl
    rw [e]
    cases hk : isNum p k with
    | false => simp
    | true =>
      have hk' := isNum_iff.1 hk
      simp only [Bool.true_eq_false, if_false, if_true]
      rw [map_loop _ a.length (fun i => scalev p (wid a) (gR a i) k) (by rw [BIG_val]; omega)]
      · rfl
      · intro i hi out ho
        unfold s_ScaleMatrix_L0
        simp only [show (i : Int) < a.length by omega, if_true, idxR hi, some_bind]
        rw [s_l02Scale_eq (by omega) (by omega) (by omega) (by omega) (by omega) (h3.row hi), some_bind, chk_bind (by simp only [List.length_cons, List.length_nil]; omega), w_in (by omega) (by omega)]
        rfl
      · intro out ho
        unfold s_ScaleMatrix_L0
        simp
theorem i_ScaleMatrix_eq {p k : Int} {a : List (List Int)} (ha : szM a) : i_ScaleMatrix p a k = some (scV p a k, scC p a k) := by
  unfold i_ScaleMatrix scV scC
  rw [checkM1 ha, some_bind]
  cases hma : isMat p a with
  | false => simp
  | true =>
    obtain ⟨h1, h2, h3, hP, h4, h5⟩ := isMat_sz hma
    have hp := isP_le hP
    simp only [if_true, not_true_eq_false, if_false]
    rw [i_field_is_eq (by omega) (by omega) (by simp), some_bind]
    have e : nums p [k] = isNum p k := by simp [nums]
    rw [e]
    cases hk : isNum p k with
    | false => simp
    | true =>
      have hk' := isNum_iff.1 hk
      simp only [Bool.true_eq_false, if_false, if_true]
      rw [map_loop _ a.length (fun i => scalev p (wid a) (gR a i) k) (by rw [BIG_val]; omega)]
      · rfl
      · intro i hi out ho
        unfold i_ScaleMatrix_L0
        simp only [show (i : Int) < a.length by omega, if_true, idxR hi, some_bind]
        rw [i_field_scaled_eq (by omega) (by omega) (by omega) (by omega) (h3.row hi), some_bind, chk_bind (by simp only [List.length_cons, List.length_nil]; omega), w_in (by omega) (by omega)]
        rfl
      · intro out ho
        unfold i_ScaleMatrix_L0
        simp
theorem LawScale {p k : Int} {a : List (List Int)} (ha : lenM a) : l_FnExactScaleMatrix p a k = some true := by
  unfold l_FnExactScaleMatrix
  rw [szM_eq ha (by omega) (by omega), some_bind]
  by_cases h1 : ((a.length + rowsum a : Nat) : Int) ≤ 1048576
  · have hs : szv (a.length + rowsum a) 1048576 = 1048576 - ((a.length + rowsum a : Nat) : Int) := by unfold szv; rw [if_pos h1]
    rw [hs, if_neg (by omega)]
    obtain ⟨za, ra⟩ := sz_split (m := a) (by omega) h1
    obtain ⟨z1, z2, z3⟩ := scV_sz p a k
    have e1 := toM_eq za.1 za.2
    have e3 := s_ScaleMatrix_eq (p := p) (k := k) za
    have e4 := i_ScaleMatrix_eq (p := p) (k := k) za
    have e5 := eqM_self ⟨z1, z2⟩
    have e6 := eqM_self za
    have e8 := markM_1 za.1 ra
    have e10 := markM_1 z1 z3
    have e11 := heldM_1 z1 z3
    simp only [e1, e3, e4, e5, e6, e8, e10, e11, some_bind, Bool.true_eq_false, Bool.false_eq_true, if_false, if_true, ieq_self, Bool.not_true, natneg, not_true_eq_false]
  · have hs : szv (a.length + rowsum a) 1048576 = -1 := by unfold szv; rw [if_neg h1]
    rw [hs, if_pos (by omega)]
end Go.Vam
