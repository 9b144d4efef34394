/- Plain laws: copies, turned tables, products of tables, powers, inverses of numbers. -/
import Derived.Test.YtdoimfkonaeceaaFnD
import Derived.Test.YtdoimfkonaeceaaPlO
namespace Go.Vam
open Go Go.RowKit
set_option linter.unusedSimpArgs false
set_option linter.unusedVariables false

/-! ### Copies -/
theorem clone_eq {v : List Int} (h : v.length ≤ 1048576) : g_slices_Clone_LI_I v = some v := by
  unfold g_slices_Clone_LI_I
  rw [chk_bind (by omega)]
theorem s_l01Own_eq {v : List Int} (h : v.length ≤ 1048576) : s_l01Own v = some v := by
  unfold s_l01Own
  rw [chk_bind (by simp only [List.length_nil]; omega)]
  rfl
theorem vecN_self (m : List (List Int)) : vecN m.length (gR m) = m := (extR rfl fun k _ => rfl).symm
theorem i_cloneRows_eq {m : List (List Int)} (h : szM m) : i_cloneRows m = some m := by
  unfold i_cloneRows
  rw [map_loop _ m.length (gR m) (by have := h.1; rw [BIG_val]; omega)]
  · rw [vecN_self]; rfl
  · intro i hi out ho
    unfold i_cloneRows_L0
    have := h.1
    simp only [show (i : Int) < m.length by omega, if_true, idxR hi, some_bind]
    rw [clone_eq (h.row hi), some_bind, chk_bind (by simp only [List.length_cons, List.length_nil]; omega), w_in (by omega) (by omega)]
    rfl
  · intro out ho
    unfold i_cloneRows_L0
    simp
theorem s_l01Own2_eq {m : List (List Int)} (h : szM m) : s_l01Own2 m = some m := by
  unfold s_l01Own2
  rw [map_loop _ m.length (gR m) (by have := h.1; rw [BIG_val]; omega)]
  · rw [vecN_self]; rfl
  · intro i hi out ho
    unfold s_l01Own2_L0
    have := h.1
    simp only [show (i : Int) < m.length by omega, if_true, idxR hi, some_bind]
    rw [s_l01Own_eq (h.row hi), some_bind, chk_bind (by simp only [List.length_cons, List.length_nil]; omega), w_in (by omega) (by omega)]
    rfl
  · intro out ho
    unfold s_l01Own2_L0
    simp
theorem Mat.sz {p : Int} {r c : Nat} {m : List (List Int)} (h : Mat p r c m) (hr : r ≤ 1048576) (hc : c ≤ 1048576) : szM m := by
  refine ⟨by have := h.1; omega, fun x hx => ?_⟩
  obtain ⟨k, hk, rfl⟩ := List.getElem_of_mem hx
  have h1 := h.1
  rw [gR_get hk, (h.row (i := k) (by omega)).1]
  exact hc

/-! ### Turned tables -/
def turnm (r c : Nat) (m : List (List Int)) : List (List Int) := vecN c fun k => vecN r fun i => gI (gR m i) k
theorem turnm_mat {p : Int} {r c : Nat} {m : List (List Int)} (h : Mat p r c m) : Mat p c r (turnm r c m) :=
  Mat.mk' fun k hk => Vec.mk' fun i hi => (h.row hi).get hk
theorem turnm_at {r c : Nat} {m : List (List Int)} {i k : Nat} (hi : i < r) (hk : k < c) : gI (gR (turnm r c m) k) i = gI (gR m i) k := by
  unfold turnm; rw [gR_vecN _ hk, gI_vecN _ hi]
section
variable {p : Int} {r c : Nat} {m : List (List Int)} (hr0 : 0 < r) (hr : r ≤ 1048576) (hc : c ≤ 1048576) (hm : Mat p r c m)
include hr0 hr hc hm
theorem i_transpose_eq : i_transpose m = some (turnm r c m) := by
  unfold i_transpose
  have e1 := hm.1
  have e2 := (hm.row (i := 0) hr0).1
  rw [idxR0 (by omega), some_bind, map_loop _ c (fun k => vecN r fun i => gI (gR m i) k) (by rw [BIG_val]; omega)]
  · rfl
  · intro k hk out ho
    unfold i_transpose_L0
    simp only [show (k : Int) < (gR m 0).length by omega, if_true]
    rw [map_loop _ r (fun i => gI (gR m i) k) (by rw [BIG_val]; omega)]
    · rw [some_bind, chk_bind (by simp only [List.length_cons, List.length_nil]; omega), w_in (by omega) (by omega)]; rfl
    · intro i hi o2 ho2
      unfold i_transpose_L1
      have e3 := (hm.row hi).1
      simp only [show (i : Int) < m.length by omega, if_true, idxR (show i < m.length by omega), idxI (show k < (gR m i).length by omega), some_bind]
      rw [chk_bind (by simp only [List.length_cons, List.length_nil]; omega), w_in (by omega) (by omega)]; rfl
    · intro o2 ho2
      unfold i_transpose_L1
      simp [e1]
  · intro out ho
    unfold i_transpose_L0
    simp [e2]
theorem s_l02Turn_eq : s_l02Turn m = some (turnm r c m) := by
  unfold s_l02Turn
  have e1 := hm.1
  have e2 := (hm.row (i := 0) hr0).1
  rw [map_loop _ c (fun k => vecN r fun i => gI (gR m i) k) (by rw [BIG_val]; omega)]
  · rfl
  · intro k hk out ho
    unfold s_l02Turn_L0
    simp only [idxR0 (show 0 < m.length by omega), some_bind, show (k : Int) < (gR m 0).length by omega, if_true]
    rw [map_loop _ r (fun i => gI (gR m i) k) (by rw [BIG_val]; omega)]
    · rw [some_bind, chk_bind (by simp only [List.length_cons, List.length_nil]; omega), w_in (by omega) (by omega)]; rfl
    · intro i hi o2 ho2
      unfold s_l02Turn_L1
      have e3 := (hm.row hi).1
      simp only [show (i : Int) < m.length by omega, if_true, idxR (show i < m.length by omega), idxI (show k < (gR m i).length by omega), some_bind]
      rw [chk_bind (by simp only [List.length_cons, List.length_nil]; omega), w_in (by omega) (by omega)]; rfl
    · intro o2 ho2
      unfold s_l02Turn_L1
      simp [e1]
  · intro out ho
    unfold s_l02Turn_L0
    simp only [idxR0 (show 0 < m.length by omega), some_bind]
    simp [e2]
end

/-! ### Products -/
def timesm (p : Int) (r n c : Nat) (a b : List (List Int)) : List (List Int) := vecN r fun i => vecN c fun k => sumN (fun j => gI (gR a i) j * gI (gR b j) k) n % p
theorem timesm_mat {p : Int} (hp : 0 < p) (r n c : Nat) (a b : List (List Int)) : Mat p r c (timesm p r n c a b) := Mat.mk' fun i _ => Vec.mk' fun k _ => mod_num hp
section
variable {p : Int} {r n c : Nat} {a b : List (List Int)} (hp : 0 < p) (hp2 : p ≤ 13) (hr : r ≤ 1048576) (hn0 : 0 < n) (hn : n ≤ 1048576) (hc : c ≤ 1048576) (ha : Mat p r n a) (hb : Mat p n c b)
include hp hp2 hr hn0 hn hc ha hb
theorem i_field_times_eq : i_field_times p a b = some (timesm p r n c a b) := by
  unfold i_field_times
  rw [i_transpose_eq hn0 hn hc hb, some_bind]
  have e1 := ha.1
  have ht := turnm_mat hb
  rw [map_loop _ r (fun i => applyv p c n (turnm n c b) (gR a i)) (by rw [BIG_val]; omega)]
  · rw [some_bind]
    congr 1
    unfold timesm
    refine vecN_congr fun i hi => ?_
    unfold applyv
    refine vecN_congr fun k hk => ?_
    unfold dotp
    congr 1
    refine sumN_congr fun j hj => ?_
    rw [turnm_at hj hk, Int.mul_comm]
  · intro i hi out ho
    unfold i_field_times_L0
    simp only [show (i : Int) < a.length by omega, if_true, idxR (show i < a.length by omega), some_bind]
    rw [i_field_apply_eq hp hp2 hc hn ht (ha.row hi), some_bind, chk_bind (by simp only [List.length_cons, List.length_nil]; omega), w_in (by omega) (by omega)]
    rfl
  · intro out ho
    unfold i_field_times_L0
    simp [e1]
theorem s_l02Times_eq : s_l02Times p a b = some (timesm p r n c a b) := by
  unfold s_l02Times
  have e1 := ha.1
  have e2 := hb.1
  have e4 := (hb.row (i := 0) hn0).1
  rw [map_loop _ r (fun i => vecN c fun k => sumN (fun j => gI (gR a i) j * gI (gR b j) k) n % p) (by rw [BIG_val]; omega)]
  · rfl
  · intro i hi out ho
    unfold s_l02Times_L0
    simp only [show (i : Int) < a.length by omega, if_true]
    rw [map_loop _ c (fun k => sumN (fun j => gI (gR a i) j * gI (gR b j) k) n % p) (by rw [BIG_val]; omega)]
    · rw [some_bind, chk_bind (by simp only [List.length_cons, List.length_nil]; omega), w_in (by omega) (by omega)]; rfl
    · intro k hk o2 ho2
      unfold s_l02Times_L1
      simp only [idxR0 (show 0 < b.length by omega), some_bind, show (k : Int) < (gR b 0).length by omega, if_true]
      rw [loop_for (b := sumN (fun j => gI (gR a i) j * gI (gR b j) k) n % p) (fun j => (sumN (fun j => gI (gR a i) j * gI (gR b j) k) j % p, (j : Int))) n (by rw [BIG_val]; omega) (by simp [sumN])]
      · rw [some_bind, chk_bind (by simp only [List.length_cons, List.length_nil]; omega), w_in (by omega) (by omega)]; rfl
      · intro j hj
        unfold s_l02Times_L2
        have e5 := (ha.row hi).1
        have e6 := (hb.row hj).1
        have h1 := (ha.row hi).get hj
        have h2 := (hb.row hj).get hk
        have h3 := mul_abs (a := gI (gR a i) j) (b := gI (gR b j) k) (A := 12) (B := 12) (by omega) (by omega)
        have h4 := Int.mul_nonneg h1.1 h2.1
        have h5 := mod_num (a := sumN (fun j => gI (gR a i) j * gI (gR b j) k) j) hp
        simp only [show (j : Int) < b.length by omega, if_true, idxR (show i < a.length by omega), idxR (show j < b.length by omega), idxI (show j < (gR a i).length by omega), idxI (show k < (gR b j).length by omega), some_bind]
        rw [chk_bind (by omega), w_in (x := gI (gR a i) j * gI (gR b j) k) (by omega) (by omega), w_in (by omega) (by omega), w_in (by omega) (by omega), tmod_nn (by omega), Int.emod_add_emod]
        rfl
      · unfold s_l02Times_L2
        simp [e2]
    · intro o2 ho2
      unfold s_l02Times_L1
      simp only [idxR0 (show 0 < b.length by omega), some_bind]
      simp [e4]
  · intro out ho
    unfold s_l02Times_L0
    simp [e1]
end

def muV (p : Int) (a b : List (List Int)) : List (List Int) := if isMat p a && isMat p b then (if wid a = b.length then timesm p a.length b.length (wid b) a b else []) else []
def muC (p : Int) (a b : List (List Int)) : Int := if isMat p a && isMat p b then (if wid a = b.length then 0 else 2) else 1
theorem s_MultiplyMatrices_eq {p : Int} {a b : List (List Int)} (ha : szM a) (hb : szM b) : s_MultiplyMatrices p a b = some (muV p a b, muC p a b) := by
  unfold s_MultiplyMatrices muV muC
  rw [s_l02Is_eq ha, some_bind]
  cases hma : isMat p a with
  | false => simp
  | true =>
    simp only [Bool.true_eq_false, if_false, Bool.true_and]
    rw [s_l02Is_eq hb, some_bind, some_bind]
    cases hmb : isMat p b with
    | false => simp
    | true =>
      obtain ⟨h1, h2, h3, hP, h4, h5⟩ := isMat_sz hma
      obtain ⟨g1, g2, g3, _, g4, g5⟩ := isMat_sz hmb
      have hp := isP_le hP
      simp only [Bool.not_true, Bool.false_eq_true, if_false, if_true]
      have hw : (gR a 0).length = wid a := rfl
      rw [idxR0 (by omega), some_bind, hw]
      by_cases hl : wid a = b.length
      · rw [if_neg (by omega), s_l02Times_eq (by omega) (by omega) (by omega) (by omega) (by omega) (by omega) (hl ▸ h3) g3, some_bind]
        simp [hl]
      · rw [if_pos (by omega)]
        simp [hl]
theorem i_MultiplyMatrices_eq {p : Int} {a b : List (List Int)} (ha : szM a) (hb : szM b) : i_MultiplyMatrices p a b = some (muV p a b, muC p a b) := by
  unfold i_MultiplyMatrices muV muC
  rw [checkM2 ha hb, some_bind]
  cases hma : isMat p a with
  | false => simp
  | true =>
    simp only [Bool.true_and]
    cases hmb : isMat p b with
    | false => simp
    | true =>
      obtain ⟨h1, h2, h3, hP, h4, h5⟩ := isMat_sz hma
      obtain ⟨g1, g2, g3, _, g4, g5⟩ := isMat_sz hmb
      have hp := isP_le hP
      simp only [if_true, not_true_eq_false, if_false]
      have hw : (gR a 0).length = wid a := rfl
      rw [idxR0 (by omega), some_bind, hw]
      by_cases hl : wid a = b.length
      · rw [if_neg (by omega), i_field_times_eq (by omega) (by omega) (by omega) (by omega) (by omega) (by omega) (hl ▸ h3) g3, some_bind]
        simp [hl]
      · rw [if_pos (by omega)]
        simp [hl]
theorem muV_sz (p : Int) (a b : List (List Int)) : smallM (muV p a b) := by
  unfold muV
  split
  · rename_i h
    simp only [Bool.and_eq_true] at h
    obtain ⟨h1, h2, h3, hP, h4, h5⟩ := isMat_sz h.1
    obtain ⟨g1, g2, g3, _, g4, g5⟩ := isMat_sz h.2
    have hp := isP_le hP
    split
    · exact smallM.of (timesm_mat (p := p) (by omega) ..) (r := a.length) (c := wid b) (by omega) (by omega)
    · exact smallM.nil
  · exact smallM.nil

theorem LawMultiply {p : Int} {a b : List (List Int)} (ha : lenM a) (hb : lenM b) : l_FnExactMultiplyMatrices p a b = some true := by
  unfold l_FnExactMultiplyMatrices
  rw [szM_eq ha (by omega) (by omega), some_bind]
  by_cases h1 : ((a.length + rowsum a : Nat) : Int) ≤ 1048576
  · have hs : szv (a.length + rowsum a) 1048576 = 1048576 - ((a.length + rowsum a : Nat) : Int) := by unfold szv; rw [if_pos h1]
    rw [hs, if_neg (by omega), szM_eq hb (by omega) (by omega), some_bind]
    by_cases h2 : ((b.length + rowsum b : Nat) : Int) ≤ 1048576 - ((a.length + rowsum a : Nat) : Int)
    · have hs2 : szv (b.length + rowsum b) (1048576 - ((a.length + rowsum a : Nat) : Int)) = 1048576 - ((a.length + rowsum a : Nat) : Int) - ((b.length + rowsum b : Nat) : Int) := by unfold szv; rw [if_pos h2]
      rw [hs2, if_neg (by omega)]
      obtain ⟨za, ra⟩ := sz_split (m := a) (by omega) h1
      obtain ⟨zb, rb⟩ := sz_split (m := b) (by omega) h2
      obtain ⟨z1, z2, z3⟩ := muV_sz p a b
      have e1 := toM_eq za.1 za.2
      have e2 := toM_eq zb.1 zb.2
      have e3 := s_MultiplyMatrices_eq (p := p) za zb
      have e4 := i_MultiplyMatrices_eq (p := p) za zb
      have e5 := eqM_self ⟨z1, z2⟩
      have e6 := eqM_self za
      have e7 := eqM_self zb
      have e8 := markM_1 za.1 ra
      have e9 : l_markInt64SS b ((1 + rowsum a : Nat) : Int) = some (((1 + rowsum a + rowsum b : Nat) : Int), mrkM (1 + rowsum a) b) := markM_eq (by have := zb.1; omega) (by omega)
      have e10 := markM_1 z1 z3
      have e11 := heldM_1 z1 z3
      simp only [e1, e2, e3, e4, e5, e6, e7, e8, e9, e10, e11, some_bind, Bool.true_eq_false, Bool.false_eq_true, if_false, if_true, ieq_self, Bool.not_true, natneg, not_true_eq_false]
    · have hs2 : szv (b.length + rowsum b) (1048576 - ((a.length + rowsum a : Nat) : Int)) = -1 := by unfold szv; rw [if_neg h2]
      rw [hs2, if_pos (by omega)]
  · have hs : szv (a.length + rowsum a) 1048576 = -1 := by unfold szv; rw [if_neg h1]
    rw [hs, if_pos (by omega)]
end Go.Vam
