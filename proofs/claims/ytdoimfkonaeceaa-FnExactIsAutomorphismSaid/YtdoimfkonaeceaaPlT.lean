/- Plain laws: systems of equations. -/
import Derived.Test.YtdoimfkonaeceaaPlR
namespace Go.Vam
open Go Go.RowKit
set_option linter.unusedSimpArgs false
set_option linter.unusedVariables false
set_option linter.unusedSectionVars false

theorem first_two {v : List Int} {q : Nat} (hv : v.length ≤ 1048576) (hq : q < v.length) (h : gI v q ≠ 0) : ∃ f : Nat, f ≤ q ∧ s_l02First v = some (f : Int) ∧ i_lead v = some (f : Int) ∧ gI v f ≠ 0 ∧ ∀ j, j < f → gI v j = 0 := by
  obtain ⟨b, h1, h2⟩ := any_loop (s_l02First_L0 v) v.length (fun k => !decide (gI v k = 0)) (fun k => (k : Int)) (by rw [BIG_val]; omega)
    (fun k hk hf => by
      unfold s_l02First_L0
      have : gI v k = 0 := by simpa using hf
      simp only [show (k : Int) < (v.length : Int) by omega, if_true, idxI hk, some_bind, this, not_true_eq_false, if_false]
      rw [w_in (by omega) (by omega)]; rfl) (fun k hk hf => by
      unfold s_l02First_L0
      have : ¬ gI v k = 0 := by simpa using hf
      simp only [show (k : Int) < (v.length : Int) by omega, if_true, idxI hk, some_bind, this, not_false_eq_true]) (by
      unfold s_l02First_L0
      simp)
  rcases h2 with ⟨rfl, h3⟩ | ⟨f, hf, rfl, h4, h5, h6⟩
  · rw [List.any_eq_false] at h3
    have := h3 q (List.mem_range.2 hq)
    simp [h] at this
  · have h4' : gI v f ≠ 0 := by simpa using h4
    have h6' : ∀ j, j < f → gI v j = 0 := fun j hj => by simpa using h6 j hj
    refine ⟨f, ?_, ?_, ?_, h4', h6'⟩
    · rcases Nat.lt_or_ge q f with hqf | hqf
      · exact absurd (h6' q hqf) h
      · exact hqf
    · unfold s_l02First
      rw [h1]; rfl
    · unfold i_lead
      rw [loop_for (b := (f : Int)) (s := 0) (fun k => (k : Int)) f (by rw [BIG_val]; omega) rfl]
      · rfl
      · intro k hk
        unfold i_lead_L0
        simp only [show (k : Int) < (v.length : Int) by omega, if_true, idxI (show k < v.length by omega), some_bind, h6' k hk, ieq_self]
        rw [w_in (by omega) (by omega)]; rfl
      · unfold i_lead_L0
        have : ieq (gI v f) 0 = false := by simp [ieq, h4']
        simp only [show (f : Int) < (v.length : Int) by omega, if_true, idxI hf, some_bind, this, Bool.false_eq_true, if_false]

def augm (r : Nat) (m : List (List Int)) (v : List Int) : List (List Int) := vecN r fun i => gR m i ++ [gI v i]
section
variable {p : Int} {r c : Nat} {m : List (List Int)} {v : List Int} (hP : isP p = true) (hr0 : 0 < r) (hr : r ≤ 1048000) (hc0 : 0 < c) (hc : c ≤ 1048000) (hm : Mat p r c m) (hv : Vec p r v)
include hP hr0 hr hc0 hc hm hv
theorem augm_mat : Mat p r (c + 1) (augm r m v) := Mat.mk' fun i hi => by
  have h1 := hm.row hi
  have h2 := hv.get hi
  refine ⟨by simp [h1.1], fun k hk => ?_⟩
  have e : gI (gR m i ++ [gI v i]) k = if k < c then gI (gR m i) k else gI v i := by
    unfold gI
    rw [List.getD_eq_getElem?_getD, List.getElem?_append]
    have := h1.1
    by_cases hkc : k < c
    · rw [if_pos (by omega), if_pos hkc, List.getD_eq_getElem?_getD]
    · rw [if_neg (by omega), if_neg hkc]
      have : k - (gR m i).length = 0 := by omega
      rw [this]; rfl
  rw [e]
  split
  · exact h1.get (by assumption)
  · exact h2
theorem s_aug : loop (s_l02Solve_L0 m v) BIG ([], 0) = some (augm r m v) := by
  have e1 := hm.1
  have e2 := hv.1
  refine map_loop _ r _ (by rw [BIG_val]; omega) ?_ ?_
  · intro i hi out ho
    unfold s_l02Solve_L0
    have e3 := (hm.row hi).1
    simp only [show (i : Int) < (m.length : Int) by omega, if_true, idxR (show i < m.length by omega), some_bind, s_l01Own_eq (show (gR m i).length ≤ 1048576 by omega), idxI (show i < v.length by omega)]
    rw [chk_bind (by simp only [List.length_cons, List.length_nil]; omega), chk_bind (by simp only [List.length_cons, List.length_nil]; omega), w_in (by omega) (by omega)]
    rfl
  · intro out ho
    unfold s_l02Solve_L0
    simp [e1]
theorem i_aug : loop (i_field_solve_L0 m v) BIG ([], 0) = some (augm r m v) := by
  have e1 := hm.1
  have e2 := hv.1
  refine map_loop _ r _ (by rw [BIG_val]; omega) ?_ ?_
  · intro i hi out ho
    unfold i_field_solve_L0
    have e3 := (hm.row hi).1
    simp only [show (i : Int) < (m.length : Int) by omega, if_true, idxR (show i < m.length by omega), some_bind, clone_eq (show (gR m i).length ≤ 1048576 by omega), idxI (show i < v.length by omega)]
    rw [chk_bind (by simp only [List.length_cons, List.length_nil]; omega), chk_bind (by simp only [List.length_cons, List.length_nil]; omega), w_in (by omega) (by omega)]
    rfl
  · intro out ho
    unfold i_field_solve_L0
    simp [e1]
theorem Solve_eq : ∃ x : List Int × Bool, s_l02Solve p m v = some x ∧ i_field_solve p m v = some x ∧ x.1.length ≤ c := by
  have ha := augm_mat hP hr0 hr hc0 hc hm hv
  have s1 := s_aug hP hr0 hr hc0 hc hm hv
  have s2 := i_aug hP hr0 hr hc0 hc hm hv
  obtain ⟨b, b1, b2, d, hd, hb, piv, hred⟩ := Basis_eq hP hr0 (by omega) (by omega) ha
  have e1 := hm.1
  have e2 := (hm.row hr0).1
  have hbl := hb.1
  have two : ∃ y : List Int ⊕ (List Int × Bool), loop (s_l02Solve_L1 b (gR m 0)) BIG (List.replicate c 0, 0) = some y ∧ loop (i_field_solve_L1 (gR m 0) b) BIG (List.replicate c 0, 0) = some y ∧ (match y with | .inl z => z.length ≤ c | .inr z => z.1.length ≤ c) := by
    refine loop_two (fun s => s.1.length = c ∧ ∃ i : Nat, s.2 = (i : Int) ∧ i ≤ d) (fun s => d - s.2.toNat) _ ⟨by simp, 0, rfl, by omega⟩ (by rw [BIG_val]; simp only []; omega) ?_
    rintro ⟨x, t⟩ ⟨hx, i, rfl, hi⟩
    simp only [] at hx
    unfold s_l02Solve_L1 i_field_solve_L1
    by_cases hid : i < d
    · have h3 := hb.row hid
      obtain ⟨p1, p2, p3⟩ := hred i hid
      have h4 := h3.1
      obtain ⟨f, f1, f2, f3, f4, f5⟩ := first_two (v := gR b i) (q := piv i) (by omega) (by omega) (by rw [p2]; omega)
      by_cases hf : f = c
      · refine .inr ?_
        simp only [show (i : Int) < (b.length : Int) by omega, if_true, idxR (show i < b.length by omega), some_bind, f2, f3, show ((f : Int) = ((gR m 0).length : Int)) = True from eq_true (by omega)]
        exact ⟨_, rfl, rfl, by simp⟩
      · refine .inl ?_
        simp only [show (i : Int) < (b.length : Int) by omega, if_true, idxR (show i < b.length by omega), some_bind, f2, f3, show ((f : Int) = ((gR m 0).length : Int)) = False from eq_false (by omega), if_false, idxI (show (gR m 0).length < (gR b i).length by omega), idxI (show f < x.length by omega), Int.toNat_natCast]
        refine ⟨_, rfl, rfl, ⟨by simp only [List.length_set]; exact hx, i + 1, ?_, by omega⟩, ?_⟩
        · rw [w_in (by omega) (by omega)]; rfl
        · rw [w_in (by omega) (by omega)]; simp only []; omega
    · refine .inr ?_
      simp only [show ¬ (i : Int) < (b.length : Int) by omega, if_false]
      exact ⟨_, rfl, rfl, by simp only []; omega⟩
  obtain ⟨y, y1, y2, y3⟩ := two
  unfold s_l02Solve i_field_solve
  rw [← e2] at y1 y2
  simp only [s1, s2, some_bind, b1, b2, idxR0 (show 0 < m.length by omega), chk_bind (show 0 ≤ ((gR m 0).length : Int) ∧ ((gR m 0).length : Int) ≤ 1099511627776 by omega), Int.toNat_natCast, y1, y2]
  cases y with
  | inl z => exact ⟨_, rfl, rfl, y3⟩
  | inr z => exact ⟨_, rfl, rfl, y3⟩
end
theorem SolveMatrix_eq {p : Int} {m : List (List Int)} {v : List Int} (h : szM m) (hv : v.length ≤ 1048576) : ∃ V C, s_SolveMatrix p m v = some (V, C) ∧ i_SolveMatrix p m v = some (V, C) ∧ V.length ≤ 16 := by
  unfold s_SolveMatrix i_SolveMatrix
  rw [s_l02Is_eq h, checkM1 h, some_bind, some_bind]
  cases hm : isMat p m with
  | false => exact ⟨[], 1, by simp, by simp, by simp⟩
  | true =>
    obtain ⟨h1, h2, h3, hP, h4, h5⟩ := isMat_sz hm
    have hp := isP_le hP
    simp only [Bool.true_eq_false, if_false, if_true, not_true_eq_false]
    by_cases hl : v.length = m.length
    · rw [s_l01Numbers_eq (by omega) (by omega) hv, i_field_is_eq (by omega) (by omega) hv]
      simp only [hl, not_true_eq_false, if_false, some_bind]
      cases hn : nums p v with
      | false => exact ⟨[], 2, by simp, by simp, by simp⟩
      | true =>
        obtain ⟨x, x1, x2, x3⟩ := Solve_eq hP (r := m.length) (c := wid m) (v := v) (by omega) (by omega) (by omega) (by omega) h3 (hl ▸ Vec.of hn)
        simp only [Bool.not_true, Bool.false_eq_true, if_false, x1, x2, some_bind]
        cases hx : x.2 with
        | false => exact ⟨[], 4, by simp, by simp, by simp⟩
        | true => exact ⟨x.1, 0, by simp, by simp, by omega⟩
    · simp only [show ((v.length : Int) = (m.length : Int)) = False from eq_false (by omega), not_false_eq_true, if_true, some_bind]
      exact ⟨_, _, rfl, rfl, by simp⟩
theorem LawSolve {p : Int} {m : List (List Int)} {v : List Int} (hm : lenM m) (hv : lenI v) : l_FnExactSolveMatrix p m v = some true := by
  unfold l_FnExactSolveMatrix
  by_cases h1 : 1048576 < (v.length : Int)
  · rw [if_pos h1]
  rw [if_neg h1, szM_eq hm (by omega) (by omega), some_bind]
  by_cases h2 : ((m.length + rowsum m : Nat) : Int) ≤ 1048576
  · have hs : szv (m.length + rowsum m) 1048576 = 1048576 - ((m.length + rowsum m : Nat) : Int) := by unfold szv; rw [if_pos h2]
    rw [hs, if_neg (by omega)]
    have hsz : szM m := ⟨by omega, fun r hr => by have := rowsum_mem hr; omega⟩
    obtain ⟨V, C, e3, e4, hr⟩ := SolveMatrix_eq (p := p) hsz (v := v) (by omega)
    have e1 := toM_eq hsz.1 hsz.2
    have e2 : l_toInt64S v = some v := toI_eq (by omega)
    have e5 := eqI_self (v := V) (by omega)
    have e6 : l_eqInt64SS m m = some true := by rw [eqM_eq _ _ hsz.1 hsz.2]; simp
    have e7 : l_eqInt64S v v = some true := by rw [eqI_eq _ _ (by omega)]; simp
    have e8 := markM_1 hsz.1 (m := m) (by omega)
    have e9 : l_markInt64S v ((1 + rowsum m : Nat) : Int) = some (((1 + rowsum m + v.length : Nat) : Int), mrkI (1 + rowsum m) v) := markI_eq (by omega)
    have e10 := markI_1 (xs := V) (by omega)
    have e11 := heldI_1 (xs := V) (by omega)
    simp only [e1, e2, e3, e4, e5, e6, e7, e8, e9, e10, e11, some_bind, Bool.true_eq_false, Bool.false_eq_true, if_false, if_true, ieq_self, Bool.not_true, natneg, not_true_eq_false]
  · have hs : szv (m.length + rowsum m) 1048576 = -1 := by unfold szv; rw [if_neg h2]
    rw [hs, if_pos (by omega)]
end Go.Vam
