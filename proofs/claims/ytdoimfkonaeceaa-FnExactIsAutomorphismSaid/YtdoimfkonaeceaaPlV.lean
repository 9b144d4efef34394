/- Plain laws: isometries, orthogonal tables, their orders. -/
import Derived.Test.YtdoimfkonaeceaaPlU
namespace Go.Vam
open Go Go.RowKit
set_option linter.unusedSimpArgs false
set_option linter.unusedVariables false
set_option linter.unusedSectionVars false

theorem sumN_mod {f g : Nat → Int} {p : Int} : ∀ {n : Nat}, (∀ k, k < n → f k % p = g k % p) → sumN f n % p = sumN g n % p
  | 0, _ => rfl
  | n + 1, h => by
    simp only [sumN]
    rw [Int.add_emod, sumN_mod (n := n) fun k hk => h k (by omega), h n (by omega), ← Int.add_emod]
/-- The pairing of a space. -/
def pairp (p : Int) (n : Nat) (w x y : List Int) : Int := sumN (fun k => gI x k * gI y k * gI w k) n % p
theorem pairp_comm (p : Int) (n : Nat) (w x y : List Int) : pairp p n w x y = pairp p n w y x := by
  unfold pairp
  congr 1
  exact sumN_congr fun k _ => by rw [Int.mul_comm (gI x k)]
section
variable {p : Int} {n : Nat} {w x y : List Int} (hP : isP p = true) (hn : n ≤ 1048576) (hw : Vec p n w) (hx : Vec p n x) (hy : Vec p n y)
include hP hn hw hx hy
theorem s_l03Pair_eq : s_l03Pair p w x y = some (pairp p n w x y) := by
  have hp := isP_le hP
  unfold s_l03Pair
  have e1 := hx.1; have e2 := hy.1; have e3 := hw.1
  obtain ⟨h1, h2⟩ := fold_loop (s_l03Pair_L0 p w x y) n (fun k s => (s + gI x k * gI y k % p * gI w k) % p) 0 (fun _ s => 0 ≤ s ∧ s < p) id (by rw [BIG_val]; omega) (by omega) (fun k s hk _ => mod_num (by omega))
    (fun k s hk hs => by
      unfold s_l03Pair_L0
      have h1 := hx.get hk; have h2 := hy.get hk; have h3 := hw.get hk
      have h4 := mul_abs (a := gI x k) (b := gI y k) (A := 13) (B := 13) (by omega) (by omega)
      have h5 := Int.mul_nonneg h1.1 h2.1
      have h6 := mod_num (a := gI x k * gI y k) (p := p) (by omega)
      have h7 := mul_abs (a := gI x k * gI y k % p) (b := gI w k) (A := 13) (B := 13) (by omega) (by omega)
      have h8 := Int.mul_nonneg h6.1 h3.1
      simp only [show (k : Int) < x.length by omega, if_true, idxI (show k < x.length by omega), idxI (show k < y.length by omega), idxI (show k < w.length by omega), some_bind]
      rw [chk_bind (by omega), chk_bind (by omega), w_in (x := gI x k * gI y k) (by omega) (by omega), tmod_nn h5, w_in (x := gI x k * gI y k % p * gI w k) (by omega) (by omega), w_in (x := s + gI x k * gI y k % p * gI w k) (by omega) (by omega), tmod_nn (a := s + gI x k * gI y k % p * gI w k) (by omega), w_in (x := (k : Int) + 1) (by omega) (by omega)]
      rfl) (fun s hs => by
      unfold s_l03Pair_L0
      simp [e1])
  rw [h1, some_bind]
  have key : ∀ k, foldN (fun k s => (s + gI x k * gI y k % p * gI w k) % p) 0 k = sumN (fun k => gI x k * gI y k * gI w k) k % p := by
    intro k
    induction k with
    | zero => simp [foldN, sumN]
    | succ k ih =>
      simp only [foldN, sumN, ih]
      rw [Int.add_emod, Int.emod_emod_of_dvd _ (Int.dvd_refl p), Int.mul_emod (gI x k * gI y k % p), Int.emod_emod_of_dvd _ (Int.dvd_refl p), ← Int.mul_emod, ← Int.add_emod]
  simp only [id, key]; rfl
theorem i_Space_pair_eq : i_Space_pair p w x y = some (pairp p n w x y) := by
  have hp := isP_le hP
  have e1 := hx.1; have e2 := hy.1; have e3 := hw.1
  have hwt : i_Space_weighted p w x = some (vecN n fun k => gI x k * gI w k % p) := by
    unfold i_Space_weighted
    rw [map_loop _ n (fun k => gI x k * gI w k % p) (by rw [BIG_val]; omega)]
    · rfl
    · intro i hi out ho
      unfold i_Space_weighted_L0 i_Space_field
      have h1 := hx.get hi; have h3 := hw.get hi
      have h4 := mul_abs (a := gI x i) (b := gI w i) (A := 13) (B := 13) (by omega) (by omega)
      simp only [show (i : Int) < x.length by omega, if_true, idxI (show i < x.length by omega), idxI (show i < w.length by omega), some_bind]
      rw [w_in (x := gI x i * gI w i) (by omega) (by omega), i_field_num_eq (by omega) (by omega) (by omega) (by omega), some_bind, chk_bind (by simp only [List.length_cons, List.length_nil]; omega), w_in (by omega) (by omega)]
      rfl
    · intro out ho
      unfold i_Space_weighted_L0
      simp [e1]
  have hv : Vec p n (vecN n fun k => gI x k * gI w k % p) := Vec.mk' fun k hk => mod_num (by omega)
  unfold i_Space_pair i_Space_field
  rw [some_bind, hwt, some_bind, i_field_dot_eq (by omega) (by omega) hn hv hy, some_bind]
  congr 1
  unfold dotp pairp
  refine sumN_mod fun k hk => ?_
  rw [gI_vecN _ hk, Int.mul_emod, Int.emod_emod_of_dvd _ (Int.dvd_refl p), ← Int.mul_emod, Int.mul_assoc, Int.mul_comm (gI w k), ← Int.mul_assoc]
end

/-- The rows of T pair as the space's own axes do. -/
def isoB (p : Int) (w : List Int) (T : List (List Int)) (i j : Nat) : Bool := decide (pairp p w.length w (gR T i) (gR T j) = if i = j then gI w i else 0)
theorem isoB_comm (p : Int) (w : List Int) (T : List (List Int)) (i j : Nat) : isoB p w T i j = isoB p w T j i := by
  unfold isoB
  rw [pairp_comm]
  by_cases h : i = j
  · subst h; rfl
  · rw [if_neg h, if_neg (fun e => h e.symm)]
theorem all_tri {n : Nat} {f : Nat → Nat → Bool} (hc : ∀ i j, f i j = f j i) : ((List.range n).all fun i => (List.range (i + 1)).all (f i)) = (List.range n).all fun i => (List.range n).all (f i) := by
  rw [Bool.eq_iff_iff]
  simp only [List.all_eq_true, List.mem_range]
  constructor
  · intro h i hi j hj
    rcases Nat.lt_or_ge i j with hij | hij
    · rw [hc]; exact h j hj i (by omega)
    · exact h i hi j (by omega)
  · intro h i hi j hj
    exact h i hi j (by omega)
section
variable {p : Int} {w : List Int} {T : List (List Int)} (hP : isP p = true) (hn : w.length ≤ 1048576) (hw : Vec p w.length w) (hT : Mat p w.length w.length T)
include hP hn hw hT
theorem s_iso_loop : loop (s_l03Isometry_L0 w p w T) BIG 0 = some (if (List.range w.length).all fun i => (List.range w.length).all (isoB p w T i) then .inl () else .inr false) := by
  rw [← all_tri (isoB_comm p w T)]
  have e1 := hT.1
  have inner : ∀ i, i < w.length → loop (s_l03Isometry_L1 w p w T (i : Int)) BIG 0 = some (if (List.range (i + 1)).all (isoB p w T i) then .inl () else .inr (.inr (.inr false))) := by
    intro i hi
    have core : ∀ j, j < i + 1 → s_l03Isometry_L1 w p w T (i : Int) (j : Int) = if isoB p w T i j = true then some (.inl ((j + 1 : Nat) : Int)) else some (.inr (.inr (.inr (.inr false)))) := by
      intro j hj
      unfold s_l03Isometry_L1
      have hpr := s_l03Pair_eq hP hn hw (hT.row hi) (hT.row (show j < w.length by omega))
      have he : ((if (i : Int) = (j : Int) then (idx w (i : Int)).bind fun v30 => some v30 else some 0) : Option Int) = some (if i = j then gI w i else 0) := by
        by_cases h : i = j
        · subst h; simp only [if_true, idxI hi, some_bind]
        · rw [if_neg (by omega), if_neg h]
      rw [if_pos (by omega), he, some_bind, idxR (by omega), some_bind, idxR (by omega), some_bind, hpr, some_bind, w_in (by omega) (by omega)]
      unfold isoB
      by_cases h : pairp p w.length w (gR T i) (gR T j) = if i = j then gI w i else 0
      · rw [if_neg (by simp [h]), if_pos (by simp [h])]; rfl
      · rw [if_pos h, if_neg (by simp [h])]
    refine all_loop _ (i + 1) (isoB p w T i) _ (by rw [BIG_val]; omega) ?_ ?_ ?_
    · intro j hj hf
      rw [core j hj, if_pos hf]
    · intro j hj hf
      rw [core j hj, if_neg (by simp [hf])]
    · unfold s_l03Isometry_L1
      rw [if_neg (by omega)]
  refine all_loop _ w.length (fun i => (List.range (i + 1)).all (isoB p w T i)) false (by rw [BIG_val]; omega) ?_ ?_ ?_
  · intro i hi hf
    unfold s_l03Isometry_L0
    rw [if_pos (by omega), inner i hi, hf, w_in (by omega) (by omega)]; rfl
  · intro i hi hf
    unfold s_l03Isometry_L0
    rw [if_pos (by omega), inner i hi, hf]; rfl
  · unfold s_l03Isometry_L0
    simp
theorem i_iso_loop : loop (i_isIsometry_L0 w p w T) BIG 0 = some (if (List.range w.length).all fun i => (List.range w.length).all (isoB p w T i) then .inl () else .inr false) := by
  have e1 := hT.1
  have inner : ∀ i, i < w.length → loop (i_isIsometry_L1 w p w T (i : Int) (gR T i)) BIG 0 = some (if (List.range w.length).all (isoB p w T i) then .inl () else .inr (.inr (.inr false))) := by
    intro i hi
    have core : ∀ j, j < w.length → i_isIsometry_L1 w p w T (i : Int) (gR T i) (j : Int) = if isoB p w T i j = true then some (.inl ((j + 1 : Nat) : Int)) else some (.inr (.inr (.inr (.inr false)))) := by
      intro j hj
      unfold i_isIsometry_L1
      have hpr := i_Space_pair_eq hP hn hw (hT.row hi) (hT.row hj)
      have he : ((if (i : Int) = (j : Int) then (idx w (i : Int)).bind fun v38 => some v38 else some 0) : Option Int) = some (if i = j then gI w i else 0) := by
        by_cases h : i = j
        · subst h; simp only [if_true, idxI hi, some_bind]
        · rw [if_neg (by omega), if_neg h]
      rw [if_pos (by omega), he, idxR (by omega), some_bind, some_bind, hpr, some_bind, w_in (by omega) (by omega)]
      unfold isoB
      by_cases h : pairp p w.length w (gR T i) (gR T j) = if i = j then gI w i else 0
      · rw [if_neg (by simp [h]), if_pos (by simp [h])]; rfl
      · rw [if_pos h, if_neg (by simp [h])]
    refine all_loop _ w.length (isoB p w T i) _ (by rw [BIG_val]; omega) ?_ ?_ ?_
    · intro j hj hf
      rw [core j hj, if_pos hf]
    · intro j hj hf
      rw [core j hj, if_neg (by simp [hf])]
    · unfold i_isIsometry_L1
      simp [e1]
  refine all_loop _ w.length (fun i => (List.range w.length).all (isoB p w T i)) false (by rw [BIG_val]; omega) ?_ ?_ ?_
  · intro i hi hf
    unfold i_isIsometry_L0
    rw [if_pos (by omega), idxR (by omega), some_bind, inner i hi, hf, w_in (by omega) (by omega)]; rfl
  · intro i hi hf
    unfold i_isIsometry_L0
    rw [if_pos (by omega), idxR (by omega), some_bind, inner i hi, hf]; rfl
  · unfold i_isIsometry_L0
    simp [e1]
end

theorem Isometry_eq {p : Int} {w : List Int} {m : List (List Int)} (hs : isSp p w = true) (h : szM m) : ∃ b, s_l03Isometry p w p w m = some b ∧ i_isIsometry p w p w m = some b ∧ (b = true → fr p w m = true) := by
  obtain ⟨hP, g1, g2, g3⟩ := isSp_iff hs
  have hp := isP_le hP
  have hwd : (gR m 0).length = wid m := rfl
  unfold s_l03Isometry i_isIsometry i_Space_dim i_Space_field
  by_cases hl : m.length = w.length
  · simp only [not_true_eq_false, if_false, hl, s_l02Is_eq h, i_field_isMatrix_eq hP h, some_bind]
    cases hm : isMat p m with
    | false => exact ⟨false, by simp, by simp, by simp⟩
    | true =>
      obtain ⟨h1, h2, h3, _, h4, h5⟩ := isMat_sz hm
      simp only [Bool.true_eq_false, if_false, idxR0 (show 0 < m.length by omega), some_bind, hwd]
      by_cases hl2 : wid m = w.length
      · have hmm : Mat p w.length w.length m := by rw [hl, hl2] at h3; exact h3
        have hfr : fr p w m = true := by simp [fr, hm, hl, hl2]
        obtain ⟨d, d1, d2⟩ := Det_eq hP (r := w.length) (by omega) hmm
        have t1 := i_transpose_eq (p := p) (r := w.length) (c := w.length) (m := m) (by omega) (by omega) (by omega) hmm
        have t2 := s_l02Turn_eq (p := p) (r := w.length) (c := w.length) (m := m) (by omega) (by omega) (by omega) hmm
        have hT := turnm_mat hmm
        have l1 := s_iso_loop hP (by omega) g3 hT
        have l2 := i_iso_loop hP (by omega) g3 hT
        simp only [hl2, not_true_eq_false, if_false, d1, d2, some_bind, t1, t2, l1, l2]
        cases ieq d 0 with
        | true => exact ⟨false, rfl, rfl, by simp⟩
        | false =>
          simp only [Bool.false_eq_true, if_false]
          cases (List.range w.length).all fun i => (List.range w.length).all (isoB p w (turnm w.length w.length m) i) with
          | true => exact ⟨true, rfl, rfl, fun _ => hfr⟩
          | false => exact ⟨false, rfl, rfl, by simp⟩
      · simp only [show ((wid m : Int) = (w.length : Int)) = False from eq_false (by omega), not_false_eq_true, if_true, some_bind]
        exact ⟨_, rfl, rfl, by simp⟩
  · simp only [not_true_eq_false, if_false, show ((m.length : Int) = (w.length : Int)) = False from eq_false (by omega), not_false_eq_true, if_true, some_bind, i_field_isMatrix_eq hP h]
    refine ⟨false, rfl, ?_, by simp⟩
    cases isMat p m <;> simp

/-- The code of an orthogonal table; and whether it is one. -/
theorem Orth_eq {p : Int} {w : List Int} {m : List (List Int)} (hw : w.length ≤ 1048576) (h : szM m) :
    ∃ V C K, s_IsOrthogonal p w m = some (V, C) ∧ i_IsOrthogonal p w m = some (V, C) ∧ s_l08Code p w m = some K ∧ i_checkOrthogonal p w m = some K ∧ (K = 0 → isSp p w = true ∧ fr p w m = true) := by
  unfold s_l08Code s_IsOrthogonal i_IsOrthogonal i_checkOrthogonal s_l08Is
  rw [s_l03Is_eq hw, i_IsSpace_eq hw, some_bind, some_bind]
  cases hs : isSp p w with
  | false => exact ⟨false, 1, 1, by simp, by simp, by simp, by simp, by simp⟩
  | true =>
    obtain ⟨hP, g1, g2, g3⟩ := isSp_iff hs
    obtain ⟨d, d1, d2⟩ := s_l03Disc_eq hP g3 hw
    obtain ⟨b, b1, b2, b3⟩ := Isometry_eq hs h
    simp only [Bool.true_eq_false, if_false, d1, i_Space_regular_eq hw, some_bind, b1, b2]
    cases hz : hasZ w with
    | true =>
      have := d2.2 hz
      exact ⟨false, 5, 5, by simp [this], by simp, by simp [this], by simp, by simp⟩
    | false =>
      have : ¬ d = 0 := fun e => by rw [d2.1 e] at hz; cases hz
      simp only [this, if_false, Bool.not_false, Bool.true_eq_false, some_bind]
      cases b with
      | true => exact ⟨true, 0, 0, by simp, by simp, by simp, by simp, fun _ => ⟨by trivial, b3 rfl⟩⟩
      | false => exact ⟨false, 0, 2, by simp, by simp, by simp, by simp, by simp⟩
theorem IsProper_eq {p : Int} {w : List Int} {m : List (List Int)} (hw : w.length ≤ 1048576) (h : szM m) : ∃ V C, s_IsProper p w m = some (V, C) ∧ i_IsProper p w m = some (V, C) := by
  obtain ⟨_, _, K, _, _, k1, k2, k3⟩ := Orth_eq (p := p) hw h
  unfold s_IsProper i_IsProper i_Space_field
  rw [k1, k2, some_bind, some_bind]
  by_cases h0 : K = 0
  · obtain ⟨a1, a2⟩ := k3 h0
    obtain ⟨hP, g1, g2, g3⟩ := isSp_iff a1
    obtain ⟨b1, b2, b3⟩ := fr_iff a2
    obtain ⟨d, d1, d2⟩ := Det_eq hP (r := w.length) (by omega) b3
    simp only [h0, not_true_eq_false, if_false, d1, d2, some_bind]
    exact ⟨_, _, rfl, rfl⟩
  · simp only [h0, not_false_eq_true, if_true]
    exact ⟨_, _, rfl, rfl⟩

/-! ### Orders -/
theorem s_l01Same_eq {a b : List Int} (h : a.length ≤ 1048576) : s_l01Same a b = some (decide (a = b)) := by
  unfold s_l01Same
  by_cases hl : a.length = b.length
  · rw [if_neg (by omega)]
    obtain ⟨r, h1, h2⟩ := cmp_loop a b hl (by omega) (s_l01Same_L0 a b) (fun k hk he => by
        unfold s_l01Same_L0
        simp only [show (k : Int) < a.length by omega, if_true, idxk hk, idxk (hl ▸ hk), some_bind, he, not_true_eq_false, if_false]
        rw [w_in (by omega) (by omega)]; rfl) (fun k hk he => by
        unfold s_l01Same_L0
        simp only [show (k : Int) < a.length by omega, if_true, idxk hk, idxk (hl ▸ hk), some_bind, he, not_false_eq_true]) (by
        unfold s_l01Same_L0
        simp) (by rw [BIG_val]; omega)
    rw [h1, some_bind]
    rcases h2 with ⟨rfl, rfl⟩ | ⟨rfl, h3⟩
    · simp
    · simp [h3]
  · rw [if_pos (by omega)]
    have : a ≠ b := fun e => hl (by rw [e])
    simp [this]
theorem slicesEqual_eq {a b : List Int} (h : a.length ≤ 1048576) : g_slices_Equal_LI_I a b = some (decide (a = b)) := s_l01Same_eq h
theorem s_l01Same2_eq {a b : List (List Int)} (h : a.length ≤ 1048576) (hr : ∀ r ∈ a, r.length ≤ 1048576) : s_l01Same2 a b = some (decide (a = b)) := by
  unfold s_l01Same2
  by_cases hl : a.length = b.length
  · rw [if_neg (by omega)]
    obtain ⟨r, h1, h2⟩ := cmp_loop a b hl (by omega) (s_l01Same2_L0 a b) (fun k hk he => by
        unfold s_l01Same2_L0
        simp only [show (k : Int) < a.length by omega, if_true, idxk hk, idxk (hl ▸ hk), some_bind]
        rw [s_l01Same_eq (hr _ (List.getElem_mem hk))]
        simp only [he, some_bind, decide_true, Bool.true_eq_false, if_false]
        rw [w_in (by omega) (by omega)]; rfl) (fun k hk he => by
        unfold s_l01Same2_L0
        simp only [show (k : Int) < a.length by omega, if_true, idxk hk, idxk (hl ▸ hk), some_bind]
        rw [s_l01Same_eq (hr _ (List.getElem_mem hk))]
        simp only [he, some_bind, decide_false, if_true]) (by
        unfold s_l01Same2_L0
        simp) (by rw [BIG_val]; omega)
    rw [h1, some_bind]
    rcases h2 with ⟨rfl, rfl⟩ | ⟨rfl, h3⟩
    · simp
    · simp [h3]
  · rw [if_pos (by omega)]
    have : a ≠ b := fun e => hl (by rw [e])
    simp [this]
theorem i_sameRows_eq {a b : List (List Int)} (h : a.length ≤ 1048576) (hr : ∀ r ∈ a, r.length ≤ 1048576) : i_sameRows a b = some (decide (a = b)) := by
  unfold i_sameRows g_slices_EqualFunc_LLI_LLI_LI_LI_of_g_slices_Equal_LI_I
  by_cases hl : a.length = b.length
  · rw [if_neg (by omega)]
    obtain ⟨r, h1, h2⟩ := cmp_loop a b hl (by omega) (g_slices_EqualFunc_LLI_LLI_LI_LI_of_g_slices_Equal_LI_I_L0 a b) (fun k hk he => by
        unfold g_slices_EqualFunc_LLI_LLI_LI_LI_of_g_slices_Equal_LI_I_L0
        simp only [show (k : Int) < a.length by omega, if_true, idxk hk, idxk (hl ▸ hk), some_bind]
        rw [slicesEqual_eq (hr _ (List.getElem_mem hk))]
        simp only [he, some_bind, decide_true, Bool.true_eq_false, if_false]
        rw [w_in (by omega) (by omega)]; rfl) (fun k hk he => by
        unfold g_slices_EqualFunc_LLI_LLI_LI_LI_of_g_slices_Equal_LI_I_L0
        simp only [show (k : Int) < a.length by omega, if_true, idxk hk, idxk (hl ▸ hk), some_bind]
        rw [slicesEqual_eq (hr _ (List.getElem_mem hk))]
        simp only [he, some_bind, decide_false, if_true]) (by
        unfold g_slices_EqualFunc_LLI_LLI_LI_LI_of_g_slices_Equal_LI_I_L0
        simp) (by rw [BIG_val]; omega)
    rw [h1, some_bind]
    rcases h2 with ⟨rfl, rfl⟩ | ⟨rfl, h3⟩
    · simp
    · simp [h3]
  · rw [if_pos (by omega)]
    have : a ≠ b := fun e => hl (by rw [e])
    simp [this]

/-- Two loops with ends of their own; the second one may take more steps. -/
theorem loop_ends {S B C : Type} {f : S → Option (S ⊕ B)} {g : S → Option (S ⊕ C)} (I : S → Prop) (μ : S → Nat) (Q : B → C → Prop) {s : S} (h0 : I s) (hm : μ s < BIG)
    (hr : ∀ s, I s → (∃ s', f s = some (.inl s') ∧ g s = some (.inl s') ∧ I s' ∧ μ s' < μ s) ∨ (∃ b c, f s = some (.inr b) ∧ (∀ n, μ s < n → loop g n s = some c) ∧ Q b c)) :
    ∃ b c, loop f BIG s = some b ∧ loop g BIG s = some c ∧ Q b c := by
  have key : ∀ (n : Nat) (s : S), I s → μ s < n → ∃ b c, loop f n s = some b ∧ loop g n s = some c ∧ Q b c := by
    intro n
    induction n with
    | zero => intro s _ h; omega
    | succ n ih =>
      intro s hI hn
      rcases hr s hI with ⟨s', h1, h2, h3, h4⟩ | ⟨b, c, h1, h2, h3⟩
      · rw [loop_succ, loop_succ, h1, h2]
        exact ih s' h3 (by omega)
      · rw [h2 _ hn, loop_succ, h1]
        exact ⟨b, c, rfl, rfl, h3⟩
  exact key BIG s h0 hm
section
variable {p : Int} {w : List Int} {m x : List (List Int)} {k : Nat} (hw : w.length ≤ 1048576) (h0 : 0 < w.length) (hp : 3 ≤ p) (hp2 : p ≤ 13) (hm : Mat p w.length w.length m) (hx : Mat p w.length w.length x) (hk : k ≤ 100000)
include hw h0 hp hp2 hm hx hk
theorem s_ord_end (he : x = unitm w.length) : s_OrthogonalOrder_L0 p m (unitm w.length) (x, (k : Int)) = some (.inr (.inl (k : Int))) := by
  have hz := hx.sz hw hw
  have q1 := s_l01Same2_eq (b := unitm w.length) hz.1 hz.2
  have hd : decide (x = unitm w.length) = true := by simp [he]
  unfold s_OrthogonalOrder_L0
  simp only [q1, hd, some_bind, Bool.true_eq_false, if_false]
theorem i_ord_end (he : x = unitm w.length) : i_OrthogonalOrder_L0 p w m (unitm w.length) (x, (k : Int)) = some (.inr (.inr ((k : Int), 0))) := by
  have hz := hx.sz hw hw
  have q2 := i_sameRows_eq (b := unitm w.length) hz.1 hz.2
  have hd : decide (x = unitm w.length) = true := by simp [he]
  unfold i_OrthogonalOrder_L0
  simp only [show ((k : Int) ≤ 100000) = True from eq_true (by omega), q2, hd, if_true, some_bind]
theorem s_ord_step (he : x ≠ unitm w.length) : s_OrthogonalOrder_L0 p m (unitm w.length) (x, (k : Int)) = if k = 100000 then some (.inr (.inr (0, 3))) else some (.inl (timesm p w.length w.length w.length x m, ((k + 1 : Nat) : Int))) := by
  have hz := hx.sz hw hw
  have q1 := s_l01Same2_eq (b := unitm w.length) hz.1 hz.2
  have t1 := s_l02Times_eq (p := p) (r := w.length) (n := w.length) (c := w.length) (by omega) (by omega) (by omega) (by omega) (by omega) (by omega) hx hm
  have w1 : w64 ((k : Int) + 1) = ((k + 1 : Nat) : Int) := by rw [w_in (by omega) (by omega)]; rfl
  have hd : decide (x = unitm w.length) = false := by simp [he]
  unfold s_OrthogonalOrder_L0
  simp only [q1, hd, some_bind, if_true, t1, w1]
  by_cases h : k = 100000
  · rw [if_pos h, if_pos (by omega)]
  · rw [if_neg h, if_neg (by omega)]
theorem i_ord_step (he : x ≠ unitm w.length) : i_OrthogonalOrder_L0 p w m (unitm w.length) (x, (k : Int)) = some (.inl (timesm p w.length w.length w.length x m, ((k + 1 : Nat) : Int))) := by
  have hz := hx.sz hw hw
  have q2 := i_sameRows_eq (b := unitm w.length) hz.1 hz.2
  have t2 := i_field_times_eq (p := p) (r := w.length) (n := w.length) (c := w.length) (by omega) (by omega) (by omega) (by omega) (by omega) (by omega) hx hm
  have w1 : w64 ((k : Int) + 1) = ((k + 1 : Nat) : Int) := by rw [w_in (by omega) (by omega)]; rfl
  have hd : decide (x = unitm w.length) = false := by simp [he]
  unfold i_OrthogonalOrder_L0 i_Space_field
  simp only [show ((k : Int) ≤ 100000) = True from eq_true (by omega), q2, hd, if_true, some_bind, Bool.false_eq_true, if_false, t2, w1]
end
theorem i_ord_out {p : Int} {w : List Int} {m u x : List (List Int)} {k : Nat} (hk : 100000 < k) : i_OrthogonalOrder_L0 p w m u (x, (k : Int)) = some (.inr (.inl ())) := by
  unfold i_OrthogonalOrder_L0
  simp only []
  rw [if_neg (by omega)]
theorem ord_loops {p : Int} {w : List Int} {m : List (List Int)} (hw : w.length ≤ 1048576) (h0 : 0 < w.length) (hp : 3 ≤ p) (hp2 : p ≤ 13) (hm : Mat p w.length w.length m) (N : Nat) (hN : N = 100003) :
    ∃ b c, loop (s_OrthogonalOrder_L0 p m (unitm w.length)) BIG (m, 1) = some b ∧ loop (i_OrthogonalOrder_L0 p w m (unitm w.length)) BIG (m, 1) = some c ∧
      ∃ V C, (match b with | .inl y => some (y, 0) | .inr t => some t) = some (V, C) ∧ (match c with | .inl _ => some ((0 : Int), (3 : Int)) | .inr t => some t) = some (V, C) := by
  refine loop_ends (fun s => Mat p w.length w.length s.1 ∧ ∃ k : Nat, s.2 = (k : Int) ∧ 1 ≤ k ∧ k ≤ 100000) (fun s => N - s.2.toNat) _ ⟨hm, 1, rfl, by omega, by omega⟩ (by rw [BIG_val]; simp only []; omega) ?_
  rintro ⟨x, t⟩ ⟨hx, k, rfl, hk1, hk2⟩
  simp only [] at hx
  by_cases he : x = unitm w.length
  · refine .inr ⟨.inl (k : Int), .inr ((k : Int), 0), s_ord_end hw h0 hp hp2 hm hx hk2 he, fun n hn => ?_, _, _, rfl, rfl⟩
    cases n with
    | zero => omega
    | succ n => rw [loop_succ, i_ord_end hw h0 hp hp2 hm hx hk2 he]
  · have e1 := s_ord_step hw h0 hp hp2 hm hx hk2 he
    have e2 := i_ord_step hw h0 hp hp2 hm hx hk2 he
    by_cases hk : k = 100000
    · rw [if_pos hk] at e1
      refine .inr ⟨.inr (0, 3), .inl (), e1, fun n hn => ?_, _, _, rfl, rfl⟩
      obtain ⟨n', rfl⟩ : ∃ n', n = n' + 2 := ⟨n - 2, by simp only [Int.toNat_natCast] at hn; omega⟩
      rw [loop_succ, e2]
      simp only []
      rw [loop_succ, i_ord_out (by omega)]
    · rw [if_neg hk] at e1
      exact .inl ⟨_, e1, e2, ⟨timesm_mat (by omega) .., k + 1, rfl, by omega, by omega⟩, by simp only [Int.toNat_natCast]; omega⟩
theorem OrthogonalOrder_eq {p : Int} {w : List Int} {m : List (List Int)} (hw : w.length ≤ 1048576) (h : szM m) : ∃ V C, s_OrthogonalOrder p w m = some (V, C) ∧ i_OrthogonalOrder p w m = some (V, C) := by
  obtain ⟨_, _, K, _, _, k1, k2, k3⟩ := Orth_eq (p := p) hw h
  unfold s_OrthogonalOrder i_OrthogonalOrder i_Space_dim
  rw [k1, k2, some_bind, some_bind]
  by_cases h0 : K = 0
  · obtain ⟨a1, a2⟩ := k3 h0
    obtain ⟨hP, g1, g2, g3⟩ := isSp_iff a1
    have hp := isP_le hP
    obtain ⟨b1, b2, b3⟩ := fr_iff a2
    simp only [h0, not_true_eq_false, if_false, some_bind]
    rw [b2, s_l02Unit_eq hw, i_unit_eq hw, some_bind, some_bind]
    obtain ⟨b, c, l1, l2, V, C, c1, c2⟩ := ord_loops (p := p) (m := m) hw (by omega) (by omega) (by omega) b3 _ rfl
    refine ⟨V, C, ?_, ?_⟩
    · rw [l1, some_bind]; cases b <;> exact c1
    · rw [l2, some_bind]; cases c <;> exact c2
  · simp only [h0, not_false_eq_true, if_true]
    exact ⟨_, _, rfl, rfl⟩

/-! ### The laws -/
theorem LawIsOrthogonal {p : Int} {w : List Int} {m : List (List Int)} (hw : lenI w) (hm : lenM m) : l_FnExactIsOrthogonal p w m = some true := by
  unfold l_FnExactIsOrthogonal
  rw [szSp_eq hw (by omega) (by omega), some_bind]
  by_cases h1 : ((w.length : Nat) : Int) ≤ 1048576
  · have hs : szv w.length 1048576 = 1048576 - ((w.length : Nat) : Int) := by unfold szv; rw [if_pos h1]
    rw [hs, if_neg (by omega), szM_eq hm (by omega) (by omega), some_bind]
    by_cases h2 : ((m.length + rowsum m : Nat) : Int) ≤ 1048576 - ((w.length : Nat) : Int)
    · have hs2 : szv (m.length + rowsum m) (1048576 - ((w.length : Nat) : Int)) = 1048576 - ((w.length : Nat) : Int) - ((m.length + rowsum m : Nat) : Int) := by unfold szv; rw [if_pos h2]
      rw [hs2, if_neg (by omega)]
      obtain ⟨za, ra⟩ := sz_split (m := m) (by omega) h2
      have hw' : w.length ≤ 1048576 := by omega
      obtain ⟨V, C, _, e3, e4, _⟩ := Orth_eq (p := p) hw' za
      have e1 := toM_eq za.1 za.2
      have e2 := toSp_eq (p := p) hw'
      have e5 := eqSp_self (p := p) hw'
      have e6 := eqM_self za
      simp only [e1, e2, e3, e4, e5, e6, some_bind, Bool.true_eq_false, Bool.false_eq_true, if_false, if_true, ieq_self, Bool.not_true, natneg, not_true_eq_false, bne_self_eq_false]
    · have hs2 : szv (m.length + rowsum m) (1048576 - ((w.length : Nat) : Int)) = -1 := by unfold szv; rw [if_neg h2]
      rw [hs2, if_pos (by omega)]
  · have hs : szv w.length 1048576 = -1 := by unfold szv; rw [if_neg h1]
    rw [hs, if_pos (by omega)]
theorem LawIsProper {p : Int} {w : List Int} {m : List (List Int)} (hw : lenI w) (hm : lenM m) : l_FnExactIsProper p w m = some true := by
  unfold l_FnExactIsProper
  rw [szSp_eq hw (by omega) (by omega), some_bind]
  by_cases h1 : ((w.length : Nat) : Int) ≤ 1048576
  · have hs : szv w.length 1048576 = 1048576 - ((w.length : Nat) : Int) := by unfold szv; rw [if_pos h1]
    rw [hs, if_neg (by omega), szM_eq hm (by omega) (by omega), some_bind]
    by_cases h2 : ((m.length + rowsum m : Nat) : Int) ≤ 1048576 - ((w.length : Nat) : Int)
    · have hs2 : szv (m.length + rowsum m) (1048576 - ((w.length : Nat) : Int)) = 1048576 - ((w.length : Nat) : Int) - ((m.length + rowsum m : Nat) : Int) := by unfold szv; rw [if_pos h2]
      rw [hs2, if_neg (by omega)]
      obtain ⟨za, ra⟩ := sz_split (m := m) (by omega) h2
      have hw' : w.length ≤ 1048576 := by omega
      obtain ⟨V, C, e3, e4⟩ := IsProper_eq (p := p) hw' za
      have e1 := toM_eq za.1 za.2
      have e2 := toSp_eq (p := p) hw'
      have e5 := eqSp_self (p := p) hw'
      have e6 := eqM_self za
      simp only [e1, e2, e3, e4, e5, e6, some_bind, Bool.true_eq_false, Bool.false_eq_true, if_false, if_true, ieq_self, Bool.not_true, natneg, not_true_eq_false, bne_self_eq_false]
    · have hs2 : szv (m.length + rowsum m) (1048576 - ((w.length : Nat) : Int)) = -1 := by unfold szv; rw [if_neg h2]
      rw [hs2, if_pos (by omega)]
  · have hs : szv w.length 1048576 = -1 := by unfold szv; rw [if_neg h1]
    rw [hs, if_pos (by omega)]
theorem LawOrthogonalOrder {p : Int} {w : List Int} {m : List (List Int)} (hw : lenI w) (hm : lenM m) : l_FnExactOrthogonalOrder p w m = some true := by
  unfold l_FnExactOrthogonalOrder
  rw [szSp_eq hw (by omega) (by omega), some_bind]
  by_cases h1 : ((w.length : Nat) : Int) ≤ 1048576
  · have hs : szv w.length 1048576 = 1048576 - ((w.length : Nat) : Int) := by unfold szv; rw [if_pos h1]
    rw [hs, if_neg (by omega), szM_eq hm (by omega) (by omega), some_bind]
    by_cases h2 : ((m.length + rowsum m : Nat) : Int) ≤ 1048576 - ((w.length : Nat) : Int)
    · have hs2 : szv (m.length + rowsum m) (1048576 - ((w.length : Nat) : Int)) = 1048576 - ((w.length : Nat) : Int) - ((m.length + rowsum m : Nat) : Int) := by unfold szv; rw [if_pos h2]
      rw [hs2, if_neg (by omega)]
      obtain ⟨za, ra⟩ := sz_split (m := m) (by omega) h2
      have hw' : w.length ≤ 1048576 := by omega
      obtain ⟨V, C, e3, e4⟩ := OrthogonalOrder_eq (p := p) hw' za
      have e1 := toM_eq za.1 za.2
      have e2 := toSp_eq (p := p) hw'
      have e5 := eqSp_self (p := p) hw'
      have e6 := eqM_self za
      simp only [e1, e2, e3, e4, e5, e6, some_bind, Bool.true_eq_false, Bool.false_eq_true, if_false, if_true, ieq_self, Bool.not_true, natneg, not_true_eq_false, bne_self_eq_false]
    · have hs2 : szv (m.length + rowsum m) (1048576 - ((w.length : Nat) : Int)) = -1 := by unfold szv; rw [if_neg h2]
      rw [hs2, if_pos (by omega)]
  · have hs : szv w.length 1048576 = -1 := by unfold szv; rw [if_neg h1]
    rw [hs, if_pos (by omega)]
end Go.Vam
