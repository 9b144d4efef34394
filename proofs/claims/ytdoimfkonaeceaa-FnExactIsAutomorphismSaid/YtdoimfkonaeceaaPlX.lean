/- Plain laws: doublings: their elements, tables and products. -/
import Derived.Test.YtdoimfkonaeceaaPlW
namespace Go.Vam
open Go Go.RowKit
set_option linter.unusedSimpArgs false
set_option linter.unusedVariables false
set_option linter.unusedSectionVars false

theorem szDb_eq {p : Int} {w : List Int} {left : Int} (hl : lenI w) (h0 : 0 ≤ left) (h1 : left ≤ 1048576) : l_szDoubling p w left = some (szv w.length left) := by
  unfold l_szDoubling
  rw [szI_eq hl h0 h1, some_bind]
  unfold szv
  split
  · rw [if_neg (by omega)]
  · rw [if_pos (by omega)]
theorem toDb_eq {p : Int} {w : List Int} (h : w.length ≤ 1048576) : l_toDoubling p w = some (p, w) := by
  unfold l_toDoubling; rw [toI_eq h, some_bind]
theorem eqDb_self {p : Int} {w : List Int} (h : w.length ≤ 1048576) : l_eqDoubling p w p w = some true := by
  unfold l_eqDoubling; rw [if_neg (by simp), eqI_self h, some_bind, if_neg (by simp)]
theorem markDb_1 {p : Int} {w : List Int} (h : w.length ≤ 1048576) : l_markDoubling p w 1 = some (((1 + w.length : Nat) : Int)) := by
  unfold l_markDoubling; rw [markI_1 h, some_bind]

theorem s_l01Mod_eq {p n : Int} (hp : 0 < p) (hp2 : p ≤ 1048576) (h1 : -9223372036854775808 ≤ n) (h2 : n ≤ 9223372036854775807) : s_l01Mod p n = some (n % p) := by
  unfold s_l01Mod
  have hb := tmod_bounds n hp
  rw [chk_bind (by omega), chk_bind (by omega), w_in (by omega) (by omega), num_mod n hp]

/-! ### Doublings -/
def isDb (p : Int) (w : List Int) : Bool := isP p && (decide (w.length ≤ 4) && (nums p w && !hasZ w))
theorem isDb_iff {p : Int} {w : List Int} (h : isDb p w = true) : isP p = true ∧ w.length ≤ 4 ∧ Vec p w.length w ∧ hasZ w = false := by
  simp only [isDb, Bool.and_eq_true, decide_eq_true_eq, Bool.not_eq_true'] at h
  exact ⟨h.1, h.2.1, Vec.of h.2.2.1, h.2.2.2⟩
theorem hasZ_iff (w : List Int) : hasZ w = true ↔ (0 : Int) ∈ w := by
  unfold hasZ
  rw [List.any_eq_true]
  constructor
  · rintro ⟨x, hx, h⟩
    have : (0 : Int) = x := of_decide_eq_true h
    rw [this]; exact hx
  · intro h; exact ⟨0, h, rfl⟩
theorem s_l11Is_eq {p : Int} {w : List Int} (hw : w.length ≤ 1048576) : s_l11Is p w = some (isDb p w) := by
  unfold s_l11Is isDb
  rw [s_l01Prime_eq, some_bind]
  cases hP : isP p with
  | false => simp
  | true =>
    have hp := isP_le hP
    simp only [Bool.true_eq_false, if_false, some_bind, Bool.true_and]
    by_cases hl : w.length ≤ 4
    · rw [ilt_false (by omega), if_neg (by simp), all_loop _ w.length (fun k => decide (1 ≤ gI w k) && decide (gI w k ≤ p - 1)) false (by rw [BIG_val]; omega)]
      · rw [some_bind]
        have e : ((List.range w.length).all fun k => decide (1 ≤ gI w k) && decide (gI w k ≤ p - 1)) = (nums p w && !hasZ w) := by
          rw [all_rangeI w (fun x => decide (1 ≤ x) && decide (x ≤ p - 1)), Bool.eq_iff_iff]
          simp only [List.all_eq_true, Bool.and_eq_true, decide_eq_true_eq, nums_iff, Bool.not_eq_true']
          constructor
          · intro h
            refine ⟨fun x hx => ⟨by have := h x hx; omega, by have := h x hx; omega⟩, ?_⟩
            rw [Bool.eq_false_iff]
            intro hz
            have := h 0 ((hasZ_iff w).1 hz)
            omega
          · rintro ⟨h1, h2⟩ x hx
            have hx0 : x ≠ 0 := fun e => by
              rw [Bool.eq_false_iff] at h2
              exact h2 ((hasZ_iff w).2 (e ▸ hx))
            have := h1 x hx
            omega
        rw [e]
        simp only [hl, decide_true, Bool.true_and]
        cases (nums p w && !hasZ w) <;> rfl
      · intro k hk hf
        unfold s_l11Is_L0
        simp only [show (k : Int) < w.length by omega, if_true, idxI hk, some_bind, s_l01In_eq]
        rw [w_in (by omega) (by omega), w_in (by omega) (by omega), hf]; rfl
      · intro k hk hf
        unfold s_l11Is_L0
        simp only [show (k : Int) < w.length by omega, if_true, idxI hk, some_bind, s_l01In_eq]
        rw [w_in (by omega) (by omega), hf]; rfl
      · unfold s_l11Is_L0
        simp
    · rw [ilt_true (by omega), if_pos rfl]
      simp [hl]
theorem i_IsDoubling_eq {p : Int} {w : List Int} (hw : w.length ≤ 1048576) : i_IsDoubling p w = some (isDb p w) := by
  unfold i_IsDoubling isDb i_Doubling_field
  rw [i_IsPrime_eq, some_bind]
  cases hP : isP p with
  | false => simp
  | true =>
    have hp := isP_le hP
    simp only [if_true, Bool.true_and]
    by_cases hl : w.length ≤ 4
    · simp only [show ((w.length : Int) ≤ 4) = True from eq_true (by omega), if_true, some_bind, i_field_is_eq (show 0 ≤ p by omega) (show p ≤ 1048576 by omega) hw, contains_eq hw, hl, decide_true, Bool.true_and]
      unfold hasZ
      cases nums p w <;> simp
    · simp only [show ((w.length : Int) ≤ 4) = False from eq_false (by omega), if_false, some_bind, hl, decide_false, Bool.false_and]
def dbC (p : Int) (w : List Int) : Int := if isDb p w then (if 3 < w.length then 3 else 0) else 1
theorem dbC_zero {p : Int} {w : List Int} (h : dbC p w = 0) : isDb p w = true ∧ w.length ≤ 3 := by
  unfold dbC at h
  split at h
  · split at h
    · omega
    · exact ⟨by assumption, by omega⟩
  · omega
theorem s_l14Code_eq {p : Int} {w : List Int} (hw : w.length ≤ 1048576) : s_l14Code p w = some (dbC p w) := by
  unfold s_l14Code dbC
  rw [s_l11Is_eq hw, some_bind]
  cases isDb p w with
  | false => simp
  | true =>
    by_cases h : 3 < w.length
    · simp only [Bool.true_eq_false, if_false, show ((3 : Int) < (w.length : Int)) = True from eq_true (by omega), if_true, h]
    · simp only [Bool.true_eq_false, if_false, show ((3 : Int) < (w.length : Int)) = False from eq_false (by omega), if_true, h]
theorem s_l11Size_eq {p : Int} {w : List Int} (h : w.length ≤ 4) : s_l11Size p w = some ((2 ^ w.length : Nat) : Int) := by
  unfold s_l11Size
  rw [wrap_k _ (by omega), chk_bind (by omega), shl_k _ (by omega)]
theorem i_Doubling_size_eq {p : Int} {w : List Int} (h : w.length ≤ 4) : i_Doubling_size p w = some ((2 ^ w.length : Nat) : Int) := by
  unfold i_Doubling_size
  rw [chk_bind (by omega), shl_k _ (by omega)]
theorem ieq_nat (a b : Nat) : ieq (a : Int) (b : Int) = decide (a = b) := by
  simp only [ieq]
  exact decide_eq_decide.2 ⟨Int.ofNat.inj, congrArg _⟩
theorem two_pos (n : Nat) : 0 < 2 ^ n := Nat.pow_pos (by decide)

/-! ### Elements, tables -/
def elB (p : Int) (n : Nat) (x : List Int) : Bool := nums p x && decide (x.length = n)
theorem elB_iff {p : Int} {n : Nat} {x : List Int} : elB p n x = true ↔ Vec p n x := by
  simp only [elB, Bool.and_eq_true, decide_eq_true_eq]
  constructor
  · rintro ⟨h1, rfl⟩; exact Vec.of h1
  · intro h; exact ⟨h.nums, h.1⟩
section
variable {p : Int} {w : List Int} (hP : isP p = true) (hl : w.length ≤ 4)
include hP hl
theorem s_l11Element_eq {x : List Int} (hx : x.length ≤ 1048576) : s_l11Element p w x = some (elB p (2 ^ w.length) x) := by
  have hp := isP_le hP
  unfold s_l11Element elB
  rw [all_loop _ x.length (fun k => isNum p (gI x k)) false (by rw [BIG_val]; omega)]
  · rw [some_bind, all_rangeI x (isNum p), s_l11Size_eq hl]
    unfold nums
    cases x.all (isNum p) with
    | false => simp
    | true =>
      show some (ieq (x.length : Int) ((2 ^ w.length : Nat) : Int)) = some (true && decide (x.length = 2 ^ w.length))
      rw [ieq_nat, Bool.true_and]
  · intro k hk hf
    unfold s_l11Element_L0
    simp only [show (k : Int) < x.length by omega, if_true, idxI hk, some_bind, s_l01In_eq]
    rw [w_in (by omega) (by omega), w_in (by omega) (by omega)]
    unfold isNum at hf
    simp [hf]
  · intro k hk hf
    unfold s_l11Element_L0
    simp only [show (k : Int) < x.length by omega, if_true, idxI hk, some_bind, s_l01In_eq]
    rw [w_in (by omega) (by omega)]
    unfold isNum at hf
    simp [hf]
  · unfold s_l11Element_L0
    simp
theorem i_checkElements_c1_eq {x : List Int} (hx : x.length ≤ 1048576) : i_checkElements_c1 x p w = some (!elB p (2 ^ w.length) x) := by
  have hp := isP_le hP
  unfold i_checkElements_c1 elB i_Doubling_field
  rw [i_Doubling_size_eq hl, some_bind]
  by_cases h : x.length = 2 ^ w.length
  · simp only [show ((x.length : Int) = ((2 ^ w.length : Nat) : Int)) = True from eq_true (by rw [h]), not_true_eq_false, if_false, some_bind, i_field_is_eq (show 0 ≤ p by omega) (show p ≤ 1048576 by omega) hx, h, decide_true, Bool.and_true]
  · simp only [show ((x.length : Int) = ((2 ^ w.length : Nat) : Int)) = False from eq_false (fun e => h (Int.ofNat.inj e)), not_false_eq_true, if_true, some_bind, h, decide_false, Bool.and_false, Bool.not_false]
def dmB (p : Int) (n : Nat) (m : List (List Int)) : Bool := m.all (elB p n) && decide (m.length = n)
omit hP hl in
theorem dmB_iff {p : Int} {n : Nat} {m : List (List Int)} : dmB p n m = true ↔ Mat p n n m := by
  simp only [dmB, Bool.and_eq_true, decide_eq_true_eq, List.all_eq_true]
  constructor
  · rintro ⟨h1, h2⟩
    exact ⟨h2, fun i hi => by rw [← gR_get (by omega)]; exact elB_iff.1 (h1 _ (List.getElem_mem _))⟩
  · rintro ⟨h1, h2⟩
    refine ⟨fun x hx => ?_, h1⟩
    obtain ⟨k, hk, rfl⟩ := List.getElem_of_mem hx
    rw [gR_get hk]
    exact elB_iff.2 (h2 k (by omega))
theorem s_l14Matrix_eq {m : List (List Int)} (hm : szM m) : s_l14Matrix p w m = some (dmB p (2 ^ w.length) m) := by
  unfold s_l14Matrix dmB
  have := hm.1
  rw [all_loop _ m.length (fun k => elB p (2 ^ w.length) (gR m k)) false (by rw [BIG_val]; omega)]
  · rw [some_bind, all_rangeR m (elB p (2 ^ w.length)), s_l11Size_eq hl]
    cases m.all (elB p (2 ^ w.length)) with
    | false => simp
    | true =>
      show some (ieq (m.length : Int) ((2 ^ w.length : Nat) : Int)) = some (true && decide (m.length = 2 ^ w.length))
      rw [ieq_nat, Bool.true_and]
  · intro k hk hf
    unfold s_l14Matrix_L0
    simp only [show (k : Int) < m.length by omega, if_true, idxR hk, some_bind, s_l11Element_eq hP hl (hm.row hk)]
    rw [w_in (by omega) (by omega), hf]; rfl
  · intro k hk hf
    unfold s_l14Matrix_L0
    simp only [show (k : Int) < m.length by omega, if_true, idxR hk, some_bind, s_l11Element_eq hP hl (hm.row hk)]
    rw [hf]; rfl
  · unfold s_l14Matrix_L0
    simp
theorem i_Doubling_isMatrix_eq {m : List (List Int)} (hm : szM m) : i_Doubling_isMatrix p w m = some (dmB p (2 ^ w.length) m) := by
  have h16 : 2 ^ w.length ≤ 16 := by
    have : ∀ n, n ≤ 4 → 2 ^ n ≤ 16 := by decide
    exact this _ hl
  have hpos := two_pos w.length
  unfold i_Doubling_isMatrix i_Doubling_field
  rw [some_bind, i_field_isMatrix_eq hP hm, some_bind, i_Doubling_size_eq hl]
  generalize 2 ^ w.length = n at h16 hpos
  cases hM : isMat p m with
  | false =>
    have : dmB p n m = false := by
      rw [Bool.eq_false_iff]
      intro h
      have hm' := dmB_iff.1 h
      have h1 := hm'.1
      have h2 : wid m = n := (hm'.row (i := 0) hpos).1
      have : isMat p m = true := isMat_iff.2 ⟨hP, by omega, by omega, by omega, by omega, by rw [h1, h2]; exact hm'⟩
      rw [hM] at this; cases this
    rw [this]; simp
  | true =>
    obtain ⟨h1, h2, h3, _, h4, h5⟩ := isMat_sz hM
    simp only [if_true, some_bind]
    by_cases ha : m.length = n
    · simp only [show ((m.length : Int) = (n : Int)) = True from eq_true (by omega), if_true, idxR0 (show 0 < m.length by omega), some_bind]
      by_cases hb : wid m = n
      · have hb' : (gR m 0).length = n := hb
        have : dmB p n m = true := dmB_iff.2 (by rw [ha, hb] at h3; exact h3)
        rw [this, hb', ieq_self]
      · have : dmB p n m = false := by
          rw [Bool.eq_false_iff]
          intro h
          exact hb ((dmB_iff.1 h).row (i := 0) hpos).1
        rw [this]
        have : ieq ((gR m 0).length : Int) (n : Int) = false := by
          simp only [ieq, decide_eq_false_iff_not]
          intro e
          exact hb (Int.ofNat.inj e)
        rw [this]
    · have : dmB p n m = false := by simp [dmB, ha]
      rw [this]
      simp only [show ((m.length : Int) = (n : Int)) = False from eq_false (by omega), if_false, some_bind]
end

/-- A test of every part of a list, as a search for one that fails. -/
theorem contains_loop {α : Type} (c : List α) (z : α) (f : α → Bool) (hc : c.length ≤ 1048576) (step : Int → Option (Int ⊕ (Unit ⊕ Int)))
    (hs : ∀ k (hk : k < c.length), step (k : Int) = if f (c.getD k z) = true then some (.inr (.inr (k : Int))) else some (.inl ((k + 1 : Nat) : Int))) (he : step (c.length : Int) = some (.inr (.inl ()))) :
    ((loop step BIG 0).bind fun x2 => (match x2 with | .inl _ => some (-1) | .inr t => some t : Option Int)).bind (fun v1 => some (ile 0 v1)) = some (c.any f) := by
  obtain ⟨b, h1, h2⟩ := any_loop step c.length (fun k => f (c.getD k z)) (fun k => (k : Int)) (by rw [BIG_val]; omega)
    (fun k hk hf => by rw [hs k hk, if_neg (by rw [hf]; simp)]) (fun k hk hf => by rw [hs k hk, if_pos hf]) he
  have e : c.any f = (List.range c.length).any fun k => f (c.getD k z) := (any_range c f z).symm
  rw [e, h1]
  rcases h2 with ⟨rfl, h3⟩ | ⟨k, hk, rfl, hf, h3, _⟩
  · rw [h3]; simp [ile]
  · rw [h3]; simp [ile]
section
variable {p : Int} {w : List Int} (hw : w.length ≤ 1048576)
include hw
theorem containsEl_eq {c : List (List Int)} (hP : isP p = true) (hl : w.length ≤ 4) (hc : szM c) : g_slices_ContainsFunc_LLI_LI_of_i_checkElements_c1 c p w = some (!c.all (elB p (2 ^ w.length))) := by
  unfold g_slices_ContainsFunc_LLI_LI_of_i_checkElements_c1 g_slices_IndexFunc_LLI_LI_of_i_checkElements_c1
  rw [not_all]
  refine contains_loop c [] (fun x => !elB p (2 ^ w.length) x) hc.1 _ (fun k hk => ?_) ?_
  · unfold g_slices_IndexFunc_LLI_LI_of_i_checkElements_c1_L0
    have := hc.1
    rw [if_pos (by omega), idxR hk, some_bind, i_checkElements_c1_eq hP hl (hc.row hk), some_bind, w_in (by omega) (by omega)]
    rfl
  · unfold g_slices_IndexFunc_LLI_LI_of_i_checkElements_c1_L0
    simp
theorem containsDm_eq {c : List (List (List Int))} (hP : isP p = true) (hl : w.length ≤ 4) (hc : c.length ≤ 1048576) (h : ∀ m ∈ c, szM m) : g_slices_ContainsFunc_LLLI_LLI_of_i_checkThree_c1 c p w = some (!c.all (dmB p (2 ^ w.length))) := by
  unfold g_slices_ContainsFunc_LLLI_LLI_of_i_checkThree_c1 g_slices_IndexFunc_LLLI_LLI_of_i_checkThree_c1
  rw [not_all]
  refine contains_loop c [] (fun x => !dmB p (2 ^ w.length) x) hc _ (fun k hk => ?_) ?_
  · unfold g_slices_IndexFunc_LLLI_LLI_of_i_checkThree_c1_L0 i_checkThree_c1
    have hz : szM (c.getD k []) := by rw [← getD_get hk []]; exact h _ (List.getElem_mem _)
    rw [if_pos (by omega), idxD hk [], some_bind, i_Doubling_isMatrix_eq hP hl hz, some_bind, some_bind, w_in (by omega) (by omega)]
    rfl
  · unfold g_slices_IndexFunc_LLLI_LLI_of_i_checkThree_c1_L0
    simp
/-- The code ahead: the doubling, its elements, its tables. -/
def thC (p : Int) (w : List Int) (es : List (List Int)) (ms : List (List (List Int))) : Int :=
  if dbC p w = 0 then (if es.all (elB p (2 ^ w.length)) && ms.all (dmB p (2 ^ w.length)) then 0 else 2) else dbC p w
omit hw in
theorem thC_zero {es : List (List Int)} {ms : List (List (List Int))} (h : thC p w es ms = 0) : isDb p w = true ∧ w.length ≤ 3 ∧ (∀ x ∈ es, Vec p (2 ^ w.length) x) ∧ (∀ m ∈ ms, Mat p (2 ^ w.length) (2 ^ w.length) m) := by
  unfold thC at h
  split at h
  · rename_i h0
    obtain ⟨a1, a2⟩ := dbC_zero h0
    split at h
    · rename_i h1
      simp only [Bool.and_eq_true, List.all_eq_true] at h1
      exact ⟨a1, a2, fun x hx => elB_iff.1 (h1.1 x hx), fun m hm => dmB_iff.1 (h1.2 m hm)⟩
    · omega
  · contradiction
theorem i_checkElements_eq {c : List (List Int)} (hc : szM c) : i_checkElements p w c = some (if isDb p w then (if c.all (elB p (2 ^ w.length)) then 0 else 2) else 1) := by
  unfold i_checkElements
  rw [i_IsDoubling_eq hw, some_bind]
  cases hd : isDb p w with
  | false => simp
  | true =>
    obtain ⟨hP, hl, _, _⟩ := isDb_iff hd
    simp only [Bool.true_eq_false, if_false, if_true, containsEl_eq hw hP hl hc, some_bind]
    cases c.all (elB p (2 ^ w.length)) <;> simp
theorem i_checkThree_eq {es : List (List Int)} {ms : List (List (List Int))} (he : szM es) (hms : ms.length ≤ 1048576) (hm : ∀ m ∈ ms, szM m) : i_checkThree p w es ms = some (thC p w es ms) := by
  unfold i_checkThree thC dbC
  rw [i_IsDoubling_eq hw, some_bind, i_checkElements_eq hw he]
  cases hd : isDb p w with
  | false => simp
  | true =>
    obtain ⟨hP, hl, _, _⟩ := isDb_iff hd
    by_cases h3 : 3 < w.length
    · simp [show ((3 : Int) < (w.length : Int)) from by omega, h3]
    · simp only [Bool.true_eq_false, if_false, if_true, show ((3 : Int) < (w.length : Int)) = False from eq_false (by omega), h3, some_bind, containsDm_eq hw hP hl hms hm]
      cases es.all (elB p (2 ^ w.length)) with
      | false => simp
      | true => cases ms.all (dmB p (2 ^ w.length)) <;> simp
theorem s_l14Two_eq {ms : List (List (List Int))} (hms : ms.length ≤ 1048576) (hm : ∀ m ∈ ms, szM m) : s_l14Two p w ms = some (thC p w [] ms) := by
  unfold s_l14Two thC
  rw [s_l14Code_eq hw, some_bind]
  by_cases h0 : dbC p w = 0
  · obtain ⟨a1, a2⟩ := dbC_zero h0
    obtain ⟨hP, hl, _, _⟩ := isDb_iff a1
    have hget : ∀ k, k < ms.length → szM (ms.getD k []) := fun k hk => by rw [← getD_get hk []]; exact hm _ (List.getElem_mem _)
    simp only [h0, not_true_eq_false, if_false, if_true, List.all_nil, Bool.true_and]
    rw [all_loop _ ms.length (fun k => dmB p (2 ^ w.length) (ms.getD k [])) 2 (by rw [BIG_val]; omega)]
    · rw [some_bind, all_range ms (dmB p (2 ^ w.length)) []]
      cases ms.all (dmB p (2 ^ w.length)) <;> rfl
    · intro k hk hf
      unfold s_l14Two_L0
      rw [if_pos (by omega), idxD hk [], some_bind, s_l14Matrix_eq hP hl (hget k hk), some_bind, hf, w_in (by omega) (by omega)]; rfl
    · intro k hk hf
      unfold s_l14Two_L0
      rw [if_pos (by omega), idxD hk [], some_bind, s_l14Matrix_eq hP hl (hget k hk), some_bind, hf]; rfl
    · unfold s_l14Two_L0
      simp
  · simp [h0]
theorem s_l11Code_eq {c : List (List Int)} (hc : szM c) : s_l11Code p w c = some (if isDb p w then (if c.all (elB p (2 ^ w.length)) then 0 else 2) else 1) := by
  unfold s_l11Code
  rw [s_l11Is_eq hw, some_bind]
  have hcl := hc.1
  cases hd : isDb p w with
  | false => simp
  | true =>
    obtain ⟨hP, hl, _, _⟩ := isDb_iff hd
    simp only [Bool.true_eq_false, if_false, if_true]
    rw [all_loop _ c.length (fun k => elB p (2 ^ w.length) (gR c k)) 2 (by rw [BIG_val]; omega)]
    · rw [some_bind, all_rangeR c (elB p (2 ^ w.length))]
      cases c.all (elB p (2 ^ w.length)) <;> rfl
    · intro k hk hf
      unfold s_l11Code_L0
      rw [if_pos (by omega), idxR hk, some_bind, s_l11Element_eq hP hl (hc.row hk), some_bind, hf, w_in (by omega) (by omega)]; rfl
    · intro k hk hf
      unfold s_l11Code_L0
      rw [if_pos (by omega), idxR hk, some_bind, s_l11Element_eq hP hl (hc.row hk), some_bind, hf]; rfl
    · unfold s_l11Code_L0
      simp
theorem s_l14Elements_eq {c : List (List Int)} (hc : szM c) : s_l14Elements p w c = some (thC p w c []) := by
  unfold s_l14Elements thC
  rw [s_l14Code_eq hw, some_bind]
  by_cases h0 : dbC p w = 0
  · obtain ⟨a1, a2⟩ := dbC_zero h0
    simp only [h0, not_true_eq_false, if_false, if_true, List.all_nil, Bool.and_true, s_l11Code_eq hw hc, a1, some_bind]
  · simp [h0]
end

/-! ### A table's image -/
section
variable {p : Int} {n : Nat} {m : List (List Int)} {v : List Int} (hp : 0 < p) (hp2 : p ≤ 13) (hn : n ≤ 1048576) (hm : Mat p n n m) (hv : Vec p n v)
include hp hp2 hn hm hv
theorem s_l14Apply_eq : s_l14Apply p m v = some (applyv p n n m v) := by
  unfold s_l14Apply
  have e1 := hm.1
  have e2 := hv.1
  rw [map_loop _ n (fun i => dotp p n (gR m i) v) (by rw [BIG_val]; omega)]
  · rfl
  · intro i hi out ho
    unfold s_l14Apply_L0
    have e3 := (hm.row hi).1
    have key : loop (s_l14Apply_L1 m v (out, (i : Int))) BIG (0, 0) = some (sumN (fun k => gI (gR m i) k * gI v k) n) := by
      refine loop_for (fun k => (sumN (fun k => gI (gR m i) k * gI v k) k, (k : Int))) n (by rw [BIG_val]; omega) rfl ?_ ?_
      · intro k hk
        unfold s_l14Apply_L1
        have h1 := (hm.row hi).get hk; have h2 := hv.get hk
        have h3 := mul_abs (a := gI (gR m i) k) (b := gI v k) (A := 12) (B := 12) (by omega) (by omega)
        have h4 := sum_bound (hm.row hi) hv hp2 k (by omega)
        simp only [show (k : Int) < v.length by omega, if_true, idxR (show i < m.length by omega), idxI (show k < (gR m i).length by omega), idxI (show k < v.length by omega), some_bind]
        rw [w_in (x := gI (gR m i) k * gI v k) (by omega) (by omega), w_in (by omega) (by omega), w_in (by omega) (by omega)]
        rfl
      · unfold s_l14Apply_L1
        simp [e2]
    have hb := sum_bound (hm.row hi) hv hp2 n (Nat.le_refl _)
    simp only [show (i : Int) < m.length by omega, if_true, key, some_bind]
    rw [s_l01Mod_eq hp (by omega) (by omega) (by omega), some_bind, chk_bind (by simp only [List.length_cons, List.length_nil]; omega), w_in (by omega) (by omega)]
    rfl
  · intro out ho
    unfold s_l14Apply_L0
    simp [e1]
end
theorem two_le {n : Nat} (h : n ≤ 4) : 2 ^ n ≤ 16 := by
  have : ∀ n, n ≤ 4 → 2 ^ n ≤ 16 := by decide
  exact this _ h
theorem MatrixImage_eq {p : Int} {w : List Int} {m : List (List Int)} {v : List Int} (hw : w.length ≤ 1048576) (h : szM m) (hv : v.length ≤ 1048576) :
    ∃ V C, s_MatrixImage p w m v = some (V, C) ∧ i_MatrixImage p w m v = some (V, C) ∧ V.length ≤ 16 := by
  have hsm : ∀ x ∈ [m], szM x := fun x hx => by simp only [List.mem_singleton] at hx; exact hx ▸ h
  have hsv : szM [v] := ⟨by simp, fun x hx => by simp only [List.mem_singleton] at hx; exact hx ▸ hv⟩
  unfold s_MatrixImage i_MatrixImage i_Doubling_field
  rw [s_l14Two_eq hw (by simp) hsm, i_checkThree_eq hw hsv (by simp) hsm, some_bind, some_bind, s_l11Code_eq hw hsv]
  unfold thC
  by_cases h0 : dbC p w = 0
  · obtain ⟨a1, a2⟩ := dbC_zero h0
    obtain ⟨hP, hl, _, _⟩ := isDb_iff a1
    have hp := isP_le hP
    have h16 := two_le hl
    simp only [h0, if_true, List.all_nil, Bool.true_and, List.all_cons, Bool.and_true, a1]
    cases hm : dmB p (2 ^ w.length) m with
    | false => exact ⟨[], 2, by simp, by simp, by simp⟩
    | true =>
      cases he : elB p (2 ^ w.length) v with
      | false => exact ⟨[], 2, by simp, by simp, by simp⟩
      | true =>
        have hM := dmB_iff.1 hm
        have hV := elB_iff.1 he
        simp only [if_true, some_bind, not_true_eq_false, if_false, Bool.and_self, s_l14Apply_eq (show 0 < p by omega) (show p ≤ 13 by omega) (show 2 ^ w.length ≤ 1048576 by omega) hM hV, i_field_apply_eq (show 0 < p by omega) (show p ≤ 13 by omega) (show 2 ^ w.length ≤ 1048576 by omega) (show 2 ^ w.length ≤ 1048576 by omega) hM hV]
        exact ⟨_, _, rfl, rfl, by unfold applyv; simp only [vecN_len]; exact h16⟩
  · simp only [h0, if_false, some_bind, not_false_eq_true, if_true]
    exact ⟨_, _, rfl, rfl, by simp⟩
theorem LawMatrixImage {p : Int} {w : List Int} {m : List (List Int)} {v : List Int} (hw : lenI w) (hm : lenM m) (hv : lenI v) : l_FnExactMatrixImage p w m v = some true := by
  unfold l_FnExactMatrixImage
  by_cases hbig : 1048576 < (v.length : Int)
  · rw [if_pos hbig]
  rw [if_neg hbig, szDb_eq hw (by omega) (by omega), some_bind]
  by_cases h1 : ((w.length : Nat) : Int) ≤ 1048576
  · have hs : szv w.length 1048576 = 1048576 - ((w.length : Nat) : Int) := by unfold szv; rw [if_pos h1]
    rw [hs, if_neg (by omega), szM_eq hm (by omega) (by omega), some_bind]
    by_cases h2 : ((m.length + rowsum m : Nat) : Int) ≤ 1048576 - ((w.length : Nat) : Int)
    · have hs2 : szv (m.length + rowsum m) (1048576 - ((w.length : Nat) : Int)) = 1048576 - ((w.length : Nat) : Int) - ((m.length + rowsum m : Nat) : Int) := by unfold szv; rw [if_pos h2]
      rw [hs2, if_neg (by omega)]
      obtain ⟨za, ra⟩ := sz_split (m := m) (by omega) h2
      have hw' : w.length ≤ 1048576 := by omega
      have hv' : v.length ≤ 1048576 := by omega
      obtain ⟨V, C, e3, e4, hV⟩ := MatrixImage_eq (p := p) hw' za hv'
      have e1 := toM_eq za.1 za.2
      have e2 := toDb_eq (p := p) hw'
      have e0 := toI_eq hv'
      have e5 := eqDb_self (p := p) hw'
      have e6 := eqM_self za
      have e6b := eqI_self hv'
      have e7 := eqI_self (v := V) (by omega)
      have e8 := markDb_1 (p := p) hw'
      have e9 : l_markInt64SS m ((1 + w.length : Nat) : Int) = some (((1 + w.length + rowsum m : Nat) : Int), mrkM (1 + w.length) m) := markM_eq (by have := za.1; omega) (by omega)
      have e9b : l_markInt64S v ((1 + w.length + rowsum m : Nat) : Int) = some (((1 + w.length + rowsum m + v.length : Nat) : Int), mrkI (1 + w.length + rowsum m) v) := markI_eq (by omega)
      have e10 := markI_1 (xs := V) (by omega)
      have e11 := heldI_1 (xs := V) (by omega)
      simp only [e0, e1, e2, e3, e4, e5, e6, e6b, e7, e8, e9, e9b, e10, e11, some_bind, Bool.true_eq_false, Bool.false_eq_true, if_false, if_true, ieq_self, Bool.not_true, natneg, not_true_eq_false, bne_self_eq_false]
    · have hs2 : szv (m.length + rowsum m) (1048576 - ((w.length : Nat) : Int)) = -1 := by unfold szv; rw [if_neg h2]
      rw [hs2, if_pos (by omega)]
  · have hs : szv w.length 1048576 = -1 := by unfold szv; rw [if_neg h1]
    rw [hs, if_pos (by omega)]
end Go.Vam
