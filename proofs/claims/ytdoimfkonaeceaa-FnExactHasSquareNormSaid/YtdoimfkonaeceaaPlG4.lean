import Derived.Test.YtdoimfkonaeceaaPlG3
import Derived.Test.YtdoimfkonaeceaaFnE
/- Plain laws: rows reduced one at a time; IsAutomorphism. -/
namespace Go.Vam
open Go Go.RowKit
set_option linter.unusedSimpArgs false
set_option linter.unusedVariables false
set_option linter.unusedSectionVars false

theorem first_some {v : List Int} (hv : v.length ≤ 1048576) : (i_lead v = some (v.length : Int) ∧ ∀ k, k < v.length → gI v k = 0) ∨ ∃ f : Nat, f < v.length ∧ i_lead v = some (f : Int) ∧ gI v f ≠ 0 ∧ ∀ j, j < f → gI v j = 0 := by
  by_cases h : ∃ q, q < v.length ∧ gI v q ≠ 0
  · obtain ⟨q, hq, hne⟩ := h
    obtain ⟨f, f1, f2, f3, f4, f5⟩ := first_two hv hq hne
    exact .inr ⟨f, by omega, f3, f4, f5⟩
  · have h0 : ∀ k, k < v.length → gI v k = 0 := fun k hk => by
      by_cases e : gI v k = 0
      · exact e
      · exact absurd ⟨k, hk, e⟩ h
    exact .inl ⟨lead_zero hv h0, h0⟩
section
variable {p : Int} {n : Nat} (hP : isP p = true) (hn : n ≤ 1048000)
include hP hn
theorem s_l12Put_eq {B : List (List Int)} {ld : Nat → Nat} {x : List Int} (hB : Ech p n B ld) (hx : Vec p n x) :
    ∃ B' ld', s_l12Put p B x = some B' ∧ Ech p n B' ld' ∧ ∀ u, Kr p n B' u ↔ Kr p n B u ∧ p ∣ rd n x u := by
  have hp := isP_le hP
  have hle := hB.le
  obtain ⟨y, y1, y2, y3, y4⟩ := s_l12Rest_eq hp.1 hp.2 (by omega) hB (by omega) hx
  have yl := y2.1
  unfold s_l12Put
  rw [y1, some_bind]
  rcases first_some (v := y) (by omega) with ⟨h1, h2⟩ | ⟨f, f1, f2, f3, f4⟩
  · rw [s_l12First_lead, h1, some_bind, if_pos rfl]
    refine ⟨B, ld, rfl, hB, fun u => ⟨fun h => ⟨h, (y4 u h).1 ?_⟩, fun h => h.1⟩⟩
    have : rd n y u = 0 := by
      unfold rd
      rw [sumN_congr (g := fun _ => 0) (fun q hq => by rw [h2 q (by omega), Int.zero_mul])]
      exact sumN_zero n
    rw [this]; exact Int.dvd_zero p
  · have hfn : f < n := by omega
    have e4 := y2.get hfn
    obtain ⟨i1, i2, i3⟩ := inv_facts (a := gI y f) hP (by omega) e4.2
    have g1 := s_l01Inv_eq (a := gI y f) hP (by omega) e4.2
    have g2 := s_l11Scale_eq (p := p) (n := n) (a := y) (k := invp p (gI y f)) hp.1 hp.2 (by omega) (by omega) (by omega) y2
    have hR := scalev_vec (p := p) (by omega) n y (invp p (gI y f))
    have hRat : ∀ q, q < n → gI (scalev p n y (invp p (gI y f))) q = gI y q * invp p (gI y f) % p := by
      intro q hq; unfold scalev; rw [gI_vecN _ hq]
    have hRu : ∀ u, p ∣ rd n (scalev p n y (invp p (gI y f))) u ↔ p ∣ rd n y u := by
      intro u
      rw [dvd_congr (rd_scalev u), prime_dvd hP]
      refine ⟨fun h => h.resolve_left fun h => ?_, .inr⟩
      rw [num_dvd ⟨by omega, i2⟩] at h; omega
    generalize hRe : scalev p n y (invp p (gI y f)) = R at g2 hR hRat hRu
    have hR1 : gI R f = 1 := by rw [hRat f hfn, i3]
    have hR0 : ∀ q, q < n → gI y q = 0 → gI R q = 0 := fun q hq h => by rw [hRat q hq, h]; simp
    obtain ⟨o, o1, o2⟩ := put_loop hp.1 hp.2 (by omega) hB (by omega) hR hfn
    rw [s_l12First_lead, f2, some_bind, if_neg (by omega), idxI (by omega), some_bind, g1, some_bind, g2, some_bind, o1, some_bind]
    have fin : ∀ (B' : List (List Int)) (pos : Nat), pos ≤ B.length → (∀ j, j < pos → ¬ f < ld j) → (∀ j, pos ≤ j → j < B.length → f < ld j) → B'.length = B.length + 1 →
        (∀ j, j < B.length + 1 → gR B' j = if j < pos then lessv p n f R (gR B j) else if j = pos then R else lessv p n f R (gR B (j - 1))) →
        ∃ B'' ld', some B' = some B'' ∧ Ech p n B'' ld' ∧ ∀ u, Kr p n B'' u ↔ Kr p n B u ∧ p ∣ rd n x u := by
      intro B' pos hpos hlo hhi hl hg
      obtain ⟨q1, q2⟩ := hB.put (by omega) hR hfn hR1 (fun q hq => hR0 q (by omega) (f4 q hq)) (fun j hj => hR0 _ (hB.lt j hj) (y3 j hj)) hpos
        (fun j hj => by
          have h1 := hlo j hj
          have h2 : ld j ≠ f := fun e => f3 (by have := y3 j (by omega); rwa [e] at this)
          omega) hhi hl hg
      refine ⟨B', _, rfl, q1, fun u => ?_⟩
      rw [q2 u]
      constructor
      · intro ⟨a, b⟩
        exact ⟨a, (y4 u a).1 ((hRu u).1 b)⟩
      · intro ⟨a, b⟩
        exact ⟨a, (hRu u).2 ((y4 u a).2 b)⟩
    rcases o2 with ⟨h1, h2, h3, h4⟩ | ⟨h1, h2, pos, h3, h4, h5, h6⟩
    · simp only [h1, if_true]
      rw [chk_bind (by simp only [List.length_cons, List.length_nil]; omega), some_bind]
      refine fin _ B.length (Nat.le_refl _) h3 (fun j h1 h2 => by omega) (by simp [h2]) fun j hj => ?_
      unfold gR
      rw [List.getD_eq_getElem?_getD, List.getElem?_append]
      by_cases hjl : j < B.length
      · rw [if_pos (by omega), if_pos hjl]
        have := h4 j hjl
        unfold gR at this
        rw [← this, List.getD_eq_getElem?_getD]
      · have hjb : j = B.length := by omega
        rw [if_neg (by omega), if_neg hjl, if_pos hjb, hjb, h2, Nat.sub_self]; rfl
    · simp only [h1, Bool.true_eq_false, if_false]
      rw [some_bind]
      refine fin _ pos (by omega) h4 (fun j g1 g2 => ?_) h2 h6
      rcases Nat.lt_or_ge pos j with g | g
      · have := hB.srt pos j g g2; omega
      · have : j = pos := by omega
        rw [this]; exact h5
theorem s_l12Reduced_eq {r : Nat} {m : List (List Int)} (hr : r ≤ 1048576) (hm : Mat p r n m) : ∃ B ld, s_l12Reduced p m = some B ∧ Ech p n B ld ∧ ∀ u, Kr p n B u ↔ KerP p r n m u := by
  have e1 := hm.1
  unfold s_l12Reduced
  obtain ⟨B, h1, ld, h2, h3⟩ := loop_inv (step := s_l12Reduced_L0 p m) (fun s => ∃ k : Nat, s.2 = (k : Int) ∧ k ≤ r ∧ ∃ ld, Ech p n s.1 ld ∧ ∀ u, Kr p n s.1 u ↔ KerP p k n m u) (fun s => r - s.2.toNat)
    (fun B => ∃ ld, Ech p n B ld ∧ ∀ u, Kr p n B u ↔ KerP p r n m u) (s := ([], 0)) ⟨0, rfl, by omega, fun _ => 0, ⟨⟨rfl, fun i hi => by simp at hi⟩, fun j hj => by simp at hj, fun j hj => by simp at hj, fun j hj => by simp at hj, fun j hj => by simp at hj, fun i j _ hj => by simp at hj⟩, fun u => ⟨fun _ i hi => by omega, fun _ j hj => by simp at hj⟩⟩ (by rw [BIG_val]; simp only []; omega) (by
      rintro ⟨B, t⟩ ⟨k, rfl, hk, ld, hB, hu⟩
      try simp only [] at hB hu
      unfold s_l12Reduced_L0
      by_cases hkr : k < r
      · obtain ⟨B', ld', b1, b2, b3⟩ := s_l12Put_eq hP hn hB (hm.row hkr)
        refine .inl ⟨(B', ((k + 1 : Nat) : Int)), ?_, ⟨k + 1, rfl, by omega, ld', b2, fun u => ?_⟩, by simp only [Int.toNat_natCast]; omega⟩
        · try simp only []
          rw [if_pos (by omega), idxR (by omega), some_bind, b1, some_bind, w_in (by omega) (by omega)]; rfl
        · rw [b3 u, hu u]
          constructor
          · intro ⟨a, b⟩ i hi
            rcases Nat.lt_succ_iff_lt_or_eq.1 hi with h | h
            · exact a i h
            · rw [h]; exact b
          · intro h
            exact ⟨fun i hi => h i (by omega), h k (by omega)⟩
      · have hkk : k = r := by omega
        subst hkk
        refine .inr ⟨B, ?_, ld, hB, hu⟩
        try simp only []
        rw [if_neg (by omega)])
  rw [h1, some_bind]
  exact ⟨B, ld, rfl, h2, h3⟩
end

section
variable {p : Int} {w : List Int} {m : List (List Int)} (hP : isP p = true) (hl : w.length ≤ 4) (hw : Vec p w.length w) (hm : Mat p (2 ^ w.length) (2 ^ w.length) m)
def amB (p : Int) (w : List Int) (m : List (List Int)) (i j : Nat) : Bool := decide (imgv p w m i j = mulp p w (colv (2 ^ w.length) m i) (colv (2 ^ w.length) m j))
include hP hl hw hm
theorem s_am_loop : loop (s_l14Automorphism_L0 p w m (prodm p w) ((2 ^ w.length : Nat) : Int)) BIG 0 = some (if (List.range (2 ^ w.length)).all fun i => (List.range (2 ^ w.length)).all (amB p w m i) then .inl () else .inr false) := by
  have hp := isP_le hP
  have h16 := two_le hl
  have hT := prodm_mat hP hl hw
  have e0 := hT.1
  have inner : ∀ i : Nat, i < 2 ^ w.length → loop (s_l14Automorphism_L1 p w m (prodm p w) ((2 ^ w.length : Nat) : Int) (i : Int)) BIG 0 = some (if (List.range (2 ^ w.length)).all (amB p w m i) then .inl () else .inr (.inr (.inr false))) := by
    intro i hi
    have core : ∀ j : Nat, j < 2 ^ w.length → s_l14Automorphism_L1 p w m (prodm p w) ((2 ^ w.length : Nat) : Int) (i : Int) (j : Int) = if amB p w m i j = true then some (.inl ((j + 1 : Nat) : Int)) else some (.inr (.inr (.inr (.inr false)))) := by
      intro j hj
      have hx := xor_lt hi hj
      have e1 := (hT.row hi).1
      have ci := colv_vec (by omega) hm hi
      have cj := colv_vec (by omega) hm hj
      have cx := colv_vec (by omega) hm hx
      have hc := (axm_vec hP hl hw hi hj).get hx
      have hTij : gI (gR (prodm p w) i) j = gI (axm p w i j) (i ^^^ j) := by unfold prodm; rw [gR_vecN _ hi, gI_vecN _ hj]
      have sc := s_l11Scale_eq hp.1 hp.2 (show 2 ^ w.length ≤ 1048576 by omega) hc.1 (by omega) cx
      unfold s_l14Automorphism_L1
      simp only [lt_cast hj, if_true, idxR (show i < (prodm p w).length by omega), idxI (show j < (gR (prodm p w) i).length by omega), some_bind, hTij, bxor_k i (by omega) j (by omega), s_l14Column_eq (by omega) hm hx, s_l14Column_eq (by omega) hm hi, s_l14Column_eq (by omega) hm hj, sc,
        s_l11Times_eq hP hl hw ci cj]
      have hlen : (scalev p (2 ^ w.length) (colv (2 ^ w.length) m (i ^^^ j)) (gI (axm p w i j) (i ^^^ j))).length ≤ 1048576 := by unfold scalev; simp; omega
      rw [s_l01Same_eq hlen, some_bind, w_in (by omega) (by omega)]
      show (if amB p w m i j = false then _ else _) = _
      cases amB p w m i j <;> rfl
    refine all_loop _ (2 ^ w.length) (amB p w m i) _ (by rw [BIG_val]; omega) ?_ ?_ ?_
    · intro j hj hf
      rw [core j hj, if_pos hf]
    · intro j hj hf
      rw [core j hj, if_neg (by simp [hf])]
    · unfold s_l14Automorphism_L1
      simp only [lt_cast_self, if_false]
  rw [all_loop _ (2 ^ w.length) (fun i => (List.range (2 ^ w.length)).all (amB p w m i)) false (by rw [BIG_val]; omega)]
  · intro i hi hf
    unfold s_l14Automorphism_L0
    rw [if_pos (by omega), inner i hi, hf, w_in (by omega) (by omega)]; rfl
  · intro i hi hf
    unfold s_l14Automorphism_L0
    rw [if_pos (by omega), inner i hi, hf]; rfl
  · unfold s_l14Automorphism_L0
    simp only [lt_cast_self, if_false]
theorem i_am_loop : loop (i_Doubling_isAutomorphism_L0 p w m p (unitm (2 ^ w.length))) BIG 0 = some (if (List.range (2 ^ w.length)).all fun i => (List.range (2 ^ w.length)).all (amB p w m i) then .inl () else .inr false) := by
  have hp := isP_le hP
  have h16 := two_le hl
  have e0 := (unitm_mat (p := p) (by omega) (2 ^ w.length)).1
  have inner : ∀ i : Nat, i < 2 ^ w.length → loop (i_Doubling_isAutomorphism_L1 p w m p (i : Int) (axis (2 ^ w.length) i) (unitm (2 ^ w.length))) BIG 0 = some (if (List.range (2 ^ w.length)).all (amB p w m i) then .inl () else .inr (.inr (.inr false))) := by
    intro i hi
    have core : ∀ j : Nat, j < 2 ^ w.length → i_Doubling_isAutomorphism_L1 p w m p (i : Int) (axis (2 ^ w.length) i) (unitm (2 ^ w.length)) (j : Int) = if amB p w m i j = true then some (.inl ((j + 1 : Nat) : Int)) else some (.inr (.inr (.inr (.inr false)))) := by
      intro j hj
      have hx := xor_lt hi hj
      have ei := axis_vec (p := p) (by omega) hi
      have ej := axis_vec (p := p) (by omega) hj
      have ci := colv_vec (by omega) hm hi
      have cj := colv_vec (by omega) hm hj
      have hav := axm_vec hP hl hw hi hj
      have ap := i_field_apply_eq (show 0 < p by omega) (show p ≤ 13 by omega) (show 2 ^ w.length ≤ 1048576 by omega) (show 2 ^ w.length ≤ 1048576 by omega) hm hav
      rw [apply_only (by omega) hm hx hav (axm_only hl hi hj)] at ap
      have hlen : (imgv p w m i j).length ≤ 1048576 := by unfold imgv scalev; simp; omega
      unfold i_Doubling_isAutomorphism_L1
      simp only [e0, lt_cast hj, if_true, idxR (show j < (unitm (2 ^ w.length)).length by omega), gR_unitm hj, some_bind, i_column_eq (by omega) hm hi, i_column_eq (by omega) hm hj, i_Doubling_times_eq hP hl hw ei ej, i_Doubling_times_eq hP hl hw ci cj]
      rw [show mulp p w (axis (2 ^ w.length) i) (axis (2 ^ w.length) j) = axm p w i j from rfl, ap, some_bind]
      show ((g_slices_Equal_LI_I (imgv p w m i j) _).bind _) = _
      rw [slicesEqual_eq hlen, some_bind, w_in (by omega) (by omega)]
      show (if amB p w m i j = false then _ else _) = _
      cases amB p w m i j <;> rfl
    refine all_loop _ (2 ^ w.length) (amB p w m i) _ (by rw [BIG_val]; omega) ?_ ?_ ?_
    · intro j hj hf
      rw [core j hj, if_pos hf]
    · intro j hj hf
      rw [core j hj, if_neg (by simp [hf])]
    · unfold i_Doubling_isAutomorphism_L1
      simp only [e0, lt_cast_self, if_false]
  rw [all_loop _ (2 ^ w.length) (fun i => (List.range (2 ^ w.length)).all (amB p w m i)) false (by rw [BIG_val]; omega)]
  · intro i hi hf
    unfold i_Doubling_isAutomorphism_L0
    rw [e0, if_pos (by omega), idxR (by omega), some_bind, gR_unitm hi, i_Doubling_size_eq hl, some_bind, i_unit_eq (by omega), some_bind, inner i hi, hf, w_in (by omega) (by omega)]; rfl
  · intro i hi hf
    unfold i_Doubling_isAutomorphism_L0
    rw [e0, if_pos (by omega), idxR (by omega), some_bind, gR_unitm hi, i_Doubling_size_eq hl, some_bind, i_unit_eq (by omega), some_bind, inner i hi, hf]; rfl
  · unfold i_Doubling_isAutomorphism_L0
    simp only [e0, lt_cast_self, if_false]
theorem Automorphism_eq : ∃ b, s_l14Automorphism p w m = some b ∧ i_Doubling_isAutomorphism p w m = some b := by
  have hp := isP_le hP
  have h16 := two_le hl
  obtain ⟨d, _, d2, d3⟩ := Det_iff hP (show 2 ^ w.length ≤ 1048576 by omega) hm
  obtain ⟨B, ld, b1, b2, b3⟩ := s_l12Reduced_eq hP (show 2 ^ w.length ≤ 1048000 by omega) (show 2 ^ w.length ≤ 1048576 by omega) hm
  have hfull : B.length = 2 ^ w.length ↔ ¬ d = 0 := by
    rw [b2.full_iff (by omega), d3]
    unfold Sg
    constructor
    · intro h ⟨u, u1, u2⟩
      exact h ⟨u, u1, (b3 u).2 u2⟩
    · intro h ⟨u, u1, u2⟩
      exact h ⟨u, u1, (b3 u).1 u2⟩
  have e1 : s_l14Automorphism p w m = some (((List.range (2 ^ w.length)).all fun i => (List.range (2 ^ w.length)).all (amB p w m i)) && decide (¬ d = 0)) := by
    unfold s_l14Automorphism
    rw [s_l11Basis_eq hP hl hw, some_bind, s_l11Size_eq hl, some_bind, s_am_loop hP hl hw hm, some_bind]
    cases ((List.range (2 ^ w.length)).all fun i => (List.range (2 ^ w.length)).all (amB p w m i)) with
    | false => rfl
    | true =>
      simp only [if_true, b1, some_bind, Bool.true_and]
      rw [ieq_nat]
      congr 1
      exact decide_eq_decide.2 hfull
  have e2 : i_Doubling_isAutomorphism p w m = some (((List.range (2 ^ w.length)).all fun i => (List.range (2 ^ w.length)).all (amB p w m i)) && decide (¬ d = 0)) := by
    unfold i_Doubling_isAutomorphism i_Doubling_field
    rw [some_bind, d2, some_bind]
    by_cases h : d = 0
    · simp [h]
    · rw [if_neg h, i_Doubling_size_eq hl, some_bind, i_unit_eq (by omega), some_bind, i_am_loop hP hl hw hm, some_bind]
      cases ((List.range (2 ^ w.length)).all fun i => (List.range (2 ^ w.length)).all (amB p w m i)) with
      | false => rfl
      | true => simp [h]
  exact ⟨_, e1, e2⟩
end
theorem IsAutomorphism_eq {p : Int} {w : List Int} {m : List (List Int)} (hw : w.length ≤ 1048576) (h : szM m) : ∃ V C, s_IsAutomorphism p w m = some (V, C) ∧ i_IsAutomorphism p w m = some (V, C) := by
  have hsm : ∀ x ∈ [m], szM x := fun x hx => by simp only [List.mem_singleton] at hx; exact hx ▸ h
  unfold s_IsAutomorphism i_IsAutomorphism
  rw [s_l14Two_eq hw (by simp) hsm, i_checkThree_eq hw ⟨by simp, by simp⟩ (by simp) hsm, some_bind, some_bind]
  by_cases h0 : thC p w [] [m] = 0
  · obtain ⟨a1, a2, _, a4⟩ := thC_zero h0
    obtain ⟨hP, hl, hv, _⟩ := isDb_iff a1
    have hM := a4 m (by simp)
    obtain ⟨b, b1, b2⟩ := Automorphism_eq hP hl hv hM
    simp only [h0, not_true_eq_false, if_false, b1, b2, some_bind]
    exact ⟨_, _, rfl, rfl⟩
  · simp only [h0, not_false_eq_true, if_true]
    exact ⟨_, _, rfl, rfl⟩
theorem LawIsAutomorphism {p : Int} {w : List Int} {m : List (List Int)} (hw : lenI w) (hm : lenM m) : l_FnExactIsAutomorphism p w m = some true := by
  unfold l_FnExactIsAutomorphism
  rw [szDb_eq hw (by omega) (by omega), some_bind]
  by_cases h1 : ((w.length : Nat) : Int) ≤ 1048576
  · have hs : szv w.length 1048576 = 1048576 - ((w.length : Nat) : Int) := by unfold szv; rw [if_pos h1]
    rw [hs, if_neg (by omega), szM_eq hm (by omega) (by omega), some_bind]
    by_cases h2 : ((m.length + rowsum m : Nat) : Int) ≤ 1048576 - ((w.length : Nat) : Int)
    · have hs2 : szv (m.length + rowsum m) (1048576 - ((w.length : Nat) : Int)) = 1048576 - ((w.length : Nat) : Int) - ((m.length + rowsum m : Nat) : Int) := by unfold szv; rw [if_pos h2]
      rw [hs2, if_neg (by omega)]
      obtain ⟨za, ra⟩ := sz_split (m := m) (by omega) h2
      have hw' : w.length ≤ 1048576 := by omega
      obtain ⟨V, C, e3, e4⟩ := IsAutomorphism_eq (p := p) hw' za
      have e1 := toM_eq za.1 za.2
      have e2 := toDb_eq (p := p) hw'
      have e5 := eqDb_self (p := p) hw'
      have e6 := eqM_self za
      simp only [e1, e2, e3, e4, e5, e6, some_bind, Bool.true_eq_false, Bool.false_eq_true, if_false, if_true, ieq_self, Bool.not_true, natneg, not_true_eq_false, bne_self_eq_false]
    · have hs2 : szv (m.length + rowsum m) (1048576 - ((w.length : Nat) : Int)) = -1 := by unfold szv; rw [if_neg h2]
      rw [hs2, if_pos (by omega)]
  · have hs : szv w.length 1048576 = -1 := by unfold szv; rw [if_neg h1]
    rw [hs, if_pos (by omega)]
end Go.Vam

/- Plain laws: reflections keep the products of vectors. -/
namespace Go.Vam
open Go Go.RowKit
set_option linter.unusedSimpArgs false
set_option linter.unusedVariables false
set_option linter.unusedSectionVars false

/-- The product of vectors, as an integer. -/
def pairS (n : Nat) (w x y : List Int) : Int := sumN (fun k => gI x k * gI y k * gI w k) n
theorem pairp_S (p : Int) (n : Nat) (w x y : List Int) : pairp p n w x y = pairS n w x y % p := rfl
theorem pairS_comm (n : Nat) (w x y : List Int) : pairS n w x y = pairS n w y x := by
  unfold pairS
  exact sumN_congr fun k _ => by rw [Int.mul_comm (gI x k)]
theorem pairS_lin {p : Int} {n : Nat} {w x x' u y : List Int} {c : Int} (h : ∀ k, k < n → gI x' k % p = (gI x k + c * gI u k) % p) : pairS n w x' y % p = (pairS n w x y + c * pairS n w u y) % p := by
  unfold pairS
  rw [← sumN_lin]
  refine sumN_mod fun k hk => ?_
  rw [Int.mul_assoc, mul_mod_l (h k hk)]
  congr 1
  rw [Int.add_mul, Int.mul_assoc, Int.mul_assoc, Int.mul_assoc]
/-- What the reflection in u makes of v. -/
def reflv (p : Int) (n : Nat) (w u v : List Int) : List Int := plusv p n v u (-2 * pairS n w u v * invp p (pairp p n w u u))
theorem reflv_vec {p : Int} (hp : 0 < p) (n : Nat) (w u v : List Int) : Vec p n (reflv p n w u v) := plusv_vec hp ..
theorem reflv_at {p : Int} {n k : Nat} {w u v : List Int} (hk : k < n) : gI (reflv p n w u v) k = (gI v k + (-2 * pairS n w u v * invp p (pairp p n w u u)) * gI u k) % p := plusv_at hk
theorem inv_dvd {p a : Int} (hP : isP p = true) (h0 : a % p ≠ 0) : p ∣ invp p (a % p) * a - 1 := by
  have hp := isP_le hP
  have hn := mod_num (a := a) (p := p) (by omega)
  obtain ⟨_, _, i3⟩ := inv_facts (a := a % p) hP (by omega) hn.2
  rw [← mod_dvd, Int.emod_eq_of_lt (show (0 : Int) ≤ 1 by omega) (by omega), Int.mul_comm, ← i3]
  exact (mul_mod_l (emm a p)).symm
theorem reflv_pair {p : Int} {n : Nat} {w u : List Int} (hP : isP p = true) (hu : pairp p n w u u ≠ 0) (x y : List Int) :
    pairp p n w (reflv p n w u x) (reflv p n w u y) = pairp p n w x y := by
  rw [pairp_S, pairp_S]
  have ht := inv_dvd hP (a := pairS n w u u) hu
  rw [← pairp_S] at ht
  have hx : ∀ k, k < n → gI (reflv p n w u x) k % p = (gI x k + (-2 * pairS n w u x * invp p (pairp p n w u u)) * gI u k) % p := fun k hk => by rw [reflv_at hk, emm]
  have hy : ∀ k, k < n → gI (reflv p n w u y) k % p = (gI y k + (-2 * pairS n w u y * invp p (pairp p n w u u)) * gI u k) % p := fun k hk => by rw [reflv_at hk, emm]
  have h1 := mod_dvd.1 (pairS_lin (w := w) (y := reflv p n w u y) hx)
  have h2 := mod_dvd.1 (pairS_lin (w := w) (y := x) hy)
  have h3 := mod_dvd.1 (pairS_lin (w := w) (y := u) hy)
  rw [pairS_comm n w x (reflv p n w u y), pairS_comm n w u (reflv p n w u y)] at h1
  rw [pairS_comm n w y x, pairS_comm n w u x] at *
  rw [pairS_comm n w y u] at h3
  generalize hX : pairS n w x u = X at *
  generalize hY : pairS n w u y = Y at *
  generalize invp p (pairp p n w u u) = t at *
  generalize pairS n w u u = Q at *
  generalize pairS n w x y = Z at *
  generalize pairS n w (reflv p n w u x) (reflv p n w u y) = A at *
  generalize pairS n w (reflv p n w u y) x = B at *
  generalize pairS n w (reflv p n w u y) u = C at *
  rw [mod_dvd]
  obtain ⟨k1, e1⟩ := h1
  obtain ⟨k2, e2⟩ := h2
  obtain ⟨k3, e3⟩ := h3
  obtain ⟨k4, e4⟩ := ht
  exact ⟨k1 + k2 + (-2 * X * t) * k3 + 4 * X * Y * t * k4, by grind⟩
/-- The reflection's table. -/
def reflm (p : Int) (n : Nat) (w u : List Int) : List (List Int) := turnm n n (vecN n fun k => reflv p n w u (axis n k))
theorem reflm_mat {p : Int} (hp : 0 < p) (n : Nat) (w u : List Int) : Mat p n n (reflm p n w u) := turnm_mat (Mat.mk' fun k _ => reflv_vec hp ..)
theorem pairS_axis {n k : Nat} {w u : List Int} (hk : k < n) : pairS n w u (axis n k) = gI u k * gI w k := by
  unfold pairS
  rw [sumN_one hk (fun q hq hqk => by rw [gI_axis hk, if_neg hqk]; simp), gI_axis hk, if_pos rfl, Int.mul_one]
theorem reflm_at {p : Int} {n r k : Nat} {w u : List Int} (hr : r < n) (hk : k < n) : gI (gR (reflm p n w u) r) k = ((if r = k then 1 else 0) + (-2 * (gI u k * gI w k) * invp p (pairp p n w u u)) * gI u r) % p := by
  unfold reflm
  rw [turnm_at hk hr, gR_vecN _ hk, reflv_at hr, gI_axis hk, pairS_axis hk]
theorem refl_times {p : Int} {n i : Nat} {w u : List Int} {m : List (List Int)} (hp : 0 < p) (hi : i < n) :
    gR (turnm n n (timesm p n n n (reflm p n w u) m)) i = reflv p n w u (gR (turnm n n m) i) := by
  have hv := (reflv_vec hp n w u (gR (turnm n n m) i)).1
  rw [extI hv (f := gI (reflv p n w u (gR (turnm n n m) i))) fun k _ => rfl]
  refine extI (by unfold turnm; rw [gR_vecN _ hi, vecN_len]) fun r hr => ?_
  rw [turnm_at hr hi, reflv_at hr, turnm_at hr hi]
  unfold timesm
  rw [gR_vecN _ hr, gI_vecN _ hi]
  have e1 : sumN (fun j => gI (gR (reflm p n w u) r) j * gI (gR m j) i) n % p = sumN (fun j => (if r = j then gI (gR m j) i else 0) + (-2 * invp p (pairp p n w u u) * gI u r) * (gI u j * gI (gR m j) i * gI w j)) n % p := by
    refine sumN_mod fun j hj => ?_
    rw [reflm_at hr hj, mul_mod_l (emm _ _)]
    congr 1
    split <;> grind
  rw [e1, sumN_lin, sumN_one hr (fun q hq hqr => if_neg (fun e => hqr e.symm)), if_pos rfl]
  congr 2
  have e2 : sumN (fun k => gI u k * gI (gR m k) i * gI w k) n = pairS n w u (gR (turnm n n m) i) := by
    unfold pairS
    exact sumN_congr fun k hk => by rw [turnm_at hk hi]
  rw [e2]
  grind
/-- A table whose columns have the products of the basis. -/
def IsoT (p : Int) (n : Nat) (w : List Int) (m : List (List Int)) : Prop := ∀ i, i < n → ∀ j, j < n → pairp p n w (gR (turnm n n m) i) (gR (turnm n n m) j) = if i = j then gI w i else 0
theorem IsoT.refl {p : Int} {n : Nat} {w u : List Int} {m : List (List Int)} (hP : isP p = true) (h : IsoT p n w m) (hu : pairp p n w u u ≠ 0) : IsoT p n w (timesm p n n n (reflm p n w u) m) := by
  have hp := isP_le hP
  intro i hi j hj
  rw [refl_times (by omega) hi, refl_times (by omega) hj, reflv_pair hP hu]
  exact h i hi j hj
/-- Of the sum and the difference with a vector of the same norm other than 0, not both have the norm 0. -/
theorem sum_norm {p : Int} {n : Nat} {w x y : List Int} (hP : isP p = true) (h1 : pairp p n w x x = pairp p n w y y) (h2 : pairp p n w y y ≠ 0) (h3 : pairp p n w (plusv p n x y (-1)) (plusv p n x y (-1)) = 0) :
    pairp p n w (plusv p n x y 1) (plusv p n x y 1) ≠ 0 := by
  have hp := isP_le hP
  intro h4
  have lin : ∀ c : Int, p ∣ pairS n w (plusv p n x y c) (plusv p n x y c) - (pairS n w x x + 2 * c * pairS n w x y + c * c * pairS n w y y) := by
    intro c
    have hx : ∀ k, k < n → gI (plusv p n x y c) k % p = (gI x k + c * gI y k) % p := fun k hk => by rw [plusv_at hk, emm]
    have a1 := mod_dvd.1 (pairS_lin (w := w) (y := plusv p n x y c) hx)
    have a2 := mod_dvd.1 (pairS_lin (w := w) (y := x) hx)
    have a3 := mod_dvd.1 (pairS_lin (w := w) (y := y) hx)
    rw [pairS_comm n w x (plusv p n x y c), pairS_comm n w y (plusv p n x y c)] at a1
    rw [pairS_comm n w y x] at a2
    obtain ⟨k1, e1⟩ := a1
    obtain ⟨k2, e2⟩ := a2
    obtain ⟨k3, e3⟩ := a3
    exact ⟨k1 + k2 + c * k3, by grind⟩
  have l1 := lin 1
  have l2 := lin (-1)
  have d1 : p ∣ pairS n w (plusv p n x y 1) (plusv p n x y 1) := Int.dvd_of_emod_eq_zero h4
  have d2 : p ∣ pairS n w (plusv p n x y (-1)) (plusv p n x y (-1)) := Int.dvd_of_emod_eq_zero h3
  have d3 : p ∣ pairS n w x x - pairS n w y y := mod_dvd.1 h1
  have h5 : p ∣ 4 * pairS n w y y := by
    obtain ⟨k1, e1⟩ := l1
    obtain ⟨k2, e2⟩ := l2
    obtain ⟨k3, e3⟩ := d1
    obtain ⟨k4, e4⟩ := d2
    obtain ⟨k5, e5⟩ := d3
    exact ⟨k3 + k4 - k1 - k2 - 2 * k5, by grind⟩
  rcases (prime_dvd hP).1 h5 with h | h
  · have : p ∣ (2 : Int) := by
      have : p ∣ (2 : Int) * 2 := h
      rcases (prime_dvd hP).1 this with h | h <;> exact h
    have := Int.le_of_dvd (by omega) this
    omega
  · exact h2 (Int.emod_eq_zero_of_dvd h)
end Go.Vam

/- Plain laws: decompositions into reflections; HasSquareNorm. -/
namespace Go.Vam
open Go Go.RowKit
set_option linter.unusedSimpArgs false
set_option linter.unusedVariables false
set_option linter.unusedSectionVars false

section
variable {p : Int} {n : Nat} {w u : List Int} (hP : isP p = true) (hn0 : 0 < n) (hn : n ≤ 1000) (hwl : w.length = n) (hw : Vec p n w) (hu : Vec p n u) (hQ : pairp p n w u u ≠ 0)
include hP hn0 hn hwl hw hu hQ
theorem pair_num (x y : List Int) : 0 ≤ pairp p n w x y ∧ pairp p n w x y < p := by
  have hp := isP_le hP
  exact mod_num (by omega)
theorem s_l07Reflect_eq {v : List Int} (hv : Vec p n v) : s_l07Reflect p w u v = some (reflv p n w u v) := by
  have hp := isP_le hP
  have a1 := pair_num hP hn0 hn hwl hw hu hQ u v
  have a2 := pair_num hP hn0 hn hwl hw hu hQ u u
  obtain ⟨i1, i2, i3⟩ := inv_facts (a := pairp p n w u u) hP (by omega) a2.2
  have g1 := s_l01Inv_eq (a := pairp p n w u u) hP (by omega) a2.2
  unfold s_l07Reflect reflv
  rw [s_l03Pair_eq hP (by omega) hw hu hv, some_bind, chk_bind (by omega), s_l03Pair_eq hP (by omega) hw hu hu, some_bind, g1, some_bind, chk_bind (by omega), chk_bind (by omega)]
  have e0 : pairp p n w u v = pairS n w u v % p := rfl
  generalize hA : pairp p n w u v = A at *
  generalize hT : invp p (pairp p n w u u) = t at *
  have b1 := mod_num (a := 2 * A) (p := p) (by omega)
  have w1 : w64 (2 * A) = 2 * A := w_in (by omega) (by omega)
  have t1 : (2 * A).tmod p = 2 * A % p := tmod_nn (by omega)
  have q1 := mul_abs (a := 2 * A % p) (b := t) (A := 13) (B := 13) (by omega) (by omega)
  have q2 := Int.mul_nonneg (a := 2 * A % p) (b := t) b1.1 (by omega)
  have w2 : w64 (2 * A % p * t) = 2 * A % p * t := w_in (by omega) (by omega)
  have t2 : (2 * A % p * t).tmod p = 2 * A % p * t % p := tmod_nn (by omega)
  have b2 := mod_num (a := 2 * A % p * t) (p := p) (by omega)
  have w3 : w64 (p - 2 * A % p * t % p) = p - 2 * A % p * t % p := w_in (by omega) (by omega)
  have t3 : (p - 2 * A % p * t % p).tmod p = (p - 2 * A % p * t % p) % p := tmod_nn (by omega)
  have b3 := mod_num (a := p - 2 * A % p * t % p) (p := p) (by omega)
  rw [w1, t1, w2, t2, w3, t3, s_l02Plus_eq (by omega) (by omega) (by omega) b3.1 (by omega) hv hu, some_bind]
  congr 1
  refine plusv_congr ?_
  rw [emm, mod_dvd]
  have d1 : p ∣ 2 * A % p * t % p - 2 * A % p * t := mod_dvd.1 (emm _ _)
  have d2 : p ∣ 2 * A % p - 2 * A := mod_dvd.1 (emm _ _)
  have d3 : p ∣ A - pairS n w u v := by rw [e0]; exact mod_dvd.1 (emm _ _)
  obtain ⟨k1, e1⟩ := d1
  obtain ⟨k2, e2⟩ := d2
  obtain ⟨k3, e3⟩ := d3
  generalize 2 * A % p * t % p = X at *
  generalize 2 * A % p = Y at *
  exact ⟨1 - k1 - k2 * t - 2 * k3 * t, by grind⟩
theorem i_Space_reflected_eq {v : List Int} (hv : Vec p n v) : i_Space_reflected p w u v = some (reflv p n w u v) := by
  have hp := isP_le hP
  have a1 := pair_num hP hn0 hn hwl hw hu hQ u v
  have a2 := pair_num hP hn0 hn hwl hw hu hQ u u
  obtain ⟨i1, i2, i3⟩ := inv_facts (a := pairp p n w u u) hP (by omega) a2.2
  have g1 := i_field_inv_eq (a := pairp p n w u u) hP (by omega) a2.2
  unfold i_Space_reflected i_Space_norm i_Space_field reflv
  rw [some_bind, i_Space_pair_eq hP (by omega) hw hu hv, some_bind, some_bind, i_Space_pair_eq hP (by omega) hw hu hu, some_bind, some_bind, g1, some_bind]
  have e0 : pairp p n w u v = pairS n w u v % p := rfl
  generalize hA : pairp p n w u v = A at *
  generalize hT : invp p (pairp p n w u u) = t at *
  have w1 : w64 (-2 * A) = -2 * A := w_in (by omega) (by omega)
  have q1 := mul_abs (a := -2 * A) (b := t) (A := 26) (B := 13) (by omega) (by omega)
  have w2 : w64 (-2 * A * t) = -2 * A * t := w_in (by omega) (by omega)
  rw [w1, w2, i_field_plus_eq (by omega) (by omega) (by omega) (by omega) hv hu, some_bind]
  congr 1
  refine plusv_congr ?_
  rw [mod_dvd]
  have d3 : p ∣ A - pairS n w u v := by rw [e0]; exact mod_dvd.1 (emm _ _)
  obtain ⟨k3, e3⟩ := d3
  exact ⟨-2 * k3 * t, by grind⟩
theorem refl_cols : Mat p n n (vecN n fun k => reflv p n w u (axis n k)) := by
  have hp := isP_le hP
  exact Mat.mk' fun k _ => reflv_vec (by omega) ..
theorem s_l08Reflection_eq : s_l08Reflection p w u = some (reflm p n w u) := by
  have hp := isP_le hP
  unfold s_l08Reflection
  rw [map_loop _ n (fun k => reflv p n w u (axis n k)) (by rw [BIG_val]; omega), some_bind, s_l02Turn_eq (by omega) (by omega) (by omega) (refl_cols hP hn0 hn hwl hw hu hQ), some_bind]
  · rfl
  · intro k hk out ho
    have ax : (List.replicate n (0 : Int)).set k 1 = axis n k := rfl
    have r1 := s_l07Reflect_eq hP hn0 hn hwl hw hu hQ (axis_vec (p := p) (by omega) hk)
    unfold s_l08Reflection_L0
    simp only [hwl, lt_cast hk, if_true]
    rw [chk_bind (by omega), some_bind, Int.toNat_natCast, idxI (by simpa using hk), some_bind, Int.toNat_natCast, ax, r1, some_bind, chk_bind (by simp only [List.length_cons, List.length_nil]; omega), w_in (by omega) (by omega)]; rfl
  · intro out ho
    unfold s_l08Reflection_L0
    simp only [hwl, lt_cast_self, if_false]
theorem i_Space_reflection_eq : i_Space_reflection p w u = some (reflm p n w u) := by
  have hp := isP_le hP
  have e0 := (unitm_mat (p := p) (by omega) n).1
  unfold i_Space_reflection i_Space_matrixBy_of_i_Space_reflection_c1 i_Space_dim
  rw [some_bind, hwl, i_unit_eq (by omega), some_bind, map_loop _ n (fun k => reflv p n w u (axis n k)) (by rw [BIG_val]; omega), some_bind, i_transpose_eq (by omega) (by omega) (by omega) (refl_cols hP hn0 hn hwl hw hu hQ), some_bind, some_bind]
  · rfl
  · intro k hk out ho
    have r1 := i_Space_reflected_eq hP hn0 hn hwl hw hu hQ (axis_vec (p := p) (by omega) hk)
    unfold i_Space_matrixBy_of_i_Space_reflection_c1_L0 i_Space_reflection_c1
    simp only [e0, lt_cast hk, if_true]
    rw [idxR (by omega), some_bind, gR_unitm hk, r1, some_bind, some_bind, chk_bind (by simp only [List.length_cons, List.length_nil]; omega), w_in (by omega) (by omega)]; rfl
  · intro out ho
    unfold i_Space_matrixBy_of_i_Space_reflection_c1_L0
    simp only [e0, lt_cast_self, if_false]
end
/-- Rows of n numbers each. -/
def RowsV (p : Int) (n : Nat) (L : List (List Int)) : Prop := ∀ r ∈ L, Vec p n r
section
variable {p : Int} {n : Nat} {w : List Int} (hP : isP p = true) (hn0 : 0 < n) (hn : n ≤ 1000) (hwl : w.length = n) (hw : Vec p n w) (hz : ∀ k, k < n → gI w k ≠ 0)
include hP hn0 hn hwl hw hz
theorem decompose_two {m : List (List Int)} (hm : Mat p n n m) (hi : IsoT p n w m) :
    ∃ L, loop (s_l08Decompose_L0 p w) BIG (m, [], 0) = some L ∧ loop (i_Space_decomposition_L0 p w (unitm n)) BIG (m, [], 0) = some L ∧ (RowsV p n L ∧ L.length ≤ 2 * n) := by
  have hp := isP_le hP
  have e0 := (unitm_mat (p := p) (by omega) n).1
  refine loop_two (S := List (List Int) × List (List Int) × Int) (B := List (List Int)) (f := s_l08Decompose_L0 p w) (g := i_Space_decomposition_L0 p w (unitm n)) (s := (m, [], 0)) (fun s => Mat p n n s.1 ∧ IsoT p n w s.1 ∧ RowsV p n s.2.1 ∧ ∃ k : Nat, s.2.2 = (k : Int) ∧ k ≤ n ∧ s.2.1.length ≤ 2 * k) (fun s => n - s.2.2.toNat) _ ⟨hm, hi, fun r hr => absurd hr List.not_mem_nil, 0, rfl, Nat.zero_le _, Nat.zero_le _⟩ (by rw [BIG_val]; simp only []; omega) ?_
  rintro ⟨m, L, t⟩ ⟨hm, hi, hL, k, rfl, hk, hLl⟩
  simp only [] at hm hi hL hLl
  unfold s_l08Decompose_L0 i_Space_decomposition_L0
  by_cases hkn : k < n
  · refine .inl ?_
    have hT := turnm_mat hm
    have tl := hT.1
    have wv := hT.row hkn
    have wl := wv.1
    have ev := axis_vec (p := p) (by omega) hkn
    have el := ev.1
    have ax : (List.replicate n (0 : Int)).set k 1 = axis n k := rfl
    have hWW : pairp p n w (gR (turnm n n m) k) (gR (turnm n n m) k) = gI w k := by rw [hi k hkn k hkn, if_pos rfl]
    have hEE : pairp p n w (axis n k) (axis n k) = gI w k := by
      rw [pairp_S, pairS_axis hkn, gI_axis hkn, if_pos rfl, Int.one_mul]
      exact mod_small (hw.get hkn).1 (hw.get hkn).2
    have lv : Vec p n (plusv p n (gR (turnm n n m) k) (axis n k) (-1)) := plusv_vec (by omega) ..
    have mv : Vec p n (plusv p n (gR (turnm n n m) k) (axis n k) 1) := plusv_vec (by omega) ..
    have p1 : s_l02Plus p (gR (turnm n n m) k) (axis n k) (p - 1) = some (plusv p n (gR (turnm n n m) k) (axis n k) (-1)) := by
      rw [s_l02Plus_eq (by omega) (by omega) (by omega) (by omega) (by omega) wv ev, plusv_congr neg_one_mod]
    have p2 := i_field_plus_eq (p := p) (k := -1) (by omega) (by omega) (show n ≤ 1048576 by omega) (by omega) wv ev
    have p3 := s_l02Plus_eq (p := p) (k := 1) (by omega) (by omega) (show n ≤ 1048576 by omega) (by omega) (by omega) wv ev
    have p4 := i_field_plus_eq (p := p) (k := 1) (by omega) (by omega) (show n ≤ 1048576 by omega) (by omega) wv ev
    have hlen : (plusv p n (gR (turnm n n m) k) (axis n k) (-1)).length = n := lv.1
    obtain ⟨b, b1, b2⟩ := i_isZero_eq (v := plusv p n (gR (turnm n n m) k) (axis n k) (-1)) (by omega)
    rw [hlen, diff_zero (by omega) wv ev] at b2
    have hb : decide (gR (turnm n n m) k = axis n k) = b := by
      rw [Bool.eq_iff_iff, b2, decide_eq_true_eq]
      exact ⟨fun e => e.symm, fun e => e.symm⟩
    have sm := s_l01Same_eq (a := gR (turnm n n m) k) (b := axis n k) (by omega)
    have n1 := s_l03Pair_eq hP (by omega) hw lv lv
    have n2 := i_Space_pair_eq hP (by omega) hw lv lv
    have w1 : w64 ((k : Int) + 1) = ((k + 1 : Nat) : Int) := by rw [w_in (by omega) (by omega)]; rfl
    have w2 : w64 (p - 1) = p - 1 := w_in (by omega) (by omega)
    simp only [hwl, e0, lt_cast hkn, if_true, s_l02Turn_eq (show 0 < n by omega) (by omega) (by omega) hm, i_transpose_eq (show 0 < n by omega) (by omega) (by omega) hm, some_bind, idxR (show k < (turnm n n m).length by omega), idxR (show k < (unitm n).length by omega), gR_unitm hkn, Int.toNat_natCast, i_Space_field, i_Space_norm,
      chk_bind (show 0 ≤ (n : Int) ∧ (n : Int) ≤ 1099511627776 by omega), idxI (show k < (List.replicate n (0 : Int)).length by simpa using hkn), ax, sm, hb, w1, w2, p1, p2, p3, p4, b1]
    cases b with
    | true => exact ⟨_, rfl, rfl, ⟨hm, hi, hL, k + 1, rfl, by omega, by simp only []; omega⟩, by simp only [Int.toNat_natCast]; omega⟩
    | false =>
      simp only [Bool.false_eq_true, if_false, n1, n2, some_bind]
      by_cases hq : pairp p n w (plusv p n (gR (turnm n n m) k) (axis n k) (-1)) (plusv p n (gR (turnm n n m) k) (axis n k) (-1)) = 0
      · simp only [hq, not_true_eq_false, if_false]
        have hq1 := sum_norm hP (hWW.trans hEE.symm) (by rw [hEE]; exact hz k hkn) hq
        have r1 := s_l08Reflection_eq hP hn0 hn hwl hw mv hq1
        have r2 := i_Space_reflection_eq hP hn0 hn hwl hw mv hq1
        have r3 := s_l08Reflection_eq hP hn0 hn hwl hw ev (by rw [hEE]; exact hz k hkn)
        have r4 := i_Space_reflection_eq hP hn0 hn hwl hw ev (by rw [hEE]; exact hz k hkn)
        have m1 := reflm_mat (p := p) (by omega) n w (plusv p n (gR (turnm n n m) k) (axis n k) 1)
        have m2 := reflm_mat (p := p) (by omega) n w (axis n k)
        have i1 := hi.refl hP hq1
        have m3 := timesm_mat (p := p) (by omega) n n n (reflm p n w (plusv p n (gR (turnm n n m) k) (axis n k) 1)) m
        have i2 := i1.refl hP (u := axis n k) (by rw [hEE]; exact hz k hkn)
        have m4 := timesm_mat (p := p) (by omega) n n n (reflm p n w (axis n k)) (timesm p n n n (reflm p n w (plusv p n (gR (turnm n n m) k) (axis n k) 1)) m)
        have t1 := s_l02Times_eq (p := p) (by omega) (by omega) (show n ≤ 1048576 by omega) hn0 (show n ≤ 1048576 by omega) (show n ≤ 1048576 by omega) m1 hm
        have t2 := i_field_times_eq (p := p) (by omega) (by omega) (show n ≤ 1048576 by omega) hn0 (show n ≤ 1048576 by omega) (show n ≤ 1048576 by omega) m1 hm
        have t3 := s_l02Times_eq (p := p) (by omega) (by omega) (show n ≤ 1048576 by omega) hn0 (show n ≤ 1048576 by omega) (show n ≤ 1048576 by omega) m2 m3
        have t4 := i_field_times_eq (p := p) (by omega) (by omega) (show n ≤ 1048576 by omega) hn0 (show n ≤ 1048576 by omega) (show n ≤ 1048576 by omega) m2 m3
        simp only [r1, r2, r3, r4, t1, t2, t3, t4, some_bind]
        rw [chk_bind (by simp only [List.length_cons, List.length_nil]; omega), some_bind]
        refine ⟨_, rfl, rfl, ⟨m4, i2, fun r hr => ?_, k + 1, rfl, by omega, by simp only [List.length_append, List.length_cons, List.length_nil]; omega⟩, by simp only [Int.toNat_natCast]; omega⟩
        simp only [List.mem_append, List.mem_cons, List.not_mem_nil, or_false] at hr
        rcases hr with h | h | h
        · exact hL r h
        · rw [h]; exact mv
        · rw [h]; exact ev
      · simp only [hq, not_false_eq_true, if_true]
        have r1 := s_l08Reflection_eq hP hn0 hn hwl hw lv hq
        have r2 := i_Space_reflection_eq hP hn0 hn hwl hw lv hq
        have m1 := reflm_mat (p := p) (by omega) n w (plusv p n (gR (turnm n n m) k) (axis n k) (-1))
        have i1 := hi.refl hP hq
        have m3 := timesm_mat (p := p) (by omega) n n n (reflm p n w (plusv p n (gR (turnm n n m) k) (axis n k) (-1))) m
        have t1 := s_l02Times_eq (p := p) (by omega) (by omega) (show n ≤ 1048576 by omega) hn0 (show n ≤ 1048576 by omega) (show n ≤ 1048576 by omega) m1 hm
        have t2 := i_field_times_eq (p := p) (by omega) (by omega) (show n ≤ 1048576 by omega) hn0 (show n ≤ 1048576 by omega) (show n ≤ 1048576 by omega) m1 hm
        simp only [r1, r2, t1, t2, some_bind]
        rw [chk_bind (by simp only [List.length_cons, List.length_nil]; omega), some_bind]
        refine ⟨_, rfl, rfl, ⟨m3, i1, fun r hr => ?_, k + 1, rfl, by omega, by simp only [List.length_append, List.length_cons, List.length_nil]; omega⟩, by simp only [Int.toNat_natCast]; omega⟩
        simp only [List.mem_append, List.mem_cons, List.not_mem_nil, or_false] at hr
        rcases hr with h | h
        · exact hL r h
        · rw [h]; exact lv
  · refine .inr ⟨L, ?_, ?_, hL, by omega⟩
    · simp only [hwl, show ¬ (k : Int) < (n : Int) by omega, if_false]
    · simp only [e0, show ¬ (k : Int) < (n : Int) by omega, if_false]
theorem Decompose_eq {m : List (List Int)} (hm : Mat p n n m) (hi : IsoT p n w m) :
    ∃ L, s_l08Decompose p w m = some L ∧ i_Space_decomposition p w m = some L ∧ RowsV p n L ∧ L.length ≤ 2 * n := by
  obtain ⟨L, h1, h2, h3, h4⟩ := decompose_two hP hn0 hn hwl hw hz hm hi
  unfold s_l08Decompose i_Space_decomposition i_Space_dim
  rw [h1, some_bind, some_bind, hwl, i_unit_eq (by omega), some_bind, h2, some_bind]
  exact ⟨L, rfl, rfl, h3, h4⟩
end
/-- The check of an orthogonal table says that its columns have the products of the basis. -/
theorem Isometry_full {p : Int} {w : List Int} {m : List (List Int)} (hs : isSp p w = true) (h : szM m) : ∃ b, s_l03Isometry p w p w m = some b ∧ i_isIsometry p w p w m = some b ∧ (b = true → fr p w m = true ∧ IsoT p w.length w m) := by
  obtain ⟨hP, g1, g2, g3⟩ := isSp_iff hs
  have hp := isP_le hP
  have hwd : (gR m 0).length = wid m := rfl
  unfold s_l03Isometry i_isIsometry i_Space_dim i_Space_field
  by_cases hl : m.length = w.length
  · simp only [not_true_eq_false, if_false, hl, s_l02Is_eq h, i_field_isMatrix_eq hP h, some_bind]
    cases hm : isMat p m with
    | false => exact ⟨false, by simp, by simp, by simp⟩
    | true =>
      obtain ⟨h1, h2, h3, _, h4, h5⟩ := isMat_sz hm
      simp only [Bool.true_eq_false, if_false, idxR0 (show 0 < m.length by omega), some_bind, hwd]
      by_cases hl2 : wid m = w.length
      · have hmm : Mat p w.length w.length m := by rw [hl, hl2] at h3; exact h3
        have hfr : fr p w m = true := by simp [fr, hm, hl, hl2]
        obtain ⟨d, d1, d2⟩ := Det_eq hP (r := w.length) (by omega) hmm
        have t1 := i_transpose_eq (p := p) (r := w.length) (c := w.length) (m := m) (by omega) (by omega) (by omega) hmm
        have t2 := s_l02Turn_eq (p := p) (r := w.length) (c := w.length) (m := m) (by omega) (by omega) (by omega) hmm
        have hT := turnm_mat hmm
        have l1 := s_iso_loop hP (by omega) g3 hT
        have l2 := i_iso_loop hP (by omega) g3 hT
        simp only [hl2, not_true_eq_false, if_false, d1, d2, some_bind, t1, t2, l1, l2]
        cases ieq d 0 with
        | true => exact ⟨false, rfl, rfl, by simp⟩
        | false =>
          simp only [Bool.false_eq_true, if_false]
          cases hA : (List.range w.length).all fun i => (List.range w.length).all (isoB p w (turnm w.length w.length m) i) with
          | true =>
            refine ⟨true, rfl, rfl, fun _ => ⟨hfr, fun i hi j hj => ?_⟩⟩
            have a1 := List.all_eq_true.1 hA i (by simpa using hi)
            have a2 := List.all_eq_true.1 a1 j (by simpa using hj)
            unfold isoB at a2
            exact of_decide_eq_true a2
          | false => exact ⟨false, rfl, rfl, by simp⟩
      · simp only [show ((wid m : Int) = (w.length : Int)) = False from eq_false (by omega), not_false_eq_true, if_true, some_bind]
        exact ⟨_, rfl, rfl, by simp⟩
  · simp only [not_true_eq_false, if_false, show ((m.length : Int) = (w.length : Int)) = False from eq_false (by omega), not_false_eq_true, if_true, some_bind, i_field_isMatrix_eq hP h]
    refine ⟨false, rfl, ?_, by simp⟩
    cases isMat p m <;> simp
/-- The code of an orthogonal table, and what it says when it is 0. -/
theorem Orth_full {p : Int} {w : List Int} {m : List (List Int)} (hw : w.length ≤ 1048576) (h : szM m) :
    ∃ K, s_l08Code p w m = some K ∧ i_checkOrthogonal p w m = some K ∧ (K = 0 → isSp p w = true ∧ fr p w m = true ∧ hasZ w = false ∧ IsoT p w.length w m) := by
  unfold s_l08Code s_IsOrthogonal i_checkOrthogonal s_l08Is
  rw [s_l03Is_eq hw, i_IsSpace_eq hw, some_bind, some_bind]
  cases hs : isSp p w with
  | false => exact ⟨1, by simp, by simp, by simp⟩
  | true =>
    obtain ⟨hP, g1, g2, g3⟩ := isSp_iff hs
    obtain ⟨d, d1, d2⟩ := s_l03Disc_eq hP g3 hw
    obtain ⟨b, b1, b2, b3⟩ := Isometry_full hs h
    simp only [Bool.true_eq_false, if_false, d1, i_Space_regular_eq hw, some_bind, b1, b2]
    cases hz : hasZ w with
    | true =>
      have := d2.2 hz
      exact ⟨5, by simp [this], by simp, by simp⟩
    | false =>
      have : ¬ d = 0 := fun e => by rw [d2.1 e] at hz; cases hz
      simp only [this, if_false, Bool.not_false, Bool.true_eq_false, some_bind]
      cases b with
      | true => exact ⟨0, by simp, by simp, fun _ => ⟨by trivial, (b3 rfl).1, by trivial, (b3 rfl).2⟩⟩
      | false => exact ⟨2, by simp, by simp, by simp⟩
theorem root_two {p a : Int} (hP : isP p = true) : ∃ r b, s_l01Root p a = some r ∧ i_field_isSquare p a = some b ∧ ile 0 r = b := by
  have hp := isP_le hP
  obtain ⟨N, hN⟩ : ∃ N : Nat, p = (N : Int) := ⟨p.toNat, by omega⟩
  unfold s_l01Root i_field_isSquare i_field_root
  obtain ⟨x, y, h1, h2, h3⟩ := loop_ends (S := Int) (f := s_l01Root_L0 p a) (g := i_field_root_L0 p a) (s := 0) (fun s => ∃ k : Nat, s = (k : Int) ∧ k ≤ N) (fun s => N - s.toNat)
    (fun (x : Unit ⊕ Int) (y : Unit ⊕ (Int × Bool)) => (x = .inl () ∧ y = .inl ()) ∨ ∃ k : Nat, x = .inr (k : Int) ∧ y = .inr ((k : Int), true)) ⟨0, rfl, by omega⟩ (by rw [BIG_val]; omega) (by
      rintro s ⟨k, rfl, hk⟩
      unfold s_l01Root_L0 i_field_root_L0
      by_cases hkn : k < N
      · have q1 := mul_abs (a := (k : Int)) (b := (k : Int)) (A := 13) (B := 13) (by omega) (by omega)
        have q2 := Int.mul_nonneg (a := (k : Int)) (b := (k : Int)) (by omega) (by omega)
        have w1 : w64 ((k : Int) * (k : Int)) = (k : Int) * (k : Int) := w_in (by omega) (by omega)
        have t1 : ((k : Int) * (k : Int)).tmod p = (k : Int) * (k : Int) % p := tmod_nn (by omega)
        have f1 := i_field_num_eq (p := p) (n := (k : Int) * (k : Int)) (by omega) (by omega) (by omega) (by omega)
        simp only [show (k : Int) < p by omega, if_true, chk_bind (show ¬ p = 0 by omega), w1, t1, f1, some_bind]
        by_cases he : (k : Int) * (k : Int) % p = a
        · refine .inr ⟨.inr (k : Int), .inr ((k : Int), true), by rw [if_pos he], fun n hn => ?_, .inr ⟨k, rfl, rfl⟩⟩
          cases n with
          | zero => omega
          | succ n =>
            rw [loop_succ]
            simp only [show (k : Int) < p by omega, if_true, w1, f1, some_bind, he]
        · refine .inl ⟨((k + 1 : Nat) : Int), ?_, ?_, ⟨k + 1, rfl, by omega⟩, by simp only [Int.toNat_natCast]; omega⟩
          · rw [if_neg he, w_in (by omega) (by omega)]; rfl
          · rw [if_neg he, w_in (by omega) (by omega)]; rfl
      · refine .inr ⟨.inl (), .inl (), ?_, fun n hn => ?_, .inl ⟨rfl, rfl⟩⟩
        · rw [if_neg (by omega)]
        · cases n with
          | zero => omega
          | succ n =>
            rw [loop_succ]
            simp only [show ¬ (k : Int) < p by omega, if_false])
  rw [h1, h2, some_bind, some_bind]
  rcases h3 with ⟨rfl, rfl⟩ | ⟨k, rfl, rfl⟩
  · exact ⟨_, _, rfl, rfl, rfl⟩
  · refine ⟨_, _, rfl, rfl, ?_⟩
    simp [ile]
theorem prod_two {p : Int} {n : Nat} {w : List Int} {L : List (List Int)} (hP : isP p = true) (hn : n ≤ 1000) (hw : Vec p n w) (hL : RowsV p n L) (hl : L.length ≤ 1048576) :
    ∃ x, loop (s_HasSquareNorm_L0 p w L) BIG (1, 0) = some x ∧ loop (i_HasSquareNorm_L0 p w L) BIG (1, 0) = some x ∧ True := by
  have hp := isP_le hP
  refine loop_two (S := Int × Int) (B := Int) (f := s_HasSquareNorm_L0 p w L) (g := i_HasSquareNorm_L0 p w L) (s := (1, 0)) (fun s => 0 ≤ s.1 ∧ s.1 < p ∧ ∃ k : Nat, s.2 = (k : Int) ∧ k ≤ L.length) (fun s => L.length - s.2.toNat) _ ⟨by simp only []; omega, by simp only []; omega, 0, rfl, by omega⟩ (by rw [BIG_val]; simp only []; omega) ?_
  rintro ⟨a, t⟩ ⟨ha, ha2, k, rfl, hk⟩
  simp only [] at ha ha2
  unfold s_HasSquareNorm_L0 i_HasSquareNorm_L0
  by_cases hkl : k < L.length
  · refine .inl ?_
    have hv : Vec p n (gR L k) := hL _ (by rw [← gR_get hkl]; exact List.getElem_mem _)
    have n1 := s_l03Pair_eq hP (by omega) hw hv hv
    have n2 := i_Space_pair_eq hP (by omega) hw hv hv
    have hq : 0 ≤ pairp p n w (gR L k) (gR L k) ∧ pairp p n w (gR L k) (gR L k) < p := mod_num (by omega)
    generalize pairp p n w (gR L k) (gR L k) = q at *
    have q1 := mul_abs (a := a) (b := q) (A := 13) (B := 13) (by omega) (by omega)
    have q2 := Int.mul_nonneg (a := a) (b := q) (by omega) (by omega)
    have w1 : w64 (a * q) = a * q := w_in (by omega) (by omega)
    have t1 : (a * q).tmod p = a * q % p := tmod_nn (by omega)
    have f1 := i_field_num_eq (p := p) (n := a * q) (by omega) (by omega) (by omega) (by omega)
    have b1 := mod_num (a := a * q) (p := p) (by omega)
    have w2 : w64 ((k : Int) + 1) = ((k + 1 : Nat) : Int) := by rw [w_in (by omega) (by omega)]; rfl
    simp only [lt_cast hkl, if_true, idxR hkl, some_bind, n1, n2, i_Space_norm, i_Space_field, chk_bind (show ¬ p = 0 by omega), w1, t1, f1, w2]
    exact ⟨_, rfl, rfl, ⟨b1.1, b1.2, k + 1, rfl, by omega⟩, by simp only [Int.toNat_natCast]; omega⟩
  · refine .inr ⟨a, ?_, ?_, trivial⟩
    · simp only [show ¬ (k : Int) < (L.length : Int) by omega, if_false]
    · simp only [show ¬ (k : Int) < (L.length : Int) by omega, if_false]
theorem HasSquareNorm_eq {p : Int} {w : List Int} {m : List (List Int)} (hw : w.length ≤ 1048576) (h : szM m) : ∃ V C, s_HasSquareNorm p w m = some (V, C) ∧ i_HasSquareNorm p w m = some (V, C) := by
  obtain ⟨K, k1, k2, k3⟩ := Orth_full (p := p) hw h
  unfold s_HasSquareNorm i_HasSquareNorm
  rw [k1, k2, some_bind, some_bind]
  by_cases h0 : K = 0
  · obtain ⟨hs, hf, hz, hi⟩ := k3 h0
    obtain ⟨hP, g1, g2, g3⟩ := isSp_iff hs
    obtain ⟨_, _, hm⟩ := fr_iff hf
    obtain ⟨L, l1, l2, l3, l4⟩ := Decompose_eq hP (by omega) (by omega) rfl g3 (fun k hk => hasZ_ne hz hk) hm hi
    obtain ⟨x, x1, x2, _⟩ := prod_two hP (by omega) g3 l3 (by omega)
    obtain ⟨r, b, r1, r2, r3⟩ := root_two (a := x) hP
    simp only [h0, not_true_eq_false, if_false, l1, l2, some_bind, x1, x2, r1, i_Space_field, r2, r3]
    exact ⟨_, _, rfl, rfl⟩
  · simp only [h0, not_false_eq_true, if_true]
    exact ⟨_, _, rfl, rfl⟩
theorem LawHasSquareNorm {p : Int} {w : List Int} {m : List (List Int)} (hw : lenI w) (hm : lenM m) : l_FnExactHasSquareNorm p w m = some true := by
  unfold l_FnExactHasSquareNorm
  rw [szSp_eq hw (by omega) (by omega), some_bind]
  by_cases h1 : ((w.length : Nat) : Int) ≤ 1048576
  · have hs : szv w.length 1048576 = 1048576 - ((w.length : Nat) : Int) := by unfold szv; rw [if_pos h1]
    rw [hs, if_neg (by omega), szM_eq hm (by omega) (by omega), some_bind]
    by_cases h2 : ((m.length + rowsum m : Nat) : Int) ≤ 1048576 - ((w.length : Nat) : Int)
    · have hs2 : szv (m.length + rowsum m) (1048576 - ((w.length : Nat) : Int)) = 1048576 - ((w.length : Nat) : Int) - ((m.length + rowsum m : Nat) : Int) := by unfold szv; rw [if_pos h2]
      rw [hs2, if_neg (by omega)]
      obtain ⟨za, ra⟩ := sz_split (m := m) (by omega) h2
      have hw' : w.length ≤ 1048576 := by omega
      obtain ⟨V, C, e3, e4⟩ := HasSquareNorm_eq (p := p) hw' za
      have e1 := toM_eq za.1 za.2
      have e2 := toSp_eq (p := p) hw'
      have e5 := eqSp_self (p := p) hw'
      have e6 := eqM_self za
      simp only [e1, e2, e3, e4, e5, e6, some_bind, Bool.true_eq_false, Bool.false_eq_true, if_false, if_true, ieq_self, Bool.not_true, natneg, not_true_eq_false, bne_self_eq_false]
    · have hs2 : szv (m.length + rowsum m) (1048576 - ((w.length : Nat) : Int)) = -1 := by unfold szv; rw [if_neg h2]
      rw [hs2, if_pos (by omega)]
  · have hs : szv w.length 1048576 = -1 := by unfold szv; rw [if_neg h1]
    rw [hs, if_pos (by omega)]
end Go.Vam
