/- Plain laws: rows reduced one at a time; IsAutomorphism. -/
import Derived.Test.YtdoimfkonaeceaaPlH
namespace Go.Vam
open Go Go.RowKit
set_option linter.unusedSimpArgs false
set_option linter.unusedVariables false
set_option linter.unusedSectionVars false

theorem first_some {v : List Int} (hv : v.length ≤ 1048576) : (i_lead v = some (v.length : Int) ∧ ∀ k, k < v.length → gI v k = 0) ∨ ∃ f : Nat, f < v.length ∧ i_lead v = some (f : Int) ∧ gI v f ≠ 0 ∧ ∀ j, j < f → gI v j = 0 := by
  by_cases h : ∃ q, q < v.length ∧ gI v q ≠ 0
  · obtain ⟨q, hq, hne⟩ := h
    obtain ⟨f, f1, f2, f3, f4, f5⟩ := first_two hv hq hne
    exact .inr ⟨f, by omega, f3, f4, f5⟩
  · have h0 : ∀ k, k < v.length → gI v k = 0 := fun k hk => by
      by_cases e : gI v k = 0
      · exact e
      · exact absurd ⟨k, hk, e⟩ h
    exact .inl ⟨lead_zero hv h0, h0⟩
section
variable {p : Int} {n : Nat} (hP : isP p = true) (hn : n ≤ 1048000)
include hP hn
theorem s_l12Put_eq {B : List (List Int)} {ld : Nat → Nat} {x : List Int} (hB : Ech p n B ld) (hx : Vec p n x) :
    ∃ B' ld', s_l12Put p B x = some B' ∧ Ech p n B' ld' ∧ ∀ u, Kr p n B' u ↔ Kr p n B u ∧ p ∣ rd n x u := by
  have hp := isP_le hP
  have hle := hB.le
  obtain ⟨y, y1, y2, y3, y4⟩ := s_l12Rest_eq hp.1 hp.2 (by omega) hB (by omega) hx
  have yl := y2.1
  unfold s_l12Put
  rw [y1, some_bind]
  rcases first_some (v := y) (by omega) with ⟨h1, h2⟩ | ⟨f, f1, f2, f3, f4⟩
  · rw [s_l12First_lead, h1, some_bind, if_pos rfl]
    refine ⟨B, ld, rfl, hB, fun u => ⟨fun h => ⟨h, (y4 u h).1 ?_⟩, fun h => h.1⟩⟩
    have : rd n y u = 0 := by
      unfold rd
      rw [sumN_congr (g := fun _ => 0) (fun q hq => by rw [h2 q (by omega), Int.zero_mul])]
      exact sumN_zero n
    rw [this]; exact Int.dvd_zero p
  · have hfn : f < n := by omega
    have e4 := y2.get hfn
    obtain ⟨i1, i2, i3⟩ := inv_facts (a := gI y f) hP (by omega) e4.2
    have g1 := s_l01Inv_eq (a := gI y f) hP (by omega) e4.2
    have g2 := s_l11Scale_eq (p := p) (n := n) (a := y) (k := invp p (gI y f)) hp.1 hp.2 (by omega) (by omega) (by omega) y2
    have hR := scalev_vec (p := p) (by omega) n y (invp p (gI y f))
    have hRat : ∀ q, q < n → gI (scalev p n y (invp p (gI y f))) q = gI y q * invp p (gI y f) % p := by
      intro q hq; unfold scalev; rw [gI_vecN _ hq]
    have hRu : ∀ u, p ∣ rd n (scalev p n y (invp p (gI y f))) u ↔ p ∣ rd n y u := by
      intro u
      rw [dvd_congr (rd_scalev u), prime_dvd hP]
      refine ⟨fun h => h.resolve_left fun h => ?_, .inr⟩
      rw [num_dvd ⟨by omega, i2⟩] at h; omega
    generalize hRe : scalev p n y (invp p (gI y f)) = R at g2 hR hRat hRu
    have hR1 : gI R f = 1 := by rw [hRat f hfn, i3]
    have hR0 : ∀ q, q < n → gI y q = 0 → gI R q = 0 := fun q hq h => by rw [hRat q hq, h]; simp
    obtain ⟨o, o1, o2⟩ := put_loop hp.1 hp.2 (by omega) hB (by omega) hR hfn
    rw [s_l12First_lead, f2, some_bind, if_neg (by omega), idxI (by omega), some_bind, g1, some_bind, g2, some_bind, o1, some_bind]
    have fin : ∀ (B' : List (List Int)) (pos : Nat), pos ≤ B.length → (∀ j, j < pos → ¬ f < ld j) → (∀ j, pos ≤ j → j < B.length → f < ld j) → B'.length = B.length + 1 →
        (∀ j, j < B.length + 1 → gR B' j = if j < pos then lessv p n f R (gR B j) else if j = pos then R else lessv p n f R (gR B (j - 1))) →
        ∃ B'' ld', some B' = some B'' ∧ Ech p n B'' ld' ∧ ∀ u, Kr p n B'' u ↔ Kr p n B u ∧ p ∣ rd n x u := by
      intro B' pos hpos hlo hhi hl hg
      obtain ⟨q1, q2⟩ := hB.put (by omega) hR hfn hR1 (fun q hq => hR0 q (by omega) (f4 q hq)) (fun j hj => hR0 _ (hB.lt j hj) (y3 j hj)) hpos
        (fun j hj => by
          have h1 := hlo j hj
          have h2 : ld j ≠ f := fun e => f3 (by have := y3 j (by omega); rwa [e] at this)
          omega) hhi hl hg
      refine ⟨B', _, rfl, q1, fun u => ?_⟩
      rw [q2 u]
      constructor
      · intro ⟨a, b⟩
        exact ⟨a, (y4 u a).1 ((hRu u).1 b)⟩
      · intro ⟨a, b⟩
        exact ⟨a, (hRu u).2 ((y4 u a).2 b)⟩
    rcases o2 with ⟨h1, h2, h3, h4⟩ | ⟨h1, h2, pos, h3, h4, h5, h6⟩
    · simp only [h1, if_true]
      rw [chk_bind (by simp only [List.length_cons, List.length_nil]; omega), some_bind]
      refine fin _ B.length (Nat.le_refl _) h3 (fun j h1 h2 => by omega) (by simp [h2]) fun j hj => ?_
      unfold gR
      rw [List.getD_eq_getElem?_getD, List.getElem?_append]
      by_cases hjl : j < B.length
      · rw [if_pos (by omega), if_pos hjl]
        have := h4 j hjl
        unfold gR at this
        rw [← this, List.getD_eq_getElem?_getD]
      · have hjb : j = B.length := by omega
        rw [if_neg (by omega), if_neg hjl, if_pos hjb, hjb, h2, Nat.sub_self]; rfl
    · simp only [h1, Bool.true_eq_false, if_false]
      rw [some_bind]
      refine fin _ pos (by omega) h4 (fun j g1 g2 => ?_) h2 h6
      rcases Nat.lt_or_ge pos j with g | g
      · have := hB.srt pos j g g2; omega
      · have : j = pos := by omega
        rw [this]; exact h5
theorem s_l12Reduced_eq {r : Nat} {m : List (List Int)} (hr : r ≤ 1048576) (hm : Mat p r n m) : ∃ B ld, s_l12Reduced p m = some B ∧ Ech p n B ld ∧ ∀ u, Kr p n B u ↔ KerP p r n m u := by
  have e1 := hm.1
  unfold s_l12Reduced
  obtain ⟨B, h1, ld, h2, h3⟩ := loop_inv (step := s_l12Reduced_L0 p m) (fun s => ∃ k : Nat, s.2 = (k : Int) ∧ k ≤ r ∧ ∃ ld, Ech p n s.1 ld ∧ ∀ u, Kr p n s.1 u ↔ KerP p k n m u) (fun s => r - s.2.toNat)
    (fun B => ∃ ld, Ech p n B ld ∧ ∀ u, Kr p n B u ↔ KerP p r n m u) (s := ([], 0)) ⟨0, rfl, by omega, fun _ => 0, ⟨⟨rfl, fun i hi => by simp at hi⟩, fun j hj => by simp at hj, fun j hj => by simp at hj, fun j hj => by simp at hj, fun j hj => by simp at hj, fun i j _ hj => by simp at hj⟩, fun u => ⟨fun _ i hi => by omega, fun _ j hj => by simp at hj⟩⟩ (by rw [BIG_val]; simp only []; omega) (by
      rintro ⟨B, t⟩ ⟨k, rfl, hk, ld, hB, hu⟩
      try simp only [] at hB hu
      unfold s_l12Reduced_L0
      by_cases hkr : k < r
      · obtain ⟨B', ld', b1, b2, b3⟩ := s_l12Put_eq hP hn hB (hm.row hkr)
        refine .inl ⟨(B', ((k + 1 : Nat) : Int)), ?_, ⟨k + 1, rfl, by omega, ld', b2, fun u => ?_⟩, by simp only [Int.toNat_natCast]; omega⟩
        · try simp only []
          rw [if_pos (by omega), idxR (by omega), some_bind, b1, some_bind, w_in (by omega) (by omega)]; rfl
        · rw [b3 u, hu u]
          constructor
          · intro ⟨a, b⟩ i hi
            rcases Nat.lt_succ_iff_lt_or_eq.1 hi with h | h
            · exact a i h
            · rw [h]; exact b
          · intro h
            exact ⟨fun i hi => h i (by omega), h k (by omega)⟩
      · have hkk : k = r := by omega
        subst hkk
        refine .inr ⟨B, ?_, ld, hB, hu⟩
        try simp only []
        rw [if_neg (by omega)])
  rw [h1, some_bind]
  exact ⟨B, ld, rfl, h2, h3⟩
end

section
variable {p : Int} {w : List Int} {m : List (List Int)} (hP : isP p = true) (hl : w.length ≤ 4) (hw : Vec p w.length w) (hm : Mat p (2 ^ w.length) (2 ^ w.length) m)
def amB (p : Int) (w : List Int) (m : List (List Int)) (i j : Nat) : Bool := decide (imgv p w m i j = mulp p w (colv (2 ^ w.length) m i) (colv (2 ^ w.length) m j))
include hP hl hw hm
theorem s_am_loop : loop (s_l14Automorphism_L0 p w m (prodm p w) ((2 ^ w.length : Nat) : Int)) BIG 0 = some (if (List.range (2 ^ w.length)).all fun i => (List.range (2 ^ w.length)).all (amB p w m i) then .inl () else .inr false) := by
  have hp := isP_le hP
  have h16 := two_le hl
  have hT := prodm_mat hP hl hw
  have e0 := hT.1
  have inner : ∀ i : Nat, i < 2 ^ w.length → loop (s_l14Automorphism_L1 p w m (prodm p w) ((2 ^ w.length : Nat) : Int) (i : Int)) BIG 0 = some (if (List.range (2 ^ w.length)).all (amB p w m i) then .inl () else .inr (.inr (.inr false))) := by
    intro i hi
    have core : ∀ j : Nat, j < 2 ^ w.length → s_l14Automorphism_L1 p w m (prodm p w) ((2 ^ w.length : Nat) : Int) (i : Int) (j : Int) = if amB p w m i j = true then some (.inl ((j + 1 : Nat) : Int)) else some (.inr (.inr (.inr (.inr false)))) := by
      intro j hj
      have hx := xor_lt hi hj
      have e1 := (hT.row hi).1
      have ci := colv_vec (by omega) hm hi
      have cj := colv_vec (by omega) hm hj
      have cx := colv_vec (by omega) hm hx
      have hc := (axm_vec hP hl hw hi hj).get hx
      have hTij : gI (gR (prodm p w) i) j = gI (axm p w i j) (i ^^^ j) := by unfold prodm; rw [gR_vecN _ hi, gI_vecN _ hj]
      have sc := s_l11Scale_eq hp.1 hp.2 (show 2 ^ w.length ≤ 1048576 by omega) hc.1 (by omega) cx
      unfold s_l14Automorphism_L1
      simp only [lt_cast hj, if_true, idxR (show i < (prodm p w).length by omega), idxI (show j < (gR (prodm p w) i).length by omega), some_bind, hTij, bxor_k i (by omega) j (by omega), s_l14Column_eq (by omega) hm hx, s_l14Column_eq (by omega) hm hi, s_l14Column_eq (by omega) hm hj, sc,
        s_l11Times_eq hP hl hw ci cj]
      have hlen : (scalev p (2 ^ w.length) (colv (2 ^ w.length) m (i ^^^ j)) (gI (axm p w i j) (i ^^^ j))).length ≤ 1048576 := by unfold scalev; simp; omega
      rw [s_l01Same_eq hlen, some_bind, w_in (by omega) (by omega)]
      show (if amB p w m i j = false then _ else _) = _
      cases amB p w m i j <;> rfl
    refine all_loop _ (2 ^ w.length) (amB p w m i) _ (by rw [BIG_val]; omega) ?_ ?_ ?_
    · intro j hj hf
      rw [core j hj, if_pos hf]
    · intro j hj hf
      rw [core j hj, if_neg (by simp [hf])]
    · unfold s_l14Automorphism_L1
      simp only [lt_cast_self, if_false]
  rw [all_loop _ (2 ^ w.length) (fun i => (List.range (2 ^ w.length)).all (amB p w m i)) false (by rw [BIG_val]; omega)]
  · intro i hi hf
    unfold s_l14Automorphism_L0
    rw [if_pos (by omega), inner i hi, hf, w_in (by omega) (by omega)]; rfl
  · intro i hi hf
    unfold s_l14Automorphism_L0
    rw [if_pos (by omega), inner i hi, hf]; rfl
  · unfold s_l14Automorphism_L0
    simp only [lt_cast_self, if_false]
theorem i_am_loop : loop (i_Doubling_isAutomorphism_L0 p w m p (unitm (2 ^ w.length))) BIG 0 = some (if (List.range (2 ^ w.length)).all fun i => (List.range (2 ^ w.length)).all (amB p w m i) then .inl () else .inr false) := by
  have hp := isP_le hP
  have h16 := two_le hl
  have e0 := (unitm_mat (p := p) (by omega) (2 ^ w.length)).1
  have inner : ∀ i : Nat, i < 2 ^ w.length → loop (i_Doubling_isAutomorphism_L1 p w m p (i : Int) (axis (2 ^ w.length) i) (unitm (2 ^ w.length))) BIG 0 = some (if (List.range (2 ^ w.length)).all (amB p w m i) then .inl () else .inr (.inr (.inr false))) := by
    intro i hi
    have core : ∀ j : Nat, j < 2 ^ w.length → i_Doubling_isAutomorphism_L1 p w m p (i : Int) (axis (2 ^ w.length) i) (unitm (2 ^ w.length)) (j : Int) = if amB p w m i j = true then some (.inl ((j + 1 : Nat) : Int)) else some (.inr (.inr (.inr (.inr false)))) := by
      intro j hj
      have hx := xor_lt hi hj
      have ei := axis_vec (p := p) (by omega) hi
      have ej := axis_vec (p := p) (by omega) hj
      have ci := colv_vec (by omega) hm hi
      have cj := colv_vec (by omega) hm hj
      have hav := axm_vec hP hl hw hi hj
      have ap := i_field_apply_eq (show 0 < p by omega) (show p ≤ 13 by omega) (show 2 ^ w.length ≤ 1048576 by omega) (show 2 ^ w.length ≤ 1048576 by omega) hm hav
      rw [apply_only (by omega) hm hx hav (axm_only hl hi hj)] at ap
      have hlen : (imgv p w m i j).length ≤ 1048576 := by unfold imgv scalev; simp; omega
      unfold i_Doubling_isAutomorphism_L1
      simp only [e0, lt_cast hj, if_true, idxR (show j < (unitm (2 ^ w.length)).length by omega), gR_unitm hj, some_bind, i_column_eq (by omega) hm hi, i_column_eq (by omega) hm hj, i_Doubling_times_eq hP hl hw ei ej, i_Doubling_times_eq hP hl hw ci cj]
      rw [show mulp p w (axis (2 ^ w.length) i) (axis (2 ^ w.length) j) = axm p w i j from rfl, ap, some_bind]
      show ((g_slices_Equal_LI_I (imgv p w m i j) _).bind _) = _
      rw [slicesEqual_eq hlen, some_bind, w_in (by omega) (by omega)]
      show (if amB p w m i j = false then _ else _) = _
      cases amB p w m i j <;> rfl
    refine all_loop _ (2 ^ w.length) (amB p w m i) _ (by rw [BIG_val]; omega) ?_ ?_ ?_
    · intro j hj hf
      rw [core j hj, if_pos hf]
    · intro j hj hf
      rw [core j hj, if_neg (by simp [hf])]
    · unfold i_Doubling_isAutomorphism_L1
      simp only [e0, lt_cast_self, if_false]
  rw [all_loop _ (2 ^ w.length) (fun i => (List.range (2 ^ w.length)).all (amB p w m i)) false (by rw [BIG_val]; omega)]
  · intro i hi hf
    unfold i_Doubling_isAutomorphism_L0
    rw [e0, if_pos (by omega), idxR (by omega), some_bind, gR_unitm hi, i_Doubling_size_eq hl, some_bind, i_unit_eq (by omega), some_bind, inner i hi, hf, w_in (by omega) (by omega)]; rfl
  · intro i hi hf
    unfold i_Doubling_isAutomorphism_L0
    rw [e0, if_pos (by omega), idxR (by omega), some_bind, gR_unitm hi, i_Doubling_size_eq hl, some_bind, i_unit_eq (by omega), some_bind, inner i hi, hf]; rfl
  · unfold i_Doubling_isAutomorphism_L0
    simp only [e0, lt_cast_self, if_false]
theorem Automorphism_eq : ∃ b, s_l14Automorphism p w m = some b ∧ i_Doubling_isAutomorphism p w m = some b := by
  have hp := isP_le hP
  have h16 := two_le hl
  obtain ⟨d, _, d2, d3⟩ := Det_iff hP (show 2 ^ w.length ≤ 1048576 by omega) hm
  obtain ⟨B, ld, b1, b2, b3⟩ := s_l12Reduced_eq hP (show 2 ^ w.length ≤ 1048000 by omega) (show 2 ^ w.length ≤ 1048576 by omega) hm
  have hfull : B.length = 2 ^ w.length ↔ ¬ d = 0 := by
    rw [b2.full_iff (by omega), d3]
    unfold Sg
    constructor
    · intro h ⟨u, u1, u2⟩
      exact h ⟨u, u1, (b3 u).2 u2⟩
    · intro h ⟨u, u1, u2⟩
      exact h ⟨u, u1, (b3 u).1 u2⟩
  have e1 : s_l14Automorphism p w m = some (((List.range (2 ^ w.length)).all fun i => (List.range (2 ^ w.length)).all (amB p w m i)) && decide (¬ d = 0)) := by
    unfold s_l14Automorphism
    rw [s_l11Basis_eq hP hl hw, some_bind, s_l11Size_eq hl, some_bind, s_am_loop hP hl hw hm, some_bind]
    cases ((List.range (2 ^ w.length)).all fun i => (List.range (2 ^ w.length)).all (amB p w m i)) with
    | false => rfl
    | true =>
      simp only [if_true, b1, some_bind, Bool.true_and]
      rw [ieq_nat]
      congr 1
      exact decide_eq_decide.2 hfull
  have e2 : i_Doubling_isAutomorphism p w m = some (((List.range (2 ^ w.length)).all fun i => (List.range (2 ^ w.length)).all (amB p w m i)) && decide (¬ d = 0)) := by
    unfold i_Doubling_isAutomorphism i_Doubling_field
    rw [some_bind, d2, some_bind]
    by_cases h : d = 0
    · simp [h]
    · rw [if_neg h, i_Doubling_size_eq hl, some_bind, i_unit_eq (by omega), some_bind, i_am_loop hP hl hw hm, some_bind]
      cases ((List.range (2 ^ w.length)).all fun i => (List.range (2 ^ w.length)).all (amB p w m i)) with
      | false => rfl
      | true => simp [h]
  exact ⟨_, e1, e2⟩
end
theorem IsAutomorphism_eq {p : Int} {w : List Int} {m : List (List Int)} (hw : w.length ≤ 1048576) (h : szM m) : ∃ V C, s_IsAutomorphism p w m = some (V, C) ∧ i_IsAutomorphism p w m = some (V, C) := by
  have hsm : ∀ x ∈ [m], szM x := fun x hx => by simp only [List.mem_singleton] at hx; exact hx ▸ h
  unfold s_IsAutomorphism i_IsAutomorphism
  rw [s_l14Two_eq hw (by simp) hsm, i_checkThree_eq hw ⟨by simp, by simp⟩ (by simp) hsm, some_bind, some_bind]
  by_cases h0 : thC p w [] [m] = 0
  · obtain ⟨a1, a2, _, a4⟩ := thC_zero h0
    obtain ⟨hP, hl, hv, _⟩ := isDb_iff a1
    have hM := a4 m (by simp)
    obtain ⟨b, b1, b2⟩ := Automorphism_eq hP hl hv hM
    simp only [h0, not_true_eq_false, if_false, b1, b2, some_bind]
    exact ⟨_, _, rfl, rfl⟩
  · simp only [h0, not_false_eq_true, if_true]
    exact ⟨_, _, rfl, rfl⟩
theorem LawIsAutomorphism {p : Int} {w : List Int} {m : List (List Int)} (hw : lenI w) (hm : lenM m) : l_FnExactIsAutomorphism p w m = some true := by
  unfold l_FnExactIsAutomorphism
  rw [szDb_eq hw (by omega) (by omega), some_bind]
  by_cases h1 : ((w.length : Nat) : Int) ≤ 1048576
  · have hs : szv w.length 1048576 = 1048576 - ((w.length : Nat) : Int) := by unfold szv; rw [if_pos h1]
    rw [hs, if_neg (by omega), szM_eq hm (by omega) (by omega), some_bind]
    by_cases h2 : ((m.length + rowsum m : Nat) : Int) ≤ 1048576 - ((w.length : Nat) : Int)
    · have hs2 : szv (m.length + rowsum m) (1048576 - ((w.length : Nat) : Int)) = 1048576 - ((w.length : Nat) : Int) - ((m.length + rowsum m : Nat) : Int) := by unfold szv; rw [if_pos h2]
      rw [hs2, if_neg (by omega)]
      obtain ⟨za, ra⟩ := sz_split (m := m) (by omega) h2
      have hw' : w.length ≤ 1048576 := by omega
      obtain ⟨V, C, e3, e4⟩ := IsAutomorphism_eq (p := p) hw' za
      have e1 := toM_eq za.1 za.2
      have e2 := toDb_eq (p := p) hw'
      have e5 := eqDb_self (p := p) hw'
      have e6 := eqM_self za
      simp only [e1, e2, e3, e4, e5, e6, some_bind, Bool.true_eq_false, Bool.false_eq_true, if_false, if_true, ieq_self, Bool.not_true, natneg, not_true_eq_false, bne_self_eq_false]
    · have hs2 : szv (m.length + rowsum m) (1048576 - ((w.length : Nat) : Int)) = -1 := by unfold szv; rw [if_neg h2]
      rw [hs2, if_pos (by omega)]
  · have hs : szv w.length 1048576 = -1 := by unfold szv; rw [if_neg h1]
    rw [hs, if_pos (by omega)]
end Go.Vam
