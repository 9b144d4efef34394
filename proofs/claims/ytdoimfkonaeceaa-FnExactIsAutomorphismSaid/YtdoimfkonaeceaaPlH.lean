/- Plain laws: both programs' reduced bases are reduced rows in order, and send the same to nothing. -/
import Derived.Test.YtdoimfkonaeceaaPlG
namespace Go.Vam
open Go Go.RowKit
set_option linter.unusedSimpArgs false
set_option linter.unusedVariables false
set_option linter.unusedSectionVars false

structure RedK (r c : Nat) (m : List (List Int)) (d k : Nat) (piv : Nat → Nat) : Prop where
  red : Red r c m d piv
  plt : ∀ j, j < d → piv j < k
  pre : ∀ j, j < d → ∀ q, q < piv j → gI (gR m j) q = 0
  srt : ∀ i j, i < j → j < d → piv i < piv j
  low : ∀ i, d ≤ i → i < r → ∀ q, q < k → gI (gR m i) q = 0
theorem RedK.skip {r c d k : Nat} {m : List (List Int)} {piv : Nat → Nat} (h : RedK r c m d k piv) (h0 : ∀ i, d ≤ i → i < r → gI (gR m i) k = 0) : RedK r c m d (k + 1) piv :=
  ⟨h.red, fun j hj => Nat.lt_succ_of_lt (h.plt j hj), h.pre, h.srt, fun i h1 h2 q hq => (Nat.lt_succ_iff_lt_or_eq.1 hq).elim (h.low i h1 h2 q) (fun e => e ▸ h0 i h1 h2)⟩
section
variable {p : Int} {r c k d x : Nat} {m : List (List Int)} {piv : Nat → Nat} {R : List Int} (hP : isP p = true) (hm : Mat p r c m) (hk : k < c) (hd : d < r) (hdx : d ≤ x) (hx : x < r)
  (hne : gI (gR m x) k ≠ 0) (hRe : R = scalev p c (gR m x) (invp p (gI (gR m x) k)))
include hP hm hk hd hdx hx hne hRe
theorem clrm_row (i : Nat) (hi : i < r) : gR (clrm p r c k d R ((m.set x (gR m d)).set d R)) i = if i = d then R else clr p c k R (if i = x then gR m d else gR m i) := by
  have e1 := hm.1
  unfold clrm
  rw [gR_vecN _ hi]
  by_cases hid : i = d
  · rw [if_pos hid, if_pos hid]
  · rw [if_neg hid, if_neg hid, gR_set (by rw [List.length_set]; omega), if_neg (by omega), gR_set (by omega)]
    by_cases hix : i = x
    · rw [if_pos hix.symm, if_pos hix]
    · rw [if_neg (fun e => hix e.symm), if_neg hix]
theorem clrm_ker (u : Nat → Int) : KerP p r c (clrm p r c k d R ((m.set x (gR m d)).set d R)) u ↔ KerP p r c m u := by
  have hp := isP_le hP
  have e4 := (hm.row hx).get hk
  obtain ⟨i1, i2, i3⟩ := inv_facts (a := gI (gR m x) k) hP (by omega) e4.2
  have hR : p ∣ rd c R u ↔ p ∣ rd c (gR m x) u := by
    rw [hRe, dvd_congr (rd_scalev u), prime_dvd hP]
    refine ⟨fun h => h.resolve_left fun h => ?_, .inr⟩
    rw [num_dvd ⟨by omega, i2⟩] at h; omega
  have hC : ∀ v, p ∣ rd c R u → (p ∣ rd c (clr p c k R v) u ↔ p ∣ rd c v u) := by
    intro v hu
    unfold clr
    rw [dvd_congr (rd_plusv u)]
    exact Int.dvd_add_left (Int.dvd_mul_of_dvd_right hu)
  have row := clrm_row hP hm hk hd hdx hx hne hRe
  constructor
  · intro h
    have hRu : p ∣ rd c R u := by
      have := h d hd
      rwa [row d hd, if_pos rfl] at this
    intro i hi
    by_cases hix : i = x
    · rw [hix]; exact hR.1 hRu
    · by_cases hid : i = d
      · have := h x hx
        rw [row x hx, if_neg (by omega), if_pos rfl, hC _ hRu] at this
        rw [hid]; exact this
      · have := h i hi
        rw [row i hi, if_neg hid, if_neg hix, hC _ hRu] at this
        exact this
  · intro h
    have hRu := hR.2 (h x hx)
    intro i hi
    rw [row i hi]
    split
    · exact hRu
    · rw [hC _ hRu]
      split
      · exact h d hd
      · exact h i hi
theorem RedK.step (h : RedK r c m d k piv) : RedK r c (clrm p r c k d R ((m.set x (gR m d)).set d R)) (d + 1) (k + 1) (fun j => if j = d then k else piv j) := by
  have hp := isP_le hP
  have row := clrm_row hP hm hk hd hdx hx hne hRe
  have e4 := (hm.row hx).get hk
  obtain ⟨i1, i2, i3⟩ := inv_facts (a := gI (gR m x) k) hP (by omega) e4.2
  have hR0 : ∀ q, q < k → gI R q = 0 := by
    intro q hq
    rw [hRe]; unfold scalev
    rw [gI_vecN _ (by omega), h.low x hdx hx q hq]; simp
  have hent : ∀ v q, q < k → gI v q = 0 → gI (clr p c k R v) q = 0 := by
    intro v q hq hv
    unfold clr plusv
    rw [gI_vecN _ (by omega), hv, hR0 q hq]; simp
  refine ⟨h.red.step hP hm hk hd hdx hx hne hRe, fun j hj => ?_, fun j hj q hq => ?_, fun i j hij hj => ?_, fun i h1 h2 q hq => ?_⟩
  · try simp only []
    split
    · omega
    · have := h.plt j (by omega); omega
  · try simp only [] at hq
    rw [row j (by omega)]
    by_cases hjd : j = d
    · rw [if_pos hjd] at hq ⊢; exact hR0 q hq
    · rw [if_neg hjd] at hq ⊢
      have h3 := h.plt j (by omega)
      rw [if_neg (by omega)]
      exact hent _ q (by omega) (h.pre j (by omega) q hq)
  · try simp only []
    rw [if_neg (show ¬ i = d by omega)]
    split
    · exact h.plt i (by omega)
    · exact h.srt i j hij (by omega)
  · rw [row i h2, if_neg (by omega)]
    by_cases hqk : q < k
    · refine hent _ q hqk ?_
      split
      · exact h.low d (Nat.le_refl _) hd q hqk
      · exact h.low i (by omega) h2 q hqk
    · have hqe : q = k := by omega
      subst hqe
      have hRk : gI R q = 1 := by rw [hRe]; unfold scalev; rw [gI_vecN _ hk, i3]
      unfold clr plusv
      rw [gI_vecN _ hk, hRk, Int.mul_one]
      generalize gI (if i = x then gR m d else gR m i) q = e
      rw [Int.add_emod, Int.emod_emod_of_dvd _ (Int.dvd_refl p), ← Int.add_emod]
      have : e + (p - e) = p := by omega
      rw [this, Int.emod_self]
end
section
variable {p : Int} {r c : Nat} (hP : isP p = true) (hr0 : 0 < r) (hr : r ≤ 1048576) (hc : c ≤ 1048576)
include hP hr0 hr hc
theorem basis_two2 {m : List (List Int)} (hm : Mat p r c m) :
    ∃ b, loop (s_l02Basis_L0 p) BIG (m, 0, 0) = some b ∧ loop (i_field_basis_L0 p) BIG (m, 0, 0) = some b ∧ (Mat p r c b.1 ∧ (∀ u, KerP p r c b.1 u ↔ KerP p r c m u) ∧ ∃ d k : Nat, b.2 = (d : Int) ∧ d ≤ r ∧ (d < r → k = c) ∧ k ≤ c ∧ ∃ piv, RedK r c b.1 d k piv) := by
  have hp := isP_le hP
  generalize hM0 : m = M0
  rw [hM0] at hm
  refine loop_two' (fun s => Mat p r c s.1 ∧ (∀ u, KerP p r c s.1 u ↔ KerP p r c M0 u) ∧ ∃ d k : Nat, s.2 = ((d : Int), (k : Int)) ∧ d ≤ r ∧ k ≤ c ∧ ∃ piv, RedK r c s.1 d k piv) (fun s => c - s.2.2.toNat) _ ⟨hm, fun _ => Iff.rfl, 0, 0, rfl, by omega, by omega, fun _ => 0, ⟨fun j hj => by omega, fun j hj => by omega, fun j hj => by omega, fun i j _ hj => by omega, fun i _ _ q hq => by omega⟩⟩ (by rw [BIG_val]; simp only []; omega) ?_
  rintro ⟨m, t⟩ ⟨hm, hker, d, k, rfl, hd, hk, piv, hred⟩
  try simp only [] at hm hred hker
  have e1 := hm.1
  have e2 := (hm.row hr0).1
  by_cases hkc : k < c
  · by_cases hdr : d < r
    · refine .inl ?_
      obtain ⟨b, h1, x, rfl, h2, h3, h4, h0⟩ := find_eq2 hm (k := k) (s := d) hr hkc hd
      have l1 : s_l02Basis_L1 (m, (d : Int), (k : Int)) = findStep m (k : Int) := rfl
      have l2 : i_field_basis_L1 (m, (d : Int), (k : Int)) = findStep m (k : Int) := rfl
      unfold s_l02Basis_L0 i_field_basis_L0
      simp only [show (0 : Int) < (m.length : Int) by omega, if_true, idxR0 (show 0 < m.length by omega), some_bind, show (k : Int) < ((gR m 0).length : Int) by omega, ilt_true (show (k : Int) < ((gR m 0).length : Int) by omega), ilt_true (show (d : Int) < (m.length : Int) by omega), l1, l2, h1]
      by_cases hx : x = r
      · have hx' : (x : Int) = (m.length : Int) := by omega
        simp only [hx', if_true, some_bind]
        refine ⟨_, rfl, rfl, ⟨hm, hker, d, k + 1, ?_, hd, by omega, piv, hred.skip fun i hi1 hi2 => h0 i hi1 (by omega)⟩, ?_⟩
        · rw [w_in (by omega) (by omega)]; rfl
        · rw [w_in (by omega) (by omega)]; simp only []; omega
      · have hx' : ¬ (x : Int) = (m.length : Int) := by omega
        have hxr : x < r := by omega
        have hne := h4 hxr
        have e3 := (hm.row hxr).1
        have e4 := (hm.row hxr).get hkc
        have e5 := (hm.row hdr).1
        obtain ⟨i1, i2, i3⟩ := inv_facts (a := gI (gR m x) k) hP (by omega) e4.2
        have f1 := s_l01Inv_eq (a := gI (gR m x) k) hP (by omega) e4.2
        have f2 := i_field_inv_eq (a := gI (gR m x) k) hP (by omega) e4.2
        have f3 := s_l02Scale_eq (p := p) (n := c) (a := gR m x) (k := invp p (gI (gR m x) k)) (by omega) (by omega) hc (by omega) (by omega) (hm.row hxr)
        have f4 := i_field_scaled_eq (p := p) (n := c) (a := gR m x) (k := invp p (gI (gR m x) k)) (by omega) (by omega) hc (by omega) (hm.row hxr)
        have hV := scalev_vec (p := p) (by omega) c (gR m x) (invp p (gI (gR m x) k))
        generalize hVe : scalev p c (gR m x) (invp p (gI (gR m x) k)) = V at f3 f4 hV
        have hrs := hred.step hP hm hkc hdr h2 hxr hne hVe.symm
        have hks := fun u => (clrm_ker hP hm hkc hdr h2 hxr hne hVe.symm u).trans (hker u)
        have g1 : gR ((m.set d (gR m x)).set x (gR m d)) d = gR m x := by
          rw [gR_set (by rw [List.length_set]; omega)]
          split
          · rename_i h; rw [h]
          · rw [gR_set (by omega), if_pos rfl]
        have g2 : ((m.set d (gR m x)).set x (gR m d)).set d V = (m.set x (gR m d)).set d V := by
          by_cases hxd : d = x
          · subst hxd; simp [List.set_set]
          · rw [List.set_comm _ _ hxd, List.set_set]
        have hM := (hm.set hxr (hm.row hdr)).set hdr hV
        have g3 : gR ((m.set x (gR m d)).set d V) d = V := by rw [gR_set (by rw [List.length_set]; omega), if_pos rfl]
        obtain ⟨y1, y2⟩ := basis_clear (p := p) (r := r) (c := c) (l := (m.set d (gR m x)).set x (gR m d)) (d := d) (k := k) hP hr hc hkc hdr m hV (by simp [e1]) hM g3
        simp only [hx', if_false, idxR (show x < m.length by omega), idxR (show d < m.length by omega), some_bind, idxI (show k < (gR m x).length by omega), f1, f2, f3, f4, Int.toNat_natCast,
          idxR (show d < (m.set x (gR m d)).length by rw [List.length_set]; omega), idxR (show x < (m.set d (gR m x)).length by rw [List.length_set]; omega), idxR (show d < ((m.set d (gR m x)).set x (gR m d)).length by rw [List.length_set, List.length_set]; omega), g1, g2, y1, y2]
        refine ⟨_, rfl, rfl, ⟨clrm_mat (by omega) hV, hks, d + 1, k + 1, ?_, by omega, by omega, _, hrs⟩, ?_⟩
        · rw [w_in (by omega) (by omega), w_in (by omega) (by omega)]; rfl
        · rw [w_in (by omega) (by omega), w_in (by omega) (by omega)]; simp only []; omega
    · have hdd : d = r := by omega
      subst hdd
      refine .inr ⟨(m, (d : Int)), fun n hn => basis_idle hr0 hr hc hm n k hk (by simpa using hn), ?_, hm, hker, d, k, rfl, by omega, fun h => by omega, hk, piv, hred⟩
      unfold i_field_basis_L0
      simp only [show (0 : Int) < (m.length : Int) by omega, if_true, idxR0 (show 0 < m.length by omega), some_bind, show (k : Int) < ((gR m 0).length : Int) by omega, ilt_false (show ¬ (d : Int) < (m.length : Int) by omega), Bool.false_eq_true, if_false]
  · refine .inr ⟨(m, (d : Int)), fun n hn => ?_, ?_, hm, hker, d, k, rfl, by omega, fun _ => by omega, hk, piv, hred⟩
    · cases n with
      | zero => omega
      | succ n =>
        rw [loop_succ]
        have : s_l02Basis_L0 p (m, (d : Int), (k : Int)) = some (.inr (m, (d : Int))) := by
          unfold s_l02Basis_L0
          simp only [show (0 : Int) < (m.length : Int) by omega, if_true, idxR0 (show 0 < m.length by omega), some_bind, ilt_false (show ¬ (k : Int) < ((gR m 0).length : Int) by omega), Bool.false_eq_true, if_false]
        rw [this]
    · unfold i_field_basis_L0
      simp only [show (0 : Int) < (m.length : Int) by omega, if_true, idxR0 (show 0 < m.length by omega), some_bind, show ¬ (k : Int) < ((gR m 0).length : Int) by omega, Bool.false_eq_true, if_false]

theorem Basis_full {m : List (List Int)} (hm : Mat p r c m) : ∃ b, s_l02Basis p m = some b ∧ i_field_basis p m = some b ∧ b.length ≤ r ∧ (∃ ld, Ech p c b ld) ∧ ∀ u, Kr p c b u ↔ KerP p r c m u := by
  have hz := hm.sz hr hc
  obtain ⟨b, h1, h2, h3, hk, d, k, h4, h5, h7, h8, piv, h6⟩ := basis_two2 hP hr0 hr hc hm
  have hl := h3.1
  have hg : ∀ i, i < d → gR (b.1.take d) i = gR b.1 i := by
    intro i hi
    unfold gR
    rw [List.getD_eq_getElem?_getD, List.getD_eq_getElem?_getD, List.getElem?_take_of_lt hi]
  have hd : (b.1.take d).length = d := by rw [List.length_take]; omega
  refine ⟨b.1.take d, ?_, ?_, by omega, ⟨piv, ?_⟩, fun u => ?_⟩
  · unfold s_l02Basis
    rw [s_l01Own2_eq hz, some_bind, h1, some_bind, h4, chk_bind (by omega)]; rfl
  · unfold i_field_basis
    rw [i_cloneRows_eq hz, some_bind, h2, some_bind, h4, chk_bind (by omega)]; rfl
  · constructor
    · rw [hd]
      refine ⟨hd, fun i hi => ?_⟩
      rw [hg i hi]
      exact h3.2 i (by omega)
    · rw [hd]; exact fun j hj => (h6.red j hj).1
    · rw [hd]; intro j hj; rw [hg j hj]; exact (h6.red j hj).2.1
    · rw [hd]; intro j hj q hq; rw [hg j hj]; exact h6.pre j hj q hq
    · rw [hd]; intro j hj i hi hij; rw [hg i hi]; exact (h6.red j hj).2.2 i (by omega) hij
    · rw [hd]; exact h6.srt
  · rw [← hk u]
    unfold Kr KerP
    rw [hd]
    constructor
    · intro h i hi
      by_cases hid : i < d
      · have := h i hid; rwa [hg i hid] at this
      · have hkc := h7 (by omega)
        have : rd c (gR b.1 i) u = 0 := by
          unfold rd
          rw [sumN_congr (g := fun _ => 0) (fun q hq => by rw [h6.low i (by omega) hi q (by omega), Int.zero_mul])]
          exact sumN_zero c
        rw [this]; exact Int.dvd_zero p
    · intro h i hi
      rw [hg i hi]; exact h i (by omega)
end
end Go.Vam
