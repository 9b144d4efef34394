import Derived.Test.YtbbkiinopmnapaaPlG0
import Derived.Test.YtbbkiinopmnapaaFnF
/- Plain laws: both programs' reduced bases are reduced rows in order, and send the same to nothing. -/
namespace Go.Vam
open Go Go.RowKit
set_option linter.unusedSimpArgs false
set_option linter.unusedVariables false
set_option linter.unusedSectionVars false

structure RedK (r c : Nat) (m : List (List Int)) (d k : Nat) (piv : Nat → Nat) : Prop where
  red : Red r c m d piv
  plt : ∀ j, j < d → piv j < k
  pre : ∀ j, j < d → ∀ q, q < piv j → gI (gR m j) q = 0
  srt : ∀ i j, i < j → j < d → piv i < piv j
  low : ∀ i, d ≤ i → i < r → ∀ q, q < k → gI (gR m i) q = 0
theorem RedK.skip {r c d k : Nat} {m : List (List Int)} {piv : Nat → Nat} (h : RedK r c m d k piv) (h0 : ∀ i, d ≤ i → i < r → gI (gR m i) k = 0) : RedK r c m d (k + 1) piv :=
  ⟨h.red, fun j hj => Nat.lt_succ_of_lt (h.plt j hj), h.pre, h.srt, fun i h1 h2 q hq => (Nat.lt_succ_iff_lt_or_eq.1 hq).elim (h.low i h1 h2 q) (fun e => e ▸ h0 i h1 h2)⟩
section
variable {p : Int} {r c k d x : Nat} {m : List (List Int)} {piv : Nat → Nat} {R : List Int} (hP : isP p = true) (hm : Mat p r c m) (hk : k < c) (hd : d < r) (hdx : d ≤ x) (hx : x < r)
  (hne : gI (gR m x) k ≠ 0) (hRe : R = scalev p c (gR m x) (invp p (gI (gR m x) k)))
include hP hm hk hd hdx hx hne hRe
theorem clrm_row (i : Nat) (hi : i < r) : gR (clrm p r c k d R ((m.set x (gR m d)).set d R)) i = if i = d then R else clr p c k R (if i = x then gR m d else gR m i) := by
  have e1 := hm.1
  unfold clrm
  rw [gR_vecN _ hi]
  by_cases hid : i = d
  · rw [if_pos hid, if_pos hid]
  · rw [if_neg hid, if_neg hid, gR_set (by rw [List.length_set]; omega), if_neg (by omega), gR_set (by omega)]
    by_cases hix : i = x
    · rw [if_pos hix.symm, if_pos hix]
    · rw [if_neg (fun e => hix e.symm), if_neg hix]
theorem clrm_ker (u : Nat → Int) : KerP p r c (clrm p r c k d R ((m.set x (gR m d)).set d R)) u ↔ KerP p r c m u := by
  have hp := isP_le hP
  have e4 := (hm.row hx).get hk
  obtain ⟨i1, i2, i3⟩ := inv_facts (a := gI (gR m x) k) hP (by omega) e4.2
  have hR : p ∣ rd c R u ↔ p ∣ rd c (gR m x) u := by
    rw [hRe, dvd_congr (rd_scalev u), prime_dvd hP]
    refine ⟨fun h => h.resolve_left fun h => ?_, .inr⟩
    rw [num_dvd ⟨by omega, i2⟩] at h; omega
  have hC : ∀ v, p ∣ rd c R u → (p ∣ rd c (clr p c k R v) u ↔ p ∣ rd c v u) := by
    intro v hu
    unfold clr
    rw [dvd_congr (rd_plusv u)]
    exact Int.dvd_add_left (Int.dvd_mul_of_dvd_right hu)
  have row := clrm_row hP hm hk hd hdx hx hne hRe
  constructor
  · intro h
    have hRu : p ∣ rd c R u := by
      have := h d hd
      rwa [row d hd, if_pos rfl] at this
    intro i hi
    by_cases hix : i = x
    · rw [hix]; exact hR.1 hRu
    · by_cases hid : i = d
      · have := h x hx
        rw [row x hx, if_neg (by omega), if_pos rfl, hC _ hRu] at this
        rw [hid]; exact this
      · have := h i hi
        rw [row i hi, if_neg hid, if_neg hix, hC _ hRu] at this
        exact this
  · intro h
    have hRu := hR.2 (h x hx)
    intro i hi
    rw [row i hi]
    split
    · exact hRu
    · rw [hC _ hRu]
      split
      · exact h d hd
      · exact h i hi
theorem RedK.step (h : RedK r c m d k piv) : RedK r c (clrm p r c k d R ((m.set x (gR m d)).set d R)) (d + 1) (k + 1) (fun j => if j = d then k else piv j) := by
  have hp := isP_le hP
  have row := clrm_row hP hm hk hd hdx hx hne hRe
  have e4 := (hm.row hx).get hk
  obtain ⟨i1, i2, i3⟩ := inv_facts (a := gI (gR m x) k) hP (by omega) e4.2
  have hR0 : ∀ q, q < k → gI R q = 0 := by
    intro q hq
    rw [hRe]; unfold scalev
    rw [gI_vecN _ (by omega), h.low x hdx hx q hq]; simp
  have hent : ∀ v q, q < k → gI v q = 0 → gI (clr p c k R v) q = 0 := by
    intro v q hq hv
    unfold clr plusv
    rw [gI_vecN _ (by omega), hv, hR0 q hq]; simp
  refine ⟨h.red.step hP hm hk hd hdx hx hne hRe, fun j hj => ?_, fun j hj q hq => ?_, fun i j hij hj => ?_, fun i h1 h2 q hq => ?_⟩
  · try simp only []
    split
    · omega
    · have := h.plt j (by omega); omega
  · try simp only [] at hq
    rw [row j (by omega)]
    by_cases hjd : j = d
    · rw [if_pos hjd] at hq ⊢; exact hR0 q hq
    · rw [if_neg hjd] at hq ⊢
      have h3 := h.plt j (by omega)
      rw [if_neg (by omega)]
      exact hent _ q (by omega) (h.pre j (by omega) q hq)
  · try simp only []
    rw [if_neg (show ¬ i = d by omega)]
    split
    · exact h.plt i (by omega)
    · exact h.srt i j hij (by omega)
  · rw [row i h2, if_neg (by omega)]
    by_cases hqk : q < k
    · refine hent _ q hqk ?_
      split
      · exact h.low d (Nat.le_refl _) hd q hqk
      · exact h.low i (by omega) h2 q hqk
    · have hqe : q = k := by omega
      subst hqe
      have hRk : gI R q = 1 := by rw [hRe]; unfold scalev; rw [gI_vecN _ hk, i3]
      unfold clr plusv
      rw [gI_vecN _ hk, hRk, Int.mul_one]
      generalize gI (if i = x then gR m d else gR m i) q = e
      rw [Int.add_emod, Int.emod_emod_of_dvd _ (Int.dvd_refl p), ← Int.add_emod]
      have : e + (p - e) = p := by omega
      rw [this, Int.emod_self]
end
section
variable {p : Int} {r c : Nat} (hP : isP p = true) (hr0 : 0 < r) (hr : r ≤ 1048576) (hc : c ≤ 1048576)
include hP hr0 hr hc
theorem basis_two2 {m : List (List Int)} (hm : Mat p r c m) :
    ∃ b, loop (s_l02Basis_L0 p) BIG (m, 0, 0) = some b ∧ loop (i_field_basis_L0 p) BIG (m, 0, 0) = some b ∧ (Mat p r c b.1 ∧ (∀ u, KerP p r c b.1 u ↔ KerP p r c m u) ∧ ∃ d k : Nat, b.2 = (d : Int) ∧ d ≤ r ∧ (d < r → k = c) ∧ k ≤ c ∧ ∃ piv, RedK r c b.1 d k piv) := by
  have hp := isP_le hP
  generalize hM0 : m = M0
  rw [hM0] at hm
  refine loop_two' (fun s => Mat p r c s.1 ∧ (∀ u, KerP p r c s.1 u ↔ KerP p r c M0 u) ∧ ∃ d k : Nat, s.2 = ((d : Int), (k : Int)) ∧ d ≤ r ∧ k ≤ c ∧ ∃ piv, RedK r c s.1 d k piv) (fun s => c - s.2.2.toNat) _ ⟨hm, fun _ => Iff.rfl, 0, 0, rfl, by omega, by omega, fun _ => 0, ⟨fun j hj => by omega, fun j hj => by omega, fun j hj => by omega, fun i j _ hj => by omega, fun i _ _ q hq => by omega⟩⟩ (by rw [BIG_val]; simp only []; omega) ?_
  rintro ⟨m, t⟩ ⟨hm, hker, d, k, rfl, hd, hk, piv, hred⟩
  try simp only [] at hm hred hker
  have e1 := hm.1
  have e2 := (hm.row hr0).1
  by_cases hkc : k < c
  · by_cases hdr : d < r
    · refine .inl ?_
      obtain ⟨b, h1, x, rfl, h2, h3, h4, h0⟩ := find_eq2 hm (k := k) (s := d) hr hkc hd
      have l1 : s_l02Basis_L1 (m, (d : Int), (k : Int)) = findStep m (k : Int) := rfl
      have l2 : i_field_basis_L1 (m, (d : Int), (k : Int)) = findStep m (k : Int) := rfl
      unfold s_l02Basis_L0 i_field_basis_L0
      simp only [show (0 : Int) < (m.length : Int) by omega, if_true, idxR0 (show 0 < m.length by omega), some_bind, show (k : Int) < ((gR m 0).length : Int) by omega, ilt_true (show (k : Int) < ((gR m 0).length : Int) by omega), ilt_true (show (d : Int) < (m.length : Int) by omega), l1, l2, h1]
      by_cases hx : x = r
      · have hx' : (x : Int) = (m.length : Int) := by omega
        simp only [hx', if_true, some_bind]
        refine ⟨_, rfl, rfl, ⟨hm, hker, d, k + 1, ?_, hd, by omega, piv, hred.skip fun i hi1 hi2 => h0 i hi1 (by omega)⟩, ?_⟩
        · rw [w_in (by omega) (by omega)]; rfl
        · rw [w_in (by omega) (by omega)]; simp only []; omega
      · have hx' : ¬ (x : Int) = (m.length : Int) := by omega
        have hxr : x < r := by omega
        have hne := h4 hxr
        have e3 := (hm.row hxr).1
        have e4 := (hm.row hxr).get hkc
        have e5 := (hm.row hdr).1
        obtain ⟨i1, i2, i3⟩ := inv_facts (a := gI (gR m x) k) hP (by omega) e4.2
        have f1 := s_l01Inv_eq (a := gI (gR m x) k) hP (by omega) e4.2
        have f2 := i_field_inv_eq (a := gI (gR m x) k) hP (by omega) e4.2
        have f3 := s_l02Scale_eq (p := p) (n := c) (a := gR m x) (k := invp p (gI (gR m x) k)) (by omega) (by omega) hc (by omega) (by omega) (hm.row hxr)
        have f4 := i_field_scaled_eq (p := p) (n := c) (a := gR m x) (k := invp p (gI (gR m x) k)) (by omega) (by omega) hc (by omega) (hm.row hxr)
        have hV := scalev_vec (p := p) (by omega) c (gR m x) (invp p (gI (gR m x) k))
        generalize hVe : scalev p c (gR m x) (invp p (gI (gR m x) k)) = V at f3 f4 hV
        have hrs := hred.step hP hm hkc hdr h2 hxr hne hVe.symm
        have hks := fun u => (clrm_ker hP hm hkc hdr h2 hxr hne hVe.symm u).trans (hker u)
        have g1 : gR ((m.set d (gR m x)).set x (gR m d)) d = gR m x := by
          rw [gR_set (by rw [List.length_set]; omega)]
          split
          · rename_i h; rw [h]
          · rw [gR_set (by omega), if_pos rfl]
        have g2 : ((m.set d (gR m x)).set x (gR m d)).set d V = (m.set x (gR m d)).set d V := by
          by_cases hxd : d = x
          · subst hxd; simp [List.set_set]
          · rw [List.set_comm _ _ hxd, List.set_set]
        have hM := (hm.set hxr (hm.row hdr)).set hdr hV
        have g3 : gR ((m.set x (gR m d)).set d V) d = V := by rw [gR_set (by rw [List.length_set]; omega), if_pos rfl]
        obtain ⟨y1, y2⟩ := basis_clear (p := p) (r := r) (c := c) (l := (m.set d (gR m x)).set x (gR m d)) (d := d) (k := k) hP hr hc hkc hdr m hV (by simp [e1]) hM g3
        simp only [hx', if_false, idxR (show x < m.length by omega), idxR (show d < m.length by omega), some_bind, idxI (show k < (gR m x).length by omega), f1, f2, f3, f4, Int.toNat_natCast,
          idxR (show d < (m.set x (gR m d)).length by rw [List.length_set]; omega), idxR (show x < (m.set d (gR m x)).length by rw [List.length_set]; omega), idxR (show d < ((m.set d (gR m x)).set x (gR m d)).length by rw [List.length_set, List.length_set]; omega), g1, g2, y1, y2]
        refine ⟨_, rfl, rfl, ⟨clrm_mat (by omega) hV, hks, d + 1, k + 1, ?_, by omega, by omega, _, hrs⟩, ?_⟩
        · rw [w_in (by omega) (by omega), w_in (by omega) (by omega)]; rfl
        · rw [w_in (by omega) (by omega), w_in (by omega) (by omega)]; simp only []; omega
    · have hdd : d = r := by omega
      subst hdd
      refine .inr ⟨(m, (d : Int)), fun n hn => basis_idle hr0 hr hc hm n k hk (by simpa using hn), ?_, hm, hker, d, k, rfl, by omega, fun h => by omega, hk, piv, hred⟩
      unfold i_field_basis_L0
      simp only [show (0 : Int) < (m.length : Int) by omega, if_true, idxR0 (show 0 < m.length by omega), some_bind, show (k : Int) < ((gR m 0).length : Int) by omega, ilt_false (show ¬ (d : Int) < (m.length : Int) by omega), Bool.false_eq_true, if_false]
  · refine .inr ⟨(m, (d : Int)), fun n hn => ?_, ?_, hm, hker, d, k, rfl, by omega, fun _ => by omega, hk, piv, hred⟩
    · cases n with
      | zero => omega
      | succ n =>
        rw [loop_succ]
        have : s_l02Basis_L0 p (m, (d : Int), (k : Int)) = some (.inr (m, (d : Int))) := by
          unfold s_l02Basis_L0
          simp only [show (0 : Int) < (m.length : Int) by omega, if_true, idxR0 (show 0 < m.length by omega), some_bind, ilt_false (show ¬ (k : Int) < ((gR m 0).length : Int) by omega), Bool.false_eq_true, if_false]
        rw [this]
    · unfold i_field_basis_L0
      simp only [show (0 : Int) < (m.length : Int) by omega, if_true, idxR0 (show 0 < m.length by omega), some_bind, show ¬ (k : Int) < ((gR m 0).length : Int) by omega, Bool.false_eq_true, if_false]

theorem Basis_full {m : List (List Int)} (hm : Mat p r c m) : ∃ b, s_l02Basis p m = some b ∧ i_field_basis p m = some b ∧ b.length ≤ r ∧ (∃ ld, Ech p c b ld) ∧ ∀ u, Kr p c b u ↔ KerP p r c m u := by
  have hz := hm.sz hr hc
  obtain ⟨b, h1, h2, h3, hk, d, k, h4, h5, h7, h8, piv, h6⟩ := basis_two2 hP hr0 hr hc hm
  have hl := h3.1
  have hg : ∀ i, i < d → gR (b.1.take d) i = gR b.1 i := by
    intro i hi
    unfold gR
    rw [List.getD_eq_getElem?_getD, List.getD_eq_getElem?_getD, List.getElem?_take_of_lt hi]
  have hd : (b.1.take d).length = d := by rw [List.length_take]; omega
  refine ⟨b.1.take d, ?_, ?_, by omega, ⟨piv, ?_⟩, fun u => ?_⟩
  · unfold s_l02Basis
    rw [s_l01Own2_eq hz, some_bind, h1, some_bind, h4, chk_bind (by omega)]; rfl
  · unfold i_field_basis
    rw [i_cloneRows_eq hz, some_bind, h2, some_bind, h4, chk_bind (by omega)]; rfl
  · constructor
    · rw [hd]
      refine ⟨hd, fun i hi => ?_⟩
      rw [hg i hi]
      exact h3.2 i (by omega)
    · rw [hd]; exact fun j hj => (h6.red j hj).1
    · rw [hd]; intro j hj; rw [hg j hj]; exact (h6.red j hj).2.1
    · rw [hd]; intro j hj q hq; rw [hg j hj]; exact h6.pre j hj q hq
    · rw [hd]; intro j hj i hi hij; rw [hg i hi]; exact (h6.red j hj).2.2 i (by omega) hij
    · rw [hd]; exact h6.srt
  · rw [← hk u]
    unfold Kr KerP
    rw [hd]
    constructor
    · intro h i hi
      by_cases hid : i < d
      · have := h i hid; rwa [hg i hid] at this
      · have hkc := h7 (by omega)
        have : rd c (gR b.1 i) u = 0 := by
          unfold rd
          rw [sumN_congr (g := fun _ => 0) (fun q hq => by rw [h6.low i (by omega) hi q (by omega), Int.zero_mul])]
          exact sumN_zero c
        rw [this]; exact Int.dvd_zero p
    · intro h i hi
      rw [hg i hi]; exact h i (by omega)
end
end Go.Vam

/- Plain laws: rows reduced one at a time; IsAutomorphism. -/
namespace Go.Vam
open Go Go.RowKit
set_option linter.unusedSimpArgs false
set_option linter.unusedVariables false
set_option linter.unusedSectionVars false

section
variable {p : Int} {n : Nat} (hP : isP p = true) (hn : n ≤ 1048000)
include hP hn
end

section
variable {p : Int} {w : List Int} {m : List (List Int)} (hP : isP p = true) (hl : w.length ≤ 4) (hw : Vec p w.length w) (hm : Mat p (2 ^ w.length) (2 ^ w.length) m)
include hP hl hw hm
end
end Go.Vam

/- Plain laws: kernels; both programs make the same reduced basis of what a table sends to nothing. -/
namespace Go.Vam
open Go Go.RowKit
set_option linter.unusedSimpArgs false
set_option linter.unusedVariables false
set_option linter.unusedSectionVars false

theorem basis_nil (p : Int) : s_l02Basis p [] = some [] ∧ i_field_basis p [] = some [] := by
  constructor
  · unfold s_l02Basis
    rw [s_l01Own2_eq ⟨by simp, by simp⟩, some_bind]
    have : loop (s_l02Basis_L0 p) BIG ([], 0, 0) = some ([], 0) := by
      rw [show BIG = (BIG - 1) + 1 from rfl, loop_succ]
      have : s_l02Basis_L0 p ([], 0, 0) = some (.inr ([], 0)) := by
        unfold s_l02Basis_L0
        simp
      rw [this]
    rw [this, some_bind]
    simp [chk]
  · unfold i_field_basis
    rw [i_cloneRows_eq ⟨by simp, by simp⟩, some_bind]
    have : loop (i_field_basis_L0 p) BIG ([], 0, 0) = some ([], 0) := by
      rw [show BIG = (BIG - 1) + 1 from rfl, loop_succ]
      have : i_field_basis_L0 p ([], 0, 0) = some (.inr ([], 0)) := by
        unfold i_field_basis_L0
        simp
      rw [this]
    rw [this, some_bind]
    simp [chk]
theorem Ech.nil (p : Int) (n : Nat) : Ech p n [] (fun _ => 0) :=
  ⟨⟨rfl, fun i hi => by simp at hi⟩, fun j hj => by simp at hj, fun j hj => by simp at hj, fun j hj => by simp at hj, fun j hj => by simp at hj, fun i j _ hj => by simp at hj⟩
theorem i_basis_any {p : Int} {r c : Nat} {m : List (List Int)} (hP : isP p = true) (hr : r ≤ 1048576) (hc : c ≤ 1048576) (hm : Mat p r c m) :
    ∃ b, s_l02Basis p m = some b ∧ i_field_basis p m = some b ∧ b.length ≤ r ∧ (∃ ld, Ech p c b ld) ∧ ∀ u, Kr p c b u ↔ KerP p r c m u := by
  by_cases h0 : r = 0
  · subst h0
    have : m = [] := List.eq_nil_of_length_eq_zero hm.1
    subst this
    exact ⟨[], (basis_nil p).1, (basis_nil p).2, by simp, ⟨_, Ech.nil p c⟩, fun u => ⟨fun _ i hi => by omega, fun _ j hj => by simp at hj⟩⟩
  · exact Basis_full hP (by omega) hr hc hm

/-- The vector that a place without a lead gives. -/
def freeV (p : Int) (n : Nat) (B : List (List Int)) (ld : Nat → Nat) (f : Nat) : List Int := vecN n fun q => freeF B ld f q % p
theorem freeV_vec {p : Int} (hp : 0 < p) (n : Nat) (B : List (List Int)) (ld : Nat → Nat) (f : Nat) : Vec p n (freeV p n B ld f) := Vec.mk' fun _ _ => mod_num hp
def freeL (n : Nat) (B : List (List Int)) (ld : Nat → Nat) (k : Nat) : List Nat := (List.range k).filter fun f => !isLd B.length ld f
def kerR (p : Int) (n : Nat) (B : List (List Int)) (ld : Nat → Nat) (k : Nat) : List (List Int) := (freeL n B ld k).map (freeV p n B ld)
theorem kerR_lead {p : Int} {n : Nat} {B : List (List Int)} {ld : Nat → Nat} {k : Nat} (h : isLd B.length ld k = true) : kerR p n B ld (k + 1) = kerR p n B ld k := by
  unfold kerR freeL
  rw [List.range_succ, List.filter_append]
  simp [h]
theorem kerR_free {p : Int} {n : Nat} {B : List (List Int)} {ld : Nat → Nat} {k : Nat} (h : isLd B.length ld k = false) : kerR p n B ld (k + 1) = kerR p n B ld k ++ [freeV p n B ld k] := by
  unfold kerR freeL
  rw [List.range_succ, List.filter_append]
  simp [h]
theorem kerR_len (p : Int) (n : Nat) (B : List (List Int)) (ld : Nat → Nat) (k : Nat) : (kerR p n B ld k).length ≤ k := by
  unfold kerR freeL
  rw [List.length_map]
  exact Nat.le_trans (List.length_filter_le _ _) (by simp)
theorem kerR_mat {p : Int} (hp : 0 < p) (n : Nat) (B : List (List Int)) (ld : Nat → Nat) (k : Nat) : Mat p (kerR p n B ld k).length n (kerR p n B ld k) := by
  have hm : ∀ r ∈ kerR p n B ld k, Vec p n r := by
    unfold kerR
    intro r hr
    obtain ⟨f, _, rfl⟩ := List.mem_map.1 hr
    exact freeV_vec hp ..
  exact ⟨rfl, fun i hi => hm _ (by rw [← gR_get hi]; exact List.getElem_mem hi)⟩
/-- A loop over places that keeps the vectors of those without a lead. -/
theorem ker_loop {p : Int} {n : Nat} {B : List (List Int)} {ld : Nat → Nat} {step : List (List Int) × Int → Option ((List (List Int) × Int) ⊕ List (List Int))} (hn : n ≤ 1048576)
    (hs : ∀ k, k < n → ∀ out : List (List Int), out.length ≤ k → step (out, (k : Int)) = some (.inl (if isLd B.length ld k = true then out else out ++ [freeV p n B ld k], ((k + 1 : Nat) : Int))))
    (he : ∀ out, step (out, (n : Int)) = some (.inr out)) : loop step BIG ([], 0) = some (kerR p n B ld n) := by
  refine loop_for (fun k => (kerR p n B ld k, (k : Int))) n (by rw [BIG_val]; omega) rfl (fun k hk => ?_) (he _)
  rw [hs k hk _ (kerR_len ..)]
  cases h : isLd B.length ld k with
  | true => rw [kerR_lead h]; rfl
  | false => rw [kerR_free h]; rfl

section
variable {p : Int} {n : Nat} {B : List (List Int)} {ld : Nat → Nat} (hP : isP p = true) (hn : n ≤ 1048000) (hB : Ech p n B ld)
include hP hn hB
theorem free_num {j f : Nat} (hj : j < B.length) (hf : f < n) : s_l01Mod p (w64 (0 - gI (gR B j) f)) = some ((0 - gI (gR B j) f) % p) ∧ i_field_num p (w64 (0 - gI (gR B j) f)) = some ((0 - gI (gR B j) f) % p) := by
  have hp := isP_le hP
  have e := (hB.mat.row hj).get hf
  have w : w64 (0 - gI (gR B j) f) = 0 - gI (gR B j) f := w_in (by omega) (by omega)
  rw [w]
  exact ⟨s_l01Mod_eq (by omega) (by omega) (by omega) (by omega), i_field_num_eq (by omega) (by omega) (by omega) (by omega)⟩
theorem s_has_piv (f : Nat) : s_l01Has (vecN B.length fun j => (ld j : Int)) (f : Int) = some (isLd B.length ld f) := by
  have hle := hB.le
  unfold s_l01Has s_l01Index
  obtain ⟨b, h1, h2⟩ := any_loop (s_l01Index_L0 (vecN B.length fun j => (ld j : Int)) (f : Int)) B.length (fun k => decide (ld k = f)) (fun k => (k : Int)) (by rw [BIG_val]; omega)
    (fun k hk hf => by
      unfold s_l01Index_L0
      rw [if_pos (by rw [vecN_len]; omega), idxI (by rw [vecN_len]; exact hk), some_bind, gI_vecN _ hk, if_neg (by simp at hf; omega), w_in (by omega) (by omega)]; rfl)
    (fun k hk hf => by
      unfold s_l01Index_L0
      rw [if_pos (by rw [vecN_len]; omega), idxI (by rw [vecN_len]; exact hk), some_bind, gI_vecN _ hk, if_pos (by simp at hf; omega)])
    (by
      unfold s_l01Index_L0
      rw [if_neg (by rw [vecN_len]; omega)])
  rw [h1, some_bind]
  unfold isLd
  rcases h2 with ⟨rfl, h3⟩ | ⟨k, _, rfl, _, h3, _⟩
  · rw [h3]; rfl
  · rw [h3]
    simp [ile]
/-! the program -/
def kerE (B : List (List Int)) (ld : Nat → Nat) (k : Nat) : List (Int × Int) := (List.range k).map fun j => ((ld j : Int), (j : Int))
omit hP hn hB in
theorem kerE_succ (k : Nat) : kerE B ld (k + 1) = kerE B ld k ++ [((ld k : Int), (k : Int))] := by unfold kerE; rw [List.range_succ, List.map_append]; rfl
omit hP hn hB in
theorem kerE_has (k f : Nat) : hasK (kerE B ld k) (f : Int) = isLd k ld f := by
  unfold hasK kerE isLd
  rw [List.any_map]
  congr 1
  funext j
  simp [Function.comp]
theorem kerE_nodup : ((kerE B ld B.length).map (·.1)).Nodup := by
  unfold kerE
  rw [List.map_map]
  refine nodup_map_inj (fun i hi j hj e => ?_) List.nodup_range
  rw [List.mem_range] at hi hj
  exact hB.inj hi hj (by simpa [Function.comp] using e)
theorem i_ker_es : loop (i_field_kernel_L0 B) BIG ([], 0) = some (kerE B ld B.length) := by
  have hle := hB.le
  refine loop_for (fun k => (kerE B ld k, (k : Int))) B.length (by rw [BIG_val]; omega) rfl (fun k hk => ?_) ?_
  · unfold i_field_kernel_L0
    simp only [lt_cast hk, if_true]
    have hf := hB.first (by omega) hk
    rw [s_l12First_lead] at hf
    rw [idxR hk, some_bind, hf, some_bind, chk_bind, w_in (by omega) (by omega), kerE_succ]; rfl
    rw [kerE_has]
    cases h : isLd k ld (ld k) with
    | false => rfl
    | true =>
      obtain ⟨j, hj, e⟩ := isLd_iff.1 h
      have := hB.inj (by omega) hk e
      omega
  · unfold i_field_kernel_L0
    simp only [lt_cast_self, if_false]
theorem kerV_eq {j f : Nat} (hj : j < B.length) (hf : f < n) : kerV p B (f : Int) ((ld j : Int), (j : Int)) = some ((0 - gI (gR B j) f) % p) := by
  have e := (hB.mat.row hj).1
  unfold kerV
  rw [idxR hj, some_bind, idxI (by omega), some_bind, (free_num hP hn hB hj hf).2]
theorem i_ker_fill {f : Nat} (hf : f < n) (hfr : isLd B.length ld f = false) : (kerE B ld B.length).foldl (kerPut p B (f : Int)) ((List.replicate n (0 : Int)).set f 1) = freeV p n B ld f := by
  have hp := isP_le hP
  refine extI (by rw [kerF_len]; simp) fun q hq => ?_
  have hg := kerF_get (p := p) (red := B) (free := (f : Int)) (kerE B ld B.length) ((List.replicate n (0 : Int)).set f 1) (fun e he => by
    unfold kerE at he
    obtain ⟨j, _, rfl⟩ := List.mem_map.1 he
    simp) (kerE_nodup hP hn hB) q
  have hmem : ∀ e ∈ kerE B ld B.length, ∃ j, j < B.length ∧ e = ((ld j : Int), (j : Int)) := fun e he => by
    unfold kerE at he
    obtain ⟨j, hj, rfl⟩ := List.mem_map.1 he
    exact ⟨j, List.mem_range.1 hj, rfl⟩
  have hgI : ∀ v : List Int, gI v q = (v[q]?).getD 0 := fun v => by unfold gI; rw [List.getD_eq_getElem?_getD]
  rw [hgI]
  unfold freeF
  cases h : isLd B.length ld q with
  | false =>
    rw [hg.1 fun e he hq' => by
      obtain ⟨j, hj, rfl⟩ := hmem e he
      exact isLd_not h hj (by simpa using hq'), ← hgI, show (List.replicate n (0 : Int)).set f 1 = axis n f from rfl, gI_axis hf]
    by_cases h1 : q = f
    · rw [if_pos h1, if_pos h1, Int.emod_eq_of_lt (by omega) (by omega)]
    · rw [if_neg h1, if_neg h1]; rfl
  | true =>
    have hqf : q ≠ f := fun e => by rw [e, hfr] at h; cases h
    obtain ⟨a1, a2⟩ := rowOf_spec (isLd_iff.1 h)
    rw [hg.2 ((ld (rowOf ld q B.length) : Int), (rowOf ld q B.length : Int)) (by
      unfold kerE
      exact List.mem_map.2 ⟨_, List.mem_range.2 a1, rfl⟩) (by simpa using a2), if_pos (by simpa using hq), kerV_eq hP hn hB a1 hf, if_neg hqf, if_pos rfl, Int.zero_sub]
    rfl
theorem i_ker_rows : loop (i_field_kernel_L1 p (n : Int) B (kerE B ld B.length)) BIG ([], 0) = some (kerR p n B ld n) := by
  refine ker_loop (by omega) (fun k hk out ho => ?_) (fun out => ?_)
  · unfold i_field_kernel_L1
    simp only [lt_cast hk, if_true]
    rw [kerE_has]
    cases h : isLd B.length ld k with
    | true =>
      simp only [if_true, some_bind]
      rw [w_in (by omega) (by omega)]; rfl
    | false =>
      simp only [Bool.false_eq_true, if_false]
      rw [chk_bind (by omega), some_bind, Int.toNat_natCast, idxI (by simpa using hk), some_bind, Int.toNat_natCast, chk_bind, i_ker_fill hP hn hB hk h, some_bind, chk_bind (by simp only [List.length_cons, List.length_nil]; omega), some_bind, w_in (by omega) (by omega)]; rfl
      rw [List.all_eq_true]
      intro e he
      unfold kerE at he
      obtain ⟨j, hj, rfl⟩ := List.mem_map.1 he
      have hj' := List.mem_range.1 hj
      unfold kerOk
      rw [kerV_eq hP hn hB hj' hk]
      have := hB.lt j hj'
      simp
      omega
  · unfold i_field_kernel_L1
    simp only [lt_cast_self, if_false]
end
end Go.Vam

/- Plain law: the reduced rows that a table sends to nothing. -/
namespace Go.Vam
open Go Go.RowKit
set_option linter.unusedSimpArgs false
set_option linter.unusedVariables false
set_option linter.unusedSectionVars false

section
variable {p : Int} {n : Nat} {B : List (List Int)} {ld : Nat → Nat} (hP : isP p = true) (hn : n ≤ 1048000) (hB : Ech p n B ld)
include hP hn hB
theorem neg_num {j f : Nat} (hj : j < B.length) (hf : f < n) : (w64 (p - gI (gR B j) f)).tmod p = (0 - gI (gR B j) f) % p := by
  have hp := isP_le hP
  have e := (hB.mat.row hj).get hf
  rw [w_in (by omega) (by omega), tmod_nn (by omega), show p - gI (gR B j) f = (0 - gI (gR B j) f) + p by omega, Int.add_emod_right]
theorem t_ker_piv : loop (s_l02Kernel_L0 B) BIG ([], 0) = some (vecN B.length fun j => (ld j : Int)) := by
  have hle := hB.le
  refine map_loop _ B.length (fun j => (ld j : Int)) (by rw [BIG_val]; omega) (fun k hk out ho => ?_) (fun out ho => ?_)
  · have hf := hB.first (by omega) hk
    have hf' : s_l02First (gR B k) = some (ld k : Int) := by
      have e := (hB.mat.row hk).1
      obtain ⟨f, _, f2, f3, _⟩ := first_two (v := gR B k) (q := ld k) (by omega) (by have := hB.lt k hk; omega) (by rw [hB.one k hk]; omega)
      rw [s_l12First_lead, f3] at hf
      rw [f2]; exact hf
    unfold s_l02Kernel_L0
    simp only [lt_cast hk, if_true]
    rw [idxR hk, some_bind, hf', some_bind, chk_bind (by simp only [List.length_cons, List.length_nil]; omega), w_in (by omega) (by omega)]; rfl
  · unfold s_l02Kernel_L0
    simp only [lt_cast_self, if_false]
theorem t_ker_fill {f : Nat} (hf : f < n) (hfr : isLd B.length ld f = false) (out : List (List Int)) : loop (s_l02Kernel_L2 p B (vecN B.length fun j => (ld j : Int)) (out, (f : Int))) BIG ((List.replicate n (0 : Int)).set f 1, 0) = some (freeV p n B ld f) := by
  have hp := isP_le hP
  have hle := hB.le
  obtain ⟨b, h1, h2⟩ := loop_inv (step := s_l02Kernel_L2 p B (vecN B.length fun j => (ld j : Int)) (out, (f : Int))) (fun s => ∃ k : Nat, s.2 = (k : Int) ∧ k ≤ B.length ∧ s.1.length = n ∧ ∀ q, q < n → gI s.1 q = if q = f then 1 else if isLd k ld q = true then (0 - gI (gR B (rowOf ld q B.length)) f) % p else 0) (fun s => B.length - s.2.toNat)
    (fun b => b = freeV p n B ld f) (s := ((List.replicate n (0 : Int)).set f 1, 0)) ⟨0, rfl, by omega, by simp, fun q hq => by
      rw [show (List.replicate n (0 : Int)).set f 1 = axis n f from rfl, gI_axis hf]
      rfl⟩ (by rw [BIG_val]; simp only []; omega) (by
      rintro ⟨v, t⟩ ⟨k, rfl, hk, hl, hg⟩
      try simp only [] at hl hg
      unfold s_l02Kernel_L2
      by_cases hkb : k < B.length
      · refine .inl ?_
        have hld := hB.lt k hkb
        have hrow := (hB.mat.row hkb).1
        have m1 := neg_num hP hn hB hkb hf
        have hkf := isLd_not hfr hkb
        simp only [lt_cast hkb, if_true]
        rw [idxI (by rw [vecN_len]; exact hkb), some_bind, idxR hkb, some_bind, idxI (by omega), some_bind, chk_bind (by omega), m1, gI_vecN _ hkb, idxI (by omega), some_bind, Int.toNat_natCast, w_in (by omega) (by omega)]
        refine ⟨_, rfl, ⟨k + 1, rfl, by omega, by simp [hl], fun q hq => ?_⟩, by simp only []; omega⟩
        try simp only []
        rw [gI_set (by omega)]
        have hsucc : isLd (k + 1) ld q = (isLd k ld q || decide (ld k = q)) := by unfold isLd; rw [List.range_succ, List.any_append]; simp
        by_cases hq1 : ld k = q
        · subst hq1
          have hro : rowOf ld (ld k) B.length = k := by
            obtain ⟨a1, a2⟩ := rowOf_spec (ld := ld) (q := ld k) (k := B.length) ⟨k, hkb, rfl⟩
            exact hB.inj a1 hkb a2
          rw [if_pos rfl, if_neg hkf, hsucc]
          simp [hro]
        · rw [if_neg hq1, hg q hq, hsucc]
          simp [hq1]
      · have hkk : k = B.length := by omega
        subst hkk
        refine .inr ⟨v, ?_, ?_⟩
        · simp only [lt_cast_self, if_false]
        · refine extI hl fun q hq => ?_
          rw [hg q hq]
          unfold freeF
          by_cases h1 : q = f
          · rw [if_pos h1, if_pos h1, Int.emod_eq_of_lt (by omega) (by omega)]
          · rw [if_neg h1, if_neg h1]
            split
            · rw [Int.zero_sub]
            · rfl)
  rw [h1, h2]
theorem t_ker_rows {v : List Int} (hv : v.length = n) : loop (s_l02Kernel_L1 p B v (vecN B.length fun j => (ld j : Int))) BIG ([], 0) = some (kerR p n B ld n) := by
  subst hv
  refine ker_loop (by omega) (fun k hk out ho => ?_) (fun out => ?_)
  · unfold s_l02Kernel_L1
    simp only [lt_cast hk, if_true]
    rw [s_has_piv hP hn hB, some_bind]
    cases h : isLd B.length ld k with
    | true =>
      simp only [if_true, some_bind]
      rw [w_in (by omega) (by omega)]; rfl
    | false =>
      simp only [Bool.false_eq_true, if_false]
      rw [chk_bind (by omega), some_bind, Int.toNat_natCast, idxI (by simpa using hk), some_bind, Int.toNat_natCast, t_ker_fill hP hn hB hk h, some_bind, chk_bind (by simp only [List.length_cons, List.length_nil]; omega), some_bind, w_in (by omega) (by omega)]; rfl
  · unfold s_l02Kernel_L1
    simp only [lt_cast_self, if_false]
end
theorem Ker_two {p : Int} {r n : Nat} {m : List (List Int)} (hP : isP p = true) (hr0 : 1 ≤ r) (hr : r ≤ 1024) (hn : n ≤ 1024) (hm : Mat p r n m) :
    ∃ V, i_field_kernel p m (n : Int) = some V ∧ s_l02Kernel p m = some V ∧ smallM V := by
  have hp := isP_le hP
  obtain ⟨B, a1, b1, _, ⟨ld, hB⟩, b2⟩ := i_basis_any hP (by omega) (by omega) hm
  have hkm := kerR_mat (p := p) (by omega) n B ld n
  have hkl := kerR_len p n B ld n
  obtain ⟨V, w1, v1, hVl, ⟨lv, hV⟩, v2⟩ := i_basis_any hP (by omega) (by omega) hkm
  have hn' : n ≤ 1048000 := by omega
  have e1 := hm.1
  have e2 := (hm.row (show 0 < r by omega)).1
  have hs : smallM V := smallM.of hV.mat (by omega) (by omega)
  refine ⟨V, ?_, ?_, hs⟩
  · unfold i_field_kernel
    rw [b1, some_bind, i_ker_es hP hn' hB, some_bind, chk_bind (kerE_nodup hP hn' hB), i_ker_rows hP hn' hB, some_bind, v1, some_bind]
  · unfold s_l02Kernel
    rw [a1, some_bind, idxR0 (by omega), some_bind, t_ker_piv hP hn' hB, some_bind, t_ker_rows hP hn' hB e2, some_bind, w1, some_bind, s_l01Own2_eq ⟨hs.1, hs.2.1⟩, some_bind]
theorem KernelBasis_eq {p : Int} {m : List (List Int)} (h : szM m) : ∃ V C, s_KernelBasis p m = some (V, C) ∧ i_KernelBasis p m = some (V, C) ∧ smallM V := by
  unfold s_KernelBasis i_KernelBasis
  rw [s_l02Is_eq h, checkM1 h, some_bind, some_bind]
  cases hm : isMat p m with
  | false => exact ⟨[], 1, by simp, by simp, smallM.nil⟩
  | true =>
    obtain ⟨h1, h2, h3, hP, h4, h5⟩ := isMat_sz hm
    obtain ⟨V, e1, e2, e3⟩ := Ker_two hP h4 (by omega) (by omega) h3
    have e4 := (h3.row (show 0 < m.length by omega)).1
    have e5 : idx m 0 = some (gR m 0) := idxR0 (by omega)
    refine ⟨V, 0, ?_, ?_, e3⟩
    · simp only [Bool.true_eq_false, if_false, e2, some_bind]
    · simp only [if_true, not_true_eq_false, if_false, e5, some_bind, e4, e1]
theorem LawKernelBasis {p : Int} {a : List (List Int)} (ha : lenM a) : l_FnExactKernelBasis p a = some true := by
  unfold l_FnExactKernelBasis
  rw [szM_eq ha (by omega) (by omega), some_bind]
  by_cases h1 : ((a.length + rowsum a : Nat) : Int) ≤ 1048576
  · have hs : szv (a.length + rowsum a) 1048576 = 1048576 - ((a.length + rowsum a : Nat) : Int) := by unfold szv; rw [if_pos h1]
    rw [hs, if_neg (by omega)]
    obtain ⟨za, ra⟩ := sz_split (m := a) (by omega) h1
    obtain ⟨V, C, e3, e4, z1, z2, z3⟩ := KernelBasis_eq (p := p) za
    have e1 := toM_eq za.1 za.2
    have e5 := eqM_self ⟨z1, z2⟩
    have e6 := eqM_self za
    have e8 := markM_1 za.1 ra
    have e10 := markM_1 z1 z3
    have e11 := heldM_1 z1 z3
    simp only [e1, e3, e4, e5, e6, e8, e10, e11, some_bind, Bool.true_eq_false, Bool.false_eq_true, if_false, if_true, ieq_self, Bool.not_true, natneg, not_true_eq_false]
  · have hs : szv (a.length + rowsum a) 1048576 = -1 := by unfold szv; rw [if_neg h1]
    rw [hs, if_pos (by omega)]
end Go.Vam
