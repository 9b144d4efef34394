import Derived.Test.YtjkknabmfdodeaaPlG0
import Derived.Test.YtjkknabmfdodeaaFnF
import Derived.Test.YtjkknabmfdodeaaFnG
import Derived.Test.YtjkknabmfdodeaaFnE
import Derived.Test.YtjkknabmfdodeaaFnH
/- Plain laws: both programs' reduced bases are reduced rows in order, and send the same to nothing. -/
namespace Go.Vam
open Go Go.RowKit
set_option linter.unusedSimpArgs false
set_option linter.unusedVariables false
set_option linter.unusedSectionVars false

structure RedK (r c : Nat) (m : List (List Int)) (d k : Nat) (piv : Nat → Nat) : Prop where
  red : Red r c m d piv
  plt : ∀ j, j < d → piv j < k
  pre : ∀ j, j < d → ∀ q, q < piv j → gI (gR m j) q = 0
  srt : ∀ i j, i < j → j < d → piv i < piv j
  low : ∀ i, d ≤ i → i < r → ∀ q, q < k → gI (gR m i) q = 0
theorem RedK.skip {r c d k : Nat} {m : List (List Int)} {piv : Nat → Nat} (h : RedK r c m d k piv) (h0 : ∀ i, d ≤ i → i < r → gI (gR m i) k = 0) : RedK r c m d (k + 1) piv :=
  ⟨h.red, fun j hj => Nat.lt_succ_of_lt (h.plt j hj), h.pre, h.srt, fun i h1 h2 q hq => (Nat.lt_succ_iff_lt_or_eq.1 hq).elim (h.low i h1 h2 q) (fun e => e ▸ h0 i h1 h2)⟩
section
variable {p : Int} {r c k d x : Nat} {m : List (List Int)} {piv : Nat → Nat} {R : List Int} (hP : isP p = true) (hm : Mat p r c m) (hk : k < c) (hd : d < r) (hdx : d ≤ x) (hx : x < r)
  (hne : gI (gR m x) k ≠ 0) (hRe : R = scalev p c (gR m x) (invp p (gI (gR m x) k)))
include hP hm hk hd hdx hx hne hRe
theorem clrm_row (i : Nat) (hi : i < r) : gR (clrm p r c k d R ((m.set x (gR m d)).set d R)) i = if i = d then R else clr p c k R (if i = x then gR m d else gR m i) := by
  have e1 := hm.1
  unfold clrm
  rw [gR_vecN _ hi]
  by_cases hid : i = d
  · rw [if_pos hid, if_pos hid]
  · rw [if_neg hid, if_neg hid, gR_set (by rw [List.length_set]; omega), if_neg (by omega), gR_set (by omega)]
    by_cases hix : i = x
    · rw [if_pos hix.symm, if_pos hix]
    · rw [if_neg (fun e => hix e.symm), if_neg hix]
theorem clrm_ker (u : Nat → Int) : KerP p r c (clrm p r c k d R ((m.set x (gR m d)).set d R)) u ↔ KerP p r c m u := by
  have hp := isP_le hP
  have e4 := (hm.row hx).get hk
  obtain ⟨i1, i2, i3⟩ := inv_facts (a := gI (gR m x) k) hP (by omega) e4.2
  have hR : p ∣ rd c R u ↔ p ∣ rd c (gR m x) u := by
    rw [hRe, dvd_congr (rd_scalev u), prime_dvd hP]
    refine ⟨fun h => h.resolve_left fun h => ?_, .inr⟩
    rw [num_dvd ⟨by omega, i2⟩] at h; omega
  have hC : ∀ v, p ∣ rd c R u → (p ∣ rd c (clr p c k R v) u ↔ p ∣ rd c v u) := by
    intro v hu
    unfold clr
    rw [dvd_congr (rd_plusv u)]
    exact Int.dvd_add_left (Int.dvd_mul_of_dvd_right hu)
  have row := clrm_row hP hm hk hd hdx hx hne hRe
  constructor
  · intro h
    have hRu : p ∣ rd c R u := by
      have := h d hd
      rwa [row d hd, if_pos rfl] at this
    intro i hi
    by_cases hix : i = x
    · rw [hix]; exact hR.1 hRu
    · by_cases hid : i = d
      · have := h x hx
        rw [row x hx, if_neg (by omega), if_pos rfl, hC _ hRu] at this
        rw [hid]; exact this
      · have := h i hi
        rw [row i hi, if_neg hid, if_neg hix, hC _ hRu] at this
        exact this
  · intro h
    have hRu := hR.2 (h x hx)
    intro i hi
    rw [row i hi]
    split
    · exact hRu
    · rw [hC _ hRu]
      split
      · exact h d hd
      · exact h i hi
theorem RedK.step (h : RedK r c m d k piv) : RedK r c (clrm p r c k d R ((m.set x (gR m d)).set d R)) (d + 1) (k + 1) (fun j => if j = d then k else piv j) := by
  have hp := isP_le hP
  have row := clrm_row hP hm hk hd hdx hx hne hRe
  have e4 := (hm.row hx).get hk
  obtain ⟨i1, i2, i3⟩ := inv_facts (a := gI (gR m x) k) hP (by omega) e4.2
  have hR0 : ∀ q, q < k → gI R q = 0 := by
    intro q hq
    rw [hRe]; unfold scalev
    rw [gI_vecN _ (by omega), h.low x hdx hx q hq]; simp
  have hent : ∀ v q, q < k → gI v q = 0 → gI (clr p c k R v) q = 0 := by
    intro v q hq hv
    unfold clr plusv
    rw [gI_vecN _ (by omega), hv, hR0 q hq]; simp
  refine ⟨h.red.step hP hm hk hd hdx hx hne hRe, fun j hj => ?_, fun j hj q hq => ?_, fun i j hij hj => ?_, fun i h1 h2 q hq => ?_⟩
  · try simp only []
    split
    · omega
    · have := h.plt j (by omega); omega
  · try simp only [] at hq
    rw [row j (by omega)]
    by_cases hjd : j = d
    · rw [if_pos hjd] at hq ⊢; exact hR0 q hq
    · rw [if_neg hjd] at hq ⊢
      have h3 := h.plt j (by omega)
      rw [if_neg (by omega)]
      exact hent _ q (by omega) (h.pre j (by omega) q hq)
  · try simp only []
    rw [if_neg (show ¬ i = d by omega)]
    split
    · exact h.plt i (by omega)
    · exact h.srt i j hij (by omega)
  · rw [row i h2, if_neg (by omega)]
    by_cases hqk : q < k
    · refine hent _ q hqk ?_
      split
      · exact h.low d (Nat.le_refl _) hd q hqk
      · exact h.low i (by omega) h2 q hqk
    · have hqe : q = k := by omega
      subst hqe
      have hRk : gI R q = 1 := by rw [hRe]; unfold scalev; rw [gI_vecN _ hk, i3]
      unfold clr plusv
      rw [gI_vecN _ hk, hRk, Int.mul_one]
      generalize gI (if i = x then gR m d else gR m i) q = e
      rw [Int.add_emod, Int.emod_emod_of_dvd _ (Int.dvd_refl p), ← Int.add_emod]
      have : e + (p - e) = p := by omega
      rw [this, Int.emod_self]
end
section
variable {p : Int} {r c : Nat} (hP : isP p = true) (hr0 : 0 < r) (hr : r ≤ 1048576) (hc : c ≤ 1048576)
include hP hr0 hr hc
theorem basis_two2 {m : List (List Int)} (hm : Mat p r c m) :
    ∃ b, loop (s_l02Basis_L0 p) BIG (m, 0, 0) = some b ∧ loop (i_field_basis_L0 p) BIG (m, 0, 0) = some b ∧ (Mat p r c b.1 ∧ (∀ u, KerP p r c b.1 u ↔ KerP p r c m u) ∧ ∃ d k : Nat, b.2 = (d : Int) ∧ d ≤ r ∧ (d < r → k = c) ∧ k ≤ c ∧ ∃ piv, RedK r c b.1 d k piv) := by
  have hp := isP_le hP
  generalize hM0 : m = M0
  rw [hM0] at hm
  refine loop_two' (fun s => Mat p r c s.1 ∧ (∀ u, KerP p r c s.1 u ↔ KerP p r c M0 u) ∧ ∃ d k : Nat, s.2 = ((d : Int), (k : Int)) ∧ d ≤ r ∧ k ≤ c ∧ ∃ piv, RedK r c s.1 d k piv) (fun s => c - s.2.2.toNat) _ ⟨hm, fun _ => Iff.rfl, 0, 0, rfl, by omega, by omega, fun _ => 0, ⟨fun j hj => by omega, fun j hj => by omega, fun j hj => by omega, fun i j _ hj => by omega, fun i _ _ q hq => by omega⟩⟩ (by rw [BIG_val]; simp only []; omega) ?_
  rintro ⟨m, t⟩ ⟨hm, hker, d, k, rfl, hd, hk, piv, hred⟩
  try simp only [] at hm hred hker
  have e1 := hm.1
  have e2 := (hm.row hr0).1
  by_cases hkc : k < c
  · by_cases hdr : d < r
    · refine .inl ?_
      obtain ⟨b, h1, x, rfl, h2, h3, h4, h0⟩ := find_eq2 hm (k := k) (s := d) hr hkc hd
      have l1 : s_l02Basis_L1 (m, (d : Int), (k : Int)) = findStep m (k : Int) := rfl
      have l2 : i_field_basis_L1 (m, (d : Int), (k : Int)) = findStep m (k : Int) := rfl
      unfold s_l02Basis_L0 i_field_basis_L0
      simp only [show (0 : Int) < (m.length : Int) by omega, if_true, idxR0 (show 0 < m.length by omega), some_bind, show (k : Int) < ((gR m 0).length : Int) by omega, ilt_true (show (k : Int) < ((gR m 0).length : Int) by omega), ilt_true (show (d : Int) < (m.length : Int) by omega), l1, l2, h1]
      by_cases hx : x = r
      · have hx' : (x : Int) = (m.length : Int) := by omega
        simp only [hx', if_true, some_bind]
        refine ⟨_, rfl, rfl, ⟨hm, hker, d, k + 1, ?_, hd, by omega, piv, hred.skip fun i hi1 hi2 => h0 i hi1 (by omega)⟩, ?_⟩
        · rw [w_in (by omega) (by omega)]; rfl
        · rw [w_in (by omega) (by omega)]; simp only []; omega
      · have hx' : ¬ (x : Int) = (m.length : Int) := by omega
        have hxr : x < r := by omega
        have hne := h4 hxr
        have e3 := (hm.row hxr).1
        have e4 := (hm.row hxr).get hkc
        have e5 := (hm.row hdr).1
        obtain ⟨i1, i2, i3⟩ := inv_facts (a := gI (gR m x) k) hP (by omega) e4.2
        have f1 := s_l01Inv_eq (a := gI (gR m x) k) hP (by omega) e4.2
        have f2 := i_field_inv_eq (a := gI (gR m x) k) hP (by omega) e4.2
        have f3 := s_l02Scale_eq (p := p) (n := c) (a := gR m x) (k := invp p (gI (gR m x) k)) (by omega) (by omega) hc (by omega) (by omega) (hm.row hxr)
        have f4 := i_field_scaled_eq (p := p) (n := c) (a := gR m x) (k := invp p (gI (gR m x) k)) (by omega) (by omega) hc (by omega) (hm.row hxr)
        have hV := scalev_vec (p := p) (by omega) c (gR m x) (invp p (gI (gR m x) k))
        generalize hVe : scalev p c (gR m x) (invp p (gI (gR m x) k)) = V at f3 f4 hV
        have hrs := hred.step hP hm hkc hdr h2 hxr hne hVe.symm
        have hks := fun u => (clrm_ker hP hm hkc hdr h2 hxr hne hVe.symm u).trans (hker u)
        have g1 : gR ((m.set d (gR m x)).set x (gR m d)) d = gR m x := by
          rw [gR_set (by rw [List.length_set]; omega)]
          split
          · rename_i h; rw [h]
          · rw [gR_set (by omega), if_pos rfl]
        have g2 : ((m.set d (gR m x)).set x (gR m d)).set d V = (m.set x (gR m d)).set d V := by
          by_cases hxd : d = x
          · subst hxd; simp [List.set_set]
          · rw [List.set_comm _ _ hxd, List.set_set]
        have hM := (hm.set hxr (hm.row hdr)).set hdr hV
        have g3 : gR ((m.set x (gR m d)).set d V) d = V := by rw [gR_set (by rw [List.length_set]; omega), if_pos rfl]
        obtain ⟨y1, y2⟩ := basis_clear (p := p) (r := r) (c := c) (l := (m.set d (gR m x)).set x (gR m d)) (d := d) (k := k) hP hr hc hkc hdr m hV (by simp [e1]) hM g3
        simp only [hx', if_false, idxR (show x < m.length by omega), idxR (show d < m.length by omega), some_bind, idxI (show k < (gR m x).length by omega), f1, f2, f3, f4, Int.toNat_natCast,
          idxR (show d < (m.set x (gR m d)).length by rw [List.length_set]; omega), idxR (show x < (m.set d (gR m x)).length by rw [List.length_set]; omega), idxR (show d < ((m.set d (gR m x)).set x (gR m d)).length by rw [List.length_set, List.length_set]; omega), g1, g2, y1, y2]
        refine ⟨_, rfl, rfl, ⟨clrm_mat (by omega) hV, hks, d + 1, k + 1, ?_, by omega, by omega, _, hrs⟩, ?_⟩
        · rw [w_in (by omega) (by omega), w_in (by omega) (by omega)]; rfl
        · rw [w_in (by omega) (by omega), w_in (by omega) (by omega)]; simp only []; omega
    · have hdd : d = r := by omega
      subst hdd
      refine .inr ⟨(m, (d : Int)), fun n hn => basis_idle hr0 hr hc hm n k hk (by simpa using hn), ?_, hm, hker, d, k, rfl, by omega, fun h => by omega, hk, piv, hred⟩
      unfold i_field_basis_L0
      simp only [show (0 : Int) < (m.length : Int) by omega, if_true, idxR0 (show 0 < m.length by omega), some_bind, show (k : Int) < ((gR m 0).length : Int) by omega, ilt_false (show ¬ (d : Int) < (m.length : Int) by omega), Bool.false_eq_true, if_false]
  · refine .inr ⟨(m, (d : Int)), fun n hn => ?_, ?_, hm, hker, d, k, rfl, by omega, fun _ => by omega, hk, piv, hred⟩
    · cases n with
      | zero => omega
      | succ n =>
        rw [loop_succ]
        have : s_l02Basis_L0 p (m, (d : Int), (k : Int)) = some (.inr (m, (d : Int))) := by
          unfold s_l02Basis_L0
          simp only [show (0 : Int) < (m.length : Int) by omega, if_true, idxR0 (show 0 < m.length by omega), some_bind, ilt_false (show ¬ (k : Int) < ((gR m 0).length : Int) by omega), Bool.false_eq_true, if_false]
        rw [this]
    · unfold i_field_basis_L0
      simp only [show (0 : Int) < (m.length : Int) by omega, if_true, idxR0 (show 0 < m.length by omega), some_bind, show ¬ (k : Int) < ((gR m 0).length : Int) by omega, Bool.false_eq_true, if_false]

theorem Basis_full {m : List (List Int)} (hm : Mat p r c m) : ∃ b, s_l02Basis p m = some b ∧ i_field_basis p m = some b ∧ b.length ≤ r ∧ (∃ ld, Ech p c b ld) ∧ ∀ u, Kr p c b u ↔ KerP p r c m u := by
  have hz := hm.sz hr hc
  obtain ⟨b, h1, h2, h3, hk, d, k, h4, h5, h7, h8, piv, h6⟩ := basis_two2 hP hr0 hr hc hm
  have hl := h3.1
  have hg : ∀ i, i < d → gR (b.1.take d) i = gR b.1 i := by
    intro i hi
    unfold gR
    rw [List.getD_eq_getElem?_getD, List.getD_eq_getElem?_getD, List.getElem?_take_of_lt hi]
  have hd : (b.1.take d).length = d := by rw [List.length_take]; omega
  refine ⟨b.1.take d, ?_, ?_, by omega, ⟨piv, ?_⟩, fun u => ?_⟩
  · unfold s_l02Basis
    rw [s_l01Own2_eq hz, some_bind, h1, some_bind, h4, chk_bind (by omega)]; rfl
  · unfold i_field_basis
    rw [i_cloneRows_eq hz, some_bind, h2, some_bind, h4, chk_bind (by omega)]; rfl
  · constructor
    · rw [hd]
      refine ⟨hd, fun i hi => ?_⟩
      rw [hg i hi]
      exact h3.2 i (by omega)
    · rw [hd]; exact fun j hj => (h6.red j hj).1
    · rw [hd]; intro j hj; rw [hg j hj]; exact (h6.red j hj).2.1
    · rw [hd]; intro j hj q hq; rw [hg j hj]; exact h6.pre j hj q hq
    · rw [hd]; intro j hj i hi hij; rw [hg i hi]; exact (h6.red j hj).2.2 i (by omega) hij
    · rw [hd]; exact h6.srt
  · rw [← hk u]
    unfold Kr KerP
    rw [hd]
    constructor
    · intro h i hi
      by_cases hid : i < d
      · have := h i hid; rwa [hg i hid] at this
      · have hkc := h7 (by omega)
        have : rd c (gR b.1 i) u = 0 := by
          unfold rd
          rw [sumN_congr (g := fun _ => 0) (fun q hq => by rw [h6.low i (by omega) hi q (by omega), Int.zero_mul])]
          exact sumN_zero c
        rw [this]; exact Int.dvd_zero p
    · intro h i hi
      rw [hg i hi]; exact h i (by omega)
end
end Go.Vam

/- Plain laws: rows reduced one at a time; IsAutomorphism. -/
namespace Go.Vam
open Go Go.RowKit
set_option linter.unusedSimpArgs false
set_option linter.unusedVariables false
set_option linter.unusedSectionVars false

section
variable {p : Int} {n : Nat} (hP : isP p = true) (hn : n ≤ 1048000)
include hP hn
end

section
variable {p : Int} {w : List Int} {m : List (List Int)} (hP : isP p = true) (hl : w.length ≤ 4) (hw : Vec p w.length w) (hm : Mat p (2 ^ w.length) (2 ^ w.length) m)
include hP hl hw hm
end
end Go.Vam

/- Plain laws: kernels; both programs make the same reduced basis of what a table sends to nothing. -/
namespace Go.Vam
open Go Go.RowKit
set_option linter.unusedSimpArgs false
set_option linter.unusedVariables false
set_option linter.unusedSectionVars false

theorem basis_nil (p : Int) : s_l02Basis p [] = some [] ∧ i_field_basis p [] = some [] := by
  constructor
  · unfold s_l02Basis
    rw [s_l01Own2_eq ⟨by simp, by simp⟩, some_bind]
    have : loop (s_l02Basis_L0 p) BIG ([], 0, 0) = some ([], 0) := by
      rw [show BIG = (BIG - 1) + 1 from rfl, loop_succ]
      have : s_l02Basis_L0 p ([], 0, 0) = some (.inr ([], 0)) := by
        unfold s_l02Basis_L0
        simp
      rw [this]
    rw [this, some_bind]
    simp [chk]
  · unfold i_field_basis
    rw [i_cloneRows_eq ⟨by simp, by simp⟩, some_bind]
    have : loop (i_field_basis_L0 p) BIG ([], 0, 0) = some ([], 0) := by
      rw [show BIG = (BIG - 1) + 1 from rfl, loop_succ]
      have : i_field_basis_L0 p ([], 0, 0) = some (.inr ([], 0)) := by
        unfold i_field_basis_L0
        simp
      rw [this]
    rw [this, some_bind]
    simp [chk]
theorem Ech.nil (p : Int) (n : Nat) : Ech p n [] (fun _ => 0) :=
  ⟨⟨rfl, fun i hi => by simp at hi⟩, fun j hj => by simp at hj, fun j hj => by simp at hj, fun j hj => by simp at hj, fun j hj => by simp at hj, fun i j _ hj => by simp at hj⟩
theorem i_basis_any {p : Int} {r c : Nat} {m : List (List Int)} (hP : isP p = true) (hr : r ≤ 1048576) (hc : c ≤ 1048576) (hm : Mat p r c m) :
    ∃ b, s_l02Basis p m = some b ∧ i_field_basis p m = some b ∧ b.length ≤ r ∧ (∃ ld, Ech p c b ld) ∧ ∀ u, Kr p c b u ↔ KerP p r c m u := by
  by_cases h0 : r = 0
  · subst h0
    have : m = [] := List.eq_nil_of_length_eq_zero hm.1
    subst this
    exact ⟨[], (basis_nil p).1, (basis_nil p).2, by simp, ⟨_, Ech.nil p c⟩, fun u => ⟨fun _ i hi => by omega, fun _ j hj => by simp at hj⟩⟩
  · exact Basis_full hP (by omega) hr hc hm

/-- The vector that a place without a lead gives. -/
def freeV (p : Int) (n : Nat) (B : List (List Int)) (ld : Nat → Nat) (f : Nat) : List Int := vecN n fun q => freeF B ld f q % p
theorem freeV_vec {p : Int} (hp : 0 < p) (n : Nat) (B : List (List Int)) (ld : Nat → Nat) (f : Nat) : Vec p n (freeV p n B ld f) := Vec.mk' fun _ _ => mod_num hp
def freeL (n : Nat) (B : List (List Int)) (ld : Nat → Nat) (k : Nat) : List Nat := (List.range k).filter fun f => !isLd B.length ld f
def kerR (p : Int) (n : Nat) (B : List (List Int)) (ld : Nat → Nat) (k : Nat) : List (List Int) := (freeL n B ld k).map (freeV p n B ld)
theorem kerR_lead {p : Int} {n : Nat} {B : List (List Int)} {ld : Nat → Nat} {k : Nat} (h : isLd B.length ld k = true) : kerR p n B ld (k + 1) = kerR p n B ld k := by
  unfold kerR freeL
  rw [List.range_succ, List.filter_append]
  simp [h]
theorem kerR_free {p : Int} {n : Nat} {B : List (List Int)} {ld : Nat → Nat} {k : Nat} (h : isLd B.length ld k = false) : kerR p n B ld (k + 1) = kerR p n B ld k ++ [freeV p n B ld k] := by
  unfold kerR freeL
  rw [List.range_succ, List.filter_append]
  simp [h]
theorem kerR_len (p : Int) (n : Nat) (B : List (List Int)) (ld : Nat → Nat) (k : Nat) : (kerR p n B ld k).length ≤ k := by
  unfold kerR freeL
  rw [List.length_map]
  exact Nat.le_trans (List.length_filter_le _ _) (by simp)
theorem kerR_mat {p : Int} (hp : 0 < p) (n : Nat) (B : List (List Int)) (ld : Nat → Nat) (k : Nat) : Mat p (kerR p n B ld k).length n (kerR p n B ld k) := by
  have hm : ∀ r ∈ kerR p n B ld k, Vec p n r := by
    unfold kerR
    intro r hr
    obtain ⟨f, _, rfl⟩ := List.mem_map.1 hr
    exact freeV_vec hp ..
  exact ⟨rfl, fun i hi => hm _ (by rw [← gR_get hi]; exact List.getElem_mem hi)⟩
/-- A loop over places that keeps the vectors of those without a lead. -/
theorem ker_loop {p : Int} {n : Nat} {B : List (List Int)} {ld : Nat → Nat} {step : List (List Int) × Int → Option ((List (List Int) × Int) ⊕ List (List Int))} (hn : n ≤ 1048576)
    (hs : ∀ k, k < n → ∀ out : List (List Int), out.length ≤ k → step (out, (k : Int)) = some (.inl (if isLd B.length ld k = true then out else out ++ [freeV p n B ld k], ((k + 1 : Nat) : Int))))
    (he : ∀ out, step (out, (n : Int)) = some (.inr out)) : loop step BIG ([], 0) = some (kerR p n B ld n) := by
  refine loop_for (fun k => (kerR p n B ld k, (k : Int))) n (by rw [BIG_val]; omega) rfl (fun k hk => ?_) (he _)
  rw [hs k hk _ (kerR_len ..)]
  cases h : isLd B.length ld k with
  | true => rw [kerR_lead h]; rfl
  | false => rw [kerR_free h]; rfl

section
variable {p : Int} {n : Nat} {B : List (List Int)} {ld : Nat → Nat} (hP : isP p = true) (hn : n ≤ 1048000) (hB : Ech p n B ld)
include hP hn hB
theorem free_num {j f : Nat} (hj : j < B.length) (hf : f < n) : s_l01Mod p (w64 (0 - gI (gR B j) f)) = some ((0 - gI (gR B j) f) % p) ∧ i_field_num p (w64 (0 - gI (gR B j) f)) = some ((0 - gI (gR B j) f) % p) := by
  have hp := isP_le hP
  have e := (hB.mat.row hj).get hf
  have w : w64 (0 - gI (gR B j) f) = 0 - gI (gR B j) f := w_in (by omega) (by omega)
  rw [w]
  exact ⟨s_l01Mod_eq (by omega) (by omega) (by omega) (by omega), i_field_num_eq (by omega) (by omega) (by omega) (by omega)⟩
theorem s_has_piv (f : Nat) : s_l01Has (vecN B.length fun j => (ld j : Int)) (f : Int) = some (isLd B.length ld f) := by
  have hle := hB.le
  unfold s_l01Has s_l01Index
  obtain ⟨b, h1, h2⟩ := any_loop (s_l01Index_L0 (vecN B.length fun j => (ld j : Int)) (f : Int)) B.length (fun k => decide (ld k = f)) (fun k => (k : Int)) (by rw [BIG_val]; omega)
    (fun k hk hf => by
      unfold s_l01Index_L0
      rw [if_pos (by rw [vecN_len]; omega), idxI (by rw [vecN_len]; exact hk), some_bind, gI_vecN _ hk, if_neg (by simp at hf; omega), w_in (by omega) (by omega)]; rfl)
    (fun k hk hf => by
      unfold s_l01Index_L0
      rw [if_pos (by rw [vecN_len]; omega), idxI (by rw [vecN_len]; exact hk), some_bind, gI_vecN _ hk, if_pos (by simp at hf; omega)])
    (by
      unfold s_l01Index_L0
      rw [if_neg (by rw [vecN_len]; omega)])
  rw [h1, some_bind]
  unfold isLd
  rcases h2 with ⟨rfl, h3⟩ | ⟨k, _, rfl, _, h3, _⟩
  · rw [h3]; rfl
  · rw [h3]
    simp [ile]
/-! the program -/
def kerE (B : List (List Int)) (ld : Nat → Nat) (k : Nat) : List (Int × Int) := (List.range k).map fun j => ((ld j : Int), (j : Int))
omit hP hn hB in
theorem kerE_succ (k : Nat) : kerE B ld (k + 1) = kerE B ld k ++ [((ld k : Int), (k : Int))] := by unfold kerE; rw [List.range_succ, List.map_append]; rfl
omit hP hn hB in
theorem kerE_has (k f : Nat) : hasK (kerE B ld k) (f : Int) = isLd k ld f := by
  unfold hasK kerE isLd
  rw [List.any_map]
  congr 1
  funext j
  simp [Function.comp]
theorem kerE_nodup : ((kerE B ld B.length).map (·.1)).Nodup := by
  unfold kerE
  rw [List.map_map]
  refine nodup_map_inj (fun i hi j hj e => ?_) List.nodup_range
  rw [List.mem_range] at hi hj
  exact hB.inj hi hj (by simpa [Function.comp] using e)
theorem i_ker_es : loop (i_field_kernel_L0 B) BIG ([], 0) = some (kerE B ld B.length) := by
  have hle := hB.le
  refine loop_for (fun k => (kerE B ld k, (k : Int))) B.length (by rw [BIG_val]; omega) rfl (fun k hk => ?_) ?_
  · unfold i_field_kernel_L0
    simp only [lt_cast hk, if_true]
    have hf := hB.first (by omega) hk
    rw [s_l12First_lead] at hf
    rw [idxR hk, some_bind, hf, some_bind, chk_bind, w_in (by omega) (by omega), kerE_succ]; rfl
    rw [kerE_has]
    cases h : isLd k ld (ld k) with
    | false => rfl
    | true =>
      obtain ⟨j, hj, e⟩ := isLd_iff.1 h
      have := hB.inj (by omega) hk e
      omega
  · unfold i_field_kernel_L0
    simp only [lt_cast_self, if_false]
theorem kerV_eq {j f : Nat} (hj : j < B.length) (hf : f < n) : kerV p B (f : Int) ((ld j : Int), (j : Int)) = some ((0 - gI (gR B j) f) % p) := by
  have e := (hB.mat.row hj).1
  unfold kerV
  rw [idxR hj, some_bind, idxI (by omega), some_bind, (free_num hP hn hB hj hf).2]
theorem i_ker_fill {f : Nat} (hf : f < n) (hfr : isLd B.length ld f = false) : (kerE B ld B.length).foldl (kerPut p B (f : Int)) ((List.replicate n (0 : Int)).set f 1) = freeV p n B ld f := by
  have hp := isP_le hP
  refine extI (by rw [kerF_len]; simp) fun q hq => ?_
  have hg := kerF_get (p := p) (red := B) (free := (f : Int)) (kerE B ld B.length) ((List.replicate n (0 : Int)).set f 1) (fun e he => by
    unfold kerE at he
    obtain ⟨j, _, rfl⟩ := List.mem_map.1 he
    simp) (kerE_nodup hP hn hB) q
  have hmem : ∀ e ∈ kerE B ld B.length, ∃ j, j < B.length ∧ e = ((ld j : Int), (j : Int)) := fun e he => by
    unfold kerE at he
    obtain ⟨j, hj, rfl⟩ := List.mem_map.1 he
    exact ⟨j, List.mem_range.1 hj, rfl⟩
  have hgI : ∀ v : List Int, gI v q = (v[q]?).getD 0 := fun v => by unfold gI; rw [List.getD_eq_getElem?_getD]
  rw [hgI]
  unfold freeF
  cases h : isLd B.length ld q with
  | false =>
    rw [hg.1 fun e he hq' => by
      obtain ⟨j, hj, rfl⟩ := hmem e he
      exact isLd_not h hj (by simpa using hq'), ← hgI, show (List.replicate n (0 : Int)).set f 1 = axis n f from rfl, gI_axis hf]
    by_cases h1 : q = f
    · rw [if_pos h1, if_pos h1, Int.emod_eq_of_lt (by omega) (by omega)]
    · rw [if_neg h1, if_neg h1]; rfl
  | true =>
    have hqf : q ≠ f := fun e => by rw [e, hfr] at h; cases h
    obtain ⟨a1, a2⟩ := rowOf_spec (isLd_iff.1 h)
    rw [hg.2 ((ld (rowOf ld q B.length) : Int), (rowOf ld q B.length : Int)) (by
      unfold kerE
      exact List.mem_map.2 ⟨_, List.mem_range.2 a1, rfl⟩) (by simpa using a2), if_pos (by simpa using hq), kerV_eq hP hn hB a1 hf, if_neg hqf, if_pos rfl, Int.zero_sub]
    rfl
theorem i_ker_rows : loop (i_field_kernel_L1 p (n : Int) B (kerE B ld B.length)) BIG ([], 0) = some (kerR p n B ld n) := by
  refine ker_loop (by omega) (fun k hk out ho => ?_) (fun out => ?_)
  · unfold i_field_kernel_L1
    simp only [lt_cast hk, if_true]
    rw [kerE_has]
    cases h : isLd B.length ld k with
    | true =>
      simp only [if_true, some_bind]
      rw [w_in (by omega) (by omega)]; rfl
    | false =>
      simp only [Bool.false_eq_true, if_false]
      rw [chk_bind (by omega), some_bind, Int.toNat_natCast, idxI (by simpa using hk), some_bind, Int.toNat_natCast, chk_bind, i_ker_fill hP hn hB hk h, some_bind, chk_bind (by simp only [List.length_cons, List.length_nil]; omega), some_bind, w_in (by omega) (by omega)]; rfl
      rw [List.all_eq_true]
      intro e he
      unfold kerE at he
      obtain ⟨j, hj, rfl⟩ := List.mem_map.1 he
      have hj' := List.mem_range.1 hj
      unfold kerOk
      rw [kerV_eq hP hn hB hj' hk]
      have := hB.lt j hj'
      simp
      omega
  · unfold i_field_kernel_L1
    simp only [lt_cast_self, if_false]
end
end Go.Vam

/- Plain law: the reduced rows that a table sends to nothing. -/
namespace Go.Vam
open Go Go.RowKit
set_option linter.unusedSimpArgs false
set_option linter.unusedVariables false
set_option linter.unusedSectionVars false

section
variable {p : Int} {n : Nat} {B : List (List Int)} {ld : Nat → Nat} (hP : isP p = true) (hn : n ≤ 1048000) (hB : Ech p n B ld)
include hP hn hB
theorem neg_num {j f : Nat} (hj : j < B.length) (hf : f < n) : (w64 (p - gI (gR B j) f)).tmod p = (0 - gI (gR B j) f) % p := by
  have hp := isP_le hP
  have e := (hB.mat.row hj).get hf
  rw [w_in (by omega) (by omega), tmod_nn (by omega), show p - gI (gR B j) f = (0 - gI (gR B j) f) + p by omega, Int.add_emod_right]
theorem t_ker_piv : loop (s_l02Kernel_L0 B) BIG ([], 0) = some (vecN B.length fun j => (ld j : Int)) := by
  have hle := hB.le
  refine map_loop _ B.length (fun j => (ld j : Int)) (by rw [BIG_val]; omega) (fun k hk out ho => ?_) (fun out ho => ?_)
  · have hf := hB.first (by omega) hk
    have hf' : s_l02First (gR B k) = some (ld k : Int) := by
      have e := (hB.mat.row hk).1
      obtain ⟨f, _, f2, f3, _⟩ := first_two (v := gR B k) (q := ld k) (by omega) (by have := hB.lt k hk; omega) (by rw [hB.one k hk]; omega)
      rw [s_l12First_lead, f3] at hf
      rw [f2]; exact hf
    unfold s_l02Kernel_L0
    simp only [lt_cast hk, if_true]
    rw [idxR hk, some_bind, hf', some_bind, chk_bind (by simp only [List.length_cons, List.length_nil]; omega), w_in (by omega) (by omega)]; rfl
  · unfold s_l02Kernel_L0
    simp only [lt_cast_self, if_false]
theorem t_ker_fill {f : Nat} (hf : f < n) (hfr : isLd B.length ld f = false) (out : List (List Int)) : loop (s_l02Kernel_L2 p B (vecN B.length fun j => (ld j : Int)) (out, (f : Int))) BIG ((List.replicate n (0 : Int)).set f 1, 0) = some (freeV p n B ld f) := by
  have hp := isP_le hP
  have hle := hB.le
  obtain ⟨b, h1, h2⟩ := loop_inv (step := s_l02Kernel_L2 p B (vecN B.length fun j => (ld j : Int)) (out, (f : Int))) (fun s => ∃ k : Nat, s.2 = (k : Int) ∧ k ≤ B.length ∧ s.1.length = n ∧ ∀ q, q < n → gI s.1 q = if q = f then 1 else if isLd k ld q = true then (0 - gI (gR B (rowOf ld q B.length)) f) % p else 0) (fun s => B.length - s.2.toNat)
    (fun b => b = freeV p n B ld f) (s := ((List.replicate n (0 : Int)).set f 1, 0)) ⟨0, rfl, by omega, by simp, fun q hq => by
      rw [show (List.replicate n (0 : Int)).set f 1 = axis n f from rfl, gI_axis hf]
      rfl⟩ (by rw [BIG_val]; simp only []; omega) (by
      rintro ⟨v, t⟩ ⟨k, rfl, hk, hl, hg⟩
      try simp only [] at hl hg
      unfold s_l02Kernel_L2
      by_cases hkb : k < B.length
      · refine .inl ?_
        have hld := hB.lt k hkb
        have hrow := (hB.mat.row hkb).1
        have m1 := neg_num hP hn hB hkb hf
        have hkf := isLd_not hfr hkb
        simp only [lt_cast hkb, if_true]
        rw [idxI (by rw [vecN_len]; exact hkb), some_bind, idxR hkb, some_bind, idxI (by omega), some_bind, chk_bind (by omega), m1, gI_vecN _ hkb, idxI (by omega), some_bind, Int.toNat_natCast, w_in (by omega) (by omega)]
        refine ⟨_, rfl, ⟨k + 1, rfl, by omega, by simp [hl], fun q hq => ?_⟩, by simp only []; omega⟩
        try simp only []
        rw [gI_set (by omega)]
        have hsucc : isLd (k + 1) ld q = (isLd k ld q || decide (ld k = q)) := by unfold isLd; rw [List.range_succ, List.any_append]; simp
        by_cases hq1 : ld k = q
        · subst hq1
          have hro : rowOf ld (ld k) B.length = k := by
            obtain ⟨a1, a2⟩ := rowOf_spec (ld := ld) (q := ld k) (k := B.length) ⟨k, hkb, rfl⟩
            exact hB.inj a1 hkb a2
          rw [if_pos rfl, if_neg hkf, hsucc]
          simp [hro]
        · rw [if_neg hq1, hg q hq, hsucc]
          simp [hq1]
      · have hkk : k = B.length := by omega
        subst hkk
        refine .inr ⟨v, ?_, ?_⟩
        · simp only [lt_cast_self, if_false]
        · refine extI hl fun q hq => ?_
          rw [hg q hq]
          unfold freeF
          by_cases h1 : q = f
          · rw [if_pos h1, if_pos h1, Int.emod_eq_of_lt (by omega) (by omega)]
          · rw [if_neg h1, if_neg h1]
            split
            · rw [Int.zero_sub]
            · rfl)
  rw [h1, h2]
theorem t_ker_rows {v : List Int} (hv : v.length = n) : loop (s_l02Kernel_L1 p B v (vecN B.length fun j => (ld j : Int))) BIG ([], 0) = some (kerR p n B ld n) := by
  subst hv
  refine ker_loop (by omega) (fun k hk out ho => ?_) (fun out => ?_)
  · unfold s_l02Kernel_L1
    simp only [lt_cast hk, if_true]
    rw [s_has_piv hP hn hB, some_bind]
    cases h : isLd B.length ld k with
    | true =>
      simp only [if_true, some_bind]
      rw [w_in (by omega) (by omega)]; rfl
    | false =>
      simp only [Bool.false_eq_true, if_false]
      rw [chk_bind (by omega), some_bind, Int.toNat_natCast, idxI (by simpa using hk), some_bind, Int.toNat_natCast, t_ker_fill hP hn hB hk h, some_bind, chk_bind (by simp only [List.length_cons, List.length_nil]; omega), some_bind, w_in (by omega) (by omega)]; rfl
  · unfold s_l02Kernel_L1
    simp only [lt_cast_self, if_false]
end
end Go.Vam

/- Plain laws: ranks, kernels and how many vectors they have. -/
namespace Go.Vam
open Go Go.RowKit
set_option linter.unusedSimpArgs false
set_option linter.unusedVariables false
set_option linter.unusedSectionVars false

theorem sumN_add (f g : Nat → Int) (n : Nat) : sumN (fun q => f q + g q) n = sumN f n + sumN g n := by
  have := sumN_lin f g 1 n
  simp only [Int.one_mul] at this
  exact this
theorem sumN_mulL (k : Int) (f : Nat → Int) (n : Nat) : sumN (fun q => k * f q) n = k * sumN f n := by
  have := sumN_lin (fun _ => 0) f k n
  simp only [Int.zero_add, sumN_zero] at this
  exact this
theorem sumN_mulR (k : Int) (f : Nat → Int) (n : Nat) : sumN (fun q => f q * k) n = sumN f n * k := by
  rw [Int.mul_comm, ← sumN_mulL]
  exact sumN_congr fun q _ => Int.mul_comm _ _
theorem sumN_comm (f : Nat → Nat → Int) (m : Nat) : ∀ n, sumN (fun i => sumN (fun j => f i j) m) n = sumN (fun j => sumN (fun i => f i j) n) m
  | 0 => by simp only [sumN]; rw [sumN_zero]
  | n + 1 => by
    simp only [sumN]
    rw [sumN_add, sumN_comm f m n]
theorem sumN_dvd {p : Int} {f : Nat → Int} : ∀ {n : Nat}, (∀ k, k < n → p ∣ f k) → p ∣ sumN f n
  | 0, _ => Int.dvd_zero p
  | n + 1, h => by
    simp only [sumN]
    exact Int.dvd_add (sumN_dvd fun k hk => h k (by omega)) (h n (by omega))
theorem sumN_sub (f g : Nat → Int) (n : Nat) : sumN (fun q => f q - g q) n = sumN f n - sumN g n := by
  have := sumN_lin f g (-1) n
  have e : sumN (fun q => f q - g q) n = sumN (fun q => f q + -1 * g q) n := sumN_congr fun q _ => by omega
  rw [e, this]; omega
theorem sumN_const (n : Nat) : sumN (fun _ => (1 : Int)) n = n := by
  induction n with
  | zero => rfl
  | succ n ih => simp only [sumN, ih]; omega
theorem dvd_of_sub {p a b : Int} (h1 : p ∣ a - b) (h2 : p ∣ b) : p ∣ a := by
  have := Int.dvd_add h1 h2
  rwa [show a - b + b = a by omega] at this
theorem kerR_get {p : Int} {n k t : Nat} {B : List (List Int)} {ld : Nat → Nat} (ht : t < (freeL n B ld k).length) : gR (kerR p n B ld k) t = freeV p n B ld (freeL n B ld k)[t] := by
  unfold gR kerR
  rw [List.getD_eq_getElem?_getD, List.getElem?_map, List.getElem?_eq_getElem ht]; rfl
section
variable {p : Int} {n : Nat} {B : List (List Int)} {ld : Nat → Nat} (h : Ech p n B ld)
include h
theorem Ech.at_lead (g : Nat → Int) (q : Nat) : sumN (fun j => if ld j = q then g j else 0) B.length = if isLd B.length ld q = true then g (rowOf ld q B.length) else 0 := by
  by_cases hq : isLd B.length ld q = true
  · rw [if_pos hq]
    obtain ⟨a1, a2⟩ := rowOf_spec (isLd_iff.1 hq)
    rw [sumN_one a1 (fun j hj hne => if_neg fun e => hne (h.inj hj a1 (by rw [e, a2]))), if_pos a2]
  · rw [if_neg hq, sumN_congr (g := fun _ => 0) fun j hj => if_neg fun e => hq (isLd_iff.2 ⟨j, hj, e⟩)]
    exact sumN_zero _
/-- A sum over all places: those without a lead, and the leads. -/
theorem Ech.split (g : Nat → Int) : sumN g n = sumN (fun q => if isLd B.length ld q = true then 0 else g q) n + sumN (fun j => g (ld j)) B.length := by
  have e1 : sumN (fun j => g (ld j)) B.length = sumN (fun j => sumN (fun q => if ld j = q then g q else 0) n) B.length :=
    sumN_congr fun j hj => by rw [sumN_one (h.lt j hj) (fun q _ hq => if_neg fun e => hq e.symm), if_pos rfl]
  rw [e1, sumN_comm, ← sumN_add]
  refine sumN_congr fun q hq => ?_
  have e2 : sumN (fun j => if ld j = q then g q else 0) B.length = if isLd B.length ld q = true then g q else 0 := h.at_lead (fun _ => g q) q
  rw [e2]
  split <;> omega
theorem freeF_rd {f : Nat} (hf : isLd B.length ld f = false) (hfn : f < n) (y : Nat → Int) : sumN (fun q => freeF B ld f q * y q) n = y f - sumN (fun j => gI (gR B j) f * y (ld j)) B.length := by
  rw [h.split]
  have e1 : sumN (fun q => if isLd B.length ld q = true then 0 else freeF B ld f q * y q) n = y f := by
    rw [sumN_one hfn (fun q hq hqf => by
      cases e : isLd B.length ld q with
      | true => rfl
      | false => rw [freeF_other e hqf]; simp), hf]
    unfold freeF
    simp
  have e2 : sumN (fun j => freeF B ld f (ld j) * y (ld j)) B.length = - sumN (fun j => gI (gR B j) f * y (ld j)) B.length := by
    have : sumN (fun j => freeF B ld f (ld j) * y (ld j)) B.length = sumN (fun j => -1 * (gI (gR B j) f * y (ld j))) B.length := sumN_congr fun j hj => by
      rw [freeF_lead h hf hj, Int.neg_mul]; omega
    rw [this, sumN_mulL]; omega
  rw [e1, e2]; omega
/-- What is orthogonal to all that the rows send to nothing is a sum of multiples of the rows. -/
theorem Ech.span {u : Nat → Int} (hu : ∀ y, Kr p n B y → p ∣ sumN (fun q => u q * y q) n) : ∀ q, q < n → p ∣ u q - sumN (fun j => u (ld j) * gI (gR B j) q) B.length := by
  intro q hq
  cases e : isLd B.length ld q with
  | true =>
    obtain ⟨i, hi, rfl⟩ := isLd_iff.1 e
    rw [sumN_one hi (fun j hj hne => by rw [h.col i hi j hj hne, Int.mul_zero]), h.one i hi, Int.mul_one, Int.sub_self]
    exact Int.dvd_zero p
  | false =>
    have h1 := hu _ (freeF_ker h e hq)
    have e1 : sumN (fun r => u r * freeF B ld q r) n = sumN (fun r => freeF B ld q r * u r) n := sumN_congr fun r _ => Int.mul_comm _ _
    rw [e1, freeF_rd h e hq] at h1
    have e2 : sumN (fun j => gI (gR B j) q * u (ld j)) B.length = sumN (fun j => u (ld j) * gI (gR B j) q) B.length := sumN_congr fun r _ => Int.mul_comm _ _
    rwa [e2] at h1
theorem Ech.row_lead {u : Nat → Int} {j : Nat} (hj : j < B.length) : rd n (gR B j) u = sumN (fun q => if isLd B.length ld q = true then 0 else gI (gR B j) q * u q) n + u (ld j) := by
  unfold rd
  rw [h.split]
  congr 1
  rw [sumN_one hj (fun i hi hne => by rw [h.col i hi j hj (fun e => hne e.symm), Int.zero_mul]), h.one j hj, Int.one_mul]
/-- What the rows send to nothing is told by the places without a lead. -/
theorem Ech.ker_free {u : Nat → Int} (hu : Kr p n B u) (y : Nat → Int) : p ∣ sumN (fun q => u q * y q) n - sumN (fun q => if isLd B.length ld q = true then 0 else u q * sumN (fun r => freeF B ld q r * y r) n) n := by
  have e1 := h.split fun q => u q * y q
  have e2 : sumN (fun q => if isLd B.length ld q = true then 0 else u q * sumN (fun r => freeF B ld q r * y r) n) n =
      sumN (fun q => if isLd B.length ld q = true then 0 else u q * y q) n - sumN (fun j => y (ld j) * sumN (fun q => if isLd B.length ld q = true then 0 else gI (gR B j) q * u q) n) B.length := by
    have : sumN (fun j => y (ld j) * sumN (fun q => if isLd B.length ld q = true then 0 else gI (gR B j) q * u q) n) B.length = sumN (fun q => sumN (fun j => y (ld j) * (if isLd B.length ld q = true then 0 else gI (gR B j) q * u q)) B.length) n := by
      rw [← sumN_comm]
      exact sumN_congr fun j _ => (sumN_mulL _ _ _).symm
    rw [this, ← sumN_sub]
    refine sumN_congr fun q hq => ?_
    cases e : isLd B.length ld q with
    | true =>
      simp only [if_true, Int.mul_zero]
      rw [sumN_zero]; rfl
    | false =>
      simp only [Bool.false_eq_true, if_false]
      rw [freeF_rd h e hq, Int.mul_sub, ← sumN_mulL]
      congr 1
      exact sumN_congr fun j _ => by grind
  rw [e1, e2]
  have e3 : sumN (fun q => if isLd B.length ld q = true then 0 else u q * y q) n + sumN (fun j => u (ld j) * y (ld j)) B.length - (sumN (fun q => if isLd B.length ld q = true then 0 else u q * y q) n - sumN (fun j => y (ld j) * sumN (fun q => if isLd B.length ld q = true then 0 else gI (gR B j) q * u q) n) B.length) =
      sumN (fun j => y (ld j) * rd n (gR B j) u) B.length := by
    have : sumN (fun j => y (ld j) * rd n (gR B j) u) B.length = sumN (fun j => y (ld j) * sumN (fun q => if isLd B.length ld q = true then 0 else gI (gR B j) q * u q) n + u (ld j) * y (ld j)) B.length := sumN_congr fun j hj => by
      rw [h.row_lead hj, Int.mul_add, Int.mul_comm (y (ld j)) (u (ld j))]
    rw [this, sumN_add]; omega
  rw [e3]
  exact sumN_dvd fun j hj => Int.dvd_mul_of_dvd_right (hu j hj)
theorem freeV_rd {f : Nat} (y : Nat → Int) : rd n (freeV p n B ld f) y % p = sumN (fun q => freeF B ld f q * y q) n % p := by
  unfold rd
  refine sumN_mod fun q hq => ?_
  unfold freeV
  rw [gI_vecN _ hq]
  exact mul_mod_l (emm _ _)
theorem kerR_iff (u : Nat → Int) : KerP p (kerR p n B ld n).length n (kerR p n B ld n) u ↔ ∀ f, f < n → isLd B.length ld f = false → p ∣ sumN (fun q => freeF B ld f q * u q) n := by
  have hmem : ∀ f, f ∈ freeL n B ld n ↔ f < n ∧ isLd B.length ld f = false := fun f => by
    unfold freeL
    rw [List.mem_filter, List.mem_range]
    simp
  constructor
  · intro hk f hf hfr
    obtain ⟨t, ht, e⟩ := List.getElem_of_mem ((hmem f).2 ⟨hf, hfr⟩)
    have hl : t < (kerR p n B ld n).length := by unfold kerR; rw [List.length_map]; exact ht
    have := hk t hl
    rw [kerR_get ht, e, dvd_congr (freeV_rd h u)] at this
    exact this
  · intro hk t ht
    have hl : t < (freeL n B ld n).length := by unfold kerR at ht; rwa [List.length_map] at ht
    rw [kerR_get hl, dvd_congr (freeV_rd h u)]
    obtain ⟨a, b⟩ := (hmem _).1 (List.getElem_mem hl)
    exact hk _ a b
end
/-- The reduced basis of a kernel lies in it and makes it. -/
theorem Kernel_span {p : Int} {n : Nat} {B V : List (List Int)} {ld lv : Nat → Nat} (hB : Ech p n B ld) (hV : Ech p n V lv) (hk : ∀ u, Kr p n V u ↔ KerP p (kerR p n B ld n).length n (kerR p n B ld n) u) :
    (∀ j, j < V.length → Kr p n B (gI (gR V j))) ∧ ∀ u, Kr p n B u → ∀ q, q < n → p ∣ u q - sumN (fun j => u (lv j) * gI (gR V j) q) V.length := by
  constructor
  · intro j hj i hi
    have h1 : Kr p n V (gI (gR B i)) := (hk _).2 ((kerR_iff hB _).2 fun f hf hfr => by
      have := freeF_ker hB hfr hf i hi
      unfold rd at this
      rwa [sumN_congr (g := fun q => freeF B ld f q * gI (gR B i) q) fun q _ => Int.mul_comm _ _] at this)
    have := h1 j hj
    unfold rd at this ⊢
    rwa [sumN_congr (g := fun q => gI (gR B i) q * gI (gR V j) q) fun q _ => Int.mul_comm _ _] at this
  · intro u hu
    refine hV.span fun y hy => ?_
    have h1 := (kerR_iff hB y).1 ((hk y).1 hy)
    refine dvd_of_sub (hB.ker_free hu y) (sumN_dvd fun q hq => ?_)
    cases e : isLd B.length ld q with
    | true => exact Int.dvd_zero p
    | false => exact Int.dvd_mul_of_dvd_right (h1 q hq e)
/-- Numbers that send b rows of a numbers to nothing, not all of them nothing: if b is less than a. -/
theorem more_unknowns {p : Int} {a b : Nat} (hP : isP p = true) (ha : a ≤ 1048000) (hb : b < a) (M : Nat → Nat → Int) : ∃ c : Nat → Int, (∃ i, i < a ∧ ¬ p ∣ c i) ∧ ∀ j, j < b → p ∣ sumN (fun i => c i * M i j) a := by
  have hp := isP_le hP
  have hm : Mat p b a (vecN b fun j => vecN a fun i => M i j % p) := Mat.mk' fun j _ => Vec.mk' fun i _ => mod_num (by omega)
  obtain ⟨B, _, _, hBl, ⟨ld, hB⟩, hk⟩ := i_basis_any hP (by omega) (by omega) hm
  have hf := hB.full_iff (by omega)
  by_cases hex : ∃ u : Nat → Int, (∃ k, k < a ∧ ¬ p ∣ u k) ∧ Kr p a B u
  · obtain ⟨u, hu1, hu2⟩ := hex
    refine ⟨u, hu1, fun j hj => ?_⟩
    have := (hk u).1 hu2 j hj
    rw [gR_vecN _ hj] at this
    have e : rd a (vecN a fun i => M i j % p) u % p = sumN (fun i => u i * M i j) a % p := by
      unfold rd
      refine sumN_mod fun i hi => ?_
      rw [gI_vecN _ hi, mul_mod_l (emm _ _), Int.mul_comm]
    rwa [dvd_congr e] at this
  · have := hf.2 hex
    omega
def Indep (p : Int) (n k : Nat) (X : Nat → Nat → Int) : Prop := ∀ c : Nat → Int, (∀ q, q < n → p ∣ sumN (fun i => c i * X i q) k) → ∀ i, i < k → p ∣ c i
/-- Independent vectors among the sums of multiples of b vectors are at most b. -/
theorem steinitz {p : Int} {n a b : Nat} {X Y : Nat → Nat → Int} {M : Nat → Nat → Int} (hP : isP p = true) (ha : a ≤ 1048000) (hX : Indep p n a X) (hM : ∀ i, i < a → ∀ q, q < n → p ∣ X i q - sumN (fun j => M i j * Y j q) b) : a ≤ b := by
  rcases Nat.lt_or_ge b a with hlt | hge
  · exfalso
    obtain ⟨c, ⟨i, hi, hn⟩, hc⟩ := more_unknowns hP ha hlt M
    refine hn (hX c (fun q hq => ?_) i hi)
    have e1 : p ∣ sumN (fun i => c i * X i q) a - sumN (fun i => c i * sumN (fun j => M i j * Y j q) b) a := by
      rw [← sumN_sub]
      exact sumN_dvd fun k hk => by rw [← Int.mul_sub]; exact Int.dvd_mul_of_dvd_right (hM k hk q hq)
    refine dvd_of_sub e1 ?_
    have e2 : sumN (fun i => c i * sumN (fun j => M i j * Y j q) b) a = sumN (fun j => sumN (fun i => c i * M i j) a * Y j q) b := by
      have : sumN (fun i => c i * sumN (fun j => M i j * Y j q) b) a = sumN (fun i => sumN (fun j => c i * M i j * Y j q) b) a := sumN_congr fun k _ => by
        rw [← sumN_mulL]; exact sumN_congr fun j _ => (Int.mul_assoc _ _ _).symm
      rw [this, sumN_comm]
      exact sumN_congr fun j _ => sumN_mulR _ _ _
    rw [e2]
    exact sumN_dvd fun j hj => Int.dvd_mul_of_dvd_left (hc j hj)
  · exact hge
theorem Ech.indep {p : Int} {n : Nat} {B : List (List Int)} {ld : Nat → Nat} (h : Ech p n B ld) : Indep p n B.length (fun j q => gI (gR B j) q) := by
  intro c hc i hi
  have := hc (ld i) (h.lt i hi)
  have e : sumN (fun j => c j * gI (gR B j) (ld i)) B.length = c i := by
    rw [sumN_one hi (fun j hj hne => by rw [h.col i hi j hj hne, Int.mul_zero]), h.one i hi, Int.mul_one]
  rw [← e]; exact this
/-- Sums over the places without a lead, one after the other. -/
theorem free_sum {n : Nat} {B : List (List Int)} {ld : Nat → Nat} (g : Nat → Int) : ∀ k, sumN (fun q => if isLd B.length ld q = true then 0 else g q) k = sumN (fun t => g ((freeL n B ld k).getD t 0)) (freeL n B ld k).length
  | 0 => rfl
  | k + 1 => by
    have hs : freeL n B ld (k + 1) = if isLd B.length ld k = true then freeL n B ld k else freeL n B ld k ++ [k] := by
      unfold freeL
      rw [List.range_succ, List.filter_append]
      cases e : isLd B.length ld k <;> simp [e]
    simp only [sumN]
    rw [free_sum (n := n) g k, hs]
    cases e : isLd B.length ld k with
    | true => simp only [if_true, Int.add_zero]
    | false =>
      simp only [Bool.false_eq_true, if_false, List.length_append, List.length_singleton, sumN]
      congr 1
      · exact sumN_congr fun t ht => by rw [List.getD_eq_getElem?_getD, List.getD_eq_getElem?_getD, List.getElem?_append_left ht]
      · rw [List.getD_eq_getElem?_getD, List.getElem?_append_right (Nat.le_refl _), Nat.sub_self]; rfl
theorem freeL_len {p : Int} {n : Nat} {B : List (List Int)} {ld : Nat → Nat} (h : Ech p n B ld) : (freeL n B ld n).length + B.length = n := by
  have h1 := h.split fun _ => 1
  rw [free_sum (n := n) (fun _ => 1) n, sumN_const, sumN_const, sumN_const] at h1
  omega
/-- A kernel has as many vectors as there are places without a lead. -/
theorem nullity {p : Int} {n : Nat} {B V : List (List Int)} {ld lv : Nat → Nat} (hP : isP p = true) (hn : n ≤ 1048000) (hB : Ech p n B ld) (hV : Ech p n V lv) (hk : ∀ u, Kr p n V u ↔ KerP p (kerR p n B ld n).length n (kerR p n B ld n) u) : V.length + B.length = n := by
  have hp := isP_le hP
  obtain ⟨k1, k2⟩ := Kernel_span hB hV hk
  have hlen := freeL_len hB
  have hVl := hV.le
  have hmem : ∀ t, t < (freeL n B ld n).length → (freeL n B ld n).getD t 0 < n ∧ isLd B.length ld ((freeL n B ld n).getD t 0) = false := fun t ht => by
    rw [List.getD_eq_getElem?_getD, List.getElem?_eq_getElem ht]
    have hm := List.getElem_mem ht
    have hf : ∀ f, f ∈ freeL n B ld n → f < n ∧ isLd B.length ld f = false := fun f hf => by
      unfold freeL at hf
      rw [List.mem_filter, List.mem_range] at hf
      simpa using hf
    exact hf _ hm
  have hnd : (freeL n B ld n).Nodup := List.Pairwise.filter _ List.nodup_range
  have hinj : ∀ s t, s < (freeL n B ld n).length → t < (freeL n B ld n).length → (freeL n B ld n).getD s 0 = (freeL n B ld n).getD t 0 → s = t := fun s t hs ht e => by
    rw [List.getD_eq_getElem?_getD, List.getElem?_eq_getElem hs, List.getD_eq_getElem?_getD, List.getElem?_eq_getElem ht] at e
    exact nodup_get_inj hnd hs ht (by simpa using e)
  have a1 : (freeL n B ld n).length ≤ V.length := by
    refine steinitz (p := p) (n := n) (X := fun t q => freeF B ld ((freeL n B ld n).getD t 0) q) (Y := fun j q => gI (gR V j) q) (M := fun t j => freeF B ld ((freeL n B ld n).getD t 0) (lv j)) hP (by omega) (fun c hc s hs => ?_) (fun t ht q hq => ?_)
    · obtain ⟨m1, m2⟩ := hmem s hs
      have := hc _ m1
      have e : freeF B ld ((freeL n B ld n).getD s 0) ((freeL n B ld n).getD s 0) = 1 := by unfold freeF; rw [if_pos rfl]
      have e2 : sumN (fun t => c t * freeF B ld ((freeL n B ld n).getD t 0) ((freeL n B ld n).getD s 0)) (freeL n B ld n).length = c s := by
        rw [sumN_one hs (fun t ht hne => by
          rw [freeF_other m2 (fun e => hne (hinj t s ht hs e.symm)), Int.mul_zero]), e, Int.mul_one]
      rw [← e2]; exact this
    · obtain ⟨m1, m2⟩ := hmem t ht
      exact k2 _ (freeF_ker hB m2 m1) q hq
  have a2 : V.length ≤ (freeL n B ld n).length := by
    refine steinitz (p := p) (n := n) (X := fun j q => gI (gR V j) q) (Y := fun t q => freeF B ld ((freeL n B ld n).getD t 0) q) (M := fun j t => gI (gR V j) ((freeL n B ld n).getD t 0)) hP (by omega) hV.indep (fun j hj q hq => ?_)
    have := hB.ker_free (k1 j hj) (fun r => if r = q then 1 else 0)
    have e1 : sumN (fun r => gI (gR V j) r * (if r = q then 1 else 0)) n = gI (gR V j) q := by
      rw [sumN_one hq (fun r _ hr => by rw [if_neg hr, Int.mul_zero]), if_pos rfl, Int.mul_one]
    have e2 : ∀ f, sumN (fun r => freeF B ld f r * (if r = q then 1 else 0)) n = freeF B ld f q := fun f => by
      rw [sumN_one hq (fun r _ hr => by rw [if_neg hr, Int.mul_zero]), if_pos rfl, Int.mul_one]
    rw [e1, sumN_congr (g := fun f => if isLd B.length ld f = true then 0 else gI (gR V j) f * freeF B ld f q) (fun f _ => by rw [e2]), free_sum (n := n)] at this
    exact this
  omega
end Go.Vam

/- Plain laws: the equations of derivations; both programs' bases of derivations are one. -/
namespace Go.Vam
open Go Go.RowKit
set_option linter.unusedSimpArgs false
set_option linter.unusedVariables false
set_option linter.unusedSectionVars false

theorem gR_append {x y : List (List Int)} {k : Nat} : gR (x ++ y) k = if k < x.length then gR x k else gR y (k - x.length) := by
  unfold gR
  rw [List.getD_eq_getElem?_getD, List.getElem?_append]
  by_cases h : k < x.length
  · rw [if_pos h, if_pos h, List.getD_eq_getElem?_getD]
  · rw [if_neg h, if_neg h, List.getD_eq_getElem?_getD]
theorem Mat.append {p : Int} {a b c : Nat} {x y : List (List Int)} (hx : Mat p a c x) (hy : Mat p b c y) : Mat p (a + b) c (x ++ y) := by
  have h1 := hx.1
  refine ⟨by rw [List.length_append, hx.1, hy.1], fun i hi => ?_⟩
  rw [gR_append]
  split
  · exact hx.2 i (by omega)
  · exact hy.2 (i - x.length) (by omega)
theorem KerP_append {p : Int} {a b c : Nat} {x y : List (List Int)} (hx : x.length = a) (u : Nat → Int) : KerP p (a + b) c (x ++ y) u ↔ KerP p a c x u ∧ KerP p b c y u := by
  unfold KerP
  constructor
  · intro h
    refine ⟨fun i hi => ?_, fun i hi => ?_⟩
    · have := h i (by omega)
      rwa [gR_append, if_pos (by omega)] at this
    · have := h (a + i) (by omega)
      rwa [gR_append, if_neg (by omega), show a + i - x.length = i by omega] at this
  · intro ⟨h1, h2⟩ i hi
    rw [gR_append]
    split
    · exact h1 i (by omega)
    · exact h2 (i - x.length) (by omega)
section
variable {p : Int} {w : List Int} (hP : isP p = true) (hl : w.length ≤ 4) (hw : Vec p w.length w)
include hP hl hw
end
end Go.Vam

/- Plain laws: what is drawn from a code. -/
namespace Go.Vam
open Go Go.RowKit
set_option linter.unusedSimpArgs false
set_option linter.unusedVariables false
set_option linter.unusedSectionVars false

/-- A source of numbers: bytes, and a place among them. -/
structure Src (c : List Int) (a : Int) : Prop where
  len : c.length ≤ 4096
  byte : ∀ x ∈ c, 0 ≤ x ∧ x ≤ 255
  pos : 0 ≤ a
  le : a ≤ c.length

theorem band_le (h : Int) : 0 ≤ w64 (band .u64 h 16777215) ∧ w64 (band .u64 h 16777215) ≤ 16777215 := by
  have h1 : ((BitVec.ofInt 64 h &&& BitVec.ofInt 64 16777215).toNat : Nat) ≤ 16777215 := by
    rw [BitVec.toNat_and]
    exact Nat.le_trans Nat.and_le_right (by decide)
  have h2 : band .u64 h 16777215 = ((BitVec.ofInt 64 h &&& BitVec.ofInt 64 16777215).toNat : Int) := by
    unfold band
    show IntKind.u64.wrap ((BitVec.ofInt 64 h &&& BitVec.ofInt 64 16777215).toNat : Int) = _
    generalize (BitVec.ofInt 64 h &&& BitVec.ofInt 64 16777215).toNat = n at h1
    simp only [IntKind.wrap, IntKind.signed, IntKind.bits]
    simp
    omega
  rw [h2, w_in (by omega) (by omega)]
  omega
theorem next_eq {c : List Int} {a h n : Int} (hS : Src c a) (hn : 1 ≤ n) (hn2 : n ≤ 4611686018427387904) :
    ∃ r a' h', s_l01Next c a h n = some (r, (c, a', h')) ∧ 0 ≤ r ∧ r < n ∧ Src c a' := by
  unfold s_l01Next
  rw [if_neg (by omega)]
  by_cases hlt : a < (c.length : Int)
  · obtain ⟨k, rfl⟩ := Int.eq_ofNat_of_zero_le hS.pos
    have hk : k < c.length := by omega
    rw [if_pos (by omega), idxI hk, some_bind, some_bind, chk_bind (by omega)]
    have hb := hS.byte (gI c k) (by rw [show gI c k = c[k] from by unfold gI; simp [hk]]; exact List.getElem_mem hk)
    obtain ⟨b1, b2⟩ := band_le (shr .u64 (IntKind.u64.wrap ((IntKind.u64.wrap (h * 6364136223846793005)) + 1442695040888963407)) 33)
    refine ⟨_, _, _, rfl, ?_, ?_, hS.len, hS.byte, ?_, ?_⟩
    · simp only []
      rw [w_in (x := gI c k) (by omega) (by omega), w_in (by omega) (by omega), tmod_nn (by omega)]
      exact Int.emod_nonneg _ (by omega)
    · simp only []
      rw [w_in (x := gI c k) (by omega) (by omega), w_in (by omega) (by omega), tmod_nn (by omega)]
      exact Int.emod_lt_of_pos _ (by omega)
    · simp only []; have := hS.len; rw [w_in (by omega) (by omega)]; omega
    · simp only []; have := hS.len; rw [w_in (by omega) (by omega)]; omega
  · rw [if_neg hlt, some_bind, chk_bind (by omega)]
    obtain ⟨b1, b2⟩ := band_le (shr .u64 (IntKind.u64.wrap ((IntKind.u64.wrap (h * 6364136223846793005)) + 1442695040888963407)) 33)
    refine ⟨_, _, _, rfl, ?_, ?_, hS⟩
    · simp only []
      rw [tmod_nn (by omega)]
      exact Int.emod_nonneg _ (by omega)
    · simp only []
      rw [tmod_nn (by omega)]
      exact Int.emod_lt_of_pos _ (by omega)
theorem pick_eq {c : List Int} {a h : Int} {l : List Int} (hS : Src c a) (hl : 1 ≤ l.length) (hl2 : l.length ≤ 100) :
    ∃ x a' h', s_l01Pick c a h l = some (x, (c, a', h')) ∧ x ∈ l ∧ Src c a' := by
  unfold s_l01Pick
  obtain ⟨r, a', h', e, r1, r2, r3⟩ := next_eq (h := h) (n := (l.length : Int)) hS (by omega) (by omega)
  rw [e, some_bind]
  obtain ⟨k, rfl⟩ := Int.eq_ofNat_of_zero_le r1
  have hk : k < l.length := by omega
  rw [idxk hk, some_bind]
  exact ⟨_, _, _, rfl, List.getElem_mem hk, r3⟩
theorem size_eq {c : List Int} {a h : Int} (hS : Src c a) : ∃ (n : Nat) (a' h' : Int), s_l02Size c a h = some ((n : Int), (c, a', h')) ∧ 1 ≤ n ∧ n ≤ 6 ∧ Src c a' := by
  unfold s_l02Size
  obtain ⟨r1, a1, h1, e1, p1, q1, S1⟩ := next_eq (h := h) (n := 3) hS (by omega) (by omega)
  obtain ⟨r2, a2, h2, e2, p2, q2, S2⟩ := next_eq (h := h1) (n := 4) S1 (by omega) (by omega)
  obtain ⟨r3, a3, h3, e3, p3, q3, S3⟩ := next_eq (h := h2) (n := 6) S2 (by omega) (by omega)
  obtain ⟨x, a4, h4, e4, m4, S4⟩ := pick_eq (h := h3) (l := [r1, r2, r3]) S3 (by simp) (by simp)
  simp only [e1, e2, e3, e4, some_bind]
  have hx : 0 ≤ x ∧ x < 6 := by
    simp only [List.mem_cons, List.not_mem_nil, or_false] at m4
    omega
  rw [w_in (by omega) (by omega)]
  exact ⟨(1 + x).toNat, _, _, by rw [show (((1 + x).toNat : Nat) : Int) = 1 + x by omega], by omega, by omega, S4⟩
theorem bad_eq {c : List Int} {a h : Int} (hS : Src c a) : ∃ (p a' h' : Int), s_l01Bad c a h = some (p, (c, a', h')) ∧ -3 ≤ p ∧ p ≤ 17 ∧ Src c a' := by
  unfold s_l01Bad s_l01DrawPrime
  obtain ⟨r1, a1, h1, e1, p1, q1, S1⟩ := next_eq (h := h) (n := 24) hS (by omega) (by omega)
  rw [e1, some_bind]
  by_cases h0 : r1 = 0
  · simp only [h0, if_true]
    obtain ⟨x, a4, h4, e4, m4, S4⟩ := pick_eq (h := h1) (l := [2, 9, 17, 1, 0, -3]) S1 (by simp) (by simp)
    rw [e4, some_bind]
    refine ⟨_, _, _, rfl, ?_, ?_, S4⟩ <;> (simp only [List.mem_cons, List.not_mem_nil, or_false] at m4; omega)
  · simp only [h0, if_false]
    obtain ⟨x, a4, h4, e4, m4, S4⟩ := pick_eq (h := h1) (l := [3, 5, 7, 11, 13, 3, 5, 7]) S1 (by simp) (by simp)
    rw [e4, some_bind, some_bind]
    refine ⟨_, _, _, rfl, ?_, ?_, S4⟩ <;> (simp only [List.mem_cons, List.not_mem_nil, or_false] at m4; omega)
theorem vec_one {p r : Int} (h1 : 0 ≤ r) (h2 : r < p) : Vec p 1 [r] := ⟨rfl, fun k hk => by
  have : k = 0 := by omega
  subst this
  exact ⟨h1, h2⟩⟩
theorem mat_one {p : Int} {n : Nat} {v : List Int} (h : Vec p n v) : Mat p 1 n [v] := ⟨rfl, fun k hk => by
  have : k = 0 := by omega
  subst this
  exact h⟩
theorem list_eq {c : List Int} {a h p : Int} {n : Nat} (hS : Src c a) (hp : 1 ≤ p) (hp2 : p ≤ 100) (hn : n ≤ 1000) : ∃ v a' h', s_l01List c a h p (n : Int) = some (v, (c, a', h')) ∧ Vec p n v ∧ Src c a' := by
  unfold s_l01List
  obtain ⟨b, h1, v, a', h', rfl, h3, h4⟩ := loop_inv (step := s_l01List_L0 p) (fun s => ∃ (k : Nat) (a' h' : Int) (out : List Int), s = (c, a', h', ((n - k : Nat) : Int), out) ∧ k ≤ n ∧ Vec p k out ∧ Src c a') (fun s => s.2.2.2.1.toNat)
    (fun b => ∃ v a' h', b = (c, a', h', v) ∧ Vec p n v ∧ Src c a') (s := (c, a, h, (n : Int), [])) ⟨0, a, h, [], rfl, by omega, ⟨rfl, by simp⟩, hS⟩ (by rw [BIG_val]; simp only []; omega) (by
      rintro s ⟨k, a', h', out, rfl, hk, hv, hS'⟩
      unfold s_l01List_L0
      by_cases hkn : k < n
      · refine .inl ?_
        obtain ⟨r, a2, h2, e, r1, r2, S2⟩ := next_eq (h := h') (n := p) hS' hp (by omega)
        have e3 := hv.1
        simp only [show (0 : Int) < ((n - k : Nat) : Int) by omega, if_true, e, some_bind]
        rw [chk_bind (by simp only [List.length_cons, List.length_nil]; omega), w_in (by omega) (by omega)]
        refine ⟨_, rfl, ⟨k + 1, a2, h2, out ++ [r], by congr 4; omega, by omega, hv.append (y := [r]) (vec_one r1 r2), S2⟩, by simp only []; omega⟩
      · have : k = n := by omega
        subst this
        refine .inr ⟨(c, a', h', out), ?_, out, a', h', rfl, hv, hS'⟩
        simp)
  rw [h1, some_bind]
  exact ⟨v, a', h', rfl, h3, h4⟩
/-- A table is drawn. -/
theorem draw_eq {c : List Int} {a h p : Int} {r k : Nat} (hS : Src c a) (hp : isP p = true) (hr : r ≤ 100) (hk : k ≤ 100) : ∃ m a' h', s_l02Draw c a h p (r : Int) (k : Int) = some (m, (c, a', h')) ∧ Mat p r k m ∧ Src c a' := by
  have hp' := isP_le hp
  unfold s_l02Draw
  obtain ⟨b, h1, m, a', h', rfl, h3, h4⟩ := loop_inv (step := s_l02Draw_L0 p (r : Int) (k : Int)) (fun s => ∃ (i : Nat) (a' h' : Int) (out : List (List Int)), s = (c, a', h', out, (i : Int)) ∧ i ≤ r ∧ Mat p i k out ∧ Src c a') (fun s => r - s.2.2.2.2.toNat)
    (fun b => ∃ m a' h', b = (c, a', h', m) ∧ Mat p r k m ∧ Src c a') (s := (c, a, h, [], 0)) ⟨0, a, h, [], rfl, by omega, ⟨rfl, fun i hi => by omega⟩, hS⟩ (by rw [BIG_val]; simp only []; omega) (by
      rintro s ⟨i, a', h', out, rfl, hi, hm, hS'⟩
      unfold s_l02Draw_L0
      by_cases hir : i < r
      · refine .inl ?_
        obtain ⟨v, a1, h1, e1, v1, S1⟩ := list_eq (h := h') (p := p) (n := k) hS' (by omega) (by omega) (by omega)
        simp only [show (i : Int) < (r : Int) by omega, if_true, e1, some_bind]
        have key : ∃ (a2 h2 : Int) (row : List Int), (((if 0 < (i : Int) then
              (s_l01Next c a1 h1 4).bind fun v10 => some (v10.2.1, v10.2.2.1, v10.2.2.2, ieq v10.1 0)
            else some (c, a1, h1, false)) : Option ((List Int) × Int × Int × Bool)).bind fun x11 =>
            ((if x11.2.2.2 = true then
              (s_l01Next x11.1 x11.2.1 x11.2.2.1 (i : Int)).bind fun v15 =>
              (idx out v15.1).bind fun v16 =>
              (s_l01Next v15.2.1 v15.2.2.1 v15.2.2.2 p).bind fun v17 =>
              (s_l02Scale p v16 v17.1).bind fun v18 =>
              (s_l01Next v17.2.1 v17.2.2.1 v17.2.2.2 (i : Int)).bind fun v19 =>
              (idx out v19.1).bind fun v20 =>
              (s_l01Next v19.2.1 v19.2.2.1 v19.2.2.2 p).bind fun v21 =>
              (s_l02Plus p v18 v20 v21.1).bind fun v22 =>
              some (v21.2.1, v21.2.2.1, v21.2.2.2, v22)
            else
              some (x11.1, x11.2.1, x11.2.2.1, v)) : Option ((List Int) × Int × Int × (List Int)))) = some (c, a2, h2, row) ∧ Vec p k row ∧ Src c a2 := by
          have plain : ∀ (a2 h2 : Int), Src c a2 → ∃ (a2' h2' : Int) (row : List Int), (some (c, a2, h2, v) : Option ((List Int) × Int × Int × (List Int))) = some (c, a2', h2', row) ∧ Vec p k row ∧ Src c a2' := fun a2 h2 S => ⟨a2, h2, v, rfl, v1, S⟩
          by_cases h0 : 0 < (i : Int)
          · obtain ⟨r2, a2, h2, e2, p2, q2, S2⟩ := next_eq (h := h1) (n := 4) S1 (by omega) (by omega)
            simp only [h0, if_true, e2, some_bind]
            cases hx : ieq r2 0 with
            | false => simp only [Bool.false_eq_true, if_false]; exact plain a2 h2 S2
            | true =>
              have em := hm.1
              obtain ⟨r3, a3, h3, e3, p3, q3, S3⟩ := next_eq (h := h2) (n := (i : Int)) S2 (by omega) (by omega)
              obtain ⟨r4, a4, h4, e4, p4, q4, S4⟩ := next_eq (h := h3) (n := p) S3 (by omega) (by omega)
              obtain ⟨r5, a5, h5, e5, p5, q5, S5⟩ := next_eq (h := h4) (n := (i : Int)) S4 (by omega) (by omega)
              obtain ⟨r6, a6, h6, e6, p6, q6, S6⟩ := next_eq (h := h5) (n := p) S5 (by omega) (by omega)
              obtain ⟨x3, rfl⟩ := Int.eq_ofNat_of_zero_le p3
              obtain ⟨x5, rfl⟩ := Int.eq_ofNat_of_zero_le p5
              have f3 : idx out (x3 : Int) = some (gR out x3) := idxR (by omega)
              have f5 : idx out (x5 : Int) = some (gR out x5) := idxR (by omega)
              have w3 := hm.row (i := x3) (by omega)
              have w5 := hm.row (i := x5) (by omega)
              have g3 := s_l02Scale_eq (p := p) (n := k) (a := gR out x3) (k := r4) (by omega) (by omega) (by omega) (by omega) (by omega) w3
              have w6 := scalev_vec (p := p) (by omega) k (gR out x3) r4
              have g6 := s_l02Plus_eq (p := p) (n := k) (a := scalev p k (gR out x3) r4) (b := gR out x5) (k := r6) (by omega) (by omega) (by omega) (by omega) (by omega) w6 w5
              simp only [if_true, e3, some_bind, Int.ofNat_eq_natCast, f3, e4, g3, e5, f5, e6, g6]
              exact ⟨a6, h6, _, rfl, plusv_vec (by omega) .., S6⟩
          · simp only [h0, if_false, some_bind, Bool.false_eq_true]
            exact plain a1 h1 S1
        obtain ⟨a2, h2, row, e2, v2, S2⟩ := key
        obtain ⟨x, ex, e3⟩ := bind_some e2
        simp only [ex, some_bind, e3]
        have em := hm.1
        rw [chk_bind (by simp only [List.length_cons, List.length_nil]; omega), w_in (by omega) (by omega)]
        exact ⟨_, rfl, ⟨i + 1, a2, h2, out ++ [row], rfl, by omega, Mat.append hm (mat_one v2), S2⟩, by simp only []; omega⟩
      · have : i = r := by omega
        subst this
        refine .inr ⟨(c, a', h', out), ?_, out, a', h', rfl, hm, hS'⟩
        simp)
  rw [h1, some_bind]
  exact ⟨m, a', h', rfl, h3, h4⟩
/-- A table that is not large. -/
def tabS (m : List (List Int)) : Prop := m.length ≤ 17 ∧ ∀ x ∈ m, x.length ≤ 18
theorem tabS.sz {m : List (List Int)} (h : tabS m) : szM m := ⟨by have := h.1; omega, fun r hr => by have := h.2 r hr; omega⟩
theorem tabS.of {p : Int} {r k : Nat} {m : List (List Int)} (h : Mat p r k m) (hr : r ≤ 17) (hk : k ≤ 18) : tabS m := by
  refine ⟨by rw [h.1]; exact hr, fun x hx => ?_⟩
  obtain ⟨i, hi, rfl⟩ := List.getElem_of_mem hx
  have e := (h.2 i (by have := h.1; omega)).1
  rw [← gR_get hi] at e
  omega
theorem tabS.set {m : List (List Int)} (h : tabS m) (i : Nat) {x : List Int} (hx : x.length ≤ 18) : tabS (m.set i x) := by
  refine ⟨by rw [List.length_set]; exact h.1, fun y hy => ?_⟩
  rcases List.mem_or_eq_of_mem_set hy with h1 | h1
  · exact h.2 y h1
  · rw [h1]; exact hx
theorem spoil_eq {c : List Int} {a h : Int} {r k : Nat} (hS : Src c a) (hr0 : 1 ≤ r) (hr : r ≤ 7) (hk0 : 1 ≤ k) (hk : k ≤ 7) :
    ∃ (p : Int) (m : List (List Int)) (a' h' : Int), s_l02Spoil c a h (r : Int) (k : Int) = some ((p, m), (c, a', h')) ∧ -3 ≤ p ∧ p ≤ 17 ∧ tabS m ∧ Src c a' := by
  unfold s_l02Spoil
  obtain ⟨p, a1, h1, e1, p1, p2, S1⟩ := bad_eq (h := h) hS
  rw [e1, some_bind]
  simp only []
  rw [s_l01Prime_eq, some_bind]
  cases hP : isP p with
  | false =>
    simp only [if_true]
    exact ⟨p, [[1]], a1, h1, rfl, p1, p2, ⟨by simp, by simp⟩, S1⟩
  | true =>
    have hp := isP_le hP
    simp only [Bool.true_eq_false, if_false]
    obtain ⟨m, a2, h2, e2, m2, S2⟩ := draw_eq (h := h1) (p := p) (r := r) (k := k) S1 hP (by omega) (by omega)
    obtain ⟨r3, a3, h3, e3, p3, q3, S3⟩ := next_eq (h := h2) (n := 36) S2 (by omega) (by omega)
    have em := m2.1
    have hT := tabS.of m2 (by omega) (by omega)
    have w0 := (m2.row (i := 0) (by omega)).1
    have f0 : idx m 0 = some (gR m 0) := idxR0 (by omega)
    rw [e2, some_bind]
    simp only []
    rw [e3, some_bind]
    simp only []
    have fin : ∀ (a' h' : Int) (m' : List (List Int)), tabS m' → Src c a' → ∃ (p' : Int) (m'' : List (List Int)) (a'' h'' : Int), (some ((p, m'), (c, a', h')) : Option ((Int × List (List Int)) × (List Int × Int × Int))) = some ((p', m''), (c, a'', h'')) ∧ -3 ≤ p' ∧ p' ≤ 17 ∧ tabS m'' ∧ Src c a'' :=
      fun a' h' m' hx hs => ⟨p, m', a', h', rfl, p1, p2, hx, hs⟩
    by_cases c0 : r3 = 0
    · obtain ⟨x, a4, h4, e4, m4, S4⟩ := pick_eq (h := h3) (l := [-1, p]) S3 (by simp) (by simp)
      have g0 : idx (gR m 0) 0 = some (gI (gR m 0) 0) := by
        have := idxI (v := gR m 0) (k := 0) (by omega)
        simpa using this
      simp only [c0, if_true, f0, some_bind, e4, g0]
      exact fin a4 h4 _ (hT.set 0 (by rw [List.length_set]; omega)) S4
    simp only [c0, if_false]
    by_cases c1 : r3 = 1
    · simp only [c1, if_true, f0, some_bind]
      rw [chk_bind (by simp only [List.length_cons, List.length_nil]; omega), some_bind]
      exact fin a3 h3 _ (hT.set 0 (by rw [List.length_append]; simp only [List.length_cons, List.length_nil]; omega)) S3
    simp only [c1, if_false]
    by_cases c2 : r3 = 2
    · simp only [c2, if_true, some_bind]
      exact fin a3 h3 [] ⟨by simp, by simp⟩ S3
    simp only [c2, if_false]
    by_cases c3 : r3 = 3
    · obtain ⟨m', a4, h4, e4, m4, S4⟩ := draw_eq (h := h3) (p := p) (r := 17) (k := 2) S3 hP (by omega) (by omega)
      simp only [Int.cast_ofNat_Int] at e4
      simp only [c3, if_true, e4, some_bind]
      exact fin a4 h4 m' (tabS.of m4 (by omega) (by omega)) S4
    simp only [c3, if_false]
    by_cases c4 : r3 = 4
    · obtain ⟨m', a4, h4, e4, m4, S4⟩ := draw_eq (h := h3) (p := p) (r := 2) (k := 17) S3 hP (by omega) (by omega)
      simp only [Int.cast_ofNat_Int] at e4
      simp only [c4, if_true, e4, some_bind]
      exact fin a4 h4 m' (tabS.of m4 (by omega) (by omega)) S4
    simp only [c4, if_false, some_bind]
    exact fin a3 h3 m hT S3
theorem from_eq {c : List Int} (hc : c.length ≤ 4096) (hb : ∀ x ∈ c, 0 ≤ x ∧ x ≤ 255) : ∃ h', s_l01From c = some (c, 0, h') ∧ Src c 0 := by
  unfold s_l01From
  obtain ⟨b, h1, h', rfl⟩ := loop_inv (step := s_l01From_L0 c) (fun s => ∃ (k : Nat) (h' : Int), s = (c, 0, h', (k : Int)) ∧ k ≤ c.length) (fun s => c.length - s.2.2.2.toNat)
    (fun b => ∃ h' : Int, b = (c, (0 : Int), h')) (s := (c, 0, IntKind.u64.wrap (4409 + (IntKind.u64.wrap ((c.length : Int)))), 0)) ⟨0, _, rfl, by omega⟩ (by rw [BIG_val]; simp only []; omega) (by
      rintro s ⟨k, h', rfl, hk⟩
      unfold s_l01From_L0
      by_cases hkn : k < c.length
      · refine .inl ?_
        simp only [lt_cast hkn, if_true, some_bind, ilt_true (show (k : Int) < 4096 by omega), idxI hkn]
        rw [w_in (by omega) (by omega)]
        exact ⟨_, rfl, ⟨k + 1, _, rfl, by omega⟩, by simp only []; omega⟩
      · have : k = c.length := by omega
        subst this
        refine .inr ⟨(c, 0, h'), ?_, h', rfl⟩
        simp)
  rw [h1, some_bind]
  exact ⟨h', rfl, hc, hb, by omega, by omega⟩
theorem DrawAny_eq {c : List Int} (hc : c.length ≤ 4096) (hb : ∀ x ∈ c, 0 ≤ x ∧ x ≤ 255) : ∃ (p : Int) (m : List (List Int)), s_DrawKernelBasis c = some (p, m) ∧ -3 ≤ p ∧ p ≤ 17 ∧ tabS m := by
  unfold s_DrawKernelBasis s_l02Any
  obtain ⟨h0, e0, S0⟩ := from_eq hc hb
  obtain ⟨n1, a1, h1, e1, l1, u1, S1⟩ := size_eq (h := h0) S0
  obtain ⟨n2, a2, h2, e2, l2, u2, S2⟩ := size_eq (h := h1) S1
  obtain ⟨p, m, a3, h3, e3, p1, p2, hT, S3⟩ := spoil_eq (h := h2) (r := n1) (k := n2) S2 l1 (by omega) l2 (by omega)
  simp only [e0, e1, e2, e3, some_bind]
  exact ⟨p, m, rfl, p1, p2, hT⟩
end Go.Vam

/- Plain laws: reflections keep the products of vectors. -/
namespace Go.Vam
open Go Go.RowKit
set_option linter.unusedSimpArgs false
set_option linter.unusedVariables false
set_option linter.unusedSectionVars false

/-- The product of vectors, as an integer. -/
def pairS (n : Nat) (w x y : List Int) : Int := sumN (fun k => gI x k * gI y k * gI w k) n
theorem pairp_S (p : Int) (n : Nat) (w x y : List Int) : pairp p n w x y = pairS n w x y % p := rfl
theorem pairS_comm (n : Nat) (w x y : List Int) : pairS n w x y = pairS n w y x := by
  unfold pairS
  exact sumN_congr fun k _ => by rw [Int.mul_comm (gI x k)]
theorem pairS_lin {p : Int} {n : Nat} {w x x' u y : List Int} {c : Int} (h : ∀ k, k < n → gI x' k % p = (gI x k + c * gI u k) % p) : pairS n w x' y % p = (pairS n w x y + c * pairS n w u y) % p := by
  unfold pairS
  rw [← sumN_lin]
  refine sumN_mod fun k hk => ?_
  rw [Int.mul_assoc, mul_mod_l (h k hk)]
  congr 1
  rw [Int.add_mul, Int.mul_assoc, Int.mul_assoc, Int.mul_assoc]
/-- What the reflection in u makes of v. -/
def reflv (p : Int) (n : Nat) (w u v : List Int) : List Int := plusv p n v u (-2 * pairS n w u v * invp p (pairp p n w u u))
theorem reflv_vec {p : Int} (hp : 0 < p) (n : Nat) (w u v : List Int) : Vec p n (reflv p n w u v) := plusv_vec hp ..
theorem reflv_at {p : Int} {n k : Nat} {w u v : List Int} (hk : k < n) : gI (reflv p n w u v) k = (gI v k + (-2 * pairS n w u v * invp p (pairp p n w u u)) * gI u k) % p := plusv_at hk
theorem inv_dvd {p a : Int} (hP : isP p = true) (h0 : a % p ≠ 0) : p ∣ invp p (a % p) * a - 1 := by
  have hp := isP_le hP
  have hn := mod_num (a := a) (p := p) (by omega)
  obtain ⟨_, _, i3⟩ := inv_facts (a := a % p) hP (by omega) hn.2
  rw [← mod_dvd, Int.emod_eq_of_lt (show (0 : Int) ≤ 1 by omega) (by omega), Int.mul_comm, ← i3]
  exact (mul_mod_l (emm a p)).symm
theorem reflv_pair {p : Int} {n : Nat} {w u : List Int} (hP : isP p = true) (hu : pairp p n w u u ≠ 0) (x y : List Int) :
    pairp p n w (reflv p n w u x) (reflv p n w u y) = pairp p n w x y := by
  rw [pairp_S, pairp_S]
  have ht := inv_dvd hP (a := pairS n w u u) hu
  rw [← pairp_S] at ht
  have hx : ∀ k, k < n → gI (reflv p n w u x) k % p = (gI x k + (-2 * pairS n w u x * invp p (pairp p n w u u)) * gI u k) % p := fun k hk => by rw [reflv_at hk, emm]
  have hy : ∀ k, k < n → gI (reflv p n w u y) k % p = (gI y k + (-2 * pairS n w u y * invp p (pairp p n w u u)) * gI u k) % p := fun k hk => by rw [reflv_at hk, emm]
  have h1 := mod_dvd.1 (pairS_lin (w := w) (y := reflv p n w u y) hx)
  have h2 := mod_dvd.1 (pairS_lin (w := w) (y := x) hy)
  have h3 := mod_dvd.1 (pairS_lin (w := w) (y := u) hy)
  rw [pairS_comm n w x (reflv p n w u y), pairS_comm n w u (reflv p n w u y)] at h1
  rw [pairS_comm n w y x, pairS_comm n w u x] at *
  rw [pairS_comm n w y u] at h3
  generalize hX : pairS n w x u = X at *
  generalize hY : pairS n w u y = Y at *
  generalize invp p (pairp p n w u u) = t at *
  generalize pairS n w u u = Q at *
  generalize pairS n w x y = Z at *
  generalize pairS n w (reflv p n w u x) (reflv p n w u y) = A at *
  generalize pairS n w (reflv p n w u y) x = B at *
  generalize pairS n w (reflv p n w u y) u = C at *
  rw [mod_dvd]
  obtain ⟨k1, e1⟩ := h1
  obtain ⟨k2, e2⟩ := h2
  obtain ⟨k3, e3⟩ := h3
  obtain ⟨k4, e4⟩ := ht
  exact ⟨k1 + k2 + (-2 * X * t) * k3 + 4 * X * Y * t * k4, by grind⟩
/-- The reflection's table. -/
def reflm (p : Int) (n : Nat) (w u : List Int) : List (List Int) := turnm n n (vecN n fun k => reflv p n w u (axis n k))
theorem pairS_axis {n k : Nat} {w u : List Int} (hk : k < n) : pairS n w u (axis n k) = gI u k * gI w k := by
  unfold pairS
  rw [sumN_one hk (fun q hq hqk => by rw [gI_axis hk, if_neg hqk]; simp), gI_axis hk, if_pos rfl, Int.mul_one]
theorem reflm_at {p : Int} {n r k : Nat} {w u : List Int} (hr : r < n) (hk : k < n) : gI (gR (reflm p n w u) r) k = ((if r = k then 1 else 0) + (-2 * (gI u k * gI w k) * invp p (pairp p n w u u)) * gI u r) % p := by
  unfold reflm
  rw [turnm_at hk hr, gR_vecN _ hk, reflv_at hr, gI_axis hk, pairS_axis hk]
theorem refl_times {p : Int} {n i : Nat} {w u : List Int} {m : List (List Int)} (hp : 0 < p) (hi : i < n) :
    gR (turnm n n (timesm p n n n (reflm p n w u) m)) i = reflv p n w u (gR (turnm n n m) i) := by
  have hv := (reflv_vec hp n w u (gR (turnm n n m) i)).1
  rw [extI hv (f := gI (reflv p n w u (gR (turnm n n m) i))) fun k _ => rfl]
  refine extI (by unfold turnm; rw [gR_vecN _ hi, vecN_len]) fun r hr => ?_
  rw [turnm_at hr hi, reflv_at hr, turnm_at hr hi]
  unfold timesm
  rw [gR_vecN _ hr, gI_vecN _ hi]
  have e1 : sumN (fun j => gI (gR (reflm p n w u) r) j * gI (gR m j) i) n % p = sumN (fun j => (if r = j then gI (gR m j) i else 0) + (-2 * invp p (pairp p n w u u) * gI u r) * (gI u j * gI (gR m j) i * gI w j)) n % p := by
    refine sumN_mod fun j hj => ?_
    rw [reflm_at hr hj, mul_mod_l (emm _ _)]
    congr 1
    split <;> grind
  rw [e1, sumN_lin, sumN_one hr (fun q hq hqr => if_neg (fun e => hqr e.symm)), if_pos rfl]
  congr 2
  have e2 : sumN (fun k => gI u k * gI (gR m k) i * gI w k) n = pairS n w u (gR (turnm n n m) i) := by
    unfold pairS
    exact sumN_congr fun k hk => by rw [turnm_at hk hi]
  rw [e2]
  grind
/-- A table whose columns have the products of the basis. -/
def IsoT (p : Int) (n : Nat) (w : List Int) (m : List (List Int)) : Prop := ∀ i, i < n → ∀ j, j < n → pairp p n w (gR (turnm n n m) i) (gR (turnm n n m) j) = if i = j then gI w i else 0
theorem IsoT.refl {p : Int} {n : Nat} {w u : List Int} {m : List (List Int)} (hP : isP p = true) (h : IsoT p n w m) (hu : pairp p n w u u ≠ 0) : IsoT p n w (timesm p n n n (reflm p n w u) m) := by
  have hp := isP_le hP
  intro i hi j hj
  rw [refl_times (by omega) hi, refl_times (by omega) hj, reflv_pair hP hu]
  exact h i hi j hj
end Go.Vam

/- Plain laws: decompositions into reflections; HasSquareNorm. -/
namespace Go.Vam
open Go Go.RowKit
set_option linter.unusedSimpArgs false
set_option linter.unusedVariables false
set_option linter.unusedSectionVars false

section
variable {p : Int} {n : Nat} {w u : List Int} (hP : isP p = true) (hn0 : 0 < n) (hn : n ≤ 1000) (hwl : w.length = n) (hw : Vec p n w) (hu : Vec p n u) (hQ : pairp p n w u u ≠ 0)
include hP hn0 hn hwl hw hu hQ
end
section
variable {p : Int} {n : Nat} {w : List Int} (hP : isP p = true) (hn0 : 0 < n) (hn : n ≤ 1000) (hwl : w.length = n) (hw : Vec p n w) (hz : ∀ k, k < n → gI w k ≠ 0)
include hP hn0 hn hwl hw hz
end
end Go.Vam

/- Plain laws: systems of equations and spans. -/
namespace Go.Vam
open Go Go.RowKit
set_option linter.unusedSimpArgs false
set_option linter.unusedVariables false
set_option linter.unusedSectionVars false

theorem applyv_rd {p : Int} {r c : Nat} {m : List (List Int)} {x v : List Int} (hp : 0 < p) (hv : Vec p r v) (h : ∀ i, i < r → p ∣ rd c (gR m i) (gI x) - gI v i) : applyv p r c m x = v := by
  refine (extI hv.1 fun i hi => ?_).symm
  have e := hv.get hi
  have h1 := h i hi
  have h2 : dotp p c (gR m i) x = rd c (gR m i) (gI x) % p := rfl
  rw [h2]
  obtain ⟨k, hk⟩ := h1
  rw [show rd c (gR m i) (gI x) = gI v i + p * k by omega, Int.add_mul_emod_self_left, Int.emod_eq_of_lt e.1 e.2]
theorem likeI_self {v : List Int} (h : v.length ≤ 1048576) : l_likeInts v v = some true := by
  unfold l_likeInts
  simp only [not_true_eq_false, if_false]
  obtain ⟨b, h1, h2⟩ := any_loop (l_likeInts_L0 v v) v.length (fun _ => false) (fun _ => true) (by rw [BIG_val]; omega)
    (fun k hk _ => by
      unfold l_likeInts_L0
      simp only [lt_cast hk, if_true, idxI hk, some_bind, not_true_eq_false, if_false]
      rw [w_in (by omega) (by omega)]; rfl) (fun k hk hf => by cases hf) (by
      unfold l_likeInts_L0
      simp only [lt_cast_self, if_false])
  rcases h2 with ⟨rfl, _⟩ | ⟨k, _, _, hf, _⟩
  · rw [h1, some_bind]
  · cases hf
end Go.Vam

/- Plain law: FnKernels. -/
namespace Go.Vam
open Go Go.RowKit
set_option linter.unusedSimpArgs false
set_option linter.unusedVariables false
set_option linter.unusedSectionVars false

theorem Ker_full {p : Int} {r n : Nat} {m : List (List Int)} (hP : isP p = true) (hr0 : 1 ≤ r) (hr : r ≤ 1024) (hn : n ≤ 1024) (hm : Mat p r n m) :
    ∃ V B ld lv, i_field_kernel p m (n : Int) = some V ∧ s_l02Kernel p m = some V ∧ i_field_basis p m = some B ∧ s_l02Basis p m = some B ∧ Ech p n B ld ∧ (∀ u, Kr p n B u ↔ KerP p r n m u) ∧ Ech p n V lv ∧
      (∀ u, Kr p n V u ↔ KerP p (kerR p n B ld n).length n (kerR p n B ld n) u) := by
  have hp := isP_le hP
  obtain ⟨B, a1, b1, _, ⟨ld, hB⟩, b2⟩ := i_basis_any hP (by omega) (by omega) hm
  have hkm := kerR_mat (p := p) (by omega) n B ld n
  have hkl := kerR_len p n B ld n
  obtain ⟨V, w1, v1, hVl, ⟨lv, hV⟩, v2⟩ := i_basis_any hP (by omega) (by omega) hkm
  have hn' : n ≤ 1048000 := by omega
  have e1 := hm.1
  have e2 := (hm.row (show 0 < r by omega)).1
  have hVle := hV.le
  have hs : smallM V := smallM.of hV.mat (by omega) (by omega)
  refine ⟨V, B, ld, lv, ?_, ?_, b1, a1, hB, b2, hV, v2⟩
  · unfold i_field_kernel
    rw [b1, some_bind, i_ker_es hP hn' hB, some_bind, chk_bind (kerE_nodup hP hn' hB), i_ker_rows hP hn' hB, some_bind, v1, some_bind]
  · unfold s_l02Kernel
    rw [a1, some_bind, idxR0 (by omega), some_bind, t_ker_piv hP hn' hB, some_bind, t_ker_rows hP hn' hB e2, some_bind, w1, some_bind, s_l01Own2_eq ⟨hs.1, hs.2.1⟩, some_bind]
theorem likeR_self {m : List (List Int)} (h : szM m) : l_likeRows5 m m = some true := by
  unfold l_likeRows5
  simp only [not_true_eq_false, if_false]
  have h1 := h.1
  obtain ⟨b, h1, h2⟩ := any_loop (l_likeRows5_L0 m m) m.length (fun _ => false) (fun _ => true) (by rw [BIG_val]; omega)
    (fun k hk _ => by
      unfold l_likeRows5_L0
      have hr : (gR m k).length ≤ 1048576 := h.2 _ (by rw [← gR_get hk]; exact List.getElem_mem hk)
      simp only [lt_cast hk, if_true, idxR hk, some_bind, likeI_self hr, Bool.true_eq_false, if_false]
      rw [w_in (by omega) (by omega)]; rfl) (fun k hk hf => by cases hf) (by
      unfold l_likeRows5_L0
      simp only [lt_cast_self, if_false])
  rcases h2 with ⟨rfl, _⟩ | ⟨k, _, _, hf, _⟩
  · rw [h1, some_bind]
  · cases hf
theorem zero_vec {n : Nat} (hn : n ≤ 1048576) : l_zero5 (vecN n fun _ => (0 : Int)) = some true := by
  unfold l_zero5
  obtain ⟨b, h1, h2⟩ := any_loop (l_zero5_L0 (vecN n fun _ => (0 : Int))) n (fun _ => false) (fun _ => true) (by rw [BIG_val]; omega)
    (fun k hk _ => by
      unfold l_zero5_L0
      rw [if_pos (by rw [vecN_len]; omega), idxI (by rw [vecN_len]; exact hk), some_bind, gI_vecN _ hk]
      simp only [not_true_eq_false, if_false]
      rw [w_in (by omega) (by omega)]; rfl) (fun k hk hf => by cases hf) (by
      unfold l_zero5_L0
      rw [if_neg (by rw [vecN_len]; omega)])
  rcases h2 with ⟨rfl, _⟩ | ⟨k, _, _, hf, _⟩
  · rw [h1, some_bind]
  · cases hf
theorem spans_row {p : Int} {r c i : Nat} {m : List (List Int)} (hP : isP p = true) (hr : r ≤ 1000) (hc : c ≤ 1000) (hm : Mat p r c m) (hi : i < r) : i_field_spans p m (gR m i) = some true := by
  have hp := isP_le hP
  have hm' : Mat p (r + 1) c (m ++ [gR m i]) := Mat.append hm (mat_one (hm.row hi))
  obtain ⟨D, _, d1, _, ⟨l1, hD⟩, hDk⟩ := i_basis_any hP (by omega) (by omega) hm
  obtain ⟨D', _, d1', _, ⟨l1', hD'⟩, hDk'⟩ := i_basis_any hP (by omega) (by omega) hm'
  have hml := hm.1
  have hEq : D' = D := hD'.unique (by omega) hD fun u => by
    rw [hDk', hDk, KerP_append hml]
    constructor
    · exact fun h => h.1
    · refine fun h => ⟨h, fun j hj => ?_⟩
      have : j = 0 := by omega
      subst this
      exact h i hi
  unfold i_field_spans
  rw [i_cloneRows_eq (hm.sz (by omega) (by omega)), some_bind, chk_bind (by simp only [List.length_cons, List.length_nil]; omega), d1', some_bind, d1, some_bind, hEq]
  simp [ieq]
theorem LawKernels {c : List Int} (hc : c.length ≤ 9223372036854775807) (hb : ∀ x ∈ c, 0 ≤ x ∧ x ≤ 255) : l_FnKernels c = some true := by
  unfold l_FnKernels l_big
  rw [some_bind]
  by_cases hbig : (4096 : Int) < (c.length : Int)
  · rw [ilt_true hbig, if_pos rfl]
  rw [ilt_false hbig]
  simp only [Bool.false_eq_true, if_false]
  obtain ⟨p, m, e0, p1, p2, hT⟩ := DrawAny_eq (c := c) (by omega) hb
  rw [e0, some_bind]
  simp only []
  cases hm : isMat p m with
  | false =>
    have k1 : i_KernelBasis p m = some ([], 1) := by unfold i_KernelBasis; rw [checkM1 hT.sz, some_bind, hm]; simp
    have k2 : s_KernelBasis p m = some ([], 1) := by unfold s_KernelBasis; rw [s_l02Is_eq hT.sz, some_bind, hm]; simp
    rw [k1, some_bind, k2, some_bind]
    simp [likeR_self (m := []) ⟨by simp, by simp⟩]
  | true =>
    obtain ⟨h1, h2, h3, hP, h4, h5⟩ := isMat_sz hm
    have hp := isP_le hP
    obtain ⟨V, B, ld, lv, e1, e2, e3, e4, hB, hBk, hV, hVk⟩ := Ker_full hP h4 (by omega) (by omega) h3
    have hw := (h3.row (i := 0) (by omega)).1
    have f0 : idx m 0 = some (gR m 0) := idxR0 (by omega)
    have k1 : i_KernelBasis p m = some (V, 0) := by
      unfold i_KernelBasis
      rw [checkM1 hT.sz, some_bind, hm]
      simp only [if_true, not_true_eq_false, if_false, f0, some_bind, hw, e1]
    have k2 : s_KernelBasis p m = some (V, 0) := by
      unfold s_KernelBasis
      rw [s_l02Is_eq hT.sz, some_bind, hm]
      simp only [Bool.true_eq_false, if_false, e2, some_bind]
    have hVle := hV.le
    have hBle := hB.le
    have sV : szM V := hV.mat.sz (by omega) (by omega)
    have sB : szM B := hB.mat.sz (by omega) (by omega)
    have hmt := hm
    rw [isMat_tab] at hmt
    simp only [Bool.and_eq_true] at hmt
    have k3 : i_RankOf p m = some ((B.length : Int), 0) := by
      unfold i_RankOf i_length_LI
      rw [checkM1 hT.sz, some_bind, hm]
      simp only [if_true, not_true_eq_false, if_false, e3, some_bind]
    have k4 : i_SpanBasis p m = some (B, 0) := by
      unfold i_SpanBasis
      rw [i_IsPrime_eq, some_bind, hP]
      simp only [Bool.true_eq_false, if_false]
      rw [i_field_isTable_eq (by omega) (by omega) hT.sz, some_bind, hmt.2.2]
      simp only [Bool.not_true, some_bind, Bool.false_eq_true, if_false, e3]
    have k5 : s_SpanBasis p m = some (B, 0) := by
      unfold s_SpanBasis s_l02List
      rw [s_l01Prime_eq, some_bind, hP]
      simp only [if_true]
      rw [if_neg (by omega), s_l02Is_eq hT.sz, some_bind, hm]
      simp only [some_bind, Bool.true_eq_false, if_false, e4, s_l01Own2_eq sB]
    have hnul := nullity hP (by omega) hB hV hVk
    have hspan := (Kernel_span hB hV hVk).1
    have L0 : loop (l_FnKernels_L0 (p, m) (V, 0)) BIG 0 = some (.inl ()) := by
      obtain ⟨b, g1, g2⟩ := any_loop (l_FnKernels_L0 (p, m) (V, 0)) V.length (fun _ => false) (fun _ => true) (by rw [BIG_val]; omega)
        (fun k hk _ => by
          unfold l_FnKernels_L0
          have hv := hV.mat.row hk
          have hvl := hv.1
          have hC : apC p m (gR V k) = 0 := by unfold apC; rw [if_pos hm, if_pos ⟨hvl, hv.nums⟩]
          have hA : apV p m (gR V k) = vecN m.length fun _ => (0 : Int) := by
            unfold apV
            rw [if_pos hm, if_pos ⟨hvl, hv.nums⟩]
            refine applyv_rd (by omega) (Vec.mk' fun i hi => ⟨by omega, by omega⟩) fun i hi => ?_
            rw [gI_vecN _ hi, Int.sub_zero]
            exact (hBk _).1 (hspan k hk) i hi
          simp only [lt_cast hk, if_true, idxR hk, some_bind, i_ApplyMatrix_eq (p := p) (m := m) (v := gR V k) hT.sz (by omega), hC, hA, vecN_len, not_true_eq_false, if_false, zero_vec (n := m.length) (by omega), Bool.not_true, Bool.false_eq_true]
          rw [w_in (by omega) (by omega)]; rfl) (fun k hk hf => by cases hf) (by
          unfold l_FnKernels_L0
          simp only [lt_cast_self, if_false])
      rcases g2 with ⟨rfl, _⟩ | ⟨k, _, _, hf, _⟩
      · exact g1
      · cases hf
    have L1 : loop (l_FnKernels_L1 (p, m)) BIG 0 = some (.inl ()) := by
      obtain ⟨b, g1, g2⟩ := any_loop (l_FnKernels_L1 (p, m)) m.length (fun _ => false) (fun _ => true) (by rw [BIG_val]; omega)
        (fun k hk _ => by
          unfold l_FnKernels_L1
          have hv := h3.row hk
          have hvl := hv.1
          have hin : i_InSpan p m (gR m k) = some (true, 0) := by
            unfold i_InSpan
            rw [i_IsPrime_eq, some_bind, hP]
            simp only [Bool.true_eq_false, if_false]
            rw [i_field_isTable_eq (by omega) (by omega) hT.sz, some_bind, hmt.2.2]
            simp only [Bool.not_true, some_bind, Bool.false_eq_true, if_false]
            rw [if_neg (by omega), f0, some_bind, if_neg (by omega), i_field_is_eq (by omega) (by omega) (by omega), some_bind, hv.nums]
            simp only [Bool.not_true, some_bind, Bool.false_eq_true, if_false]
            rw [spans_row hP (by omega) (by omega) h3 hk, some_bind]
          simp only [lt_cast hk, if_true, idxR hk, some_bind, hin, not_true_eq_false, if_false, Bool.not_true, Bool.false_eq_true]
          rw [w_in (by omega) (by omega)]; rfl) (fun k hk hf => by cases hf) (by
          unfold l_FnKernels_L1
          simp only [lt_cast_self, if_false])
      rcases g2 with ⟨rfl, _⟩ | ⟨k, _, _, hf, _⟩
      · exact g1
      · cases hf
    have hsum : w64 ((B.length : Int) + (V.length : Int)) = ((gR m 0).length : Int) := by rw [w_in (by omega) (by omega)]; omega
    simp only [k1, k2, k3, k4, k5, some_bind, likeR_self sV, likeR_self sB, not_true_eq_false, if_false, Bool.not_true, Bool.false_eq_true, Bool.true_eq_false, f0, hsum, ieq_self, L0, L1]
end Go.Vam
