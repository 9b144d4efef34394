/- Plain laws: reduced rows, one put to the others at a time. -/
import Derived.Test.YtdoimfkonaeceaaPlE
namespace Go.Vam
open Go Go.RowKit
set_option linter.unusedSimpArgs false
set_option linter.unusedVariables false
set_option linter.unusedSectionVars false

theorem s_l12First_lead (v : List Int) : s_l12First v = i_lead v := rfl
/-- Rows with a one of their own, nothing ahead of it, nothing else in its column. -/
structure Ech (p : Int) (n : Nat) (B : List (List Int)) (ld : Nat → Nat) : Prop where
  mat : Mat p B.length n B
  lt : ∀ j, j < B.length → ld j < n
  one : ∀ j, j < B.length → gI (gR B j) (ld j) = 1
  pre : ∀ j, j < B.length → ∀ q, q < ld j → gI (gR B j) q = 0
  col : ∀ j, j < B.length → ∀ i, i < B.length → i ≠ j → gI (gR B i) (ld j) = 0
  srt : ∀ i j, i < j → j < B.length → ld i < ld j
theorem Ech.first {p : Int} {n : Nat} {B : List (List Int)} {ld : Nat → Nat} (h : Ech p n B ld) (hn : n ≤ 1048576) {j : Nat} (hj : j < B.length) : s_l12First (gR B j) = some (ld j : Int) := by
  have e := (h.mat.row hj).1
  obtain ⟨f, f1, _, f3, f4, f5⟩ := first_two (v := gR B j) (q := ld j) (by omega) (by have := h.lt j hj; omega) (by rw [h.one j hj]; omega)
  have : f = ld j := by
    rcases Nat.lt_or_ge f (ld j) with hlt | hge
    · exact absurd (h.pre j hj f hlt) f4
    · omega
  rw [s_l12First_lead, f3, this]
section
variable {p : Int} {n : Nat} {B : List (List Int)} {ld : Nat → Nat} (hp : 3 ≤ p) (hp2 : p ≤ 13) (hn : n ≤ 1048576) (hB : Ech p n B ld) (hBl : B.length ≤ 1048576)
include hp hp2 hn hB hBl
theorem s_l12Rest_eq {x : List Int} (hx : Vec p n x) : ∃ y, s_l12Rest p B x = some y ∧ Vec p n y ∧ (∀ j, j < B.length → gI y (ld j) = 0) ∧ ∀ u, (∀ j, j < B.length → p ∣ rd n (gR B j) u) → (p ∣ rd n y u ↔ p ∣ rd n x u) := by
  unfold s_l12Rest
  have e1 := hx.1
  rw [s_l01Own_eq (by omega), some_bind]
  obtain ⟨y, h1, h2⟩ := loop_inv (step := s_l12Rest_L0 p B) (fun s => Vec p n s.1 ∧ ∃ k : Nat, s.2 = (k : Int) ∧ k ≤ B.length ∧ (∀ j, j < k → gI s.1 (ld j) = 0) ∧ ∀ u, (∀ j, j < B.length → p ∣ rd n (gR B j) u) → (p ∣ rd n s.1 u ↔ p ∣ rd n x u)) (fun s => B.length - s.2.toNat)
    (fun y => Vec p n y ∧ (∀ j, j < B.length → gI y (ld j) = 0) ∧ ∀ u, (∀ j, j < B.length → p ∣ rd n (gR B j) u) → (p ∣ rd n y u ↔ p ∣ rd n x u)) (s := (x, 0)) ⟨hx, 0, rfl, by omega, fun j hj => by omega, fun u _ => Iff.rfl⟩ (by rw [BIG_val]; simp only []; omega) (by
      rintro ⟨v, t⟩ ⟨hv, k, rfl, hk, hz, hu⟩
      simp only [] at hv hz hu
      unfold s_l12Rest_L0
      have e2 := hv.1
      by_cases hkb : k < B.length
      · refine .inl ?_
        have hl := hB.lt k hkb
        have hc := hv.get hl
        simp only [lt_cast hkb, if_true, idxR hkb, some_bind, hB.first hn hkb, idxI (show ld k < v.length by omega)]
        by_cases h0 : gI v (ld k) = 0
        · simp only [h0, not_true_eq_false, if_false, some_bind]
          refine ⟨_, rfl, ⟨hv, k + 1, by rw [w_in (by omega) (by omega)]; rfl, by omega, fun j hj => ?_, hu⟩, ?_⟩
          · rcases Nat.lt_succ_iff_lt_or_eq.1 hj with h | h
            · exact hz j h
            · rw [h]; exact h0
          · rw [w_in (by omega) (by omega)]; simp only []; omega
        · have sc := s_l11Scale_eq hp hp2 hn hc.1 (by omega) (hB.mat.row hkb)
          have mi := s_l11Minus_eq hp hp2 hn hv (scalev_vec (p := p) (by omega) n (gR B k) (gI v (ld k)))
          simp only [h0, not_false_eq_true, if_true, sc, mi, some_bind, plusv_scalev2]
          refine ⟨_, rfl, ⟨plusv_vec (by omega) .., k + 1, by rw [w_in (by omega) (by omega)]; rfl, by omega, fun j hj => ?_, fun u hB' => ?_⟩, ?_⟩
          · rw [plusv_at (hB.lt j (by omega))]
            rcases Nat.lt_succ_iff_lt_or_eq.1 hj with h | h
            · rw [hz j h, hB.col j (by omega) k hkb (by omega), Int.mul_zero, Int.add_zero]; rfl
            · rw [h, hB.one k hkb, Int.mul_one]
              have : gI v (ld k) + gI v (ld k) * -1 = 0 := by omega
              rw [this]; rfl
          · refine Iff.trans ?_ (hu u hB')
            rw [dvd_congr (rd_plusv u)]
            exact Int.dvd_add_left (Int.dvd_mul_of_dvd_right (hB' k hkb))
          · rw [w_in (by omega) (by omega)]; simp only []; omega
      · have hkk : k = B.length := by omega
        subst hkk
        refine .inr ⟨v, ?_, hv, hz, hu⟩
        simp only [lt_cast_self, if_false])
  rw [h1, some_bind]
  exact ⟨y, rfl, h2⟩
end

/-- A row less what it has at f. -/
def lessv (p : Int) (n f : Nat) (R v : List Int) : List Int := plusv p n v R (gI v f * -1)
section
variable {p : Int} {n f : Nat} {B : List (List Int)} {R : List Int} {ld : Nat → Nat} (hp : 3 ≤ p) (hp2 : p ≤ 13) (hn : n ≤ 1048576) (hB : Ech p n B ld) (hBl : B.length ≤ 1048575) (hR : Vec p n R) (hf : f < n)
include hp hp2 hn hB hBl hR hf
theorem put_loop : ∃ o : List (List Int) × Bool, loop (s_l12Put_L0 p B (f : Int) R) BIG ([], false, 0) = some o ∧
    ((o.2 = false ∧ o.1.length = B.length ∧ (∀ j, j < B.length → ¬ f < ld j) ∧ ∀ j, j < B.length → gR o.1 j = lessv p n f R (gR B j)) ∨
     (o.2 = true ∧ o.1.length = B.length + 1 ∧ ∃ pos, pos < B.length ∧ (∀ j, j < pos → ¬ f < ld j) ∧ f < ld pos ∧ ∀ j, j < B.length + 1 → gR o.1 j = if j < pos then lessv p n f R (gR B j) else if j = pos then R else lessv p n f R (gR B (j - 1)))) := by
  have ap : ∀ (o : List (List Int)) (v : List Int) (j : Nat), gR (o ++ [v]) j = if j < o.length then gR o j else if j = o.length then v else [] := by
    intro o v j
    unfold gR
    rw [List.getD_eq_getElem?_getD, List.getElem?_append]
    by_cases h : j < o.length
    · rw [if_pos h, if_pos h, List.getD_eq_getElem?_getD]
    · rw [if_neg h, if_neg h]
      by_cases h2 : j = o.length
      · rw [if_pos h2, h2, Nat.sub_self]; rfl
      · rw [if_neg h2, List.getElem?_eq_none (by simp; omega)]; rfl
  refine loop_inv (step := s_l12Put_L0 p B (f : Int) R) (fun s => ∃ k : Nat, s.2.2 = (k : Int) ∧ k ≤ B.length ∧
      ((s.2.1 = false ∧ s.1.length = k ∧ (∀ j, j < k → ¬ f < ld j) ∧ ∀ j, j < k → gR s.1 j = lessv p n f R (gR B j)) ∨
       (s.2.1 = true ∧ s.1.length = k + 1 ∧ ∃ pos, pos < k ∧ (∀ j, j < pos → ¬ f < ld j) ∧ f < ld pos ∧ ∀ j, j < k + 1 → gR s.1 j = if j < pos then lessv p n f R (gR B j) else if j = pos then R else lessv p n f R (gR B (j - 1))))) (fun s => B.length - s.2.2.toNat) _ (s := ([], false, 0)) ⟨0, rfl, by omega, .inl ⟨rfl, rfl, fun j hj => by omega, fun j hj => by omega⟩⟩ (by rw [BIG_val]; simp only []; omega) ?_
  rintro ⟨o, b, t⟩ ⟨k, rfl, hk, hs⟩
  simp only [] at hs
  unfold s_l12Put_L0
  by_cases hkb : k < B.length
  · refine .inl ?_
    have e1 := (hB.mat.row hkb).1
    have hc := (hB.mat.row hkb).get hf
    have sc := s_l11Scale_eq hp hp2 hn hc.1 (by omega) hR
    have mi := s_l11Minus_eq hp hp2 hn (hB.mat.row hkb) (scalev_vec (p := p) (by omega) n R (gI (gR B k) f))
    have w1 : w64 ((k : Int) + 1) = ((k + 1 : Nat) : Int) := by rw [w_in (by omega) (by omega)]; rfl
    have hol : o.length ≤ k + 1 := by rcases hs with h | h <;> omega
    have ht : (scalev p n R (gI (gR B k) f)).length = n := (scalev_vec (p := p) (by omega) n R (gI (gR B k) f)).1
    simp only [lt_cast hkb, if_true, idxR hkb, some_bind, hB.first hn hkb, idxI (show f < (gR B k).length by omega), sc, mi, plusv_scalev2, w1]
    rcases hs with ⟨rfl, hl, hng, hg⟩ | ⟨rfl, hl, pos, hpos, hng, hpf, hg⟩
    · simp only [if_true, some_bind]
      by_cases hlt : f < ld k
      · rw [ilt_true (Int.ofNat_lt.2 hlt)]
        simp only [if_true]
        rw [chk_bind (by simp only [List.length_cons, List.length_nil]; omega), some_bind, chk_bind (by simp only [List.length_cons, List.length_nil, List.length_append]; omega)]
        refine ⟨_, rfl, ⟨k + 1, rfl, by omega, .inr ⟨rfl, by simp [hl], k, by omega, hng, hlt, fun j hj => ?_⟩⟩, by simp only [Int.toNat_natCast]; omega⟩
        simp only []
        rw [ap, ap, List.length_append, hl, List.length_singleton]
        by_cases h1 : j < k
        · rw [if_pos (by omega), if_pos h1, if_pos h1, hg j h1]
        · by_cases h2 : j = k
          · rw [if_pos (by omega), if_neg h1, if_pos h2, if_neg h1, if_pos h2]
          · rw [if_neg (by omega), if_pos (by omega), if_neg h1, if_neg h2, show j - 1 = k by omega]; rfl
      · rw [ilt_false (fun e => hlt (Int.ofNat_lt.1 e))]
        simp only [Bool.false_eq_true, if_false, some_bind]
        rw [chk_bind (by simp only [List.length_cons, List.length_nil]; omega)]
        refine ⟨_, rfl, ⟨k + 1, rfl, by omega, .inl ⟨rfl, by simp [hl], (fun j hj => (Nat.lt_succ_iff_lt_or_eq.1 hj).elim (hng j) (fun e => e ▸ hlt)), fun j hj => ?_⟩⟩, by simp only [Int.toNat_natCast]; omega⟩
        simp only []
        rw [ap, hl]
        by_cases h1 : j < k
        · rw [if_pos h1, hg j h1]
        · rw [if_neg h1, if_pos (by omega), show j = k by omega]; rfl
    · simp only [Bool.true_eq_false, if_false, some_bind, Bool.false_eq_true]
      rw [chk_bind (by simp only [List.length_cons, List.length_nil]; omega)]
      refine ⟨_, rfl, ⟨k + 1, rfl, by omega, .inr ⟨rfl, by simp [hl], pos, by omega, hng, hpf, fun j hj => ?_⟩⟩, by simp only [Int.toNat_natCast]; omega⟩
      simp only []
      rw [ap, hl]
      by_cases h1 : j < k + 1
      · rw [if_pos h1, hg j h1]
      · rw [if_neg h1, if_pos (by omega), if_neg (by omega), if_neg (by omega), show j - 1 = k by omega]; rfl
  · have hkk : k = B.length := by omega
    subst hkk
    refine .inr ⟨(o, b), ?_, hs⟩
    simp only [lt_cast_self, if_false]
end
end Go.Vam
