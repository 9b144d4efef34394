import Derived.Test.YtijmfifejmgeaaaPlG0
import Derived.Test.YtijmfifejmgeaaaFmG0
/- Plain laws: reduced rows, one put to the others at a time. -/
namespace Go.Vam
open Go Go.RowKit
set_option linter.unusedSimpArgs false
set_option linter.unusedVariables false
set_option linter.unusedSectionVars false

theorem s_l12First_lead (v : List Int) : s_l12First v = i_lead v := rfl
structure Ech (p : Int) (n : Nat) (B : List (List Int)) (ld : Nat → Nat) : Prop where
  mat : Mat p B.length n B
  lt : ∀ j, j < B.length → ld j < n
  one : ∀ j, j < B.length → gI (gR B j) (ld j) = 1
  pre : ∀ j, j < B.length → ∀ q, q < ld j → gI (gR B j) q = 0
  col : ∀ j, j < B.length → ∀ i, i < B.length → i ≠ j → gI (gR B i) (ld j) = 0
  srt : ∀ i j, i < j → j < B.length → ld i < ld j
theorem Ech.first {p : Int} {n : Nat} {B : List (List Int)} {ld : Nat → Nat} (h : Ech p n B ld) (hn : n ≤ 1048576) {j : Nat} (hj : j < B.length) : s_l12First (gR B j) = some (ld j : Int) := by
  have e := (h.mat.row hj).1
  obtain ⟨f, f1, _, f3, f4, f5⟩ := first_two (v := gR B j) (q := ld j) (by omega) (by have := h.lt j hj; omega) (by rw [h.one j hj]; omega)
  have : f = ld j := by
    rcases Nat.lt_or_ge f (ld j) with hlt | hge
    · exact absurd (h.pre j hj f hlt) f4
    · omega
  rw [s_l12First_lead, f3, this]
section
variable {p : Int} {n : Nat} {B : List (List Int)} {ld : Nat → Nat} (hp : 3 ≤ p) (hp2 : p ≤ 13) (hn : n ≤ 1048576) (hB : Ech p n B ld) (hBl : B.length ≤ 1048576)
include hp hp2 hn hB hBl
theorem s_l12Rest_eq {x : List Int} (hx : Vec p n x) : ∃ y, s_l12Rest p B x = some y ∧ Vec p n y ∧ (∀ j, j < B.length → gI y (ld j) = 0) ∧ ∀ u, (∀ j, j < B.length → p ∣ rd n (gR B j) u) → (p ∣ rd n y u ↔ p ∣ rd n x u) := by
  unfold s_l12Rest
  have e1 := hx.1
  rw [s_l01Own_eq (by omega), some_bind]
  obtain ⟨y, h1, h2⟩ := loop_inv (step := s_l12Rest_L0 p B) (fun s => Vec p n s.1 ∧ ∃ k : Nat, s.2 = (k : Int) ∧ k ≤ B.length ∧ (∀ j, j < k → gI s.1 (ld j) = 0) ∧ ∀ u, (∀ j, j < B.length → p ∣ rd n (gR B j) u) → (p ∣ rd n s.1 u ↔ p ∣ rd n x u)) (fun s => B.length - s.2.toNat)
    (fun y => Vec p n y ∧ (∀ j, j < B.length → gI y (ld j) = 0) ∧ ∀ u, (∀ j, j < B.length → p ∣ rd n (gR B j) u) → (p ∣ rd n y u ↔ p ∣ rd n x u)) (s := (x, 0)) ⟨hx, 0, rfl, by omega, fun j hj => by omega, fun u _ => Iff.rfl⟩ (by rw [BIG_val]; simp only []; omega) (by
      rintro ⟨v, t⟩ ⟨hv, k, rfl, hk, hz, hu⟩
      simp only [] at hv hz hu
      unfold s_l12Rest_L0
      have e2 := hv.1
      by_cases hkb : k < B.length
      · refine .inl ?_
        have hl := hB.lt k hkb
        have hc := hv.get hl
        simp only [lt_cast hkb, if_true, idxR hkb, some_bind, hB.first hn hkb, idxI (show ld k < v.length by omega)]
        by_cases h0 : gI v (ld k) = 0
        · simp only [h0, not_true_eq_false, if_false, some_bind]
          refine ⟨_, rfl, ⟨hv, k + 1, by rw [w_in (by omega) (by omega)]; rfl, by omega, fun j hj => ?_, hu⟩, ?_⟩
          · rcases Nat.lt_succ_iff_lt_or_eq.1 hj with h | h
            · exact hz j h
            · rw [h]; exact h0
          · rw [w_in (by omega) (by omega)]; simp only []; omega
        · have sc := s_l11Scale_eq hp hp2 hn hc.1 (by omega) (hB.mat.row hkb)
          have mi := s_l11Minus_eq hp hp2 hn hv (scalev_vec (p := p) (by omega) n (gR B k) (gI v (ld k)))
          simp only [h0, not_false_eq_true, if_true, sc, mi, some_bind, plusv_scalev2]
          refine ⟨_, rfl, ⟨plusv_vec (by omega) .., k + 1, by rw [w_in (by omega) (by omega)]; rfl, by omega, fun j hj => ?_, fun u hB' => ?_⟩, ?_⟩
          · rw [plusv_at (hB.lt j (by omega))]
            rcases Nat.lt_succ_iff_lt_or_eq.1 hj with h | h
            · rw [hz j h, hB.col j (by omega) k hkb (by omega), Int.mul_zero, Int.add_zero]; rfl
            · rw [h, hB.one k hkb, Int.mul_one]
              have : gI v (ld k) + gI v (ld k) * -1 = 0 := by omega
              rw [this]; rfl
          · refine Iff.trans ?_ (hu u hB')
            rw [dvd_congr (rd_plusv u)]
            exact Int.dvd_add_left (Int.dvd_mul_of_dvd_right (hB' k hkb))
          · rw [w_in (by omega) (by omega)]; simp only []; omega
      · have hkk : k = B.length := by omega
        subst hkk
        refine .inr ⟨v, ?_, hv, hz, hu⟩
        simp only [lt_cast_self, if_false])
  rw [h1, some_bind]
  exact ⟨y, rfl, h2⟩
end

def lessv (p : Int) (n f : Nat) (R v : List Int) : List Int := plusv p n v R (gI v f * -1)
section
variable {p : Int} {n f : Nat} {B : List (List Int)} {R : List Int} {ld : Nat → Nat} (hp : 3 ≤ p) (hp2 : p ≤ 13) (hn : n ≤ 1048576) (hB : Ech p n B ld) (hBl : B.length ≤ 1048575) (hR : Vec p n R) (hf : f < n)
include hp hp2 hn hB hBl hR hf
theorem put_loop : ∃ o : List (List Int) × Bool, loop (s_l12Put_L0 p B (f : Int) R) BIG ([], false, 0) = some o ∧
    ((o.2 = false ∧ o.1.length = B.length ∧ (∀ j, j < B.length → ¬ f < ld j) ∧ ∀ j, j < B.length → gR o.1 j = lessv p n f R (gR B j)) ∨
     (o.2 = true ∧ o.1.length = B.length + 1 ∧ ∃ pos, pos < B.length ∧ (∀ j, j < pos → ¬ f < ld j) ∧ f < ld pos ∧ ∀ j, j < B.length + 1 → gR o.1 j = if j < pos then lessv p n f R (gR B j) else if j = pos then R else lessv p n f R (gR B (j - 1)))) := by
  have ap : ∀ (o : List (List Int)) (v : List Int) (j : Nat), gR (o ++ [v]) j = if j < o.length then gR o j else if j = o.length then v else [] := by
    intro o v j
    unfold gR
    rw [List.getD_eq_getElem?_getD, List.getElem?_append]
    by_cases h : j < o.length
    · rw [if_pos h, if_pos h, List.getD_eq_getElem?_getD]
    · rw [if_neg h, if_neg h]
      by_cases h2 : j = o.length
      · rw [if_pos h2, h2, Nat.sub_self]; rfl
      · rw [if_neg h2, List.getElem?_eq_none (by simp; omega)]; rfl
  refine loop_inv (step := s_l12Put_L0 p B (f : Int) R) (fun s => ∃ k : Nat, s.2.2 = (k : Int) ∧ k ≤ B.length ∧
      ((s.2.1 = false ∧ s.1.length = k ∧ (∀ j, j < k → ¬ f < ld j) ∧ ∀ j, j < k → gR s.1 j = lessv p n f R (gR B j)) ∨
       (s.2.1 = true ∧ s.1.length = k + 1 ∧ ∃ pos, pos < k ∧ (∀ j, j < pos → ¬ f < ld j) ∧ f < ld pos ∧ ∀ j, j < k + 1 → gR s.1 j = if j < pos then lessv p n f R (gR B j) else if j = pos then R else lessv p n f R (gR B (j - 1))))) (fun s => B.length - s.2.2.toNat) _ (s := ([], false, 0)) ⟨0, rfl, by omega, .inl ⟨rfl, rfl, fun j hj => by omega, fun j hj => by omega⟩⟩ (by rw [BIG_val]; simp only []; omega) ?_
  rintro ⟨o, b, t⟩ ⟨k, rfl, hk, hs⟩
  simp only [] at hs
  unfold s_l12Put_L0
  by_cases hkb : k < B.length
  · refine .inl ?_
    have e1 := (hB.mat.row hkb).1
    have hc := (hB.mat.row hkb).get hf
    have sc := s_l11Scale_eq hp hp2 hn hc.1 (by omega) hR
    have mi := s_l11Minus_eq hp hp2 hn (hB.mat.row hkb) (scalev_vec (p := p) (by omega) n R (gI (gR B k) f))
    have w1 : w64 ((k : Int) + 1) = ((k + 1 : Nat) : Int) := by rw [w_in (by omega) (by omega)]; rfl
    have hol : o.length ≤ k + 1 := by rcases hs with h | h <;> omega
    have ht : (scalev p n R (gI (gR B k) f)).length = n := (scalev_vec (p := p) (by omega) n R (gI (gR B k) f)).1
    simp only [lt_cast hkb, if_true, idxR hkb, some_bind, hB.first hn hkb, idxI (show f < (gR B k).length by omega), sc, mi, plusv_scalev2, w1]
    rcases hs with ⟨rfl, hl, hng, hg⟩ | ⟨rfl, hl, pos, hpos, hng, hpf, hg⟩
    · simp only [if_true, some_bind]
      by_cases hlt : f < ld k
      · rw [ilt_true (Int.ofNat_lt.2 hlt)]
        simp only [if_true]
        rw [chk_bind (by simp only [List.length_cons, List.length_nil]; omega), some_bind, chk_bind (by simp only [List.length_cons, List.length_nil, List.length_append]; omega)]
        refine ⟨_, rfl, ⟨k + 1, rfl, by omega, .inr ⟨rfl, by simp [hl], k, by omega, hng, hlt, fun j hj => ?_⟩⟩, by simp only [Int.toNat_natCast]; omega⟩
        simp only []
        rw [ap, ap, List.length_append, hl, List.length_singleton]
        by_cases h1 : j < k
        · rw [if_pos (by omega), if_pos h1, if_pos h1, hg j h1]
        · by_cases h2 : j = k
          · rw [if_pos (by omega), if_neg h1, if_pos h2, if_neg h1, if_pos h2]
          · rw [if_neg (by omega), if_pos (by omega), if_neg h1, if_neg h2, show j - 1 = k by omega]; rfl
      · rw [ilt_false (fun e => hlt (Int.ofNat_lt.1 e))]
        simp only [Bool.false_eq_true, if_false, some_bind]
        rw [chk_bind (by simp only [List.length_cons, List.length_nil]; omega)]
        refine ⟨_, rfl, ⟨k + 1, rfl, by omega, .inl ⟨rfl, by simp [hl], (fun j hj => (Nat.lt_succ_iff_lt_or_eq.1 hj).elim (hng j) (fun e => e ▸ hlt)), fun j hj => ?_⟩⟩, by simp only [Int.toNat_natCast]; omega⟩
        simp only []
        rw [ap, hl]
        by_cases h1 : j < k
        · rw [if_pos h1, hg j h1]
        · rw [if_neg h1, if_pos (by omega), show j = k by omega]; rfl
    · simp only [Bool.true_eq_false, if_false, some_bind, Bool.false_eq_true]
      rw [chk_bind (by simp only [List.length_cons, List.length_nil]; omega)]
      refine ⟨_, rfl, ⟨k + 1, rfl, by omega, .inr ⟨rfl, by simp [hl], pos, by omega, hng, hpf, fun j hj => ?_⟩⟩, by simp only [Int.toNat_natCast]; omega⟩
      simp only []
      rw [ap, hl]
      by_cases h1 : j < k + 1
      · rw [if_pos h1, hg j h1]
      · rw [if_neg h1, if_pos (by omega), if_neg (by omega), if_neg (by omega), show j - 1 = k by omega]; rfl
  · have hkk : k = B.length := by omega
    subst hkk
    refine .inr ⟨(o, b), ?_, hs⟩
    simp only [lt_cast_self, if_false]
end
end Go.Vam

/- Plain laws: reduced rows in order; they are told by what they send to nothing. -/
namespace Go.Vam
open Go Go.RowKit
set_option linter.unusedSimpArgs false
set_option linter.unusedVariables false
set_option linter.unusedSectionVars false

theorem mod_dvd {p a b : Int} : a % p = b % p ↔ p ∣ a - b := by
  rw [Int.emod_eq_emod_iff_emod_sub_eq_zero, Int.dvd_iff_emod_eq_zero]
theorem num_eq {p a b : Int} (ha : 0 ≤ a ∧ a < p) (hb : 0 ≤ b ∧ b < p) (h : p ∣ a - b) : a = b := by
  have := mod_dvd.2 h
  rwa [mod_small ha.1 ha.2, mod_small hb.1 hb.2] at this
def Kr (p : Int) (n : Nat) (B : List (List Int)) (u : Nat → Int) : Prop := ∀ j, j < B.length → p ∣ rd n (gR B j) u
theorem lessv_at {p : Int} {n f q : Nat} {R v : List Int} (hq : q < n) : gI (lessv p n f R v) q = (gI v q + (gI v f * -1) * gI R q) % p := plusv_at hq
theorem lessv_vec {p : Int} (hp : 0 < p) (n f : Nat) (R v : List Int) : Vec p n (lessv p n f R v) := plusv_vec hp ..
theorem lessv_idle {p : Int} {n f q : Nat} {R v : List Int} (hv : Vec p n v) (hq : q < n) (h : gI R q = 0 ∨ gI v f = 0) : gI (lessv p n f R v) q = gI v q := by
  rw [lessv_at hq]
  have e := hv.get hq
  have : gI v f * -1 * gI R q = 0 := by rcases h with h | h <;> rw [h] <;> simp
  rw [this, Int.add_zero, mod_small e.1 e.2]
theorem Ech.put {p : Int} {n f pos : Nat} {B B' : List (List Int)} {R : List Int} {ld : Nat → Nat} (hp : 1 < p) (hB : Ech p n B ld) (hR : Vec p n R) (hf : f < n)
    (hR1 : gI R f = 1) (hRp : ∀ q, q < f → gI R q = 0) (hRl : ∀ j, j < B.length → gI R (ld j) = 0)
    (hpos : pos ≤ B.length) (hlo : ∀ j, j < pos → ld j < f) (hhi : ∀ j, pos ≤ j → j < B.length → f < ld j)
    (hl : B'.length = B.length + 1) (hg : ∀ j, j < B.length + 1 → gR B' j = if j < pos then lessv p n f R (gR B j) else if j = pos then R else lessv p n f R (gR B (j - 1))) :
    Ech p n B' (fun j => if j < pos then ld j else if j = pos then f else ld (j - 1)) ∧ ∀ u, Kr p n B' u ↔ Kr p n B u ∧ p ∣ rd n R u := by
  have hne : ∀ j, j < B.length → ld j ≠ f := by
    intro j hj
    by_cases h : j < pos
    · have := hlo j h; omega
    · have := hhi j (by omega) hj; omega
  have l1 : ∀ j, j < B.length → gI (lessv p n f R (gR B j)) (ld j) = 1 := by
    intro j hj
    rw [lessv_idle (hB.mat.row hj) (hB.lt j hj) (.inl (hRl j hj))]; exact hB.one j hj
  have l2 : ∀ j, j < B.length → ∀ i, i < B.length → i ≠ j → gI (lessv p n f R (gR B i)) (ld j) = 0 := by
    intro j hj i hi hij
    rw [lessv_idle (hB.mat.row hi) (hB.lt j hj) (.inl (hRl j hj))]; exact hB.col j hj i hi hij
  have l3 : ∀ j, j < B.length → ∀ q, q < ld j → gI (lessv p n f R (gR B j)) q = 0 := by
    intro j hj q hq
    have hln := hB.lt j hj
    by_cases h : f < ld j
    · rw [lessv_idle (hB.mat.row hj) (by omega) (.inr (hB.pre j hj f h))]; exact hB.pre j hj q hq
    · rw [lessv_idle (hB.mat.row hj) (by omega) (.inl (hRp q (by omega)))]; exact hB.pre j hj q hq
  have l4 : ∀ j, j < B.length → gI (lessv p n f R (gR B j)) f = 0 := by
    intro j hj
    rw [lessv_at hf, hR1]
    have : gI (gR B j) f + gI (gR B j) f * -1 * 1 = 0 := by omega
    rw [this]; rfl
  have l5 : ∀ j u, p ∣ rd n R u → (p ∣ rd n (lessv p n f R (gR B j)) u ↔ p ∣ rd n (gR B j) u) := by
    intro j u hu
    unfold lessv
    rw [dvd_congr (rd_plusv u)]
    exact Int.dvd_add_left (Int.dvd_mul_of_dvd_right hu)
  constructor
  · constructor
    · refine ⟨by omega, fun j hj => ?_⟩
      show Vec p n (gR B' j)
      rw [hg j (by omega)]
      split
      · exact lessv_vec (by omega) ..
      · split
        · exact hR
        · exact lessv_vec (by omega) ..
    · intro j hj
      try simp only []
      split
      · exact hB.lt j (by omega)
      · split
        · exact hf
        · exact hB.lt (j - 1) (by omega)
    · intro j hj
      try simp only []
      rw [hg j (by omega)]
      by_cases h1 : j < pos
      · simp only [h1, if_true]; exact l1 j (by omega)
      · by_cases h2 : j = pos
        · simp only [h1, h2, if_false, if_true, Nat.lt_irrefl]; exact hR1
        · simp only [h1, h2, if_false]; exact l1 (j - 1) (by omega)
    · intro j hj q hq
      try simp only [] at hq
      rw [hg j (by omega)]
      by_cases h1 : j < pos
      · simp only [h1, if_true] at hq ⊢; exact l3 j (by omega) q hq
      · by_cases h2 : j = pos
        · simp only [h1, h2, if_false, if_true, Nat.lt_irrefl] at hq ⊢; exact hRp q hq
        · simp only [h1, h2, if_false] at hq ⊢; exact l3 (j - 1) (by omega) q hq
    · intro j hj i hi hij
      try simp only []
      rw [hg i (by omega)]
      by_cases h1 : j < pos
      · rw [if_pos h1]
        by_cases g1 : i < pos
        · rw [if_pos g1]; exact l2 j (by omega) i (by omega) hij
        · rw [if_neg g1]
          by_cases g2 : i = pos
          · rw [if_pos g2]; exact hRl j (by omega)
          · rw [if_neg g2]; exact l2 j (by omega) (i - 1) (by omega) (by omega)
      · rw [if_neg h1]
        by_cases h2 : j = pos
        · rw [if_pos h2]
          by_cases g1 : i < pos
          · rw [if_pos g1]; exact l4 i (by omega)
          · rw [if_neg g1, if_neg (by omega)]; exact l4 (i - 1) (by omega)
        · rw [if_neg h2]
          by_cases g1 : i < pos
          · rw [if_pos g1]; exact l2 (j - 1) (by omega) i (by omega) (by omega)
          · rw [if_neg g1]
            by_cases g2 : i = pos
            · rw [if_pos g2]; exact hRl (j - 1) (by omega)
            · rw [if_neg g2]; exact l2 (j - 1) (by omega) (i - 1) (by omega) (by omega)
    · intro i j hij hj
      try simp only []
      by_cases h1 : j < pos
      · rw [if_pos h1, if_pos (by omega)]; exact hB.srt i j hij (by omega)
      · by_cases h2 : j = pos
        · rw [if_neg h1, if_pos h2, if_pos (by omega)]; exact hlo i (by omega)
        · rw [if_neg h1, if_neg h2]
          by_cases g1 : i < pos
          · rw [if_pos g1]; exact hB.srt i (j - 1) (by omega) (by omega)
          · rw [if_neg g1]
            by_cases g2 : i = pos
            · rw [if_pos g2]; exact hhi (j - 1) (by omega) (by omega)
            · rw [if_neg g2]; exact hB.srt (i - 1) (j - 1) (by omega) (by omega)
  · intro u
    constructor
    · intro h
      have hRu : p ∣ rd n R u := by
        have := h pos (by omega)
        rwa [hg pos (by omega), if_neg (by omega), if_pos rfl] at this
      refine ⟨fun j hj => ?_, hRu⟩
      by_cases h1 : j < pos
      · have := h j (by omega)
        rw [hg j (by omega), if_pos h1] at this
        exact (l5 j u hRu).1 this
      · have := h (j + 1) (by omega)
        rw [hg (j + 1) (by omega), if_neg (by omega), if_neg (by omega)] at this
        exact (l5 j u hRu).1 this
    · intro ⟨h, hRu⟩ j hj
      rw [hg j (by omega)]
      split
      · exact (l5 j u hRu).2 (h j (by omega))
      · split
        · exact hRu
        · exact (l5 (j - 1) u hRu).2 (h (j - 1) (by omega))

theorem Ech.ge {p : Int} {n : Nat} {B : List (List Int)} {ld : Nat → Nat} (h : Ech p n B ld) : ∀ j, j < B.length → j ≤ ld j := by
  intro j
  induction j with
  | zero => intro _; omega
  | succ j ih =>
    intro hj
    have h1 := ih (by omega)
    have h2 := h.srt j (j + 1) (by omega) hj
    omega
theorem Ech.le {p : Int} {n : Nat} {B : List (List Int)} {ld : Nat → Nat} (h : Ech p n B ld) : B.length ≤ n := by
  by_cases h0 : B.length = 0
  · omega
  · have h1 := h.ge (B.length - 1) (by omega)
    have h2 := h.lt (B.length - 1) (by omega)
    omega
def isLd (k : Nat) (ld : Nat → Nat) (q : Nat) : Bool := (List.range k).any fun j => decide (ld j = q)
theorem isLd_iff {k : Nat} {ld : Nat → Nat} {q : Nat} : isLd k ld q = true ↔ ∃ j, j < k ∧ ld j = q := by
  unfold isLd
  simp only [List.any_eq_true, List.mem_range, decide_eq_true_eq]
theorem isLd_not {k : Nat} {ld : Nat → Nat} {q : Nat} (h : isLd k ld q = false) {j : Nat} (hj : j < k) : ld j ≠ q := by
  intro e
  have := isLd_iff.2 ⟨j, hj, e⟩
  rw [h] at this; exact Bool.noConfusion this
def rowOf (ld : Nat → Nat) (q : Nat) : Nat → Nat
  | 0 => 0
  | k + 1 => if ld k = q then k else rowOf ld q k
theorem rowOf_spec {ld : Nat → Nat} {q : Nat} : ∀ {k : Nat}, (∃ j, j < k ∧ ld j = q) → rowOf ld q k < k ∧ ld (rowOf ld q k) = q
  | 0, ⟨j, h, _⟩ => by omega
  | k + 1, ⟨j, h, e⟩ => by
    unfold rowOf
    by_cases hk : ld k = q
    · rw [if_pos hk]; exact ⟨by omega, hk⟩
    · rw [if_neg hk]
      have hj : j < k := by
        rcases Nat.lt_succ_iff_lt_or_eq.1 h with h | h
        · exact h
        · rw [h] at e; exact absurd e hk
      have := rowOf_spec ⟨j, hj, e⟩
      exact ⟨by omega, this.2⟩
theorem Ech.inj {p : Int} {n : Nat} {B : List (List Int)} {ld : Nat → Nat} (h : Ech p n B ld) {i j : Nat} (hi : i < B.length) (hj : j < B.length) (e : ld i = ld j) : i = j := by
  rcases Nat.lt_trichotomy i j with h1 | h1 | h1
  · have := h.srt i j h1 hj; omega
  · exact h1
  · have := h.srt j i h1 hi; omega
def freeF (B : List (List Int)) (ld : Nat → Nat) (f : Nat) (q : Nat) : Int :=
  if q = f then 1 else if isLd B.length ld q = true then - gI (gR B (rowOf ld q B.length)) f else 0
theorem freeF_lead {p : Int} {n f j : Nat} {B : List (List Int)} {ld : Nat → Nat} (h : Ech p n B ld) (hf : isLd B.length ld f = false) (hj : j < B.length) : freeF B ld f (ld j) = - gI (gR B j) f := by
  unfold freeF
  have e : isLd B.length ld (ld j) = true := isLd_iff.2 ⟨j, hj, rfl⟩
  rw [if_neg (isLd_not hf hj), if_pos e]
  obtain ⟨h1, h2⟩ := rowOf_spec (isLd_iff.1 e)
  rw [h.inj h1 hj h2]
theorem freeF_other {f q : Nat} {B : List (List Int)} {ld : Nat → Nat} (hq : isLd B.length ld q = false) (hne : q ≠ f) : freeF B ld f q = 0 := by
  unfold freeF
  rw [if_neg hne, hq]; rfl
theorem sumN_two {f : Nat → Int} {n i k : Nat} (hi : i < n) (hk : k < n) (hne : i ≠ k) (h : ∀ q, q < n → q ≠ i → q ≠ k → f q = 0) : sumN f n = f i + f k := by
  have e : sumN f n = sumN (fun q => if q = i then f i else if q = i then 0 else f q) n := sumN_congr fun q _ => by
    by_cases h : q = i
    · rw [if_pos h, h]
    · rw [if_neg h, if_neg h]
  have e2 : sumN (fun q => if q = i then 0 else f q) n = f k := by
    rw [sumN_one hk (fun q hq hqk => by
      try simp only []
      by_cases h1 : q = i
      · rw [if_pos h1]
      · rw [if_neg h1]; exact h q hq h1 hqk)]
    rw [if_neg (by omega)]
  have e3 := sumN_upd (fun q => if q = i then 0 else f q) i (f i) n hi (by simp)
  have e4 : sumN f n = sumN (fun q => if q = i then f i else (fun q => if q = i then 0 else f q) q) n := e
  rw [e4, e3, e2]; omega
theorem freeF_ker {p : Int} {n f : Nat} {B : List (List Int)} {ld : Nat → Nat} (h : Ech p n B ld) (hf : isLd B.length ld f = false) (hfn : f < n) : Kr p n B (freeF B ld f) := by
  intro j hj
  have : rd n (gR B j) (freeF B ld f) = 0 := by
    unfold rd
    rw [sumN_two (i := ld j) (k := f) (h.lt j hj) hfn (isLd_not hf hj) (fun q hq h1 h2 => ?_)]
    · rw [freeF_lead h hf hj, h.one j hj]
      have : freeF B ld f f = 1 := by unfold freeF; rw [if_pos rfl]
      rw [this]; omega
    · try simp only []
      cases e : isLd B.length ld q with
      | false => rw [freeF_other e h2, Int.mul_zero]
      | true =>
        obtain ⟨i, hi, he⟩ := isLd_iff.1 e
        rw [← he, h.col i hi j hj (fun e2 => h1 (by rw [← he, e2])), Int.zero_mul]
  rw [this]; exact Int.dvd_zero p
theorem rd_tail {p : Int} {n f : Nat} {v : List Int} {u : Nat → Int} (hf : f < n) (hpre : ∀ q, q < f → gI v q = 0) (h1 : gI v f = 1) (hu : ∀ q, f < q → q < n → u q = 0) : rd n v u = u f := by
  unfold rd
  rw [sumN_one hf (fun q hq hqf => ?_)]
  · rw [h1, Int.one_mul]
  · by_cases h : q < f
    · rw [hpre q h, Int.zero_mul]
    · rw [hu q (by omega) hq, Int.mul_zero]
theorem Ech.free_iff {p : Int} {n f : Nat} {B : List (List Int)} {ld : Nat → Nat} (hp : 1 < p) (h : Ech p n B ld) (hf : f < n) : isLd B.length ld f = false ↔ ∃ u : Nat → Int, u f = 1 ∧ (∀ q, f < q → q < n → u q = 0) ∧ Kr p n B u := by
  constructor
  · intro e
    refine ⟨freeF B ld f, by unfold freeF; rw [if_pos rfl], fun q hq hqn => ?_, freeF_ker h e hf⟩
    cases e2 : isLd B.length ld q with
    | false => exact freeF_other e2 (by omega)
    | true =>
      obtain ⟨i, hi, he⟩ := isLd_iff.1 e2
      rw [← he, freeF_lead h e hi, h.pre i hi f (by omega)]; rfl
  · intro ⟨u, u1, u2, u3⟩
    cases e : isLd B.length ld f with
    | false => rfl
    | true =>
      obtain ⟨i, hi, he⟩ := isLd_iff.1 e
      have h1 := u3 i hi
      subst he
      rw [rd_tail (p := p) hf (h.pre i hi) (h.one i hi) u2, u1, Int.dvd_iff_emod_eq_zero, Int.emod_eq_of_lt (by omega) (by omega)] at h1
      omega
theorem rises_unique {a b : Nat → Nat} {k l : Nat} (ha : ∀ i j, i < j → j < k → a i < a j) (hb : ∀ i j, i < j → j < l → b i < b j) (hab : ∀ j, j < k → ∃ i, i < l ∧ b i = a j) (hba : ∀ j, j < l → ∃ i, i < k ∧ a i = b j) : k = l ∧ ∀ j, j < k → a j = b j := by
  have key : ∀ j, j < k → j < l → a j = b j := by
    intro j
    induction j using Nat.strongRecOn with
    | ind j ih =>
      intro hk hl
      obtain ⟨i, hi, e⟩ := hab j hk
      obtain ⟨i', hi', e'⟩ := hba j hl
      have h1 : j ≤ i := by
        rcases Nat.lt_or_ge i j with h | h
        · have := ih i h (by omega) hi
          have := ha i j h hk
          omega
        · exact h
      have h2 : j ≤ i' := by
        rcases Nat.lt_or_ge i' j with h | h
        · have := ih i' h hi' (by omega)
          have := hb i' j h hl
          omega
        · exact h
      have h3 : b j ≤ b i := by
        rcases Nat.lt_or_ge j i with h | h
        · have := hb j i h hi; omega
        · have : j = i := by omega
          rw [this]; exact Nat.le_refl _
      have h4 : a j ≤ a i' := by
        rcases Nat.lt_or_ge j i' with h | h
        · have := ha j i' h hi'; omega
        · have : j = i' := by omega
          rw [this]; exact Nat.le_refl _
      omega
  have hkl : k = l := by
    rcases Nat.lt_trichotomy k l with h | h | h
    · obtain ⟨i, hi, e⟩ := hba k h
      have := key i hi (by omega)
      have := hb i k hi h
      omega
    · exact h
    · obtain ⟨i, hi, e⟩ := hab l h
      have := key i (by omega) hi
      have := ha i l hi h
      omega
  exact ⟨hkl, fun j hj => key j hj (by omega)⟩
theorem Ech.unique {p : Int} {n : Nat} {B B' : List (List Int)} {ld ld' : Nat → Nat} (hp : 1 < p) (h : Ech p n B ld) (h' : Ech p n B' ld') (hk : ∀ u, Kr p n B u ↔ Kr p n B' u) : B = B' := by
  have hfr : ∀ f, f < n → isLd B.length ld f = isLd B'.length ld' f := by
    intro f hf
    have h1 := h.free_iff hp hf
    have h2 := h'.free_iff hp hf
    have h3 : isLd B.length ld f = false ↔ isLd B'.length ld' f = false := by
      rw [h1, h2]
      exact ⟨fun ⟨u, a, b, c⟩ => ⟨u, a, b, (hk u).1 c⟩, fun ⟨u, a, b, c⟩ => ⟨u, a, b, (hk u).2 c⟩⟩
    cases e1 : isLd B.length ld f <;> cases e2 : isLd B'.length ld' f <;> simp [e1, e2] at h3 ⊢
  obtain ⟨hl, hld⟩ := rises_unique (a := ld) (b := ld') (k := B.length) (l := B'.length) h.srt h'.srt
    (fun j hj => isLd_iff.1 ((hfr (ld j) (h.lt j hj)) ▸ isLd_iff.2 ⟨j, hj, rfl⟩))
    (fun j hj => isLd_iff.1 ((hfr (ld' j) (h'.lt j hj)).symm ▸ isLd_iff.2 ⟨j, hj, rfl⟩))
  have hrow : ∀ j, j < B.length → gR B j = gR B' j := by
    intro j hj
    have hj' : j < B'.length := by omega
    have a1 := h.mat.row hj
    have a2 := h'.mat.row hj'
    have ext : ∀ q, q < n → gI (gR B j) q = gI (gR B' j) q := by
      intro q hq
      cases e : isLd B.length ld q with
      | true =>
        obtain ⟨i, hi, he⟩ := isLd_iff.1 e
        by_cases hij : i = j
        · subst hij
          rw [← he, h.one i hi, hld i hi, h'.one i hj']
        · rw [← he, h.col i hi j hj (fun e => hij e.symm), hld i hi, h'.col i (by omega) j hj' (fun e => hij e.symm)]
      | false =>
        have hk1 := (hk _).1 (freeF_ker h e hq) j hj'
        have e' : isLd B'.length ld' q = false := by rw [← hfr q hq]; exact e
        have hs : rd n (gR B' j) (freeF B ld q) = gI (gR B' j) q - gI (gR B j) q := by
          unfold rd
          rw [sumN_two (i := ld j) (k := q) (h.lt j hj) hq (isLd_not e hj) (fun r hr h1 h2 => ?_)]
          · rw [freeF_lead h e hj]
            have hqq : freeF B ld q q = 1 := by unfold freeF; rw [if_pos rfl]
            rw [hqq, hld j hj, h'.one j hj']; omega
          · try simp only []
            cases er : isLd B.length ld r with
            | false => rw [freeF_other er h2, Int.mul_zero]
            | true =>
              obtain ⟨i, hi, he⟩ := isLd_iff.1 er
              rw [← he, hld i hi, h'.col i (by omega) j hj' (fun e2 => h1 (by rw [← he, e2])), Int.zero_mul]
        rw [hs] at hk1
        have b1 := a1.get hq
        have b2 := a2.get hq
        exact (num_eq b2 b1 hk1).symm
    rw [extI a1.1 (f := gI (gR B' j)) ext]
    exact (extI a2.1 (f := gI (gR B' j)) (fun q hq => rfl)).symm
  have e1 := extR (m := B) (n := B.length) (f := gR B') rfl hrow
  have e2 := extR (m := B') (n := B.length) (f := gR B') hl.symm (fun k hk => rfl)
  rw [e1]; exact e2.symm
theorem Ech.full_iff {p : Int} {n : Nat} {B : List (List Int)} {ld : Nat → Nat} (hp : 1 < p) (h : Ech p n B ld) : B.length = n ↔ ¬ ∃ u : Nat → Int, (∃ k, k < n ∧ ¬ p ∣ u k) ∧ Kr p n B u := by
  constructor
  · intro hl ⟨u, ⟨k, hk, hn⟩, hu⟩
    have hld : ∀ t j, j + t = n → j < n → ld j = j := by
      intro t
      induction t with
      | zero => intro j h1 h2; omega
      | succ t ih =>
        intro j h1 h2
        have g := h.ge j (by omega)
        by_cases hj : j + 1 < n
        · have := ih (j + 1) (by omega) hj
          have := h.srt j (j + 1) (by omega) (by omega)
          omega
        · have := h.lt j (by omega); omega
    have := hu k (by omega)
    have e : rd n (gR B k) u = u k := by
      unfold rd
      rw [sumN_one hk (fun q hq hqk => ?_)]
      · have := h.one k (by omega)
        rw [hld (n - k) k (by omega) hk] at this
        rw [this, Int.one_mul]
      · have := h.col q (by omega) k (by omega) (fun e => hqk e.symm)
        rw [hld (n - q) q (by omega) hq] at this
        rw [this, Int.zero_mul]
    rw [e] at this
    exact hn this
  · intro hno
    have hle := h.le
    rcases Nat.lt_or_ge B.length n with hlt | hge
    · exfalso
      have : ∃ f, f < n ∧ isLd B.length ld f = false := by
        by_cases hall : ∀ f, f < n → isLd B.length ld f = true
        · exfalso
          have key : ∀ f, f < n → ∃ j, j < B.length ∧ ld j = f := fun f hf => isLd_iff.1 (hall f hf)
          have hu := rises_unique (a := ld) (b := fun j => j) (k := B.length) (l := n) h.srt (fun i j hij _ => hij) (fun j hj => ⟨ld j, h.lt j hj, rfl⟩) (fun j hj => key j hj)
          omega
        · by_cases hex : ∃ f, f < n ∧ isLd B.length ld f = false
          · exact hex
          · exfalso
            apply hall
            intro f hf
            cases e : isLd B.length ld f with
            | true => rfl
            | false => exact absurd ⟨f, hf, e⟩ hex
      obtain ⟨f, hf, e⟩ := this
      refine hno ⟨freeF B ld f, ⟨f, hf, ?_⟩, freeF_ker h e hf⟩
      unfold freeF
      rw [if_pos rfl, Int.dvd_iff_emod_eq_zero, Int.emod_eq_of_lt (by omega) (by omega)]; omega
    · omega
end Go.Vam

/- Plain laws: both programs' reduced bases are reduced rows in order, and send the same to nothing. -/
namespace Go.Vam
open Go Go.RowKit
set_option linter.unusedSimpArgs false
set_option linter.unusedVariables false
set_option linter.unusedSectionVars false

structure RedK (r c : Nat) (m : List (List Int)) (d k : Nat) (piv : Nat → Nat) : Prop where
  red : Red r c m d piv
  plt : ∀ j, j < d → piv j < k
  pre : ∀ j, j < d → ∀ q, q < piv j → gI (gR m j) q = 0
  srt : ∀ i j, i < j → j < d → piv i < piv j
  low : ∀ i, d ≤ i → i < r → ∀ q, q < k → gI (gR m i) q = 0
theorem RedK.skip {r c d k : Nat} {m : List (List Int)} {piv : Nat → Nat} (h : RedK r c m d k piv) (h0 : ∀ i, d ≤ i → i < r → gI (gR m i) k = 0) : RedK r c m d (k + 1) piv :=
  ⟨h.red, fun j hj => Nat.lt_succ_of_lt (h.plt j hj), h.pre, h.srt, fun i h1 h2 q hq => (Nat.lt_succ_iff_lt_or_eq.1 hq).elim (h.low i h1 h2 q) (fun e => e ▸ h0 i h1 h2)⟩
section
variable {p : Int} {r c k d x : Nat} {m : List (List Int)} {piv : Nat → Nat} {R : List Int} (hP : isP p = true) (hm : Mat p r c m) (hk : k < c) (hd : d < r) (hdx : d ≤ x) (hx : x < r)
  (hne : gI (gR m x) k ≠ 0) (hRe : R = scalev p c (gR m x) (invp p (gI (gR m x) k)))
include hP hm hk hd hdx hx hne hRe
theorem clrm_row (i : Nat) (hi : i < r) : gR (clrm p r c k d R ((m.set x (gR m d)).set d R)) i = if i = d then R else clr p c k R (if i = x then gR m d else gR m i) := by
  have e1 := hm.1
  unfold clrm
  rw [gR_vecN _ hi]
  by_cases hid : i = d
  · rw [if_pos hid, if_pos hid]
  · rw [if_neg hid, if_neg hid, gR_set (by rw [List.length_set]; omega), if_neg (by omega), gR_set (by omega)]
    by_cases hix : i = x
    · rw [if_pos hix.symm, if_pos hix]
    · rw [if_neg (fun e => hix e.symm), if_neg hix]
theorem clrm_ker (u : Nat → Int) : KerP p r c (clrm p r c k d R ((m.set x (gR m d)).set d R)) u ↔ KerP p r c m u := by
  have hp := isP_le hP
  have e4 := (hm.row hx).get hk
  obtain ⟨i1, i2, i3⟩ := inv_facts (a := gI (gR m x) k) hP (by omega) e4.2
  have hR : p ∣ rd c R u ↔ p ∣ rd c (gR m x) u := by
    rw [hRe, dvd_congr (rd_scalev u), prime_dvd hP]
    refine ⟨fun h => h.resolve_left fun h => ?_, .inr⟩
    rw [num_dvd ⟨by omega, i2⟩] at h; omega
  have hC : ∀ v, p ∣ rd c R u → (p ∣ rd c (clr p c k R v) u ↔ p ∣ rd c v u) := by
    intro v hu
    unfold clr
    rw [dvd_congr (rd_plusv u)]
    exact Int.dvd_add_left (Int.dvd_mul_of_dvd_right hu)
  have row := clrm_row hP hm hk hd hdx hx hne hRe
  constructor
  · intro h
    have hRu : p ∣ rd c R u := by
      have := h d hd
      rwa [row d hd, if_pos rfl] at this
    intro i hi
    by_cases hix : i = x
    · rw [hix]; exact hR.1 hRu
    · by_cases hid : i = d
      · have := h x hx
        rw [row x hx, if_neg (by omega), if_pos rfl, hC _ hRu] at this
        rw [hid]; exact this
      · have := h i hi
        rw [row i hi, if_neg hid, if_neg hix, hC _ hRu] at this
        exact this
  · intro h
    have hRu := hR.2 (h x hx)
    intro i hi
    rw [row i hi]
    split
    · exact hRu
    · rw [hC _ hRu]
      split
      · exact h d hd
      · exact h i hi
theorem RedK.step (h : RedK r c m d k piv) : RedK r c (clrm p r c k d R ((m.set x (gR m d)).set d R)) (d + 1) (k + 1) (fun j => if j = d then k else piv j) := by
  have hp := isP_le hP
  have row := clrm_row hP hm hk hd hdx hx hne hRe
  have e4 := (hm.row hx).get hk
  obtain ⟨i1, i2, i3⟩ := inv_facts (a := gI (gR m x) k) hP (by omega) e4.2
  have hR0 : ∀ q, q < k → gI R q = 0 := by
    intro q hq
    rw [hRe]; unfold scalev
    rw [gI_vecN _ (by omega), h.low x hdx hx q hq]; simp
  have hent : ∀ v q, q < k → gI v q = 0 → gI (clr p c k R v) q = 0 := by
    intro v q hq hv
    unfold clr plusv
    rw [gI_vecN _ (by omega), hv, hR0 q hq]; simp
  refine ⟨h.red.step hP hm hk hd hdx hx hne hRe, fun j hj => ?_, fun j hj q hq => ?_, fun i j hij hj => ?_, fun i h1 h2 q hq => ?_⟩
  · try simp only []
    split
    · omega
    · have := h.plt j (by omega); omega
  · try simp only [] at hq
    rw [row j (by omega)]
    by_cases hjd : j = d
    · rw [if_pos hjd] at hq ⊢; exact hR0 q hq
    · rw [if_neg hjd] at hq ⊢
      have h3 := h.plt j (by omega)
      rw [if_neg (by omega)]
      exact hent _ q (by omega) (h.pre j (by omega) q hq)
  · try simp only []
    rw [if_neg (show ¬ i = d by omega)]
    split
    · exact h.plt i (by omega)
    · exact h.srt i j hij (by omega)
  · rw [row i h2, if_neg (by omega)]
    by_cases hqk : q < k
    · refine hent _ q hqk ?_
      split
      · exact h.low d (Nat.le_refl _) hd q hqk
      · exact h.low i (by omega) h2 q hqk
    · have hqe : q = k := by omega
      subst hqe
      have hRk : gI R q = 1 := by rw [hRe]; unfold scalev; rw [gI_vecN _ hk, i3]
      unfold clr plusv
      rw [gI_vecN _ hk, hRk, Int.mul_one]
      generalize gI (if i = x then gR m d else gR m i) q = e
      rw [Int.add_emod, Int.emod_emod_of_dvd _ (Int.dvd_refl p), ← Int.add_emod]
      have : e + (p - e) = p := by omega
      rw [this, Int.emod_self]
end
section
variable {p : Int} {r c : Nat} (hP : isP p = true) (hr0 : 0 < r) (hr : r ≤ 1048576) (hc : c ≤ 1048576)
include hP hr0 hr hc
theorem basis_two2 {m : List (List Int)} (hm : Mat p r c m) :
    ∃ b, loop (s_l02Basis_L0 p) BIG (m, 0, 0) = some b ∧ loop (i_field_basis_L0 p) BIG (m, 0, 0) = some b ∧ (Mat p r c b.1 ∧ (∀ u, KerP p r c b.1 u ↔ KerP p r c m u) ∧ ∃ d k : Nat, b.2 = (d : Int) ∧ d ≤ r ∧ (d < r → k = c) ∧ k ≤ c ∧ ∃ piv, RedK r c b.1 d k piv) := by
  have hp := isP_le hP
  generalize hM0 : m = M0
  rw [hM0] at hm
  refine loop_two' (fun s => Mat p r c s.1 ∧ (∀ u, KerP p r c s.1 u ↔ KerP p r c M0 u) ∧ ∃ d k : Nat, s.2 = ((d : Int), (k : Int)) ∧ d ≤ r ∧ k ≤ c ∧ ∃ piv, RedK r c s.1 d k piv) (fun s => c - s.2.2.toNat) _ ⟨hm, fun _ => Iff.rfl, 0, 0, rfl, by omega, by omega, fun _ => 0, ⟨fun j hj => by omega, fun j hj => by omega, fun j hj => by omega, fun i j _ hj => by omega, fun i _ _ q hq => by omega⟩⟩ (by rw [BIG_val]; simp only []; omega) ?_
  rintro ⟨m, t⟩ ⟨hm, hker, d, k, rfl, hd, hk, piv, hred⟩
  try simp only [] at hm hred hker
  have e1 := hm.1
  have e2 := (hm.row hr0).1
  by_cases hkc : k < c
  · by_cases hdr : d < r
    · refine .inl ?_
      obtain ⟨b, h1, x, rfl, h2, h3, h4, h0⟩ := find_eq2 hm (k := k) (s := d) hr hkc hd
      have l1 : s_l02Basis_L1 (m, (d : Int), (k : Int)) = findStep m (k : Int) := rfl
      have l2 : i_field_basis_L1 (m, (d : Int), (k : Int)) = findStep m (k : Int) := rfl
      unfold s_l02Basis_L0 i_field_basis_L0
      simp only [show (0 : Int) < (m.length : Int) by omega, if_true, idxR0 (show 0 < m.length by omega), some_bind, show (k : Int) < ((gR m 0).length : Int) by omega, ilt_true (show (k : Int) < ((gR m 0).length : Int) by omega), ilt_true (show (d : Int) < (m.length : Int) by omega), l1, l2, h1]
      by_cases hx : x = r
      · have hx' : (x : Int) = (m.length : Int) := by omega
        simp only [hx', if_true, some_bind]
        refine ⟨_, rfl, rfl, ⟨hm, hker, d, k + 1, ?_, hd, by omega, piv, hred.skip fun i hi1 hi2 => h0 i hi1 (by omega)⟩, ?_⟩
        · rw [w_in (by omega) (by omega)]; rfl
        · rw [w_in (by omega) (by omega)]; simp only []; omega
      · have hx' : ¬ (x : Int) = (m.length : Int) := by omega
        have hxr : x < r := by omega
        have hne := h4 hxr
        have e3 := (hm.row hxr).1
        have e4 := (hm.row hxr).get hkc
        have e5 := (hm.row hdr).1
        obtain ⟨i1, i2, i3⟩ := inv_facts (a := gI (gR m x) k) hP (by omega) e4.2
        have f1 := s_l01Inv_eq (a := gI (gR m x) k) hP (by omega) e4.2
        have f2 := i_field_inv_eq (a := gI (gR m x) k) hP (by omega) e4.2
        have f3 := s_l02Scale_eq (p := p) (n := c) (a := gR m x) (k := invp p (gI (gR m x) k)) (by omega) (by omega) hc (by omega) (by omega) (hm.row hxr)
        have f4 := i_field_scaled_eq (p := p) (n := c) (a := gR m x) (k := invp p (gI (gR m x) k)) (by omega) (by omega) hc (by omega) (hm.row hxr)
        have hV := scalev_vec (p := p) (by omega) c (gR m x) (invp p (gI (gR m x) k))
        generalize hVe : scalev p c (gR m x) (invp p (gI (gR m x) k)) = V at f3 f4 hV
        have hrs := hred.step hP hm hkc hdr h2 hxr hne hVe.symm
        have hks := fun u => (clrm_ker hP hm hkc hdr h2 hxr hne hVe.symm u).trans (hker u)
        have g1 : gR ((m.set d (gR m x)).set x (gR m d)) d = gR m x := by
          rw [gR_set (by rw [List.length_set]; omega)]
          split
          · rename_i h; rw [h]
          · rw [gR_set (by omega), if_pos rfl]
        have g2 : ((m.set d (gR m x)).set x (gR m d)).set d V = (m.set x (gR m d)).set d V := by
          by_cases hxd : d = x
          · subst hxd; simp [List.set_set]
          · rw [List.set_comm _ _ hxd, List.set_set]
        have hM := (hm.set hxr (hm.row hdr)).set hdr hV
        have g3 : gR ((m.set x (gR m d)).set d V) d = V := by rw [gR_set (by rw [List.length_set]; omega), if_pos rfl]
        obtain ⟨y1, y2⟩ := basis_clear (p := p) (r := r) (c := c) (l := (m.set d (gR m x)).set x (gR m d)) (d := d) (k := k) hP hr hc hkc hdr m hV (by simp [e1]) hM g3
        simp only [hx', if_false, idxR (show x < m.length by omega), idxR (show d < m.length by omega), some_bind, idxI (show k < (gR m x).length by omega), f1, f2, f3, f4, Int.toNat_natCast,
          idxR (show d < (m.set x (gR m d)).length by rw [List.length_set]; omega), idxR (show x < (m.set d (gR m x)).length by rw [List.length_set]; omega), idxR (show d < ((m.set d (gR m x)).set x (gR m d)).length by rw [List.length_set, List.length_set]; omega), g1, g2, y1, y2]
        refine ⟨_, rfl, rfl, ⟨clrm_mat (by omega) hV, hks, d + 1, k + 1, ?_, by omega, by omega, _, hrs⟩, ?_⟩
        · rw [w_in (by omega) (by omega), w_in (by omega) (by omega)]; rfl
        · rw [w_in (by omega) (by omega), w_in (by omega) (by omega)]; simp only []; omega
    · have hdd : d = r := by omega
      subst hdd
      refine .inr ⟨(m, (d : Int)), fun n hn => basis_idle hr0 hr hc hm n k hk (by simpa using hn), ?_, hm, hker, d, k, rfl, by omega, fun h => by omega, hk, piv, hred⟩
      unfold i_field_basis_L0
      simp only [show (0 : Int) < (m.length : Int) by omega, if_true, idxR0 (show 0 < m.length by omega), some_bind, show (k : Int) < ((gR m 0).length : Int) by omega, ilt_false (show ¬ (d : Int) < (m.length : Int) by omega), Bool.false_eq_true, if_false]
  · refine .inr ⟨(m, (d : Int)), fun n hn => ?_, ?_, hm, hker, d, k, rfl, by omega, fun _ => by omega, hk, piv, hred⟩
    · cases n with
      | zero => omega
      | succ n =>
        rw [loop_succ]
        have : s_l02Basis_L0 p (m, (d : Int), (k : Int)) = some (.inr (m, (d : Int))) := by
          unfold s_l02Basis_L0
          simp only [show (0 : Int) < (m.length : Int) by omega, if_true, idxR0 (show 0 < m.length by omega), some_bind, ilt_false (show ¬ (k : Int) < ((gR m 0).length : Int) by omega), Bool.false_eq_true, if_false]
        rw [this]
    · unfold i_field_basis_L0
      simp only [show (0 : Int) < (m.length : Int) by omega, if_true, idxR0 (show 0 < m.length by omega), some_bind, show ¬ (k : Int) < ((gR m 0).length : Int) by omega, Bool.false_eq_true, if_false]

theorem Basis_full {m : List (List Int)} (hm : Mat p r c m) : ∃ b, s_l02Basis p m = some b ∧ i_field_basis p m = some b ∧ b.length ≤ r ∧ (∃ ld, Ech p c b ld) ∧ ∀ u, Kr p c b u ↔ KerP p r c m u := by
  have hz := hm.sz hr hc
  obtain ⟨b, h1, h2, h3, hk, d, k, h4, h5, h7, h8, piv, h6⟩ := basis_two2 hP hr0 hr hc hm
  have hl := h3.1
  have hg : ∀ i, i < d → gR (b.1.take d) i = gR b.1 i := by
    intro i hi
    unfold gR
    rw [List.getD_eq_getElem?_getD, List.getD_eq_getElem?_getD, List.getElem?_take_of_lt hi]
  have hd : (b.1.take d).length = d := by rw [List.length_take]; omega
  refine ⟨b.1.take d, ?_, ?_, by omega, ⟨piv, ?_⟩, fun u => ?_⟩
  · unfold s_l02Basis
    rw [s_l01Own2_eq hz, some_bind, h1, some_bind, h4, chk_bind (by omega)]; rfl
  · unfold i_field_basis
    rw [i_cloneRows_eq hz, some_bind, h2, some_bind, h4, chk_bind (by omega)]; rfl
  · constructor
    · rw [hd]
      refine ⟨hd, fun i hi => ?_⟩
      rw [hg i hi]
      exact h3.2 i (by omega)
    · rw [hd]; exact fun j hj => (h6.red j hj).1
    · rw [hd]; intro j hj; rw [hg j hj]; exact (h6.red j hj).2.1
    · rw [hd]; intro j hj q hq; rw [hg j hj]; exact h6.pre j hj q hq
    · rw [hd]; intro j hj i hi hij; rw [hg i hi]; exact (h6.red j hj).2.2 i (by omega) hij
    · rw [hd]; exact h6.srt
  · rw [← hk u]
    unfold Kr KerP
    rw [hd]
    constructor
    · intro h i hi
      by_cases hid : i < d
      · have := h i hid; rwa [hg i hid] at this
      · have hkc := h7 (by omega)
        have : rd c (gR b.1 i) u = 0 := by
          unfold rd
          rw [sumN_congr (g := fun _ => 0) (fun q hq => by rw [h6.low i (by omega) hi q (by omega), Int.zero_mul])]
          exact sumN_zero c
        rw [this]; exact Int.dvd_zero p
    · intro h i hi
      rw [hg i hi]; exact h i (by omega)
end
end Go.Vam

/- Plain laws: rows reduced one at a time; IsAutomorphism. -/
namespace Go.Vam
open Go Go.RowKit
set_option linter.unusedSimpArgs false
set_option linter.unusedVariables false
set_option linter.unusedSectionVars false

theorem first_some {v : List Int} (hv : v.length ≤ 1048576) : (i_lead v = some (v.length : Int) ∧ ∀ k, k < v.length → gI v k = 0) ∨ ∃ f : Nat, f < v.length ∧ i_lead v = some (f : Int) ∧ gI v f ≠ 0 ∧ ∀ j, j < f → gI v j = 0 := by
  by_cases h : ∃ q, q < v.length ∧ gI v q ≠ 0
  · obtain ⟨q, hq, hne⟩ := h
    obtain ⟨f, f1, f2, f3, f4, f5⟩ := first_two hv hq hne
    exact .inr ⟨f, by omega, f3, f4, f5⟩
  · have h0 : ∀ k, k < v.length → gI v k = 0 := fun k hk => by
      by_cases e : gI v k = 0
      · exact e
      · exact absurd ⟨k, hk, e⟩ h
    exact .inl ⟨lead_zero hv h0, h0⟩
section
variable {p : Int} {n : Nat} (hP : isP p = true) (hn : n ≤ 1048000)
include hP hn
theorem s_l12Put_eq {B : List (List Int)} {ld : Nat → Nat} {x : List Int} (hB : Ech p n B ld) (hx : Vec p n x) :
    ∃ B' ld', s_l12Put p B x = some B' ∧ Ech p n B' ld' ∧ ∀ u, Kr p n B' u ↔ Kr p n B u ∧ p ∣ rd n x u := by
  have hp := isP_le hP
  have hle := hB.le
  obtain ⟨y, y1, y2, y3, y4⟩ := s_l12Rest_eq hp.1 hp.2 (by omega) hB (by omega) hx
  have yl := y2.1
  unfold s_l12Put
  rw [y1, some_bind]
  rcases first_some (v := y) (by omega) with ⟨h1, h2⟩ | ⟨f, f1, f2, f3, f4⟩
  · rw [s_l12First_lead, h1, some_bind, if_pos rfl]
    refine ⟨B, ld, rfl, hB, fun u => ⟨fun h => ⟨h, (y4 u h).1 ?_⟩, fun h => h.1⟩⟩
    have : rd n y u = 0 := by
      unfold rd
      rw [sumN_congr (g := fun _ => 0) (fun q hq => by rw [h2 q (by omega), Int.zero_mul])]
      exact sumN_zero n
    rw [this]; exact Int.dvd_zero p
  · have hfn : f < n := by omega
    have e4 := y2.get hfn
    obtain ⟨i1, i2, i3⟩ := inv_facts (a := gI y f) hP (by omega) e4.2
    have g1 := s_l01Inv_eq (a := gI y f) hP (by omega) e4.2
    have g2 := s_l11Scale_eq (p := p) (n := n) (a := y) (k := invp p (gI y f)) hp.1 hp.2 (by omega) (by omega) (by omega) y2
    have hR := scalev_vec (p := p) (by omega) n y (invp p (gI y f))
    have hRat : ∀ q, q < n → gI (scalev p n y (invp p (gI y f))) q = gI y q * invp p (gI y f) % p := by
      intro q hq; unfold scalev; rw [gI_vecN _ hq]
    have hRu : ∀ u, p ∣ rd n (scalev p n y (invp p (gI y f))) u ↔ p ∣ rd n y u := by
      intro u
      rw [dvd_congr (rd_scalev u), prime_dvd hP]
      refine ⟨fun h => h.resolve_left fun h => ?_, .inr⟩
      rw [num_dvd ⟨by omega, i2⟩] at h; omega
    generalize hRe : scalev p n y (invp p (gI y f)) = R at g2 hR hRat hRu
    have hR1 : gI R f = 1 := by rw [hRat f hfn, i3]
    have hR0 : ∀ q, q < n → gI y q = 0 → gI R q = 0 := fun q hq h => by rw [hRat q hq, h]; simp
    obtain ⟨o, o1, o2⟩ := put_loop hp.1 hp.2 (by omega) hB (by omega) hR hfn
    rw [s_l12First_lead, f2, some_bind, if_neg (by omega), idxI (by omega), some_bind, g1, some_bind, g2, some_bind, o1, some_bind]
    have fin : ∀ (B' : List (List Int)) (pos : Nat), pos ≤ B.length → (∀ j, j < pos → ¬ f < ld j) → (∀ j, pos ≤ j → j < B.length → f < ld j) → B'.length = B.length + 1 →
        (∀ j, j < B.length + 1 → gR B' j = if j < pos then lessv p n f R (gR B j) else if j = pos then R else lessv p n f R (gR B (j - 1))) →
        ∃ B'' ld', some B' = some B'' ∧ Ech p n B'' ld' ∧ ∀ u, Kr p n B'' u ↔ Kr p n B u ∧ p ∣ rd n x u := by
      intro B' pos hpos hlo hhi hl hg
      obtain ⟨q1, q2⟩ := hB.put (by omega) hR hfn hR1 (fun q hq => hR0 q (by omega) (f4 q hq)) (fun j hj => hR0 _ (hB.lt j hj) (y3 j hj)) hpos
        (fun j hj => by
          have h1 := hlo j hj
          have h2 : ld j ≠ f := fun e => f3 (by have := y3 j (by omega); rwa [e] at this)
          omega) hhi hl hg
      refine ⟨B', _, rfl, q1, fun u => ?_⟩
      rw [q2 u]
      constructor
      · intro ⟨a, b⟩
        exact ⟨a, (y4 u a).1 ((hRu u).1 b)⟩
      · intro ⟨a, b⟩
        exact ⟨a, (hRu u).2 ((y4 u a).2 b)⟩
    rcases o2 with ⟨h1, h2, h3, h4⟩ | ⟨h1, h2, pos, h3, h4, h5, h6⟩
    · simp only [h1, if_true]
      rw [chk_bind (by simp only [List.length_cons, List.length_nil]; omega), some_bind]
      refine fin _ B.length (Nat.le_refl _) h3 (fun j h1 h2 => by omega) (by simp [h2]) fun j hj => ?_
      unfold gR
      rw [List.getD_eq_getElem?_getD, List.getElem?_append]
      by_cases hjl : j < B.length
      · rw [if_pos (by omega), if_pos hjl]
        have := h4 j hjl
        unfold gR at this
        rw [← this, List.getD_eq_getElem?_getD]
      · have hjb : j = B.length := by omega
        rw [if_neg (by omega), if_neg hjl, if_pos hjb, hjb, h2, Nat.sub_self]; rfl
    · simp only [h1, Bool.true_eq_false, if_false]
      rw [some_bind]
      refine fin _ pos (by omega) h4 (fun j g1 g2 => ?_) h2 h6
      rcases Nat.lt_or_ge pos j with g | g
      · have := hB.srt pos j g g2; omega
      · have : j = pos := by omega
        rw [this]; exact h5
theorem s_l12Reduced_eq {r : Nat} {m : List (List Int)} (hr : r ≤ 1048576) (hm : Mat p r n m) : ∃ B ld, s_l12Reduced p m = some B ∧ Ech p n B ld ∧ ∀ u, Kr p n B u ↔ KerP p r n m u := by
  have e1 := hm.1
  unfold s_l12Reduced
  obtain ⟨B, h1, ld, h2, h3⟩ := loop_inv (step := s_l12Reduced_L0 p m) (fun s => ∃ k : Nat, s.2 = (k : Int) ∧ k ≤ r ∧ ∃ ld, Ech p n s.1 ld ∧ ∀ u, Kr p n s.1 u ↔ KerP p k n m u) (fun s => r - s.2.toNat)
    (fun B => ∃ ld, Ech p n B ld ∧ ∀ u, Kr p n B u ↔ KerP p r n m u) (s := ([], 0)) ⟨0, rfl, by omega, fun _ => 0, ⟨⟨rfl, fun i hi => by simp at hi⟩, fun j hj => by simp at hj, fun j hj => by simp at hj, fun j hj => by simp at hj, fun j hj => by simp at hj, fun i j _ hj => by simp at hj⟩, fun u => ⟨fun _ i hi => by omega, fun _ j hj => by simp at hj⟩⟩ (by rw [BIG_val]; simp only []; omega) (by
      rintro ⟨B, t⟩ ⟨k, rfl, hk, ld, hB, hu⟩
      try simp only [] at hB hu
      unfold s_l12Reduced_L0
      by_cases hkr : k < r
      · obtain ⟨B', ld', b1, b2, b3⟩ := s_l12Put_eq hP hn hB (hm.row hkr)
        refine .inl ⟨(B', ((k + 1 : Nat) : Int)), ?_, ⟨k + 1, rfl, by omega, ld', b2, fun u => ?_⟩, by simp only [Int.toNat_natCast]; omega⟩
        · try simp only []
          rw [if_pos (by omega), idxR (by omega), some_bind, b1, some_bind, w_in (by omega) (by omega)]; rfl
        · rw [b3 u, hu u]
          constructor
          · intro ⟨a, b⟩ i hi
            rcases Nat.lt_succ_iff_lt_or_eq.1 hi with h | h
            · exact a i h
            · rw [h]; exact b
          · intro h
            exact ⟨fun i hi => h i (by omega), h k (by omega)⟩
      · have hkk : k = r := by omega
        subst hkk
        refine .inr ⟨B, ?_, ld, hB, hu⟩
        try simp only []
        rw [if_neg (by omega)])
  rw [h1, some_bind]
  exact ⟨B, ld, rfl, h2, h3⟩
end

section
variable {p : Int} {w : List Int} {m : List (List Int)} (hP : isP p = true) (hl : w.length ≤ 4) (hw : Vec p w.length w) (hm : Mat p (2 ^ w.length) (2 ^ w.length) m)
include hP hl hw hm
end
end Go.Vam

/- Plain laws: kernels; both programs make the same reduced basis of what a table sends to nothing. -/
namespace Go.Vam
open Go Go.RowKit
set_option linter.unusedSimpArgs false
set_option linter.unusedVariables false
set_option linter.unusedSectionVars false

theorem basis_nil (p : Int) : s_l02Basis p [] = some [] ∧ i_field_basis p [] = some [] := by
  constructor
  · unfold s_l02Basis
    rw [s_l01Own2_eq ⟨by simp, by simp⟩, some_bind]
    have : loop (s_l02Basis_L0 p) BIG ([], 0, 0) = some ([], 0) := by
      rw [show BIG = (BIG - 1) + 1 from rfl, loop_succ]
      have : s_l02Basis_L0 p ([], 0, 0) = some (.inr ([], 0)) := by
        unfold s_l02Basis_L0
        simp
      rw [this]
    rw [this, some_bind]
    simp [chk]
  · unfold i_field_basis
    rw [i_cloneRows_eq ⟨by simp, by simp⟩, some_bind]
    have : loop (i_field_basis_L0 p) BIG ([], 0, 0) = some ([], 0) := by
      rw [show BIG = (BIG - 1) + 1 from rfl, loop_succ]
      have : i_field_basis_L0 p ([], 0, 0) = some (.inr ([], 0)) := by
        unfold i_field_basis_L0
        simp
      rw [this]
    rw [this, some_bind]
    simp [chk]
theorem Ech.nil (p : Int) (n : Nat) : Ech p n [] (fun _ => 0) :=
  ⟨⟨rfl, fun i hi => by simp at hi⟩, fun j hj => by simp at hj, fun j hj => by simp at hj, fun j hj => by simp at hj, fun j hj => by simp at hj, fun i j _ hj => by simp at hj⟩
theorem i_basis_any {p : Int} {r c : Nat} {m : List (List Int)} (hP : isP p = true) (hr : r ≤ 1048576) (hc : c ≤ 1048576) (hm : Mat p r c m) :
    ∃ b, s_l02Basis p m = some b ∧ i_field_basis p m = some b ∧ b.length ≤ r ∧ (∃ ld, Ech p c b ld) ∧ ∀ u, Kr p c b u ↔ KerP p r c m u := by
  by_cases h0 : r = 0
  · subst h0
    have : m = [] := List.eq_nil_of_length_eq_zero hm.1
    subst this
    exact ⟨[], (basis_nil p).1, (basis_nil p).2, by simp, ⟨_, Ech.nil p c⟩, fun u => ⟨fun _ i hi => by omega, fun _ j hj => by simp at hj⟩⟩
  · exact Basis_full hP (by omega) hr hc hm

def freeV (p : Int) (n : Nat) (B : List (List Int)) (ld : Nat → Nat) (f : Nat) : List Int := vecN n fun q => freeF B ld f q % p
theorem freeV_vec {p : Int} (hp : 0 < p) (n : Nat) (B : List (List Int)) (ld : Nat → Nat) (f : Nat) : Vec p n (freeV p n B ld f) := Vec.mk' fun _ _ => mod_num hp
def freeL (n : Nat) (B : List (List Int)) (ld : Nat → Nat) (k : Nat) : List Nat := (List.range k).filter fun f => !isLd B.length ld f
def kerR (p : Int) (n : Nat) (B : List (List Int)) (ld : Nat → Nat) (k : Nat) : List (List Int) := (freeL n B ld k).map (freeV p n B ld)
theorem kerR_lead {p : Int} {n : Nat} {B : List (List Int)} {ld : Nat → Nat} {k : Nat} (h : isLd B.length ld k = true) : kerR p n B ld (k + 1) = kerR p n B ld k := by
  unfold kerR freeL
  rw [List.range_succ, List.filter_append]
  simp [h]
theorem kerR_free {p : Int} {n : Nat} {B : List (List Int)} {ld : Nat → Nat} {k : Nat} (h : isLd B.length ld k = false) : kerR p n B ld (k + 1) = kerR p n B ld k ++ [freeV p n B ld k] := by
  unfold kerR freeL
  rw [List.range_succ, List.filter_append]
  simp [h]
theorem kerR_len (p : Int) (n : Nat) (B : List (List Int)) (ld : Nat → Nat) (k : Nat) : (kerR p n B ld k).length ≤ k := by
  unfold kerR freeL
  rw [List.length_map]
  exact Nat.le_trans (List.length_filter_le _ _) (by simp)
theorem kerR_mat {p : Int} (hp : 0 < p) (n : Nat) (B : List (List Int)) (ld : Nat → Nat) (k : Nat) : Mat p (kerR p n B ld k).length n (kerR p n B ld k) := by
  have hm : ∀ r ∈ kerR p n B ld k, Vec p n r := by
    unfold kerR
    intro r hr
    obtain ⟨f, _, rfl⟩ := List.mem_map.1 hr
    exact freeV_vec hp ..
  exact ⟨rfl, fun i hi => hm _ (by rw [← gR_get hi]; exact List.getElem_mem hi)⟩
theorem ker_loop {p : Int} {n : Nat} {B : List (List Int)} {ld : Nat → Nat} {step : List (List Int) × Int → Option ((List (List Int) × Int) ⊕ List (List Int))} (hn : n ≤ 1048576)
    (hs : ∀ k, k < n → ∀ out : List (List Int), out.length ≤ k → step (out, (k : Int)) = some (.inl (if isLd B.length ld k = true then out else out ++ [freeV p n B ld k], ((k + 1 : Nat) : Int))))
    (he : ∀ out, step (out, (n : Int)) = some (.inr out)) : loop step BIG ([], 0) = some (kerR p n B ld n) := by
  refine loop_for (fun k => (kerR p n B ld k, (k : Int))) n (by rw [BIG_val]; omega) rfl (fun k hk => ?_) (he _)
  rw [hs k hk _ (kerR_len ..)]
  cases h : isLd B.length ld k with
  | true => rw [kerR_lead h]; rfl
  | false => rw [kerR_free h]; rfl

section
variable {p : Int} {n : Nat} {B : List (List Int)} {ld : Nat → Nat} (hP : isP p = true) (hn : n ≤ 1048000) (hB : Ech p n B ld)
include hP hn hB
theorem free_num {j f : Nat} (hj : j < B.length) (hf : f < n) : s_l01Mod p (w64 (0 - gI (gR B j) f)) = some ((0 - gI (gR B j) f) % p) ∧ i_field_num p (w64 (0 - gI (gR B j) f)) = some ((0 - gI (gR B j) f) % p) := by
  have hp := isP_le hP
  have e := (hB.mat.row hj).get hf
  have w : w64 (0 - gI (gR B j) f) = 0 - gI (gR B j) f := w_in (by omega) (by omega)
  rw [w]
  exact ⟨s_l01Mod_eq (by omega) (by omega) (by omega) (by omega), i_field_num_eq (by omega) (by omega) (by omega) (by omega)⟩
/-! the reference -/
theorem s_ker_piv : loop (s_l12Kernel_L0 B) BIG ([], 0) = some (vecN B.length fun j => (ld j : Int)) := by
  have hle := hB.le
  refine map_loop _ B.length (fun j => (ld j : Int)) (by rw [BIG_val]; omega) (fun k hk out ho => ?_) (fun out ho => ?_)
  · unfold s_l12Kernel_L0
    simp only [lt_cast hk, if_true]
    rw [idxR hk, some_bind, hB.first (by omega) hk, some_bind, chk_bind (by simp only [List.length_cons, List.length_nil]; omega), w_in (by omega) (by omega)]; rfl
  · unfold s_l12Kernel_L0
    simp only [lt_cast_self, if_false]
theorem s_has_piv (f : Nat) : s_l01Has (vecN B.length fun j => (ld j : Int)) (f : Int) = some (isLd B.length ld f) := by
  have hle := hB.le
  unfold s_l01Has s_l01Index
  obtain ⟨b, h1, h2⟩ := any_loop (s_l01Index_L0 (vecN B.length fun j => (ld j : Int)) (f : Int)) B.length (fun k => decide (ld k = f)) (fun k => (k : Int)) (by rw [BIG_val]; omega)
    (fun k hk hf => by
      unfold s_l01Index_L0
      rw [if_pos (by rw [vecN_len]; omega), idxI (by rw [vecN_len]; exact hk), some_bind, gI_vecN _ hk, if_neg (by simp at hf; omega), w_in (by omega) (by omega)]; rfl)
    (fun k hk hf => by
      unfold s_l01Index_L0
      rw [if_pos (by rw [vecN_len]; omega), idxI (by rw [vecN_len]; exact hk), some_bind, gI_vecN _ hk, if_pos (by simp at hf; omega)])
    (by
      unfold s_l01Index_L0
      rw [if_neg (by rw [vecN_len]; omega)])
  rw [h1, some_bind]
  unfold isLd
  rcases h2 with ⟨rfl, h3⟩ | ⟨k, _, rfl, _, h3, _⟩
  · rw [h3]; rfl
  · rw [h3]
    simp [ile]
theorem s_ker_fill {f : Nat} (hf : f < n) (hfr : isLd B.length ld f = false) (out : List (List Int)) : loop (s_l12Kernel_L2 p B (vecN B.length fun j => (ld j : Int)) (out, (f : Int))) BIG ((List.replicate n (0 : Int)).set f 1, 0) = some (freeV p n B ld f) := by
  have hp := isP_le hP
  have hle := hB.le
  obtain ⟨b, h1, h2⟩ := loop_inv (step := s_l12Kernel_L2 p B (vecN B.length fun j => (ld j : Int)) (out, (f : Int))) (fun s => ∃ k : Nat, s.2 = (k : Int) ∧ k ≤ B.length ∧ s.1.length = n ∧ ∀ q, q < n → gI s.1 q = if q = f then 1 else if isLd k ld q = true then (0 - gI (gR B (rowOf ld q B.length)) f) % p else 0) (fun s => B.length - s.2.toNat)
    (fun b => b = freeV p n B ld f) (s := ((List.replicate n (0 : Int)).set f 1, 0)) ⟨0, rfl, by omega, by simp, fun q hq => by
      rw [show (List.replicate n (0 : Int)).set f 1 = axis n f from rfl, gI_axis hf]
      rfl⟩ (by rw [BIG_val]; simp only []; omega) (by
      rintro ⟨v, t⟩ ⟨k, rfl, hk, hl, hg⟩
      try simp only [] at hl hg
      unfold s_l12Kernel_L2
      by_cases hkb : k < B.length
      · refine .inl ?_
        have hld := hB.lt k hkb
        have hrow := (hB.mat.row hkb).1
        have m1 := (free_num hP hn hB hkb hf).1
        have hkf := isLd_not hfr hkb
        simp only [lt_cast hkb, if_true]
        rw [idxI (by rw [vecN_len]; exact hkb), some_bind, idxR hkb, some_bind, idxI (by omega), some_bind, m1, some_bind, gI_vecN _ hkb, idxI (by omega), some_bind, Int.toNat_natCast, w_in (by omega) (by omega)]
        refine ⟨_, rfl, ⟨k + 1, rfl, by omega, by simp [hl], fun q hq => ?_⟩, by simp only []; omega⟩
        try simp only []
        rw [gI_set (by omega)]
        have hsucc : isLd (k + 1) ld q = (isLd k ld q || decide (ld k = q)) := by unfold isLd; rw [List.range_succ, List.any_append]; simp
        by_cases hq1 : ld k = q
        · subst hq1
          have hro : rowOf ld (ld k) B.length = k := by
            obtain ⟨a1, a2⟩ := rowOf_spec (ld := ld) (q := ld k) (k := B.length) ⟨k, hkb, rfl⟩
            exact hB.inj a1 hkb a2
          rw [if_pos rfl, if_neg hkf, hsucc]
          simp [hro]
        · rw [if_neg hq1, hg q hq, hsucc]
          simp [hq1]
      · have hkk : k = B.length := by omega
        subst hkk
        refine .inr ⟨v, ?_, ?_⟩
        · simp only [lt_cast_self, if_false]
        · refine extI hl fun q hq => ?_
          rw [hg q hq]
          unfold freeF
          by_cases h1 : q = f
          · rw [if_pos h1, if_pos h1, Int.emod_eq_of_lt (by omega) (by omega)]
          · rw [if_neg h1, if_neg h1]
            split
            · rw [Int.zero_sub]
            · rfl)
  rw [h1, h2]
theorem s_ker_rows : loop (s_l12Kernel_L1 p (n : Int) B (vecN B.length fun j => (ld j : Int))) BIG ([], 0) = some (kerR p n B ld n) := by
  refine ker_loop (by omega) (fun k hk out ho => ?_) (fun out => ?_)
  · unfold s_l12Kernel_L1
    simp only [lt_cast hk, if_true]
    rw [s_has_piv hP hn hB, some_bind]
    cases h : isLd B.length ld k with
    | true =>
      simp only [if_true, some_bind]
      rw [w_in (by omega) (by omega)]; rfl
    | false =>
      simp only [Bool.false_eq_true, if_false]
      rw [chk_bind (by omega), some_bind, Int.toNat_natCast, idxI (by simpa using hk), some_bind, Int.toNat_natCast, s_ker_fill hP hn hB hk h, some_bind, chk_bind (by simp only [List.length_cons, List.length_nil]; omega), some_bind, w_in (by omega) (by omega)]; rfl
  · unfold s_l12Kernel_L1
    simp only [lt_cast_self, if_false]
/-! the program -/
def kerE (B : List (List Int)) (ld : Nat → Nat) (k : Nat) : List (Int × Int) := (List.range k).map fun j => ((ld j : Int), (j : Int))
omit hP hn hB in
theorem kerE_succ (k : Nat) : kerE B ld (k + 1) = kerE B ld k ++ [((ld k : Int), (k : Int))] := by unfold kerE; rw [List.range_succ, List.map_append]; rfl
omit hP hn hB in
theorem kerE_has (k f : Nat) : hasK (kerE B ld k) (f : Int) = isLd k ld f := by
  unfold hasK kerE isLd
  rw [List.any_map]
  congr 1
  funext j
  simp [Function.comp]
theorem kerE_nodup : ((kerE B ld B.length).map (·.1)).Nodup := by
  unfold kerE
  rw [List.map_map]
  refine nodup_map_inj (fun i hi j hj e => ?_) List.nodup_range
  rw [List.mem_range] at hi hj
  exact hB.inj hi hj (by simpa [Function.comp] using e)
theorem i_ker_es : loop (i_field_kernel_L0 B) BIG ([], 0) = some (kerE B ld B.length) := by
  have hle := hB.le
  refine loop_for (fun k => (kerE B ld k, (k : Int))) B.length (by rw [BIG_val]; omega) rfl (fun k hk => ?_) ?_
  · unfold i_field_kernel_L0
    simp only [lt_cast hk, if_true]
    have hf := hB.first (by omega) hk
    rw [s_l12First_lead] at hf
    rw [idxR hk, some_bind, hf, some_bind, chk_bind, w_in (by omega) (by omega), kerE_succ]; rfl
    rw [kerE_has]
    cases h : isLd k ld (ld k) with
    | false => rfl
    | true =>
      obtain ⟨j, hj, e⟩ := isLd_iff.1 h
      have := hB.inj (by omega) hk e
      omega
  · unfold i_field_kernel_L0
    simp only [lt_cast_self, if_false]
theorem kerV_eq {j f : Nat} (hj : j < B.length) (hf : f < n) : kerV p B (f : Int) ((ld j : Int), (j : Int)) = some ((0 - gI (gR B j) f) % p) := by
  have e := (hB.mat.row hj).1
  unfold kerV
  rw [idxR hj, some_bind, idxI (by omega), some_bind, (free_num hP hn hB hj hf).2]
theorem i_ker_fill {f : Nat} (hf : f < n) (hfr : isLd B.length ld f = false) : (kerE B ld B.length).foldl (kerPut p B (f : Int)) ((List.replicate n (0 : Int)).set f 1) = freeV p n B ld f := by
  have hp := isP_le hP
  refine extI (by rw [kerF_len]; simp) fun q hq => ?_
  have hg := kerF_get (p := p) (red := B) (free := (f : Int)) (kerE B ld B.length) ((List.replicate n (0 : Int)).set f 1) (fun e he => by
    unfold kerE at he
    obtain ⟨j, _, rfl⟩ := List.mem_map.1 he
    simp) (kerE_nodup hP hn hB) q
  have hmem : ∀ e ∈ kerE B ld B.length, ∃ j, j < B.length ∧ e = ((ld j : Int), (j : Int)) := fun e he => by
    unfold kerE at he
    obtain ⟨j, hj, rfl⟩ := List.mem_map.1 he
    exact ⟨j, List.mem_range.1 hj, rfl⟩
  have hgI : ∀ v : List Int, gI v q = (v[q]?).getD 0 := fun v => by unfold gI; rw [List.getD_eq_getElem?_getD]
  rw [hgI]
  unfold freeF
  cases h : isLd B.length ld q with
  | false =>
    rw [hg.1 fun e he hq' => by
      obtain ⟨j, hj, rfl⟩ := hmem e he
      exact isLd_not h hj (by simpa using hq'), ← hgI, show (List.replicate n (0 : Int)).set f 1 = axis n f from rfl, gI_axis hf]
    by_cases h1 : q = f
    · rw [if_pos h1, if_pos h1, Int.emod_eq_of_lt (by omega) (by omega)]
    · rw [if_neg h1, if_neg h1]; rfl
  | true =>
    have hqf : q ≠ f := fun e => by rw [e, hfr] at h; cases h
    obtain ⟨a1, a2⟩ := rowOf_spec (isLd_iff.1 h)
    rw [hg.2 ((ld (rowOf ld q B.length) : Int), (rowOf ld q B.length : Int)) (by
      unfold kerE
      exact List.mem_map.2 ⟨_, List.mem_range.2 a1, rfl⟩) (by simpa using a2), if_pos (by simpa using hq), kerV_eq hP hn hB a1 hf, if_neg hqf, if_pos rfl, Int.zero_sub]
    rfl
theorem i_ker_rows : loop (i_field_kernel_L1 p (n : Int) B (kerE B ld B.length)) BIG ([], 0) = some (kerR p n B ld n) := by
  refine ker_loop (by omega) (fun k hk out ho => ?_) (fun out => ?_)
  · unfold i_field_kernel_L1
    simp only [lt_cast hk, if_true]
    rw [kerE_has]
    cases h : isLd B.length ld k with
    | true =>
      simp only [if_true, some_bind]
      rw [w_in (by omega) (by omega)]; rfl
    | false =>
      simp only [Bool.false_eq_true, if_false]
      rw [chk_bind (by omega), some_bind, Int.toNat_natCast, idxI (by simpa using hk), some_bind, Int.toNat_natCast, chk_bind, i_ker_fill hP hn hB hk h, some_bind, chk_bind (by simp only [List.length_cons, List.length_nil]; omega), some_bind, w_in (by omega) (by omega)]; rfl
      rw [List.all_eq_true]
      intro e he
      unfold kerE at he
      obtain ⟨j, hj, rfl⟩ := List.mem_map.1 he
      have hj' := List.mem_range.1 hj
      unfold kerOk
      rw [kerV_eq hP hn hB hj' hk]
      have := hB.lt j hj'
      simp
      omega
  · unfold i_field_kernel_L1
    simp only [lt_cast_self, if_false]
end
theorem Kernel_two {p : Int} {n r r' : Nat} {m m' : List (List Int)} (hP : isP p = true) (hn : n ≤ 1048000) (hr : r ≤ 1048000) (hr' : r' ≤ 1048000) (hm : Mat p r n m) (hm' : Mat p r' n m') (hk : ∀ u, KerP p r n m u ↔ KerP p r' n m' u) :
    ∃ V B ld, i_field_kernel p m (n : Int) = some V ∧ s_l12Kernel p (n : Int) m' = some V ∧ (∃ lv, Ech p n V lv) ∧ Ech p n B ld ∧ (∀ u, Kr p n B u ↔ KerP p r n m u) ∧ ∀ u, Kr p n V u ↔ KerP p (kerR p n B ld n).length n (kerR p n B ld n) u := by
  have hp := isP_le hP
  obtain ⟨B, _, b1, _, ⟨ld, hB⟩, b2⟩ := i_basis_any hP (by omega) (by omega) hm
  obtain ⟨B', ld', c1, hB', c2⟩ := s_l12Reduced_eq hP hn (by omega) hm'
  have hBB : B = B' := hB.unique (by omega) hB' fun u => by rw [b2, c2, hk]
  subst hBB
  have hkm := kerR_mat (p := p) (by omega) n B ld n
  have hkl := kerR_len p n B ld n
  obtain ⟨V, _, v1, _, ⟨lv, hV⟩, v2⟩ := i_basis_any hP (by omega) (by omega) hkm
  obtain ⟨V', lv', w1, hV', w2⟩ := s_l12Reduced_eq hP hn (by omega) hkm
  have hVV : V = V' := hV.unique (by omega) hV' fun u => by rw [v2, w2]
  subst hVV
  refine ⟨V, B, ld, ?_, ?_, ⟨lv, hV⟩, hB, b2, v2⟩
  · unfold i_field_kernel
    rw [b1, some_bind, i_ker_es hP hn hB, some_bind, chk_bind (kerE_nodup hP hn hB), i_ker_rows hP hn hB, some_bind, v1, some_bind]
  · unfold s_l12Kernel
    rw [c1, some_bind, s_ker_piv hP hn hB, some_bind, s_ker_rows hP hn hB, some_bind, w1, some_bind]
end Go.Vam

/- Plain laws: the equations of derivations; both programs' bases of derivations are one. -/
namespace Go.Vam
open Go Go.RowKit
set_option linter.unusedSimpArgs false
set_option linter.unusedVariables false
set_option linter.unusedSectionVars false

theorem app_loop {α : Type} (step : List α × Int → Option ((List α × Int) ⊕ List α)) (n : Nat) (f : Nat → α) (out : List α) (hn : n < BIG)
    (hs : ∀ k, k < n → ∀ o, o.length = out.length + k → step (o, (k : Int)) = some (.inl (o ++ [f k], ((k + 1 : Nat) : Int)))) (he : ∀ o, o.length = out.length + n → step (o, (n : Int)) = some (.inr o)) :
    loop step BIG (out, 0) = some (out ++ vecN n f) :=
  loop_for (fun k => (out ++ vecN k f, (k : Int))) n hn (by simp [vecN]) (fun k hk => by rw [hs k hk _ (by simp), vecN_succ, List.append_assoc]) (he _ (by simp))
theorem gR_append {x y : List (List Int)} {k : Nat} : gR (x ++ y) k = if k < x.length then gR x k else gR y (k - x.length) := by
  unfold gR
  rw [List.getD_eq_getElem?_getD, List.getElem?_append]
  by_cases h : k < x.length
  · rw [if_pos h, if_pos h, List.getD_eq_getElem?_getD]
  · rw [if_neg h, if_neg h, List.getD_eq_getElem?_getD]
theorem Mat.append {p : Int} {a b c : Nat} {x y : List (List Int)} (hx : Mat p a c x) (hy : Mat p b c y) : Mat p (a + b) c (x ++ y) := by
  have h1 := hx.1
  refine ⟨by rw [List.length_append, hx.1, hy.1], fun i hi => ?_⟩
  rw [gR_append]
  split
  · exact hx.2 i (by omega)
  · exact hy.2 (i - x.length) (by omega)
theorem KerP_append {p : Int} {a b c : Nat} {x y : List (List Int)} (hx : x.length = a) (u : Nat → Int) : KerP p (a + b) c (x ++ y) u ↔ KerP p a c x u ∧ KerP p b c y u := by
  unfold KerP
  constructor
  · intro h
    refine ⟨fun i hi => ?_, fun i hi => ?_⟩
    · have := h i (by omega)
      rwa [gR_append, if_pos (by omega)] at this
    · have := h (a + i) (by omega)
      rwa [gR_append, if_neg (by omega), show a + i - x.length = i by omega] at this
  · intro ⟨h1, h2⟩ i hi
    rw [gR_append]
    split
    · exact h1 i (by omega)
    · exact h2 (i - x.length) (by omega)
def drvR (p : Int) (n : Nat) (T : List (List Int)) (i k r : Nat) : List Int :=
  let a := List.replicate (n * n) (0 : Int)
  let b := a.set (r * n + (i ^^^ k)) ((gI a (r * n + (i ^^^ k)) + gI (gR T i) k) % p)
  let c := b.set ((r ^^^ k) * n + i) ((gI b ((r ^^^ k) * n + i) - gI (gR T (r ^^^ k)) k) % p)
  c.set ((r ^^^ i) * n + k) ((gI c ((r ^^^ i) * n + k) - gI (gR T i) (r ^^^ i)) % p)
theorem place_lt {n a b : Nat} (ha : a < n) (hb : b < n) : a * n + b < n * n := by
  have := Nat.mul_le_mul_right n (show a + 1 ≤ n by omega)
  rw [Nat.add_mul] at this
  omega
section
variable {p : Int} {w : List Int} (hP : isP p = true) (hl : w.length ≤ 4) (hw : Vec p w.length w)
include hP hl hw
theorem drv_vec {i k r : Nat} (hi : i < 2 ^ w.length) (hk : k < 2 ^ w.length) (hr : r < 2 ^ w.length) : Vec p (2 ^ w.length * 2 ^ w.length) (drvR p (2 ^ w.length) (prodm p w) i k r) := by
  have hp := isP_le hP
  have v0 : Vec p (2 ^ w.length * 2 ^ w.length) (List.replicate (2 ^ w.length * 2 ^ w.length) (0 : Int)) := ⟨by simp, fun q hq => by
    have : gI (List.replicate (2 ^ w.length * 2 ^ w.length) (0 : Int)) q = 0 := by unfold gI; rw [List.getD_eq_getElem?_getD, List.getElem?_replicate]; simp [hq]
    rw [this]; omega⟩
  unfold drvR
  exact ((v0.set (place_lt hr (xor_lt hi hk)) (mod_num (by omega))).set (place_lt (xor_lt hr hk) hi) (mod_num (by omega))).set (place_lt (xor_lt hr hi) hk) (mod_num (by omega))
theorem drv_facts {i k r : Nat} (hi : i < 2 ^ w.length) (hk : k < 2 ^ w.length) (hr : r < 2 ^ w.length) :
    w64 (w64 ((r : Int) * ((2 ^ w.length : Nat) : Int)) + bxor .i64 (i : Int) (k : Int)) = ((r * 2 ^ w.length + (i ^^^ k) : Nat) : Int) ∧ r * 2 ^ w.length + (i ^^^ k) < 2 ^ w.length * 2 ^ w.length := by
  have h16 := two_le hl
  have hx := xor_lt hi hk
  have h1 := place_lt hr hx
  have h2 : 2 ^ w.length * 2 ^ w.length ≤ 16 * 16 := Nat.mul_le_mul h16 h16
  have h3 : ((r * 2 ^ w.length : Nat) : Int) = (r : Int) * ((2 ^ w.length : Nat) : Int) := Int.natCast_mul ..
  refine ⟨?_, h1⟩
  have w1 : w64 ((r * 2 ^ w.length : Nat) : Int) = ((r * 2 ^ w.length : Nat) : Int) := w_in (by omega) (by omega)
  rw [← h3, bxor_k i (by omega) k (by omega), w1, w_in (by omega) (by omega)]
  omega
theorem drv_facts2 {i k r : Nat} (hi : i < 2 ^ w.length) (hk : k < 2 ^ w.length) (hr : r < 2 ^ w.length) :
    w64 (w64 (bxor .i64 (r : Int) (k : Int) * ((2 ^ w.length : Nat) : Int)) + (i : Int)) = (((r ^^^ k) * 2 ^ w.length + i : Nat) : Int) ∧ (r ^^^ k) * 2 ^ w.length + i < 2 ^ w.length * 2 ^ w.length := by
  have h16 := two_le hl
  have hx := xor_lt hr hk
  have h1 := place_lt hx hi
  have h2 : 2 ^ w.length * 2 ^ w.length ≤ 16 * 16 := Nat.mul_le_mul h16 h16
  have h3 : (((r ^^^ k) * 2 ^ w.length : Nat) : Int) = ((r ^^^ k : Nat) : Int) * ((2 ^ w.length : Nat) : Int) := Int.natCast_mul ..
  refine ⟨?_, h1⟩
  have w1 : w64 (((r ^^^ k) * 2 ^ w.length : Nat) : Int) = (((r ^^^ k) * 2 ^ w.length : Nat) : Int) := w_in (by omega) (by omega)
  rw [bxor_k r (by omega) k (by omega), ← h3, w1, w_in (by omega) (by omega)]
  omega
theorem drv_num {v x : Int} (hv : 0 ≤ v ∧ v < p) (hx : 0 ≤ x ∧ x < p) :
    s_l01Mod p (w64 (v + x)) = some ((v + x) % p) ∧ i_field_num p (w64 (v + x)) = some ((v + x) % p) ∧ s_l01Mod p (w64 (v - x)) = some ((v - x) % p) ∧ i_field_num p (w64 (v - x)) = some ((v - x) % p) := by
  have hp := isP_le hP
  have w1 : w64 (v + x) = v + x := w_in (by omega) (by omega)
  have w2 : w64 (v - x) = v - x := w_in (by omega) (by omega)
  rw [w1, w2]
  exact ⟨s_l01Mod_eq (by omega) (by omega) (by omega) (by omega), i_field_num_eq (by omega) (by omega) (by omega) (by omega), s_l01Mod_eq (by omega) (by omega) (by omega) (by omega), i_field_num_eq (by omega) (by omega) (by omega) (by omega)⟩
theorem drv_step {i k r : Nat} (hi : i < 2 ^ w.length) (hk : k < 2 ^ w.length) (hr : r < 2 ^ w.length) {o a b : List (List Int)} (ho : o.length ≤ 1048576) :
    s_l14Equations_L2 p (prodm p w) ((2 ^ w.length : Nat) : Int) (a, (i : Int)) (b, (k : Int)) (o, (r : Int)) = some (.inl (o ++ [drvR p (2 ^ w.length) (prodm p w) i k r], ((r + 1 : Nat) : Int))) ∧
    i_Doubling_derivations_L2 ((2 ^ w.length : Nat) : Int) p (prodm p w) (a, (i : Int)) (b, (k : Int)) (o, (r : Int)) = some (.inl (o ++ [drvR p (2 ^ w.length) (prodm p w) i k r], ((r + 1 : Nat) : Int))) := by
  have hp := isP_le hP
  have h16 := two_le hl
  have hT := prodm_mat hP hl hw
  have tl := hT.1
  have hNN : 2 ^ w.length * 2 ^ w.length ≤ 16 * 16 := Nat.mul_le_mul h16 h16
  have hN : w64 (((2 ^ w.length : Nat) : Int) * ((2 ^ w.length : Nat) : Int)) = ((2 ^ w.length * 2 ^ w.length : Nat) : Int) := by
    rw [Int.natCast_mul, w_in (by rw [← Int.natCast_mul]; omega) (by rw [← Int.natCast_mul]; omega)]
  obtain ⟨f1, g1⟩ := drv_facts hP hl hw hi hk hr
  obtain ⟨f2, g2⟩ := drv_facts2 hP hl hw hi hk hr
  obtain ⟨f3, g3⟩ := drv_facts2 hP hl hw hk hi hr
  have v0 : Vec p (2 ^ w.length * 2 ^ w.length) (List.replicate (2 ^ w.length * 2 ^ w.length) (0 : Int)) := ⟨by simp, fun q hq => by
    have : gI (List.replicate (2 ^ w.length * 2 ^ w.length) (0 : Int)) q = 0 := by unfold gI; rw [List.getD_eq_getElem?_getD, List.getElem?_replicate]; simp [hq]
    rw [this]; omega⟩
  have hri := hT.row hi
  have hrx := hT.row (xor_lt hr hk)
  have n1 := drv_num hP hl hw (v0.get g1) (hri.get hk)
  have v1 := v0.set g1 (mod_num (a := gI (List.replicate (2 ^ w.length * 2 ^ w.length) (0 : Int)) (r * 2 ^ w.length + (i ^^^ k)) + gI (gR (prodm p w) i) k) (p := p) (by omega))
  have n2 := drv_num hP hl hw (v1.get g2) (hrx.get hk)
  have v2 := v1.set g2 (mod_num (a := gI ((List.replicate (2 ^ w.length * 2 ^ w.length) (0 : Int)).set (r * 2 ^ w.length + (i ^^^ k)) ((gI (List.replicate (2 ^ w.length * 2 ^ w.length) (0 : Int)) (r * 2 ^ w.length + (i ^^^ k)) + gI (gR (prodm p w) i) k) % p)) ((r ^^^ k) * 2 ^ w.length + i) - gI (gR (prodm p w) (r ^^^ k)) k) (p := p) (by omega))
  have n3 := drv_num hP hl hw (v2.get g3) (hri.get (xor_lt hr hi))
  unfold drvR
  simp only []
  generalize hA : List.replicate (2 ^ w.length * 2 ^ w.length) (0 : Int) = A at v0 n1 v1 n2 v2 n3 ⊢
  generalize hB : A.set (r * 2 ^ w.length + (i ^^^ k)) ((gI A (r * 2 ^ w.length + (i ^^^ k)) + gI (gR (prodm p w) i) k) % p) = B at v1 n2 v2 n3 ⊢
  generalize hC : B.set ((r ^^^ k) * 2 ^ w.length + i) ((gI B ((r ^^^ k) * 2 ^ w.length + i) - gI (gR (prodm p w) (r ^^^ k)) k) % p) = C at v2 n3 ⊢
  have lA := v0.1
  have lB := v1.1
  have lC := v2.1
  have li := hri.1
  have lx := hrx.1
  have hxk := xor_lt hr hk
  have hxi := xor_lt hr hi
  have w1 : w64 ((r : Int) + 1) = ((r + 1 : Nat) : Int) := by rw [w_in (by omega) (by omega)]; rfl
  constructor
  · unfold s_l14Equations_L2
    simp only [lt_cast hr, if_true, hN, f1, f2, f3, Int.toNat_natCast, w1]
    rw [chk_bind (by omega), hA, some_bind, idxI (by omega), some_bind, idxR (by omega), some_bind, idxI (by omega), some_bind, n1.1, some_bind, hB, some_bind, idxI (by omega), some_bind, bxor_k r (by omega) k (by omega), idxR (by omega), some_bind, idxI (by omega), some_bind, n2.2.2.1, some_bind, hC, some_bind, idxI (by omega), some_bind, bxor_k r (by omega) i (by omega), idxI (by omega), some_bind, n3.2.2.1, some_bind, chk_bind (by simp only [List.length_cons, List.length_nil]; omega)]
  · unfold i_Doubling_derivations_L2
    simp only [lt_cast hr, if_true, hN, f1, f2, f3, Int.toNat_natCast, w1]
    rw [chk_bind (by omega), hA, some_bind, idxI (by omega), some_bind, idxR (by omega), some_bind, idxI (by omega), some_bind, n1.2.1, some_bind, hB, some_bind, idxI (by omega), some_bind, bxor_k r (by omega) k (by omega), idxR (by omega), some_bind, idxI (by omega), some_bind, n2.2.2.2, some_bind, hC, some_bind, idxI (by omega), some_bind, bxor_k r (by omega) i (by omega), idxI (by omega), some_bind, n3.2.2.2, some_bind, chk_bind (by simp only [List.length_cons, List.length_nil]; omega)]
def drvK (p : Int) (w : List Int) (i k : Nat) : List (List Int) := vecN (2 ^ w.length) fun r => drvR p (2 ^ w.length) (prodm p w) i k r
def drvI (p : Int) (w : List Int) (i : Nat) : Nat → List (List Int)
  | 0 => []
  | k + 1 => drvI p w i k ++ drvK p w i k
def drvA (p : Int) (w : List Int) : Nat → List (List Int)
  | 0 => []
  | i + 1 => drvA p w i ++ drvI p w i (2 ^ w.length)
theorem drvI_mat {i : Nat} (hi : i < 2 ^ w.length) : ∀ k, k ≤ 2 ^ w.length → Mat p (k * 2 ^ w.length) (2 ^ w.length * 2 ^ w.length) (drvI p w i k)
  | 0, _ => by rw [Nat.zero_mul]; exact ⟨rfl, fun i hi => by omega⟩
  | k + 1, hk => by
    rw [Nat.add_mul, Nat.one_mul]
    exact (drvI_mat hi k (by omega)).append (Mat.mk' fun r hr => drv_vec hP hl hw hi (by omega) hr)
theorem drvA_mat : ∀ i, i ≤ 2 ^ w.length → Mat p (i * (2 ^ w.length * 2 ^ w.length)) (2 ^ w.length * 2 ^ w.length) (drvA p w i)
  | 0, _ => by rw [Nat.zero_mul]; exact ⟨rfl, fun i hi => by omega⟩
  | i + 1, hi => by
    rw [Nat.add_mul, Nat.one_mul]
    exact (drvA_mat i (by omega)).append (drvI_mat hP hl hw (by omega) (2 ^ w.length) (Nat.le_refl _))
theorem inner_two {i : Nat} (hi : i < 2 ^ w.length) {o a : List (List Int)} (ho : o.length ≤ 10000) :
    loop (s_l14Equations_L1 p (prodm p w) ((2 ^ w.length : Nat) : Int) (a, (i : Int))) BIG (o, 0) = some (o ++ drvI p w i (2 ^ w.length)) ∧
    loop (i_Doubling_derivations_L1 ((2 ^ w.length : Nat) : Int) p (prodm p w) (a, (i : Int))) BIG (o, 0) = some (o ++ drvI p w i (2 ^ w.length)) := by
  have h16 := two_le hl
  have hlen : ∀ k, k ≤ 2 ^ w.length → (o ++ drvI p w i k).length ≤ 20000 := fun k hk => by
    rw [List.length_append, (drvI_mat hP hl hw hi k hk).1]
    have : k * 2 ^ w.length ≤ 16 * 16 := Nat.mul_le_mul (by omega) h16
    omega
  constructor
  · refine loop_for (fun k => (o ++ drvI p w i k, (k : Int))) (2 ^ w.length) (by rw [BIG_val]; omega) (by simp [drvI]) (fun k hk => ?_) ?_
    · have hL := hlen k (by omega)
      unfold s_l14Equations_L1
      simp only [lt_cast hk, if_true]
      rw [app_loop _ (2 ^ w.length) (fun r => drvR p (2 ^ w.length) (prodm p w) i k r) _ (by rw [BIG_val]; omega) (fun r hr q hq => (drv_step hP hl hw hi hk hr (by omega)).1) (fun q hq => by unfold s_l14Equations_L2; simp only [lt_cast_self, if_false]), some_bind, w_in (by omega) (by omega), drvI, ← List.append_assoc]
      rfl
    · unfold s_l14Equations_L1
      simp only [lt_cast_self, if_false]
  · refine loop_for (fun k => (o ++ drvI p w i k, (k : Int))) (2 ^ w.length) (by rw [BIG_val]; omega) (by simp [drvI]) (fun k hk => ?_) ?_
    · have hL := hlen k (by omega)
      unfold i_Doubling_derivations_L1
      simp only [lt_cast hk, if_true]
      rw [app_loop _ (2 ^ w.length) (fun r => drvR p (2 ^ w.length) (prodm p w) i k r) _ (by rw [BIG_val]; omega) (fun r hr q hq => (drv_step hP hl hw hi hk hr (by omega)).2) (fun q hq => by unfold i_Doubling_derivations_L2; simp only [lt_cast_self, if_false]), some_bind, w_in (by omega) (by omega), drvI, ← List.append_assoc]
      rfl
    · unfold i_Doubling_derivations_L1
      simp only [lt_cast_self, if_false]
theorem s_l14Equations_eq : s_l14Equations p w = some (drvA p w (2 ^ w.length)) := by
  have h16 := two_le hl
  unfold s_l14Equations
  rw [s_l11Basis_eq hP hl hw, some_bind, s_l11Size_eq hl, some_bind]
  have : loop (s_l14Equations_L0 p (prodm p w) ((2 ^ w.length : Nat) : Int)) BIG ([], 0) = some (drvA p w (2 ^ w.length)) := by
    refine loop_for (fun i => (drvA p w i, (i : Int))) (2 ^ w.length) (by rw [BIG_val]; omega) rfl (fun i hi => ?_) ?_
    · have hlen : (drvA p w i).length ≤ 10000 := by
        rw [(drvA_mat hP hl hw i (by omega)).1]
        have : i * (2 ^ w.length * 2 ^ w.length) ≤ 16 * (16 * 16) := Nat.mul_le_mul (by omega) (Nat.mul_le_mul h16 h16)
        omega
      unfold s_l14Equations_L0
      simp only [lt_cast hi, if_true]
      rw [(inner_two hP hl hw hi hlen).1, some_bind, w_in (by omega) (by omega)]
      rfl
    · unfold s_l14Equations_L0
      simp only [lt_cast_self, if_false]
  rw [this, some_bind]
theorem i_drv_loop : ∃ B ld, loop (i_Doubling_derivations_L0 ((2 ^ w.length : Nat) : Int) p (prodm p w)) BIG ([], 0) = some B ∧ Ech p (2 ^ w.length * 2 ^ w.length) B ld ∧ ∀ u, Kr p (2 ^ w.length * 2 ^ w.length) B u ↔ KerP p (2 ^ w.length * (2 ^ w.length * 2 ^ w.length)) (2 ^ w.length * 2 ^ w.length) (drvA p w (2 ^ w.length)) u := by
  have h16 := two_le hl
  have hNN : 2 ^ w.length * 2 ^ w.length ≤ 16 * 16 := Nat.mul_le_mul h16 h16
  obtain ⟨B, h1, ld, h2, h3⟩ := loop_inv (step := i_Doubling_derivations_L0 ((2 ^ w.length : Nat) : Int) p (prodm p w)) (fun s => ∃ i : Nat, s.2 = (i : Int) ∧ i ≤ 2 ^ w.length ∧ ∃ ld, Ech p (2 ^ w.length * 2 ^ w.length) s.1 ld ∧ ∀ u, Kr p (2 ^ w.length * 2 ^ w.length) s.1 u ↔ KerP p (i * (2 ^ w.length * 2 ^ w.length)) (2 ^ w.length * 2 ^ w.length) (drvA p w i) u) (fun s => 2 ^ w.length - s.2.toNat)
    (fun B => ∃ ld, Ech p (2 ^ w.length * 2 ^ w.length) B ld ∧ ∀ u, Kr p (2 ^ w.length * 2 ^ w.length) B u ↔ KerP p (2 ^ w.length * (2 ^ w.length * 2 ^ w.length)) (2 ^ w.length * 2 ^ w.length) (drvA p w (2 ^ w.length)) u) (s := ([], 0))
    ⟨0, rfl, Nat.zero_le _, _, Ech.nil p _, fun u => ⟨fun _ i hi => by rw [Nat.zero_mul] at hi; omega, fun _ j hj => by simp at hj⟩⟩ (by rw [BIG_val]; simp only []; omega) (by
      rintro ⟨B, t⟩ ⟨i, rfl, hi, ld, hB, hu⟩
      try simp only [] at hB hu
      unfold i_Doubling_derivations_L0
      have hle := hB.le
      by_cases hin : i < 2 ^ w.length
      · have hM := hB.mat.append (drvI_mat hP hl hw hin (2 ^ w.length) (Nat.le_refl _))
        obtain ⟨B', _, b1, b2, ⟨ld', hB'⟩, b3⟩ := i_basis_any hP (by omega) (by omega) hM
        refine .inl ⟨(B', ((i + 1 : Nat) : Int)), ?_, ⟨i + 1, rfl, by omega, ld', hB', fun u => ?_⟩, by simp only [Int.toNat_natCast]; omega⟩
        · simp only [lt_cast hin, if_true]
          rw [(inner_two hP hl hw hin (by omega)).2, some_bind, b1, some_bind, w_in (by omega) (by omega)]; rfl
        · rw [b3 u, KerP_append rfl, show drvA p w (i + 1) = drvA p w i ++ drvI p w i (2 ^ w.length) from rfl, Nat.add_mul, Nat.one_mul, KerP_append (drvA_mat hP hl hw i (by omega)).1, ← hu u]
          rfl
      · have hii : i = 2 ^ w.length := by omega
        subst hii
        refine .inr ⟨B, ?_, ld, hB, hu⟩
        simp only [lt_cast_self, if_false])
  exact ⟨B, ld, h1, h2, h3⟩
theorem Derivations_two : ∃ V B ld lv, s_l14Basis p w = some V ∧ i_Doubling_derivations p w = some V ∧ Ech p (2 ^ w.length * 2 ^ w.length) V lv ∧ Ech p (2 ^ w.length * 2 ^ w.length) B ld ∧
    (∀ u, Kr p (2 ^ w.length * 2 ^ w.length) B u ↔ KerP p (2 ^ w.length * (2 ^ w.length * 2 ^ w.length)) (2 ^ w.length * 2 ^ w.length) (drvA p w (2 ^ w.length)) u) ∧
    ∀ u, Kr p (2 ^ w.length * 2 ^ w.length) V u ↔ KerP p (kerR p (2 ^ w.length * 2 ^ w.length) B ld (2 ^ w.length * 2 ^ w.length)).length (2 ^ w.length * 2 ^ w.length) (kerR p (2 ^ w.length * 2 ^ w.length) B ld (2 ^ w.length * 2 ^ w.length)) u := by
  have h16 := two_le hl
  have hNN : 2 ^ w.length * 2 ^ w.length ≤ 16 * 16 := Nat.mul_le_mul h16 h16
  have hNNN : 2 ^ w.length * (2 ^ w.length * 2 ^ w.length) ≤ 16 * (16 * 16) := Nat.mul_le_mul h16 hNN
  have hN : w64 (((2 ^ w.length : Nat) : Int) * ((2 ^ w.length : Nat) : Int)) = ((2 ^ w.length * 2 ^ w.length : Nat) : Int) := by
    rw [Int.natCast_mul, w_in (by rw [← Int.natCast_mul]; omega) (by rw [← Int.natCast_mul]; omega)]
  obtain ⟨B0, ld0, l1, l2, l3⟩ := i_drv_loop hP hl hw
  have hle := l2.le
  obtain ⟨V, B, ld, k1, k2, ⟨lv, k3⟩, k4, k5, k6⟩ := Kernel_two (n := 2 ^ w.length * 2 ^ w.length) hP (by omega) (by omega) (by omega) l2.mat (drvA_mat hP hl hw (2 ^ w.length) (Nat.le_refl _)) l3
  refine ⟨V, B, ld, lv, ?_, ?_, k3, k4, fun u => (k5 u).trans (l3 u), k6⟩
  · unfold s_l14Basis
    rw [s_l11Size_eq hl, some_bind, s_l14Equations_eq hP hl hw, some_bind, hN, k2, some_bind]
  · unfold i_Doubling_derivations i_Doubling_field
    rw [i_Doubling_size_eq hl, some_bind, some_bind, i_Doubling_products_eq hP hl hw, some_bind, l1, some_bind, hN, k1, some_bind]
end
end Go.Vam

/- Plain laws: DerivationDimension's and DerivationBasis' values; marks of lists of tables. -/
namespace Go.Vam
open Go Go.RowKit
set_option linter.unusedSimpArgs false
set_option linter.unusedVariables false
set_option linter.unusedSectionVars false

def cutv (n : Nat) (v : List Int) : List (List Int) := vecN n fun i => (v.take (i * n + n)).drop (i * n)
section
variable {p : Int} {n : Nat} {v : List Int} (hn0 : 0 < n) (hn : n ≤ 1000) (hv : Vec p (n * n) v)
include hn0 hn hv
theorem cut_row {i : Nat} (hi : i < n) : Vec p n ((v.take (i * n + n)).drop (i * n)) := by
  have h1 : i * n + n ≤ n * n := by
    have := Nat.mul_le_mul_right n (show i + 1 ≤ n by omega)
    rw [Nat.add_mul] at this; omega
  refine ⟨by rw [List.length_drop, List.length_take, hv.1]; omega, fun k hk => ?_⟩
  rw [gI_drop, gI_take (by omega)]
  exact hv.get (by omega)
theorem cut_mat : Mat p n n (cutv n v) := Mat.mk' fun i hi => cut_row hn0 hn hv hi
theorem cut_two : s_l14Cut v (n : Int) = some (cutv n v) ∧ i_rowsIn v (n : Int) = some (cutv n v) := by
  have hvl := hv.1
  have hNN : n * n ≤ 1000 * 1000 := Nat.mul_le_mul hn hn
  have hmul : ∀ k, k ≤ n → k * n ≤ n * n := fun k hk => Nat.mul_le_mul_right n hk
  have hlt : ∀ k, k < n → k * n + n ≤ n * n := fun k hk => by
    have := hmul (k + 1) (by omega)
    rw [Nat.add_mul] at this; omega
  constructor
  · unfold s_l14Cut
    rw [loop_for (b := cutv n v) (fun k => (vecN k (fun i => (v.take (i * n + n)).drop (i * n)), ((k * n : Nat) : Int))) n (by rw [BIG_val]; omega) (by simp [vecN])]
    · rfl
    · intro k hk
      have h1 := hlt k hk
      have hr := (cut_row hn0 hn hv hk).1
      have w1 : w64 (((k * n : Nat) : Int) + (n : Int)) = ((k * n + n : Nat) : Int) := by rw [w_in (by omega) (by omega)]; omega
      unfold s_l14Cut_L0
      simp only [show ((k * n : Nat) : Int) < (v.length : Int) by omega, if_true, w1, Int.toNat_natCast]
      rw [chk_bind (by omega), s_l01Own_eq (by omega), some_bind, chk_bind (by simp only [List.length_cons, List.length_nil, vecN_len]; omega), vecN_succ, show (k + 1) * n = k * n + n by rw [Nat.add_mul, Nat.one_mul]]
    · unfold s_l14Cut_L0
      simp only [show ¬ ((n * n : Nat) : Int) < (v.length : Int) by omega, if_false]
      rfl
  · unfold i_rowsIn
    rw [loop_for (b := cutv n v) (fun k => (vecN k (fun i => (v.take (i * n + n)).drop (i * n)), ((k * n : Nat) : Int))) n (by rw [BIG_val]; omega) (by simp [vecN])]
    · rfl
    · intro k hk
      have h1 := hlt k hk
      have hr := (cut_row hn0 hn hv hk).1
      have w1 : w64 (((k * n : Nat) : Int) + (n : Int)) = ((k * n + n : Nat) : Int) := by rw [w_in (by omega) (by omega)]; omega
      unfold i_rowsIn_L0
      simp only [show ((k * n : Nat) : Int) < (v.length : Int) by omega, if_true, w1, Int.toNat_natCast]
      rw [chk_bind (by omega), clone_eq (by omega), some_bind, chk_bind (by simp only [List.length_cons, List.length_nil, vecN_len]; omega), vecN_succ, show (k + 1) * n = k * n + n by rw [Nat.add_mul, Nat.one_mul]]
    · unfold i_rowsIn_L0
      simp only [show ¬ ((n * n : Nat) : Int) < (v.length : Int) by omega, if_false]
      rfl
end
end Go.Vam

/- Plain laws: ranks, kernels and how many vectors they have. -/
namespace Go.Vam
open Go Go.RowKit
set_option linter.unusedSimpArgs false
set_option linter.unusedVariables false
set_option linter.unusedSectionVars false

theorem sumN_add (f g : Nat → Int) (n : Nat) : sumN (fun q => f q + g q) n = sumN f n + sumN g n := by
  have := sumN_lin f g 1 n
  simp only [Int.one_mul] at this
  exact this
theorem sumN_mulL (k : Int) (f : Nat → Int) (n : Nat) : sumN (fun q => k * f q) n = k * sumN f n := by
  have := sumN_lin (fun _ => 0) f k n
  simp only [Int.zero_add, sumN_zero] at this
  exact this
theorem sumN_mulR (k : Int) (f : Nat → Int) (n : Nat) : sumN (fun q => f q * k) n = sumN f n * k := by
  rw [Int.mul_comm, ← sumN_mulL]
  exact sumN_congr fun q _ => Int.mul_comm _ _
theorem sumN_comm (f : Nat → Nat → Int) (m : Nat) : ∀ n, sumN (fun i => sumN (fun j => f i j) m) n = sumN (fun j => sumN (fun i => f i j) n) m
  | 0 => by simp only [sumN]; rw [sumN_zero]
  | n + 1 => by
    simp only [sumN]
    rw [sumN_add, sumN_comm f m n]
theorem sumN_dvd {p : Int} {f : Nat → Int} : ∀ {n : Nat}, (∀ k, k < n → p ∣ f k) → p ∣ sumN f n
  | 0, _ => Int.dvd_zero p
  | n + 1, h => by
    simp only [sumN]
    exact Int.dvd_add (sumN_dvd fun k hk => h k (by omega)) (h n (by omega))
theorem sumN_sub (f g : Nat → Int) (n : Nat) : sumN (fun q => f q - g q) n = sumN f n - sumN g n := by
  have := sumN_lin f g (-1) n
  have e : sumN (fun q => f q - g q) n = sumN (fun q => f q + -1 * g q) n := sumN_congr fun q _ => by omega
  rw [e, this]; omega
theorem sumN_const (n : Nat) : sumN (fun _ => (1 : Int)) n = n := by
  induction n with
  | zero => rfl
  | succ n ih => simp only [sumN, ih]; omega
theorem dvd_trans_sub {p a b c : Int} (h1 : p ∣ a - b) (h2 : p ∣ b - c) : p ∣ a - c := by
  have := Int.dvd_add h1 h2
  rwa [show a - b + (b - c) = a - c by omega] at this
theorem dvd_of_sub {p a b : Int} (h1 : p ∣ a - b) (h2 : p ∣ b) : p ∣ a := by
  have := Int.dvd_add h1 h2
  rwa [show a - b + b = a by omega] at this
theorem dvd_sub_symm {p a b : Int} (h : p ∣ a - b) : p ∣ b - a := by
  have := Int.dvd_neg.2 h
  rwa [show -(a - b) = b - a by omega] at this

theorem kerR_get {p : Int} {n k t : Nat} {B : List (List Int)} {ld : Nat → Nat} (ht : t < (freeL n B ld k).length) : gR (kerR p n B ld k) t = freeV p n B ld (freeL n B ld k)[t] := by
  unfold gR kerR
  rw [List.getD_eq_getElem?_getD, List.getElem?_map, List.getElem?_eq_getElem ht]; rfl
section
variable {p : Int} {n : Nat} {B : List (List Int)} {ld : Nat → Nat} (h : Ech p n B ld)
include h
theorem Ech.at_lead (g : Nat → Int) (q : Nat) : sumN (fun j => if ld j = q then g j else 0) B.length = if isLd B.length ld q = true then g (rowOf ld q B.length) else 0 := by
  by_cases hq : isLd B.length ld q = true
  · rw [if_pos hq]
    obtain ⟨a1, a2⟩ := rowOf_spec (isLd_iff.1 hq)
    rw [sumN_one a1 (fun j hj hne => if_neg fun e => hne (h.inj hj a1 (by rw [e, a2]))), if_pos a2]
  · rw [if_neg hq, sumN_congr (g := fun _ => 0) fun j hj => if_neg fun e => hq (isLd_iff.2 ⟨j, hj, e⟩)]
    exact sumN_zero _
theorem Ech.split (g : Nat → Int) : sumN g n = sumN (fun q => if isLd B.length ld q = true then 0 else g q) n + sumN (fun j => g (ld j)) B.length := by
  have e1 : sumN (fun j => g (ld j)) B.length = sumN (fun j => sumN (fun q => if ld j = q then g q else 0) n) B.length :=
    sumN_congr fun j hj => by rw [sumN_one (h.lt j hj) (fun q _ hq => if_neg fun e => hq e.symm), if_pos rfl]
  rw [e1, sumN_comm, ← sumN_add]
  refine sumN_congr fun q hq => ?_
  have e2 : sumN (fun j => if ld j = q then g q else 0) B.length = if isLd B.length ld q = true then g q else 0 := h.at_lead (fun _ => g q) q
  rw [e2]
  split <;> omega
theorem freeF_rd {f : Nat} (hf : isLd B.length ld f = false) (hfn : f < n) (y : Nat → Int) : sumN (fun q => freeF B ld f q * y q) n = y f - sumN (fun j => gI (gR B j) f * y (ld j)) B.length := by
  rw [h.split]
  have e1 : sumN (fun q => if isLd B.length ld q = true then 0 else freeF B ld f q * y q) n = y f := by
    rw [sumN_one hfn (fun q hq hqf => by
      cases e : isLd B.length ld q with
      | true => rfl
      | false => rw [freeF_other e hqf]; simp), hf]
    unfold freeF
    simp
  have e2 : sumN (fun j => freeF B ld f (ld j) * y (ld j)) B.length = - sumN (fun j => gI (gR B j) f * y (ld j)) B.length := by
    have : sumN (fun j => freeF B ld f (ld j) * y (ld j)) B.length = sumN (fun j => -1 * (gI (gR B j) f * y (ld j))) B.length := sumN_congr fun j hj => by
      rw [freeF_lead h hf hj, Int.neg_mul]; omega
    rw [this, sumN_mulL]; omega
  rw [e1, e2]; omega
theorem Ech.span {u : Nat → Int} (hu : ∀ y, Kr p n B y → p ∣ sumN (fun q => u q * y q) n) : ∀ q, q < n → p ∣ u q - sumN (fun j => u (ld j) * gI (gR B j) q) B.length := by
  intro q hq
  cases e : isLd B.length ld q with
  | true =>
    obtain ⟨i, hi, rfl⟩ := isLd_iff.1 e
    rw [sumN_one hi (fun j hj hne => by rw [h.col i hi j hj hne, Int.mul_zero]), h.one i hi, Int.mul_one, Int.sub_self]
    exact Int.dvd_zero p
  | false =>
    have h1 := hu _ (freeF_ker h e hq)
    have e1 : sumN (fun r => u r * freeF B ld q r) n = sumN (fun r => freeF B ld q r * u r) n := sumN_congr fun r _ => Int.mul_comm _ _
    rw [e1, freeF_rd h e hq] at h1
    have e2 : sumN (fun j => gI (gR B j) q * u (ld j)) B.length = sumN (fun j => u (ld j) * gI (gR B j) q) B.length := sumN_congr fun r _ => Int.mul_comm _ _
    rwa [e2] at h1
theorem Ech.row_lead {u : Nat → Int} {j : Nat} (hj : j < B.length) : rd n (gR B j) u = sumN (fun q => if isLd B.length ld q = true then 0 else gI (gR B j) q * u q) n + u (ld j) := by
  unfold rd
  rw [h.split]
  congr 1
  rw [sumN_one hj (fun i hi hne => by rw [h.col i hi j hj (fun e => hne e.symm), Int.zero_mul]), h.one j hj, Int.one_mul]
theorem Ech.ker_free {u : Nat → Int} (hu : Kr p n B u) (y : Nat → Int) : p ∣ sumN (fun q => u q * y q) n - sumN (fun q => if isLd B.length ld q = true then 0 else u q * sumN (fun r => freeF B ld q r * y r) n) n := by
  have e1 := h.split fun q => u q * y q
  have e2 : sumN (fun q => if isLd B.length ld q = true then 0 else u q * sumN (fun r => freeF B ld q r * y r) n) n =
      sumN (fun q => if isLd B.length ld q = true then 0 else u q * y q) n - sumN (fun j => y (ld j) * sumN (fun q => if isLd B.length ld q = true then 0 else gI (gR B j) q * u q) n) B.length := by
    have : sumN (fun j => y (ld j) * sumN (fun q => if isLd B.length ld q = true then 0 else gI (gR B j) q * u q) n) B.length = sumN (fun q => sumN (fun j => y (ld j) * (if isLd B.length ld q = true then 0 else gI (gR B j) q * u q)) B.length) n := by
      rw [← sumN_comm]
      exact sumN_congr fun j _ => (sumN_mulL _ _ _).symm
    rw [this, ← sumN_sub]
    refine sumN_congr fun q hq => ?_
    cases e : isLd B.length ld q with
    | true =>
      simp only [if_true, Int.mul_zero]
      rw [sumN_zero]; rfl
    | false =>
      simp only [Bool.false_eq_true, if_false]
      rw [freeF_rd h e hq, Int.mul_sub, ← sumN_mulL]
      congr 1
      exact sumN_congr fun j _ => by grind
  rw [e1, e2]
  have e3 : sumN (fun q => if isLd B.length ld q = true then 0 else u q * y q) n + sumN (fun j => u (ld j) * y (ld j)) B.length - (sumN (fun q => if isLd B.length ld q = true then 0 else u q * y q) n - sumN (fun j => y (ld j) * sumN (fun q => if isLd B.length ld q = true then 0 else gI (gR B j) q * u q) n) B.length) =
      sumN (fun j => y (ld j) * rd n (gR B j) u) B.length := by
    have : sumN (fun j => y (ld j) * rd n (gR B j) u) B.length = sumN (fun j => y (ld j) * sumN (fun q => if isLd B.length ld q = true then 0 else gI (gR B j) q * u q) n + u (ld j) * y (ld j)) B.length := sumN_congr fun j hj => by
      rw [h.row_lead hj, Int.mul_add, Int.mul_comm (y (ld j)) (u (ld j))]
    rw [this, sumN_add]; omega
  rw [e3]
  exact sumN_dvd fun j hj => Int.dvd_mul_of_dvd_right (hu j hj)
theorem freeV_rd {f : Nat} (y : Nat → Int) : rd n (freeV p n B ld f) y % p = sumN (fun q => freeF B ld f q * y q) n % p := by
  unfold rd
  refine sumN_mod fun q hq => ?_
  unfold freeV
  rw [gI_vecN _ hq]
  exact mul_mod_l (emm _ _)
theorem kerR_iff (u : Nat → Int) : KerP p (kerR p n B ld n).length n (kerR p n B ld n) u ↔ ∀ f, f < n → isLd B.length ld f = false → p ∣ sumN (fun q => freeF B ld f q * u q) n := by
  have hmem : ∀ f, f ∈ freeL n B ld n ↔ f < n ∧ isLd B.length ld f = false := fun f => by
    unfold freeL
    rw [List.mem_filter, List.mem_range]
    simp
  constructor
  · intro hk f hf hfr
    obtain ⟨t, ht, e⟩ := List.getElem_of_mem ((hmem f).2 ⟨hf, hfr⟩)
    have hl : t < (kerR p n B ld n).length := by unfold kerR; rw [List.length_map]; exact ht
    have := hk t hl
    rw [kerR_get ht, e, dvd_congr (freeV_rd h u)] at this
    exact this
  · intro hk t ht
    have hl : t < (freeL n B ld n).length := by unfold kerR at ht; rwa [List.length_map] at ht
    rw [kerR_get hl, dvd_congr (freeV_rd h u)]
    obtain ⟨a, b⟩ := (hmem _).1 (List.getElem_mem hl)
    exact hk _ a b
end
theorem Kernel_span {p : Int} {n : Nat} {B V : List (List Int)} {ld lv : Nat → Nat} (hB : Ech p n B ld) (hV : Ech p n V lv) (hk : ∀ u, Kr p n V u ↔ KerP p (kerR p n B ld n).length n (kerR p n B ld n) u) :
    (∀ j, j < V.length → Kr p n B (gI (gR V j))) ∧ ∀ u, Kr p n B u → ∀ q, q < n → p ∣ u q - sumN (fun j => u (lv j) * gI (gR V j) q) V.length := by
  constructor
  · intro j hj i hi
    have h1 : Kr p n V (gI (gR B i)) := (hk _).2 ((kerR_iff hB _).2 fun f hf hfr => by
      have := freeF_ker hB hfr hf i hi
      unfold rd at this
      rwa [sumN_congr (g := fun q => freeF B ld f q * gI (gR B i) q) fun q _ => Int.mul_comm _ _] at this)
    have := h1 j hj
    unfold rd at this ⊢
    rwa [sumN_congr (g := fun q => gI (gR B i) q * gI (gR V j) q) fun q _ => Int.mul_comm _ _] at this
  · intro u hu
    refine hV.span fun y hy => ?_
    have h1 := (kerR_iff hB y).1 ((hk y).1 hy)
    refine dvd_of_sub (hB.ker_free hu y) (sumN_dvd fun q hq => ?_)
    cases e : isLd B.length ld q with
    | true => exact Int.dvd_zero p
    | false => exact Int.dvd_mul_of_dvd_right (h1 q hq e)
theorem more_unknowns {p : Int} {a b : Nat} (hP : isP p = true) (ha : a ≤ 1048000) (hb : b < a) (M : Nat → Nat → Int) : ∃ c : Nat → Int, (∃ i, i < a ∧ ¬ p ∣ c i) ∧ ∀ j, j < b → p ∣ sumN (fun i => c i * M i j) a := by
  have hp := isP_le hP
  have hm : Mat p b a (vecN b fun j => vecN a fun i => M i j % p) := Mat.mk' fun j _ => Vec.mk' fun i _ => mod_num (by omega)
  obtain ⟨B, _, _, hBl, ⟨ld, hB⟩, hk⟩ := i_basis_any hP (by omega) (by omega) hm
  have hf := hB.full_iff (by omega)
  by_cases hex : ∃ u : Nat → Int, (∃ k, k < a ∧ ¬ p ∣ u k) ∧ Kr p a B u
  · obtain ⟨u, hu1, hu2⟩ := hex
    refine ⟨u, hu1, fun j hj => ?_⟩
    have := (hk u).1 hu2 j hj
    rw [gR_vecN _ hj] at this
    have e : rd a (vecN a fun i => M i j % p) u % p = sumN (fun i => u i * M i j) a % p := by
      unfold rd
      refine sumN_mod fun i hi => ?_
      rw [gI_vecN _ hi, mul_mod_l (emm _ _), Int.mul_comm]
    rwa [dvd_congr e] at this
  · have := hf.2 hex
    omega
def Indep (p : Int) (n k : Nat) (X : Nat → Nat → Int) : Prop := ∀ c : Nat → Int, (∀ q, q < n → p ∣ sumN (fun i => c i * X i q) k) → ∀ i, i < k → p ∣ c i
theorem steinitz {p : Int} {n a b : Nat} {X Y : Nat → Nat → Int} {M : Nat → Nat → Int} (hP : isP p = true) (ha : a ≤ 1048000) (hX : Indep p n a X) (hM : ∀ i, i < a → ∀ q, q < n → p ∣ X i q - sumN (fun j => M i j * Y j q) b) : a ≤ b := by
  rcases Nat.lt_or_ge b a with hlt | hge
  · exfalso
    obtain ⟨c, ⟨i, hi, hn⟩, hc⟩ := more_unknowns hP ha hlt M
    refine hn (hX c (fun q hq => ?_) i hi)
    have e1 : p ∣ sumN (fun i => c i * X i q) a - sumN (fun i => c i * sumN (fun j => M i j * Y j q) b) a := by
      rw [← sumN_sub]
      exact sumN_dvd fun k hk => by rw [← Int.mul_sub]; exact Int.dvd_mul_of_dvd_right (hM k hk q hq)
    refine dvd_of_sub e1 ?_
    have e2 : sumN (fun i => c i * sumN (fun j => M i j * Y j q) b) a = sumN (fun j => sumN (fun i => c i * M i j) a * Y j q) b := by
      have : sumN (fun i => c i * sumN (fun j => M i j * Y j q) b) a = sumN (fun i => sumN (fun j => c i * M i j * Y j q) b) a := sumN_congr fun k _ => by
        rw [← sumN_mulL]; exact sumN_congr fun j _ => (Int.mul_assoc _ _ _).symm
      rw [this, sumN_comm]
      exact sumN_congr fun j _ => sumN_mulR _ _ _
    rw [e2]
    exact sumN_dvd fun j hj => Int.dvd_mul_of_dvd_left (hc j hj)
  · exact hge
theorem Ech.indep {p : Int} {n : Nat} {B : List (List Int)} {ld : Nat → Nat} (h : Ech p n B ld) : Indep p n B.length (fun j q => gI (gR B j) q) := by
  intro c hc i hi
  have := hc (ld i) (h.lt i hi)
  have e : sumN (fun j => c j * gI (gR B j) (ld i)) B.length = c i := by
    rw [sumN_one hi (fun j hj hne => by rw [h.col i hi j hj hne, Int.mul_zero]), h.one i hi, Int.mul_one]
  rw [← e]; exact this
theorem free_sum {n : Nat} {B : List (List Int)} {ld : Nat → Nat} (g : Nat → Int) : ∀ k, sumN (fun q => if isLd B.length ld q = true then 0 else g q) k = sumN (fun t => g ((freeL n B ld k).getD t 0)) (freeL n B ld k).length
  | 0 => rfl
  | k + 1 => by
    have hs : freeL n B ld (k + 1) = if isLd B.length ld k = true then freeL n B ld k else freeL n B ld k ++ [k] := by
      unfold freeL
      rw [List.range_succ, List.filter_append]
      cases e : isLd B.length ld k <;> simp [e]
    simp only [sumN]
    rw [free_sum (n := n) g k, hs]
    cases e : isLd B.length ld k with
    | true => simp only [if_true, Int.add_zero]
    | false =>
      simp only [Bool.false_eq_true, if_false, List.length_append, List.length_singleton, sumN]
      congr 1
      · exact sumN_congr fun t ht => by rw [List.getD_eq_getElem?_getD, List.getD_eq_getElem?_getD, List.getElem?_append_left ht]
      · rw [List.getD_eq_getElem?_getD, List.getElem?_append_right (Nat.le_refl _), Nat.sub_self]; rfl
theorem freeL_len {p : Int} {n : Nat} {B : List (List Int)} {ld : Nat → Nat} (h : Ech p n B ld) : (freeL n B ld n).length + B.length = n := by
  have h1 := h.split fun _ => 1
  rw [free_sum (n := n) (fun _ => 1) n, sumN_const, sumN_const, sumN_const] at h1
  omega
theorem nullity {p : Int} {n : Nat} {B V : List (List Int)} {ld lv : Nat → Nat} (hP : isP p = true) (hn : n ≤ 1048000) (hB : Ech p n B ld) (hV : Ech p n V lv) (hk : ∀ u, Kr p n V u ↔ KerP p (kerR p n B ld n).length n (kerR p n B ld n) u) : V.length + B.length = n := by
  have hp := isP_le hP
  obtain ⟨k1, k2⟩ := Kernel_span hB hV hk
  have hlen := freeL_len hB
  have hVl := hV.le
  have hmem : ∀ t, t < (freeL n B ld n).length → (freeL n B ld n).getD t 0 < n ∧ isLd B.length ld ((freeL n B ld n).getD t 0) = false := fun t ht => by
    rw [List.getD_eq_getElem?_getD, List.getElem?_eq_getElem ht]
    have hm := List.getElem_mem ht
    have hf : ∀ f, f ∈ freeL n B ld n → f < n ∧ isLd B.length ld f = false := fun f hf => by
      unfold freeL at hf
      rw [List.mem_filter, List.mem_range] at hf
      simpa using hf
    exact hf _ hm
  have hnd : (freeL n B ld n).Nodup := List.Pairwise.filter _ List.nodup_range
  have hinj : ∀ s t, s < (freeL n B ld n).length → t < (freeL n B ld n).length → (freeL n B ld n).getD s 0 = (freeL n B ld n).getD t 0 → s = t := fun s t hs ht e => by
    rw [List.getD_eq_getElem?_getD, List.getElem?_eq_getElem hs, List.getD_eq_getElem?_getD, List.getElem?_eq_getElem ht] at e
    exact nodup_get_inj hnd hs ht (by simpa using e)
  have a1 : (freeL n B ld n).length ≤ V.length := by
    refine steinitz (p := p) (n := n) (X := fun t q => freeF B ld ((freeL n B ld n).getD t 0) q) (Y := fun j q => gI (gR V j) q) (M := fun t j => freeF B ld ((freeL n B ld n).getD t 0) (lv j)) hP (by omega) (fun c hc s hs => ?_) (fun t ht q hq => ?_)
    · obtain ⟨m1, m2⟩ := hmem s hs
      have := hc _ m1
      have e : freeF B ld ((freeL n B ld n).getD s 0) ((freeL n B ld n).getD s 0) = 1 := by unfold freeF; rw [if_pos rfl]
      have e2 : sumN (fun t => c t * freeF B ld ((freeL n B ld n).getD t 0) ((freeL n B ld n).getD s 0)) (freeL n B ld n).length = c s := by
        rw [sumN_one hs (fun t ht hne => by
          rw [freeF_other m2 (fun e => hne (hinj t s ht hs e.symm)), Int.mul_zero]), e, Int.mul_one]
      rw [← e2]; exact this
    · obtain ⟨m1, m2⟩ := hmem t ht
      exact k2 _ (freeF_ker hB m2 m1) q hq
  have a2 : V.length ≤ (freeL n B ld n).length := by
    refine steinitz (p := p) (n := n) (X := fun j q => gI (gR V j) q) (Y := fun t q => freeF B ld ((freeL n B ld n).getD t 0) q) (M := fun j t => gI (gR V j) ((freeL n B ld n).getD t 0)) hP (by omega) hV.indep (fun j hj q hq => ?_)
    have := hB.ker_free (k1 j hj) (fun r => if r = q then 1 else 0)
    have e1 : sumN (fun r => gI (gR V j) r * (if r = q then 1 else 0)) n = gI (gR V j) q := by
      rw [sumN_one hq (fun r _ hr => by rw [if_neg hr, Int.mul_zero]), if_pos rfl, Int.mul_one]
    have e2 : ∀ f, sumN (fun r => freeF B ld f r * (if r = q then 1 else 0)) n = freeF B ld f q := fun f => by
      rw [sumN_one hq (fun r _ hr => by rw [if_neg hr, Int.mul_zero]), if_pos rfl, Int.mul_one]
    rw [e1, sumN_congr (g := fun f => if isLd B.length ld f = true then 0 else gI (gR V j) f * freeF B ld f q) (fun f _ => by rw [e2]), free_sum (n := n)] at this
    exact this
  omega
theorem turn_turn {p : Int} {r c : Nat} {m : List (List Int)} (hm : Mat p r c m) : turnm c r (turnm r c m) = m := by
  refine (extR (f := gR m) (by unfold turnm; rw [vecN_len]) fun i hi => ?_).trans (extR (f := gR m) hm.1 fun i _ => rfl).symm
  have hv := (hm.row hi).1
  rw [extI hv (f := gI (gR m i)) fun k _ => rfl]
  refine extI (by unfold turnm; rw [gR_vecN _ hi, vecN_len]) fun k hk => ?_
  rw [turnm_at hk hi, turnm_at hi hk]
theorem rank_turn_le {p : Int} {r c : Nat} {m D D' : List (List Int)} {ld ld' : Nat → Nat} (hP : isP p = true) (hr : r ≤ 1048000) (hc : c ≤ 1048000) (hm : Mat p r c m) (hD : Ech p c D ld) (hDk : ∀ u, Kr p c D u ↔ KerP p r c m u) (hD' : Ech p r D' ld') (hDk' : ∀ u, Kr p r D' u ↔ KerP p c r (turnm r c m) u) : D'.length ≤ D.length := by
  have hp := isP_le hP
  have hT := turnm_mat hm
  have hle := hD.le
  have hR : Mat p D.length r (vecN D.length fun l => gR (turnm r c m) (ld l)) := Mat.mk' fun l hl => hT.row (hD.lt l hl)
  obtain ⟨b, _, _, hbl, ⟨lb, hb⟩, hbk⟩ := i_basis_any hP (by omega) (by omega) hR
  have hspan : ∀ i, i < r → ∀ q, q < c → p ∣ gI (gR m i) q - sumN (fun l => gI (gR m i) (ld l) * gI (gR D l) q) D.length := fun i hi => hD.span fun y hy => (hDk y).1 hy i hi
  have : b = D' := hb.unique (by omega) hD' fun u => by
    rw [hbk, hDk']
    constructor
    · intro h q hq
      have e1 : p ∣ rd r (gR (turnm r c m) q) u - sumN (fun i => sumN (fun l => gI (gR m i) (ld l) * gI (gR D l) q) D.length * u i) r := by
        unfold rd
        rw [← sumN_sub]
        exact sumN_dvd fun i hi => by
          rw [turnm_at hi hq, ← Int.sub_mul]
          exact Int.dvd_mul_of_dvd_left (hspan i hi q hq)
      refine dvd_of_sub e1 ?_
      have e2 : sumN (fun i => sumN (fun l => gI (gR m i) (ld l) * gI (gR D l) q) D.length * u i) r = sumN (fun l => gI (gR D l) q * rd r (gR (turnm r c m) (ld l)) u) D.length := by
        have : sumN (fun i => sumN (fun l => gI (gR m i) (ld l) * gI (gR D l) q) D.length * u i) r = sumN (fun i => sumN (fun l => gI (gR m i) (ld l) * gI (gR D l) q * u i) D.length) r := sumN_congr fun i _ => (sumN_mulR _ _ _).symm
        rw [this, sumN_comm]
        refine sumN_congr fun l hl => ?_
        unfold rd
        rw [← sumN_mulL]
        exact sumN_congr fun i hi => by rw [turnm_at hi (hD.lt l hl)]; rw [Int.mul_comm (gI (gR m i) (ld l)), Int.mul_assoc]
      rw [e2]
      exact sumN_dvd fun l hl => Int.dvd_mul_of_dvd_right (by have := h l hl; rwa [gR_vecN _ hl] at this)
    · intro h l hl
      rw [gR_vecN _ hl]
      exact h (ld l) (hD.lt l hl)
  rw [← this]; exact hbl
theorem rank_turn {p : Int} {r c : Nat} {m D D' : List (List Int)} {ld ld' : Nat → Nat} (hP : isP p = true) (hr : r ≤ 1048000) (hc : c ≤ 1048000) (hm : Mat p r c m) (hD : Ech p c D ld) (hDk : ∀ u, Kr p c D u ↔ KerP p r c m u) (hD' : Ech p r D' ld') (hDk' : ∀ u, Kr p r D' u ↔ KerP p c r (turnm r c m) u) : D'.length = D.length := by
  have h1 := rank_turn_le hP hr hc hm hD hDk hD' hDk'
  have h2 := rank_turn_le hP hc hr (turnm_mat hm) hD' hDk' hD (fun u => by rw [turn_turn hm]; exact hDk u)
  omega
end Go.Vam
