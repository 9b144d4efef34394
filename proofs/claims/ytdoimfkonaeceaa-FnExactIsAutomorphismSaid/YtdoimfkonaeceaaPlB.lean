/- Plain laws: products of axes; derivations. -/
import Derived.Test.YtdoimfkonaeceaaPlA
import Derived.Test.YtdoimfkonaeceaaPlT
import Derived.Test.YtdoimfkonaeceaaPlV
namespace Go.Vam
open Go Go.RowKit
set_option linter.unusedSimpArgs false
set_option linter.unusedVariables false
set_option linter.unusedSectionVars false

/-! ### Where a product has something -/
def Zr (n : Nat) (x : List Int) : Prop := ∀ q, q < n → gI x q = 0
def Only (n k : Nat) (x : List Int) : Prop := ∀ q, q < n → q ≠ k → gI x q = 0
theorem plusv_zero_at {p : Int} {n q : Nat} {a b : List Int} {k : Int} (hq : q < n) (ha : gI a q = 0) (hb : gI b q = 0) : gI (plusv p n a b k) q = 0 := by
  unfold plusv; rw [gI_vecN _ hq, ha, hb]; simp
theorem starv_zero_at {p : Int} {n q : Nat} {a : List Int} (hq : q < n) (ha : gI a q = 0) : gI (starv p n a) q = 0 := by
  unfold starv
  rw [gI_set (by unfold scalev; simp; omega)]
  split
  · rename_i h; subst h; exact ha
  · unfold scalev; rw [gI_vecN _ hq, ha]; simp
theorem Zr.star {p : Int} {n : Nat} {a : List Int} (h : Zr n a) : Zr n (starv p n a) := fun q hq => starv_zero_at hq (h q hq)
theorem Only.star {p : Int} {n k : Nat} {a : List Int} (h : Only n k a) : Only n k (starv p n a) := fun q hq hk => starv_zero_at hq (h q hq hk)
theorem Zr.take {n h : Nat} {a : List Int} (hz : Zr n a) (hn : h ≤ n) : Zr h (a.take h) := fun q hq => by rw [gI_take hq]; exact hz q (by omega)
theorem Zr.drop {n h : Nat} {a : List Int} (hz : Zr (h + n) a) : Zr n (a.drop h) := fun q hq => by rw [gI_drop]; exact hz _ (by omega)
theorem gI_halves {p : Int} {h q : Nat} {a b c d : List Int} {k l : Int} (hq : q < h + h) : gI (plusv p h a b k ++ plusv p h c d l) q = if q < h then gI (plusv p h a b k) q else gI (plusv p h c d l) (q - h) := by
  rw [gI_append]
  have : (plusv p h a b k).length = h := by unfold plusv; simp
  rw [this]
theorem mulr_zero {p : Int} : ∀ (n : Nat) (w x y : List Int), (Zr (2 ^ n) x ∨ Zr (2 ^ n) y) → Zr (2 ^ n) (mulr p n w x y) := by
  intro n
  induction n with
  | zero =>
    intro w x y h q hq
    have hq0 : q = 0 := by simpa using hq
    subst hq0
    unfold mulr
    show gI x 0 * gI y 0 % p = 0
    rcases h with h | h
    · rw [h 0 (by decide)]; simp
    · rw [h 0 (by decide)]; simp
  | succ n ih =>
    intro w x y h
    have hpow : 2 ^ (n + 1) = 2 ^ n + 2 ^ n := by rw [Nat.pow_succ]; omega
    unfold mulr
    rw [hpow] at h ⊢
    have ih' := ih (w.take n)
    generalize 2 ^ n = d at h ih' ⊢
    have key : ∀ a b c e : List Int, Zr d a → Zr d b → Zr d c → Zr d e → ∀ k l, Zr (d + d) (plusv p d a b k ++ plusv p d c e l) := by
      intro a b c e ha hb hc he k l q hq
      rw [gI_halves hq]
      split
      · exact plusv_zero_at (by assumption) (ha q (by assumption)) (hb q (by assumption))
      · exact plusv_zero_at (by omega) (hc _ (by omega)) (he _ (by omega))
    rcases h with h | h
    · exact key _ _ _ _ (ih' _ _ (.inl (h.take (by omega)))) (ih' _ _ (.inr h.drop)) (ih' _ _ (.inr (h.take (by omega)))) (ih' _ _ (.inl h.drop)) _ _
    · exact key _ _ _ _ (ih' _ _ (.inr (h.take (by omega)))) (ih' _ _ (.inl h.drop.star)) (ih' _ _ (.inl h.drop)) (ih' _ _ (.inr (h.take (by omega)).star)) _ _
theorem xor_hi : ∀ n, n < 4 → ∀ i, i < 2 ^ n → ∀ j, j < 2 ^ n → i ^^^ (2 ^ n + j) = 2 ^ n + (i ^^^ j) ∧ (2 ^ n + i) ^^^ j = 2 ^ n + (i ^^^ j) ∧ (2 ^ n + i) ^^^ (2 ^ n + j) = i ^^^ j := by decide
theorem mulr_only {p : Int} : ∀ (n : Nat), n ≤ 4 → ∀ (w x y : List Int) (i j : Nat), i < 2 ^ n → j < 2 ^ n → Only (2 ^ n) i x → Only (2 ^ n) j y → Only (2 ^ n) (i ^^^ j) (mulr p n w x y) := by
  intro n
  induction n with
  | zero =>
    intro _ w x y i j hi hj hx hy q hq hk
    have h1 : q = 0 := by simpa using hq
    have h2 : i = 0 := by simpa using hi
    have h3 : j = 0 := by simpa using hj
    subst h1; subst h2; subst h3
    simp at hk
  | succ n ih =>
    intro hn w x y i j hi hj hx hy
    have hpow : 2 ^ (n + 1) = 2 ^ n + 2 ^ n := by rw [Nat.pow_succ]; omega
    have hX := xor_hi n (by omega)
    have hlt : ∀ a b, a < 2 ^ n → b < 2 ^ n → a ^^^ b < 2 ^ n := fun a b ha hb => xor_lt ha hb
    unfold mulr
    rw [hpow] at hi hj hx hy ⊢
    have ih' := ih (by omega) (w.take n)
    have iz := mulr_zero (p := p) n (w.take n)
    generalize 2 ^ n = d at hi hj hx hy ih' iz hX hlt ⊢
    have lo : ∀ a b c e : List Int, ∀ t, Only d t a → Only d t b → Zr d c → Zr d e → ∀ k l, Only (d + d) t (plusv p d a b k ++ plusv p d c e l) := by
      intro a b c e t ha hb hc he k l q hq hqt
      rw [gI_halves hq]
      split
      · exact plusv_zero_at (by assumption) (ha q (by assumption) hqt) (hb q (by assumption) hqt)
      · exact plusv_zero_at (by omega) (hc _ (by omega)) (he _ (by omega))
    have up : ∀ a b c e : List Int, ∀ t, Zr d a → Zr d b → Only d t c → Only d t e → ∀ k l, Only (d + d) (d + t) (plusv p d a b k ++ plusv p d c e l) := by
      intro a b c e t ha hb hc he k l q hq hqt
      rw [gI_halves hq]
      split
      · exact plusv_zero_at (by assumption) (ha q (by assumption)) (hb q (by assumption))
      · exact plusv_zero_at (by omega) (hc _ (by omega) (by omega)) (he _ (by omega) (by omega))
    have tk : ∀ (u : List Int) s, s < d → Only (d + d) s u → Only d s (u.take d) ∧ Zr d (u.drop d) := fun u s hs hu =>
      ⟨fun q hq hk => by rw [gI_take hq]; exact hu q (by omega) hk, fun q hq => by rw [gI_drop]; exact hu _ (by omega) (by omega)⟩
    have dp : ∀ (u : List Int) s, d ≤ s → Only (d + d) s u → Zr d (u.take d) ∧ Only d (s - d) (u.drop d) := fun u s hs hu =>
      ⟨fun q hq => by rw [gI_take hq]; exact hu q (by omega) (by omega), fun q hq hk => by rw [gI_drop]; exact hu _ (by omega) (by omega)⟩
    have oz : ∀ (u : List Int) s, Zr d u → Only d s u := fun u s hu q hq _ => hu q hq
    rcases Nat.lt_or_ge i d with hid | hid <;> rcases Nat.lt_or_ge j d with hjd | hjd
    · obtain ⟨x1, x2⟩ := tk x i hid hx
      obtain ⟨y1, y2⟩ := tk y j hjd hy
      exact lo _ _ _ _ _ (ih' _ _ i j hid hjd x1 y1) (oz _ _ (iz _ _ (.inr x2))) (iz _ _ (.inl y2)) (iz _ _ (.inl x2)) _ _
    · obtain ⟨x1, x2⟩ := tk x i hid hx
      obtain ⟨y1, y2⟩ := dp y j hjd hy
      have e : i ^^^ j = d + ((j - d) ^^^ i) := by
        have := (hX i hid (j - d) (by omega)).1
        rw [show d + (j - d) = j by omega] at this
        rw [this, Nat.xor_comm]
      rw [e]
      exact up _ _ _ _ _ (iz _ _ (.inr y1)) (iz _ _ (.inr x2)) (ih' _ _ (j - d) i (by omega) hid y2 x1) (oz _ _ (iz _ _ (.inl x2))) _ _
    · obtain ⟨x1, x2⟩ := dp x i hid hx
      obtain ⟨y1, y2⟩ := tk y j hjd hy
      have e : i ^^^ j = d + ((i - d) ^^^ j) := by
        have := (hX (i - d) (by omega) j hjd).2.1
        rw [show d + (i - d) = i by omega] at this
        exact this
      rw [e]
      exact up _ _ _ _ _ (iz _ _ (.inl x1)) (iz _ _ (.inl y2.star)) (oz _ _ (iz _ _ (.inl y2))) (ih' _ _ (i - d) j (by omega) hjd x2 y1.star) _ _
    · obtain ⟨x1, x2⟩ := dp x i hid hx
      obtain ⟨y1, y2⟩ := dp y j hjd hy
      have e : i ^^^ j = (j - d) ^^^ (i - d) := by
        have := (hX (i - d) (by omega) (j - d) (by omega)).2.2
        rw [show d + (i - d) = i by omega, show d + (j - d) = j by omega] at this
        rw [this, Nat.xor_comm]
      rw [e]
      exact lo _ _ _ _ _ (oz _ _ (iz _ _ (.inl x1))) (ih' _ _ (j - d) (i - d) (by omega) (by omega) y2.star x2) (iz _ _ (.inr x1)) (iz _ _ (.inr y1.star)) _ _
theorem gI_axis {n k q : Nat} (hk : k < n) : gI (axis n k) q = if q = k then 1 else 0 := by
  unfold axis
  rw [gI_set (by simpa using hk)]
  by_cases h : k = q
  · rw [if_pos h, if_pos h.symm]
  · rw [if_neg h, if_neg (fun e => h e.symm)]
    unfold gI
    rw [List.getD_eq_getElem?_getD, List.getElem?_replicate]
    split <;> rfl
theorem axm_only {p : Int} {w : List Int} (hl : w.length ≤ 4) {i j : Nat} (hi : i < 2 ^ w.length) (hj : j < 2 ^ w.length) : Only (2 ^ w.length) (i ^^^ j) (axm p w i j) := by
  unfold axm mulp
  refine mulr_only w.length hl w _ _ i j hi hj (fun q hq hk => ?_) (fun q hq hk => ?_)
  · rw [gI_axis hi, if_neg hk]
  · rw [gI_axis hj, if_neg hk]
theorem sumN_one {f : Nat → Int} {n k : Nat} (hk : k < n) (h : ∀ q, q < n → q ≠ k → f q = 0) : sumN f n = f k := by
  have key : ∀ m, m ≤ n → sumN f m = if k < m then f k else 0 := by
    intro m
    induction m with
    | zero => intro _; rfl
    | succ m ih =>
      intro hm
      rw [sumN, ih (by omega)]
      by_cases h1 : k < m
      · rw [if_pos h1, if_pos (by omega), h m (by omega) (by omega), Int.add_zero]
      · rw [if_neg h1]
        by_cases h2 : m = k
        · subst h2; rw [if_pos (by omega), Int.zero_add]
        · rw [if_neg (by omega), h m (by omega) h2, Int.add_zero]
  rw [key n (Nat.le_refl _), if_pos hk]
/-- A column. -/
def colv (n : Nat) (m : List (List Int)) (k : Nat) : List Int := vecN n fun i => gI (gR m i) k
section
variable {p : Int} {n k : Nat} {m : List (List Int)} (hn : n ≤ 1048576) (hm : Mat p n n m) (hk : k < n)
include hn hm hk
theorem colv_vec : Vec p n (colv n m k) := Vec.mk' fun i hi => (hm.row hi).get hk
theorem s_l14Column_eq : s_l14Column m (k : Int) = some (colv n m k) := by
  unfold s_l14Column
  have e1 := hm.1
  rw [map_loop _ n (fun i => gI (gR m i) k) (by rw [BIG_val]; omega)]
  · rfl
  · intro i hi out ho
    unfold s_l14Column_L0
    have e3 := (hm.row hi).1
    simp only [show (i : Int) < m.length by omega, if_true, idxR (show i < m.length by omega), idxI (show k < (gR m i).length by omega), some_bind]
    rw [chk_bind (by simp only [List.length_cons, List.length_nil]; omega), w_in (by omega) (by omega)]; rfl
  · intro out ho
    unfold s_l14Column_L0
    simp [e1]
theorem i_column_eq : i_column m (k : Int) = some (colv n m k) := s_l14Column_eq hn hm hk
theorem apply_only {v : List Int} (hv : Vec p n v) (ho : Only n k v) : applyv p n n m v = scalev p n (colv n m k) (gI v k) := by
  unfold applyv scalev
  refine vecN_congr fun i hi => ?_
  unfold dotp colv
  rw [gI_vecN _ hi, sumN_one hk (fun q hq hqk => by rw [ho q hq hqk, Int.mul_zero])]
end
theorem lead_zero {v : List Int} (hv : v.length ≤ 1048576) (hz : ∀ k, k < v.length → gI v k = 0) : i_lead v = some (v.length : Int) := by
  unfold i_lead
  rw [loop_for (b := (v.length : Int)) (s := 0) (fun k => (k : Int)) v.length (by rw [BIG_val]; omega) rfl]
  · rfl
  · intro k hk
    unfold i_lead_L0
    simp only [show (k : Int) < (v.length : Int) by omega, if_true, idxI hk, some_bind, hz k hk, ieq_self]
    rw [w_in (by omega) (by omega)]; rfl
  · unfold i_lead_L0
    simp
theorem i_isZero_eq {v : List Int} (hv : v.length ≤ 1048576) : ∃ b, i_isZero v = some b ∧ (b = true ↔ ∀ k, k < v.length → gI v k = 0) := by
  unfold i_isZero
  by_cases h : ∀ k, k < v.length → gI v k = 0
  · rw [lead_zero hv h, some_bind]
    exact ⟨_, rfl, by simp [ieq]; exact h⟩
  · have : ∃ q, q < v.length ∧ gI v q ≠ 0 := by
      apply Classical.byContradiction
      intro hc
      exact h fun k hk => Classical.byContradiction fun h0 => hc ⟨k, hk, h0⟩
    obtain ⟨q, hq, h0⟩ := this
    obtain ⟨f, f1, _, f3, f4, _⟩ := first_two hv hq h0
    rw [f3, some_bind]
    refine ⟨_, rfl, ?_⟩
    rw [ieq_nat, decide_eq_true_eq]
    constructor
    · intro e; omega
    · intro e; exact absurd e h
theorem diff_zero {p : Int} {n : Nat} {a b : List Int} (hp : 0 < p) (ha : Vec p n a) (hb : Vec p n b) : (∀ k, k < n → gI (plusv p n a b (-1)) k = 0) ↔ b = a := by
  constructor
  · intro h
    have : b = vecN n (gI a) := extI hb.1 fun k hk => by
      have h1 := h k hk
      unfold plusv at h1
      rw [gI_vecN _ hk] at h1
      have h2 := ha.get hk
      have h3 := hb.get hk
      have h4 : (gI a k + -1 * gI b k) = gI a k - gI b k := by omega
      rw [h4] at h1
      have h5 := Int.emod_emod_of_dvd (gI a k) (Int.dvd_refl p)
      have h6 : gI a k % p = gI b k % p := Int.emod_eq_emod_iff_emod_sub_eq_zero.2 h1
      rw [mod_small h2.1 h2.2, mod_small h3.1 h3.2] at h6
      exact h6.symm
    rw [this]; exact (extI ha.1 fun k _ => rfl).symm
  · rintro rfl k hk
    unfold plusv
    rw [gI_vecN _ hk]
    have : gI b k + -1 * gI b k = 0 := by omega
    rw [this]; simp

/-! ### Derivations -/
section
variable {p : Int} {w : List Int} {m : List (List Int)} (hP : isP p = true) (hl : w.length ≤ 4) (hw : Vec p w.length w) (hm : Mat p (2 ^ w.length) (2 ^ w.length) m)
def leib (p : Int) (w : List Int) (m : List (List Int)) (i j : Nat) : List Int :=
  plusv p (2 ^ w.length) (mulp p w (colv (2 ^ w.length) m i) (axis (2 ^ w.length) j)) (mulp p w (axis (2 ^ w.length) i) (colv (2 ^ w.length) m j)) 1
def imgv (p : Int) (w : List Int) (m : List (List Int)) (i j : Nat) : List Int := scalev p (2 ^ w.length) (colv (2 ^ w.length) m (i ^^^ j)) (gI (axm p w i j) (i ^^^ j))
def dvB (p : Int) (w : List Int) (m : List (List Int)) (i j : Nat) : Bool := decide (imgv p w m i j = leib p w m i j)
include hP hl hw hm
theorem s_l14Derivation_eq : s_l14Derivation p w m = some ((List.range (2 ^ w.length)).all fun i => (List.range (2 ^ w.length)).all (dvB p w m i)) := by
  have hp := isP_le hP
  have h16 := two_le hl
  have hT := prodm_mat hP hl hw
  have e0 := hT.1
  have inner : ∀ i : Nat, i < 2 ^ w.length → loop (s_l14Derivation_L1 p w m (prodm p w) ((2 ^ w.length : Nat) : Int) (i : Int)) BIG 0 = some (if (List.range (2 ^ w.length)).all (dvB p w m i) then .inl () else .inr (.inr (.inr false))) := by
    intro i hi
    have core : ∀ j : Nat, j < 2 ^ w.length → s_l14Derivation_L1 p w m (prodm p w) ((2 ^ w.length : Nat) : Int) (i : Int) (j : Int) = if dvB p w m i j = true then some (.inl ((j + 1 : Nat) : Int)) else some (.inr (.inr (.inr (.inr false)))) := by
      intro j hj
      have hx := xor_lt hi hj
      have e1 := (hT.row hi).1
      have ei := axis_vec (p := p) (by omega) hi
      have ej := axis_vec (p := p) (by omega) hj
      have ci := colv_vec (by omega) hm hi
      have cj := colv_vec (by omega) hm hj
      have cx := colv_vec (by omega) hm hx
      have hc := (axm_vec hP hl hw hi hj).get hx
      have hTij : gI (gR (prodm p w) i) j = gI (axm p w i j) (i ^^^ j) := by unfold prodm; rw [gR_vecN _ hi, gI_vecN _ hj]
      have sc := s_l11Scale_eq hp.1 hp.2 (show 2 ^ w.length ≤ 1048576 by omega) hc.1 (by omega) cx
      have ad := s_l11Add_eq hp.1 hp.2 (show 2 ^ w.length ≤ 1048576 by omega) (mulp_vec hP hl hw ci ej) (mulp_vec hP hl hw ei cj)
      unfold s_l14Derivation_L1
      simp only [lt_cast hj, if_true, idxR (show i < (prodm p w).length by omega), idxI (show j < (gR (prodm p w) i).length by omega), some_bind, hTij, bxor_k i (by omega) j (by omega), s_l14Column_eq (by omega) hm hx, s_l14Column_eq (by omega) hm hi, s_l14Column_eq (by omega) hm hj, sc, s_l11One_eq hl hi, s_l11One_eq hl hj,
        s_l11Times_eq hP hl hw ci ej, s_l11Times_eq hP hl hw ei cj, ad]
      have hlen : (scalev p (2 ^ w.length) (colv (2 ^ w.length) m (i ^^^ j)) (gI (axm p w i j) (i ^^^ j))).length ≤ 1048576 := by unfold scalev; simp; omega
      rw [s_l01Same_eq hlen, some_bind, w_in (by omega) (by omega)]
      show (if dvB p w m i j = false then _ else _) = _
      cases dvB p w m i j <;> rfl
    refine all_loop _ (2 ^ w.length) (dvB p w m i) _ (by rw [BIG_val]; omega) ?_ ?_ ?_
    · intro j hj hf
      rw [core j hj, if_pos hf]
    · intro j hj hf
      rw [core j hj, if_neg (by simp [hf])]
    · unfold s_l14Derivation_L1
      simp only [lt_cast_self, if_false]
  unfold s_l14Derivation
  rw [s_l11Basis_eq hP hl hw, some_bind, s_l11Size_eq hl, some_bind, all_loop _ (2 ^ w.length) (fun i => (List.range (2 ^ w.length)).all (dvB p w m i)) false (by rw [BIG_val]; omega)]
  · rw [some_bind]
    cases (List.range (2 ^ w.length)).all fun i => (List.range (2 ^ w.length)).all (dvB p w m i) <;> rfl
  · intro i hi hf
    unfold s_l14Derivation_L0
    rw [if_pos (by omega), inner i hi, hf, w_in (by omega) (by omega)]; rfl
  · intro i hi hf
    unfold s_l14Derivation_L0
    rw [if_pos (by omega), inner i hi, hf]; rfl
  · unfold s_l14Derivation_L0
    simp only [lt_cast_self, if_false]
theorem i_Doubling_isDerivation_eq : i_Doubling_isDerivation p w m = some ((List.range (2 ^ w.length)).all fun i => (List.range (2 ^ w.length)).all (dvB p w m i)) := by
  have hp := isP_le hP
  have h16 := two_le hl
  have e0 := (unitm_mat (p := p) (by omega) (2 ^ w.length)).1
  have inner : ∀ i : Nat, i < 2 ^ w.length → loop (i_Doubling_isDerivation_L1 p w m p (i : Int) (axis (2 ^ w.length) i) (unitm (2 ^ w.length))) BIG 0 = some (if (List.range (2 ^ w.length)).all (dvB p w m i) then .inl () else .inr (.inr (.inr false))) := by
    intro i hi
    have core : ∀ j : Nat, j < 2 ^ w.length → i_Doubling_isDerivation_L1 p w m p (i : Int) (axis (2 ^ w.length) i) (unitm (2 ^ w.length)) (j : Int) = if dvB p w m i j = true then some (.inl ((j + 1 : Nat) : Int)) else some (.inr (.inr (.inr (.inr false)))) := by
      intro j hj
      have hx := xor_lt hi hj
      have ei := axis_vec (p := p) (by omega) hi
      have ej := axis_vec (p := p) (by omega) hj
      have ci := colv_vec (by omega) hm hi
      have cj := colv_vec (by omega) hm hj
      have hav := axm_vec hP hl hw hi hj
      have m1 := mulp_vec hP hl hw ci ej
      have m2 := mulp_vec hP hl hw ei cj
      have p1 := i_field_plus_eq (p := p) (k := 1) (by omega) (by omega) (show 2 ^ w.length ≤ 1048576 by omega) (by omega) m1 m2
      have ap := i_field_apply_eq (show 0 < p by omega) (show p ≤ 13 by omega) (show 2 ^ w.length ≤ 1048576 by omega) (show 2 ^ w.length ≤ 1048576 by omega) hm hav
      rw [apply_only (by omega) hm hx hav (axm_only hl hi hj)] at ap
      have v1 : Vec p (2 ^ w.length) (leib p w m i j) := plusv_vec (by omega) ..
      have v2 : Vec p (2 ^ w.length) (imgv p w m i j) := scalev_vec (by omega) ..
      have p2 := i_field_plus_eq (p := p) (k := -1) (by omega) (by omega) (show 2 ^ w.length ≤ 1048576 by omega) (by omega) v1 v2
      have hlen : (plusv p (2 ^ w.length) (leib p w m i j) (imgv p w m i j) (-1)).length = 2 ^ w.length := by unfold plusv; simp
      obtain ⟨b, b1, b2⟩ := i_isZero_eq (v := plusv p (2 ^ w.length) (leib p w m i j) (imgv p w m i j) (-1)) (by omega)
      rw [hlen, diff_zero (by omega) v1 v2] at b2
      have hb : b = dvB p w m i j := by
        unfold dvB
        rw [Bool.eq_iff_iff, b2, decide_eq_true_eq]
      unfold i_Doubling_isDerivation_L1
      simp only [e0, lt_cast hj, if_true, idxR (show j < (unitm (2 ^ w.length)).length by omega), gR_unitm hj, some_bind, i_column_eq (by omega) hm hi, i_column_eq (by omega) hm hj, i_Doubling_times_eq hP hl hw ci ej, i_Doubling_times_eq hP hl hw ei cj, i_Doubling_times_eq hP hl hw ei ej, p1]
      rw [show mulp p w (axis (2 ^ w.length) i) (axis (2 ^ w.length) j) = axm p w i j from rfl, ap, some_bind]
      show ((i_field_plus p (leib p w m i j) (imgv p w m i j) (-1)).bind _) = _
      rw [p2, some_bind, b1, some_bind, hb, w_in (by omega) (by omega)]
      cases dvB p w m i j <;> rfl
    refine all_loop _ (2 ^ w.length) (dvB p w m i) _ (by rw [BIG_val]; omega) ?_ ?_ ?_
    · intro j hj hf
      rw [core j hj, if_pos hf]
    · intro j hj hf
      rw [core j hj, if_neg (by simp [hf])]
    · unfold i_Doubling_isDerivation_L1
      simp only [e0, lt_cast_self, if_false]
  unfold i_Doubling_isDerivation i_Doubling_field
  rw [some_bind, i_Doubling_size_eq hl, some_bind, i_unit_eq (by omega), some_bind, all_loop _ (2 ^ w.length) (fun i => (List.range (2 ^ w.length)).all (dvB p w m i)) false (by rw [BIG_val]; omega)]
  · rw [some_bind]
    cases (List.range (2 ^ w.length)).all fun i => (List.range (2 ^ w.length)).all (dvB p w m i) <;> rfl
  · intro i hi hf
    unfold i_Doubling_isDerivation_L0
    rw [e0, if_pos (by omega), idxR (by omega), some_bind, gR_unitm hi, i_Doubling_size_eq hl, some_bind, i_unit_eq (by omega), some_bind, inner i hi, hf, w_in (by omega) (by omega)]; rfl
  · intro i hi hf
    unfold i_Doubling_isDerivation_L0
    rw [e0, if_pos (by omega), idxR (by omega), some_bind, gR_unitm hi, i_Doubling_size_eq hl, some_bind, i_unit_eq (by omega), some_bind, inner i hi, hf]; rfl
  · unfold i_Doubling_isDerivation_L0
    simp only [e0, lt_cast_self, if_false]
end
theorem IsDerivation_eq {p : Int} {w : List Int} {m : List (List Int)} (hw : w.length ≤ 1048576) (h : szM m) : ∃ V C, s_IsDerivation p w m = some (V, C) ∧ i_IsDerivation p w m = some (V, C) := by
  have hsm : ∀ x ∈ [m], szM x := fun x hx => by simp only [List.mem_singleton] at hx; exact hx ▸ h
  unfold s_IsDerivation i_IsDerivation
  rw [s_l14Two_eq hw (by simp) hsm, i_checkThree_eq hw ⟨by simp, by simp⟩ (by simp) hsm, some_bind, some_bind]
  by_cases h0 : thC p w [] [m] = 0
  · obtain ⟨a1, a2, _, a4⟩ := thC_zero h0
    obtain ⟨hP, hl, hv, _⟩ := isDb_iff a1
    have hM := a4 m (by simp)
    simp only [h0, not_true_eq_false, if_false, s_l14Derivation_eq hP hl hv hM, i_Doubling_isDerivation_eq hP hl hv hM, some_bind]
    exact ⟨_, _, rfl, rfl⟩
  · simp only [h0, not_false_eq_true, if_true]
    exact ⟨_, _, rfl, rfl⟩
theorem LawIsDerivation {p : Int} {w : List Int} {m : List (List Int)} (hw : lenI w) (hm : lenM m) : l_FnExactIsDerivation p w m = some true := by
  unfold l_FnExactIsDerivation
  rw [szDb_eq hw (by omega) (by omega), some_bind]
  by_cases h1 : ((w.length : Nat) : Int) ≤ 1048576
  · have hs : szv w.length 1048576 = 1048576 - ((w.length : Nat) : Int) := by unfold szv; rw [if_pos h1]
    rw [hs, if_neg (by omega), szM_eq hm (by omega) (by omega), some_bind]
    by_cases h2 : ((m.length + rowsum m : Nat) : Int) ≤ 1048576 - ((w.length : Nat) : Int)
    · have hs2 : szv (m.length + rowsum m) (1048576 - ((w.length : Nat) : Int)) = 1048576 - ((w.length : Nat) : Int) - ((m.length + rowsum m : Nat) : Int) := by unfold szv; rw [if_pos h2]
      rw [hs2, if_neg (by omega)]
      obtain ⟨za, ra⟩ := sz_split (m := m) (by omega) h2
      have hw' : w.length ≤ 1048576 := by omega
      obtain ⟨V, C, e3, e4⟩ := IsDerivation_eq (p := p) hw' za
      have e1 := toM_eq za.1 za.2
      have e2 := toDb_eq (p := p) hw'
      have e5 := eqDb_self (p := p) hw'
      have e6 := eqM_self za
      simp only [e1, e2, e3, e4, e5, e6, some_bind, Bool.true_eq_false, Bool.false_eq_true, if_false, if_true, ieq_self, Bool.not_true, natneg, not_true_eq_false, bne_self_eq_false]
    · have hs2 : szv (m.length + rowsum m) (1048576 - ((w.length : Nat) : Int)) = -1 := by unfold szv; rw [if_neg h2]
      rw [hs2, if_pos (by omega)]
  · have hs : szv w.length 1048576 = -1 := by unfold szv; rw [if_neg h1]
    rw [hs, if_pos (by omega)]
end Go.Vam
