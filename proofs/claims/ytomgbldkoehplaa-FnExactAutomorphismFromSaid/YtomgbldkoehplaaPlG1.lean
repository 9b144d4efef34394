import Derived.Test.YtomgbldkoehplaaPlG0
import Derived.Test.YtomgbldkoehplaaFnF
import Derived.Test.YtomgbldkoehplaaFnG
import Derived.Test.YtomgbldkoehplaaFnE
import Derived.Test.YtomgbldkoehplaaFnH
/- Plain laws: products of axes; derivations. -/
namespace Go.Vam
open Go Go.RowKit
set_option linter.unusedSimpArgs false
set_option linter.unusedVariables false
set_option linter.unusedSectionVars false

/-! ### Where a product has something -/
def Zr (n : Nat) (x : List Int) : Prop := ∀ q, q < n → gI x q = 0
def Only (n k : Nat) (x : List Int) : Prop := ∀ q, q < n → q ≠ k → gI x q = 0
theorem plusv_zero_at {p : Int} {n q : Nat} {a b : List Int} {k : Int} (hq : q < n) (ha : gI a q = 0) (hb : gI b q = 0) : gI (plusv p n a b k) q = 0 := by
  unfold plusv; rw [gI_vecN _ hq, ha, hb]; simp
theorem starv_zero_at {p : Int} {n q : Nat} {a : List Int} (hq : q < n) (ha : gI a q = 0) : gI (starv p n a) q = 0 := by
  unfold starv
  rw [gI_set (by unfold scalev; simp; omega)]
  split
  · rename_i h; subst h; exact ha
  · unfold scalev; rw [gI_vecN _ hq, ha]; simp
theorem Zr.star {p : Int} {n : Nat} {a : List Int} (h : Zr n a) : Zr n (starv p n a) := fun q hq => starv_zero_at hq (h q hq)
theorem Only.star {p : Int} {n k : Nat} {a : List Int} (h : Only n k a) : Only n k (starv p n a) := fun q hq hk => starv_zero_at hq (h q hq hk)
theorem Zr.take {n h : Nat} {a : List Int} (hz : Zr n a) (hn : h ≤ n) : Zr h (a.take h) := fun q hq => by rw [gI_take hq]; exact hz q (by omega)
theorem Zr.drop {n h : Nat} {a : List Int} (hz : Zr (h + n) a) : Zr n (a.drop h) := fun q hq => by rw [gI_drop]; exact hz _ (by omega)
theorem gI_halves {p : Int} {h q : Nat} {a b c d : List Int} {k l : Int} (hq : q < h + h) : gI (plusv p h a b k ++ plusv p h c d l) q = if q < h then gI (plusv p h a b k) q else gI (plusv p h c d l) (q - h) := by
  rw [gI_append]
  have : (plusv p h a b k).length = h := by unfold plusv; simp
  rw [this]
theorem mulr_zero {p : Int} : ∀ (n : Nat) (w x y : List Int), (Zr (2 ^ n) x ∨ Zr (2 ^ n) y) → Zr (2 ^ n) (mulr p n w x y) := by
  intro n
  induction n with
  | zero =>
    intro w x y h q hq
    have hq0 : q = 0 := by simpa using hq
    subst hq0
    unfold mulr
    show gI x 0 * gI y 0 % p = 0
    rcases h with h | h
    · rw [h 0 (by decide)]; simp
    · rw [h 0 (by decide)]; simp
  | succ n ih =>
    intro w x y h
    have hpow : 2 ^ (n + 1) = 2 ^ n + 2 ^ n := by rw [Nat.pow_succ]; omega
    unfold mulr
    rw [hpow] at h ⊢
    have ih' := ih (w.take n)
    generalize 2 ^ n = d at h ih' ⊢
    have key : ∀ a b c e : List Int, Zr d a → Zr d b → Zr d c → Zr d e → ∀ k l, Zr (d + d) (plusv p d a b k ++ plusv p d c e l) := by
      intro a b c e ha hb hc he k l q hq
      rw [gI_halves hq]
      split
      · exact plusv_zero_at (by assumption) (ha q (by assumption)) (hb q (by assumption))
      · exact plusv_zero_at (by omega) (hc _ (by omega)) (he _ (by omega))
    rcases h with h | h
    · exact key _ _ _ _ (ih' _ _ (.inl (h.take (by omega)))) (ih' _ _ (.inr h.drop)) (ih' _ _ (.inr (h.take (by omega)))) (ih' _ _ (.inl h.drop)) _ _
    · exact key _ _ _ _ (ih' _ _ (.inr (h.take (by omega)))) (ih' _ _ (.inl h.drop.star)) (ih' _ _ (.inl h.drop)) (ih' _ _ (.inr (h.take (by omega)).star)) _ _
theorem xor_hi : ∀ n, n < 4 → ∀ i, i < 2 ^ n → ∀ j, j < 2 ^ n → i ^^^ (2 ^ n + j) = 2 ^ n + (i ^^^ j) ∧ (2 ^ n + i) ^^^ j = 2 ^ n + (i ^^^ j) ∧ (2 ^ n + i) ^^^ (2 ^ n + j) = i ^^^ j := by decide
theorem mulr_only {p : Int} : ∀ (n : Nat), n ≤ 4 → ∀ (w x y : List Int) (i j : Nat), i < 2 ^ n → j < 2 ^ n → Only (2 ^ n) i x → Only (2 ^ n) j y → Only (2 ^ n) (i ^^^ j) (mulr p n w x y) := by
  intro n
  induction n with
  | zero =>
    intro _ w x y i j hi hj hx hy q hq hk
    have h1 : q = 0 := by simpa using hq
    have h2 : i = 0 := by simpa using hi
    have h3 : j = 0 := by simpa using hj
    subst h1; subst h2; subst h3
    simp at hk
  | succ n ih =>
    intro hn w x y i j hi hj hx hy
    have hpow : 2 ^ (n + 1) = 2 ^ n + 2 ^ n := by rw [Nat.pow_succ]; omega
    have hX := xor_hi n (by omega)
    have hlt : ∀ a b, a < 2 ^ n → b < 2 ^ n → a ^^^ b < 2 ^ n := fun a b ha hb => xor_lt ha hb
    unfold mulr
    rw [hpow] at hi hj hx hy ⊢
    have ih' := ih (by omega) (w.take n)
    have iz := mulr_zero (p := p) n (w.take n)
    generalize 2 ^ n = d at hi hj hx hy ih' iz hX hlt ⊢
    have lo : ∀ a b c e : List Int, ∀ t, Only d t a → Only d t b → Zr d c → Zr d e → ∀ k l, Only (d + d) t (plusv p d a b k ++ plusv p d c e l) := by
      intro a b c e t ha hb hc he k l q hq hqt
      rw [gI_halves hq]
      split
      · exact plusv_zero_at (by assumption) (ha q (by assumption) hqt) (hb q (by assumption) hqt)
      · exact plusv_zero_at (by omega) (hc _ (by omega)) (he _ (by omega))
    have up : ∀ a b c e : List Int, ∀ t, Zr d a → Zr d b → Only d t c → Only d t e → ∀ k l, Only (d + d) (d + t) (plusv p d a b k ++ plusv p d c e l) := by
      intro a b c e t ha hb hc he k l q hq hqt
      rw [gI_halves hq]
      split
      · exact plusv_zero_at (by assumption) (ha q (by assumption)) (hb q (by assumption))
      · exact plusv_zero_at (by omega) (hc _ (by omega) (by omega)) (he _ (by omega) (by omega))
    have tk : ∀ (u : List Int) s, s < d → Only (d + d) s u → Only d s (u.take d) ∧ Zr d (u.drop d) := fun u s hs hu =>
      ⟨fun q hq hk => by rw [gI_take hq]; exact hu q (by omega) hk, fun q hq => by rw [gI_drop]; exact hu _ (by omega) (by omega)⟩
    have dp : ∀ (u : List Int) s, d ≤ s → Only (d + d) s u → Zr d (u.take d) ∧ Only d (s - d) (u.drop d) := fun u s hs hu =>
      ⟨fun q hq => by rw [gI_take hq]; exact hu q (by omega) (by omega), fun q hq hk => by rw [gI_drop]; exact hu _ (by omega) (by omega)⟩
    have oz : ∀ (u : List Int) s, Zr d u → Only d s u := fun u s hu q hq _ => hu q hq
    rcases Nat.lt_or_ge i d with hid | hid <;> rcases Nat.lt_or_ge j d with hjd | hjd
    · obtain ⟨x1, x2⟩ := tk x i hid hx
      obtain ⟨y1, y2⟩ := tk y j hjd hy
      exact lo _ _ _ _ _ (ih' _ _ i j hid hjd x1 y1) (oz _ _ (iz _ _ (.inr x2))) (iz _ _ (.inl y2)) (iz _ _ (.inl x2)) _ _
    · obtain ⟨x1, x2⟩ := tk x i hid hx
      obtain ⟨y1, y2⟩ := dp y j hjd hy
      have e : i ^^^ j = d + ((j - d) ^^^ i) := by
        have := (hX i hid (j - d) (by omega)).1
        rw [show d + (j - d) = j by omega] at this
        rw [this, Nat.xor_comm]
      rw [e]
      exact up _ _ _ _ _ (iz _ _ (.inr y1)) (iz _ _ (.inr x2)) (ih' _ _ (j - d) i (by omega) hid y2 x1) (oz _ _ (iz _ _ (.inl x2))) _ _
    · obtain ⟨x1, x2⟩ := dp x i hid hx
      obtain ⟨y1, y2⟩ := tk y j hjd hy
      have e : i ^^^ j = d + ((i - d) ^^^ j) := by
        have := (hX (i - d) (by omega) j hjd).2.1
        rw [show d + (i - d) = i by omega] at this
        exact this
      rw [e]
      exact up _ _ _ _ _ (iz _ _ (.inl x1)) (iz _ _ (.inl y2.star)) (oz _ _ (iz _ _ (.inl y2))) (ih' _ _ (i - d) j (by omega) hjd x2 y1.star) _ _
    · obtain ⟨x1, x2⟩ := dp x i hid hx
      obtain ⟨y1, y2⟩ := dp y j hjd hy
      have e : i ^^^ j = (j - d) ^^^ (i - d) := by
        have := (hX (i - d) (by omega) (j - d) (by omega)).2.2
        rw [show d + (i - d) = i by omega, show d + (j - d) = j by omega] at this
        rw [this, Nat.xor_comm]
      rw [e]
      exact lo _ _ _ _ _ (oz _ _ (iz _ _ (.inl x1))) (ih' _ _ (j - d) (i - d) (by omega) (by omega) y2.star x2) (iz _ _ (.inr x1)) (iz _ _ (.inr y1.star)) _ _
theorem gI_axis {n k q : Nat} (hk : k < n) : gI (axis n k) q = if q = k then 1 else 0 := by
  unfold axis
  rw [gI_set (by simpa using hk)]
  by_cases h : k = q
  · rw [if_pos h, if_pos h.symm]
  · rw [if_neg h, if_neg (fun e => h e.symm)]
    unfold gI
    rw [List.getD_eq_getElem?_getD, List.getElem?_replicate]
    split <;> rfl
theorem axm_only {p : Int} {w : List Int} (hl : w.length ≤ 4) {i j : Nat} (hi : i < 2 ^ w.length) (hj : j < 2 ^ w.length) : Only (2 ^ w.length) (i ^^^ j) (axm p w i j) := by
  unfold axm mulp
  refine mulr_only w.length hl w _ _ i j hi hj (fun q hq hk => ?_) (fun q hq hk => ?_)
  · rw [gI_axis hi, if_neg hk]
  · rw [gI_axis hj, if_neg hk]
theorem sumN_one {f : Nat → Int} {n k : Nat} (hk : k < n) (h : ∀ q, q < n → q ≠ k → f q = 0) : sumN f n = f k := by
  have key : ∀ m, m ≤ n → sumN f m = if k < m then f k else 0 := by
    intro m
    induction m with
    | zero => intro _; rfl
    | succ m ih =>
      intro hm
      rw [sumN, ih (by omega)]
      by_cases h1 : k < m
      · rw [if_pos h1, if_pos (by omega), h m (by omega) (by omega), Int.add_zero]
      · rw [if_neg h1]
        by_cases h2 : m = k
        · subst h2; rw [if_pos (by omega), Int.zero_add]
        · rw [if_neg (by omega), h m (by omega) h2, Int.add_zero]
  rw [key n (Nat.le_refl _), if_pos hk]
/-- A column. -/
def colv (n : Nat) (m : List (List Int)) (k : Nat) : List Int := vecN n fun i => gI (gR m i) k
section
variable {p : Int} {n k : Nat} {m : List (List Int)} (hn : n ≤ 1048576) (hm : Mat p n n m) (hk : k < n)
include hn hm hk
theorem colv_vec : Vec p n (colv n m k) := Vec.mk' fun i hi => (hm.row hi).get hk
theorem s_l14Column_eq : s_l14Column m (k : Int) = some (colv n m k) := by
  unfold s_l14Column
  have e1 := hm.1
  rw [map_loop _ n (fun i => gI (gR m i) k) (by rw [BIG_val]; omega)]
  · rfl
  · intro i hi out ho
    unfold s_l14Column_L0
    have e3 := (hm.row hi).1
    simp only [show (i : Int) < m.length by omega, if_true, idxR (show i < m.length by omega), idxI (show k < (gR m i).length by omega), some_bind]
    rw [chk_bind (by simp only [List.length_cons, List.length_nil]; omega), w_in (by omega) (by omega)]; rfl
  · intro out ho
    unfold s_l14Column_L0
    simp [e1]
theorem i_column_eq : i_column m (k : Int) = some (colv n m k) := s_l14Column_eq hn hm hk
theorem apply_only {v : List Int} (hv : Vec p n v) (ho : Only n k v) : applyv p n n m v = scalev p n (colv n m k) (gI v k) := by
  unfold applyv scalev
  refine vecN_congr fun i hi => ?_
  unfold dotp colv
  rw [gI_vecN _ hi, sumN_one hk (fun q hq hqk => by rw [ho q hq hqk, Int.mul_zero])]
end
theorem lead_zero {v : List Int} (hv : v.length ≤ 1048576) (hz : ∀ k, k < v.length → gI v k = 0) : i_lead v = some (v.length : Int) := by
  unfold i_lead
  rw [loop_for (b := (v.length : Int)) (s := 0) (fun k => (k : Int)) v.length (by rw [BIG_val]; omega) rfl]
  · rfl
  · intro k hk
    unfold i_lead_L0
    simp only [show (k : Int) < (v.length : Int) by omega, if_true, idxI hk, some_bind, hz k hk, ieq_self]
    rw [w_in (by omega) (by omega)]; rfl
  · unfold i_lead_L0
    simp
/-! ### Derivations -/
section
variable {p : Int} {w : List Int} {m : List (List Int)} (hP : isP p = true) (hl : w.length ≤ 4) (hw : Vec p w.length w) (hm : Mat p (2 ^ w.length) (2 ^ w.length) m)
def imgv (p : Int) (w : List Int) (m : List (List Int)) (i j : Nat) : List Int := scalev p (2 ^ w.length) (colv (2 ^ w.length) m (i ^^^ j)) (gI (axm p w i j) (i ^^^ j))
include hP hl hw hm
end
end Go.Vam

/- Plain laws: the norms of axes; tables skew for the norm, tables that keep it. -/
namespace Go.Vam
open Go Go.RowKit
set_option linter.unusedSimpArgs false
set_option linter.unusedVariables false
set_option linter.unusedSectionVars false

/-! ### The sign of a product of axes -/
def sgs (j : Nat) : Int := if j = 0 then 1 else -1
/-- The number before a product of axes. -/
def axS : Nat → List Int → Nat → Nat → Int
  | 0, _, _, _ => 1
  | n + 1, w, i, j =>
    if i < 2 ^ n then (if j < 2 ^ n then axS n (w.take n) i j else axS n (w.take n) (j - 2 ^ n) i)
    else (if j < 2 ^ n then sgs j * axS n (w.take n) (i - 2 ^ n) j else gI w n * (sgs (j - 2 ^ n) * axS n (w.take n) (j - 2 ^ n) (i - 2 ^ n)))
theorem plusv_at {p : Int} {n q : Nat} {a b : List Int} {k : Int} (hq : q < n) : gI (plusv p n a b k) q = (gI a q + k * gI b q) % p := by
  unfold plusv; rw [gI_vecN _ hq]
theorem emm (a p : Int) : a % p % p = a % p := Int.emod_emod_of_dvd _ (Int.dvd_refl p)
theorem mul_mod_l {p a b c : Int} (h : a % p = b % p) : (a * c) % p = (b * c) % p := by rw [Int.mul_emod, h, ← Int.mul_emod]
theorem starv_at {p : Int} {n q : Nat} {a : List Int} (hq : q < n) : gI (starv p n a) q % p = (gI a q * sgs q) % p := by
  unfold starv
  rw [gI_set (by unfold scalev; simp; omega)]
  unfold sgs
  by_cases h : q = 0
  · subst h; simp
  · rw [if_neg (fun e => h e.symm), if_neg h]
    unfold scalev; rw [gI_vecN _ hq, emm]
section
variable {p : Int} {w : List Int} (hP : isP p = true) (hl : w.length ≤ 4) (hw : Vec p w.length w)
include hP hl hw
end

/-! ### Skew for the norm -/
section
variable {p : Int} {w : List Int} {m : List (List Int)} (hP : isP p = true) (hl : w.length ≤ 4) (hw : Vec p w.length w) (hm : Mat p (2 ^ w.length) (2 ^ w.length) m)
include hP hl hw hm
end
/-! ### Keeping the norm -/
section
variable {p : Int} {w : List Int} {m : List (List Int)} (hP : isP p = true) (hl : w.length ≤ 4) (hw : Vec p w.length w) (hm : Mat p (2 ^ w.length) (2 ^ w.length) m)
include hP hl hw
include hm
end
end Go.Vam

/- Plain laws: when a table sends something but nothing to nothing. -/
namespace Go.Vam
open Go Go.RowKit
set_option linter.unusedSimpArgs false
set_option linter.unusedVariables false
set_option linter.unusedSectionVars false

def rd (n : Nat) (a : List Int) (x : Nat → Int) : Int := sumN (fun k => gI a k * x k) n
def KerP (p : Int) (r n : Nat) (m : List (List Int)) (x : Nat → Int) : Prop := ∀ i, i < r → p ∣ rd n (gR m i) x
def Sg (p : Int) (r n : Nat) (m : List (List Int)) : Prop := ∃ x : Nat → Int, (∃ k, k < n ∧ ¬ p ∣ x k) ∧ KerP p r n m x
theorem dvd_congr {p u v : Int} (h : u % p = v % p) : p ∣ u ↔ p ∣ v := by rw [Int.dvd_iff_emod_eq_zero, Int.dvd_iff_emod_eq_zero, h]
theorem sumN_lin (f g : Nat → Int) (k : Int) : ∀ n, sumN (fun q => f q + k * g q) n = sumN f n + k * sumN g n
  | 0 => by simp [sumN]
  | n + 1 => by simp only [sumN, sumN_lin f g k n, Int.mul_add]; omega
theorem sumN_zero : ∀ n, sumN (fun _ => (0 : Int)) n = 0
  | 0 => rfl
  | n + 1 => by simp [sumN, sumN_zero n]
theorem rd_plusv {p : Int} {n : Nat} {a b : List Int} {k : Int} (x : Nat → Int) : rd n (plusv p n a b k) x % p = (rd n a x + k * rd n b x) % p := by
  unfold rd
  rw [← sumN_lin]
  refine sumN_mod fun q hq => ?_
  rw [plusv_at hq, mul_mod_l (emm _ _), Int.add_mul, Int.mul_assoc]
theorem rd_scalev {p : Int} {n : Nat} {a : List Int} {k : Int} (x : Nat → Int) : rd n (scalev p n a k) x % p = (k * rd n a x) % p := by
  unfold rd
  have e : k * sumN (fun q => gI a q * x q) n = sumN (fun _ => 0) n + k * sumN (fun q => gI a q * x q) n := by
    have := sumN_zero n
    omega
  rw [e, ← sumN_lin]
  refine sumN_mod fun q hq => ?_
  unfold scalev
  rw [gI_vecN _ hq, mul_mod_l (emm _ _), Int.zero_add, Int.mul_comm (gI a q), Int.mul_assoc]
theorem prime_dvd {p a b : Int} (hP : isP p = true) : p ∣ a * b ↔ p ∣ a ∨ p ∣ b := by
  have hp := isP_le hP
  rw [Int.dvd_iff_emod_eq_zero, Int.dvd_iff_emod_eq_zero, Int.dvd_iff_emod_eq_zero, Int.mul_emod]
  exact mul_zero_mod hP (mod_num (by omega)) (mod_num (by omega))
theorem num_dvd {p a : Int} (h : 0 ≤ a ∧ a < p) : p ∣ a ↔ a = 0 := by
  rw [Int.dvd_iff_emod_eq_zero, mod_small h.1 h.2]
/-- A sum with one place changed. -/
theorem sumN_upd (f : Nat → Int) (i : Nat) (c : Int) : ∀ n, i < n → f i = 0 → sumN (fun q => if q = i then c else f q) n = sumN f n + c := by
  intro n
  induction n with
  | zero => intro h; omega
  | succ n ih =>
    intro h h0
    simp only [sumN]
    by_cases hi : i < n
    · rw [ih hi h0, if_neg (by omega)]; omega
    · have : n = i := by omega
      subst this
      rw [if_pos rfl, h0, sumN_congr (g := f) fun k hk => if_neg (by omega)]; omega

/-- Places ahead of k: a number on the diagonal, nothing below. -/
def Tri (n k : Nat) (m : List (List Int)) : Prop := ∀ j, j < k → gI (gR m j) j ≠ 0 ∧ ∀ i, j < i → i < n → gI (gR m i) j = 0
theorem tri_stuck {p : Int} {n k : Nat} {m : List (List Int)} (hP : isP p = true) (hm : Mat p n n m) (ht : Tri n k m) (hk : k < n) (h0 : ∀ i, k ≤ i → i < n → gI (gR m i) k = 0) : Sg p n n m := by
  have hp := isP_le hP
  have key : ∀ t, t ≤ k → ∃ x : Nat → Int, x k = 1 ∧ (∀ q, k < q → x q = 0) ∧ (∀ q, q < k - t → x q = 0) ∧ ∀ i, k - t ≤ i → i < k → p ∣ rd n (gR m i) x := by
    intro t
    induction t with
    | zero => intro _; exact ⟨fun q => if q = k then 1 else 0, by simp, fun q hq => if_neg (by omega), fun q hq => if_neg (by omega), fun i h1 h2 => by omega⟩
    | succ t ih =>
      intro htk
      obtain ⟨x, x1, x2, x3, x4⟩ := ih (by omega)
      generalize hi : k - (t + 1) = i at *
      have hik : i < k := by omega
      have hin : i < n := by omega
      obtain ⟨d1, d2⟩ := ht i hik
      have e := (hm.row hin).get hin
      obtain ⟨i1, i2, i3⟩ := inv_facts (a := gI (gR m i) i) hP (by omega) e.2
      have hxi : x i = 0 := x3 i (by omega)
      have hrd : ∀ (c : Int) (j : Nat), j < n → rd n (gR m j) (fun q => if q = i then c else x q) = rd n (gR m j) x + gI (gR m j) i * c := by
        intro c j hj
        unfold rd
        rw [← sumN_upd (fun q => gI (gR m j) q * x q) i (gI (gR m j) i * c) n hin (by rw [hxi, Int.mul_zero])]
        refine sumN_congr fun q _ => ?_
        by_cases h : q = i
        · subst h; simp
        · simp [h]
      refine ⟨fun q => if q = i then -(rd n (gR m i) x) * invp p (gI (gR m i) i) else x q, by simp only []; rw [if_neg (by omega)]; exact x1, fun q hq => by simp only []; rw [if_neg (by omega)]; exact x2 q hq, fun q hq => by simp only []; rw [if_neg (by omega)]; exact x3 q (by omega), fun j hj1 hj2 => ?_⟩
      rw [hrd _ j (by omega)]
      by_cases hji : j = i
      · subst hji
        generalize rd n (gR m j) x = S
        generalize invp p (gI (gR m j) j) = v at i3
        generalize gI (gR m j) j = a at i3
        have e2 : S + a * (-S * v) = S * (1 - a * v) := by rw [Int.mul_sub, Int.mul_one, Int.neg_mul, Int.mul_neg, ← Int.mul_assoc, Int.mul_comm a S, Int.mul_assoc]; omega
        rw [e2]
        refine Int.dvd_mul_of_dvd_right ?_
        have : (1 - a * v) % p = 0 := by rw [Int.sub_emod, i3, Int.emod_eq_of_lt (show (0 : Int) ≤ 1 by omega) (by omega)]; rfl
        exact Int.dvd_of_emod_eq_zero this
      · rw [d2 j (by omega) (by omega), Int.zero_mul, Int.add_zero]
        exact x4 j (by omega) hj2
  obtain ⟨x, x1, x2, x3, x4⟩ := key k (Nat.le_refl _)
  refine ⟨x, ⟨k, hk, ?_⟩, fun i hi => ?_⟩
  · rw [x1, Int.dvd_iff_emod_eq_zero, Int.emod_eq_of_lt (by omega) (by omega)]; omega
  · by_cases hik : i < k
    · exact x4 i (by omega) hik
    · have : rd n (gR m i) x = 0 := by
        unfold rd
        have : ∀ q, q < n → gI (gR m i) q * x q = 0 := by
          intro q hq
          rcases Nat.lt_trichotomy q k with h | h | h
          · rw [(ht q h).2 i (by omega) hi, Int.zero_mul]
          · rw [h, h0 i (by omega) hi, Int.zero_mul]
          · rw [x2 q h, Int.mul_zero]
        rw [sumN_congr (g := fun _ => 0) this]
        exact sumN_zero n
      rw [this]; exact Int.dvd_zero p
/-- A whole triangle: nothing but nothing is sent to nothing. -/
theorem tri_free {p : Int} {n : Nat} {m : List (List Int)} (hP : isP p = true) (hm : Mat p n n m) (ht : Tri n n m) {x : Nat → Int} (hx : KerP p n n m x) : ∀ k, k < n → p ∣ x k := by
  have key : ∀ t, t ≤ n → ∀ q, n - t ≤ q → q < n → p ∣ x q := by
    intro t
    induction t with
    | zero => intro _ q h1 h2; omega
    | succ t ih =>
      intro ht' q h1 h2
      by_cases hq : n - t ≤ q
      · exact ih (by omega) q hq h2
      · have hqe : q = n - (t + 1) := by omega
        have hr := hx q h2
        have hsum : ∀ c, c ≤ n → p ∣ sumN (fun k => if k = q then 0 else gI (gR m q) k * x k) c := by
          intro c
          induction c with
          | zero => intro _; exact Int.dvd_zero p
          | succ c ihc =>
            intro hc
            simp only [sumN]
            refine Int.dvd_add (ihc (by omega)) ?_
            rcases Nat.lt_trichotomy c q with h | h | h
            · rw [if_neg (by omega), (ht c (by omega)).2 q h h2, Int.zero_mul]; exact Int.dvd_zero p
            · rw [if_pos h]; exact Int.dvd_zero p
            · rw [if_neg (by omega)]
              exact Int.dvd_mul_of_dvd_right (ih (by omega) c (by omega) (by omega))
        have e : rd n (gR m q) x = sumN (fun k => if k = q then 0 else gI (gR m q) k * x k) n + gI (gR m q) q * x q := by
          unfold rd
          rw [← sumN_upd (fun k => if k = q then 0 else gI (gR m q) k * x k) q (gI (gR m q) q * x q) n h2 (by simp)]
          refine sumN_congr fun k _ => ?_
          by_cases h : k = q
          · subst h; simp
          · simp [h]
        rw [e] at hr
        have h3 := (Int.dvd_add_right (hsum n (Nat.le_refl _))).1 hr
        rcases (prime_dvd hP).1 h3 with h | h
        · exact absurd ((num_dvd ((hm.row h2).get h2)).1 h) (ht q h2).1
        · exact h
  intro k hk
  exact key n (Nat.le_refl _) k (by omega) hk
end Go.Vam

/- Plain laws (2): a determinant is 0 just where the table sends something to nothing. -/
namespace Go.Vam
open Go Go.RowKit
set_option linter.unusedSimpArgs false
set_option linter.unusedVariables false
set_option linter.unusedSectionVars false

/-- A row less the multiple of R that clears column k. -/
def clp (p : Int) (c k : Nat) (R v : List Int) : List Int := plusv p c v R ((p - gI v k) * invp p (gI R k) % p)
section
variable {p : Int} {r : Nat} (hP : isP p = true) (hr : r ≤ 1048576)
include hP hr
theorem det_clear2 {M m0 : List (List Int)} {R : List Int} {k : Nat} {d0 : Int} (hk : k < r) (hM : Mat p r r M) (hMk : gR M k = R) (hR : gI R k ≠ 0) :
    ∃ x, loop (s_l02Det_L2 p (m0, d0, (k : Int)) (invp p (gI R k))) BIG (M, ((k + 1 : Nat) : Int)) = some x ∧ loop (i_field_determinant_L2 p (m0, d0, (k : Int))) BIG (M, ((k + 1 : Nat) : Int)) = some x ∧
      (Mat p r r x ∧ ∀ j, j < r → gR x j = if k < j then clp p r k R (gR M j) else gR M j) := by
  have hp := isP_le hP
  have hRk := (hMk ▸ hM.row hk : Vec p r R)
  have e4 := hRk.get hk
  have e5 := hRk.1
  obtain ⟨i1, i2, i3⟩ := inv_facts (a := gI R k) hP (by omega) e4.2
  have v2 := i_field_inv_eq (a := gI R k) hP (by omega) e4.2
  unfold clp
  generalize invp p (gI R k) = iv at i1 i2 i3 v2
  refine loop_two (fun s => Mat p r r s.1 ∧ ∃ i : Nat, s.2 = (i : Int) ∧ i ≤ r ∧ k < i ∧ ∀ j, j < r → gR s.1 j = if k < j ∧ j < i then plusv p r (gR M j) R ((p - gI (gR M j) k) * iv % p) else gR M j) (fun s => r - s.2.toNat) _ ⟨hM, k + 1, rfl, by omega, by omega, fun j _ => by rw [if_neg (by omega)]⟩ (by rw [BIG_val]; simp only []; omega) ?_
  rintro ⟨m, t⟩ ⟨hm, i, rfl, hi, hki, hg⟩
  simp only [] at hm hg
  have hmk : gR m k = R := by rw [hg k hk, if_neg (by omega), hMk]
  unfold s_l02Det_L2 i_field_determinant_L2
  have e1 := hm.1
  by_cases hir : i < r
  · have e2 := (hm.row hir).1
    have e3 := (hm.row hir).get hk
    have hgi : gR m i = gR M i := by rw [hg i hir, if_neg (by omega)]
    refine .inl ?_
    have w1 : w64 (p - gI (gR m i) k) = p - gI (gR m i) k := w_in (by omega) (by omega)
    have w2 : w64 (0 - gI (gR m i) k) = 0 - gI (gR m i) k := w_in (by omega) (by omega)
    have q1 := mul_abs (a := p - gI (gR m i) k) (b := iv) (A := 13) (B := 13) (by omega) (by omega)
    have q2 := mul_abs (a := 0 - gI (gR m i) k) (b := iv) (A := 13) (B := 13) (by omega) (by omega)
    have q3 := Int.mul_nonneg (a := p - gI (gR m i) k) (b := iv) (by omega) (by omega)
    have w3 : w64 ((p - gI (gR m i) k) * iv) = (p - gI (gR m i) k) * iv := w_in (by omega) (by omega)
    have w4 : w64 ((0 - gI (gR m i) k) * iv) = (0 - gI (gR m i) k) * iv := w_in (by omega) (by omega)
    have w5 : ((p - gI (gR m i) k) * iv).tmod p = (p - gI (gR m i) k) * iv % p := tmod_nn (by omega)
    have hn := mod_num (a := (p - gI (gR m i) k) * iv) (p := p) (by omega)
    have f1 := s_l02Plus_eq (p := p) (n := r) (a := gR m i) (b := R) (k := (p - gI (gR m i) k) * iv % p) (by omega) (by omega) hr hn.1 (by omega) (hm.row hir) hRk
    have f2 := i_field_plus_eq (p := p) (n := r) (a := gR m i) (b := R) (k := (0 - gI (gR m i) k) * iv) (by omega) (by omega) hr (by omega) (hm.row hir) hRk
    have f3 : plusv p r (gR m i) R ((0 - gI (gR m i) k) * iv) = plusv p r (gR m i) R ((p - gI (gR m i) k) * iv % p) := by
      refine plusv_congr ?_
      rw [Int.emod_emod_of_dvd _ (Int.dvd_refl p)]
      have : (p - gI (gR m i) k) * iv = (0 - gI (gR m i) k) * iv + p * iv := by rw [← Int.add_mul]; congr 1; omega
      rw [this, Int.add_mul_emod_self_left]
    simp only [show (i : Int) < (m.length : Int) by omega, if_true, idxR (show i < m.length by omega), idxR (show k < m.length by omega), idxI (show k < (gR m i).length by omega), some_bind, hmk, idxI (show k < R.length by omega), chk_bind (show ¬ p = 0 by omega), v2, w1, w2, w3, w4, w5, f1, f2, f3, Int.toNat_natCast]
    refine ⟨_, rfl, rfl, ⟨hm.set hir (plusv_vec (by omega) ..), i + 1, ?_, by omega, by omega, fun j hj => ?_⟩, ?_⟩
    · rw [w_in (by omega) (by omega)]; rfl
    · simp only []
      rw [gR_set (by omega)]
      by_cases hij : i = j
      · subst hij
        rw [if_pos rfl, if_pos ⟨hki, by omega⟩, hgi]
      · rw [if_neg hij, hg j hj]
        by_cases h : k < j ∧ j < i
        · rw [if_pos h, if_pos ⟨h.1, by omega⟩]
        · rw [if_neg h, if_neg (by omega)]
    · rw [w_in (by omega) (by omega)]; simp only []; omega
  · refine .inr ?_
    simp only [show ¬ (i : Int) < (m.length : Int) by omega, if_false]
    refine ⟨_, rfl, rfl, hm, fun j hj => ?_⟩
    rw [hg j hj]
    by_cases h : k < j
    · rw [if_pos ⟨h, by omega⟩, if_pos h]
    · rw [if_neg (by omega), if_neg h]
end

section
variable {p : Int} {r k : Nat} {M y : List (List Int)} {R : List Int} (hP : isP p = true) (hk : k < r) (hM : Mat p r r M) (hMk : gR M k = R) (hR : gI R k ≠ 0)
  (hy : ∀ j, j < r → gR y j = if k < j then clp p r k R (gR M j) else gR M j)
include hP hk hM hMk hR hy
theorem clear_ker (x : Nat → Int) : KerP p r r y x ↔ KerP p r r M x := by
  have hyk : gR y k = R := by rw [hy k hk, if_neg (by omega), hMk]
  have hrow : ∀ j, j < r → k < j → rd r (gR y j) x % p = (rd r (gR M j) x + ((p - gI (gR M j) k) * invp p (gI R k) % p) * rd r R x) % p := by
    intro j hj hkj
    rw [hy j hj, if_pos hkj]
    exact rd_plusv x
  constructor
  · intro h j hj
    have hRx : p ∣ rd r R x := by have := h k hk; rwa [hyk] at this
    by_cases hkj : k < j
    · have h1 := (dvd_congr (hrow j hj hkj)).1 (h j hj)
      exact (Int.dvd_add_left (Int.dvd_mul_of_dvd_right hRx)).1 h1
    · have := h j hj; rwa [hy j hj, if_neg hkj] at this
  · intro h j hj
    have hRx : p ∣ rd r R x := by have := h k hk; rwa [hMk] at this
    by_cases hkj : k < j
    · exact (dvd_congr (hrow j hj hkj)).2 (Int.dvd_add (h j hj) (Int.dvd_mul_of_dvd_right hRx))
    · rw [hy j hj, if_neg hkj]; exact h j hj
theorem clear_tri (ht : Tri r k M) : Tri r (k + 1) y := by
  have hp := isP_le hP
  have hRk := (hMk ▸ hM.row hk : Vec p r R)
  have e4 := hRk.get hk
  obtain ⟨i1, i2, i3⟩ := inv_facts (a := gI R k) hP (by omega) e4.2
  intro j hj
  by_cases hjk : j < k
  · obtain ⟨t1, t2⟩ := ht j hjk
    refine ⟨by rw [hy j (by omega), if_neg (by omega)]; exact t1, fun i hi hir => ?_⟩
    rw [hy i hir]
    split
    · unfold clp
      have hRj : gI R j = 0 := by rw [← hMk]; exact t2 k hjk hk
      exact plusv_zero_at (by omega) (t2 i hi hir) hRj
    · exact t2 i hi hir
  · have hjk' : j = k := by omega
    subst hjk'
    refine ⟨by rw [hy j hk, if_neg (by omega), hMk]; exact hR, fun i hi hir => ?_⟩
    rw [hy i hir, if_pos hi]
    unfold clp
    rw [plusv_at hk]
    generalize gI (gR M i) j = e
    generalize gI R j = a at i3
    generalize invp p a = v at i3
    have h1 : (p - e) * v % p * a % p = (p - e) % p := by
      rw [mul_mod_l (emm _ _), Int.mul_assoc, Int.mul_comm v, Int.mul_emod, i3, Int.mul_one, emm]
    rw [Int.add_emod, h1, ← Int.add_emod]
    have : e + (p - e) = p := by omega
    rw [this, Int.emod_self]
end
theorem swap_row {p : Int} {r x k : Nat} {M : List (List Int)} (hM : Mat p r r M) (hx : x < r) (hk : k < r) (i : Nat) : gR ((M.set x (gR M k)).set k (gR M x)) i = if i = k then gR M x else if i = x then gR M k else gR M i := by
  have := hM.1
  rw [gR_set (by rw [List.length_set]; omega), gR_set (by omega)]
  by_cases h : i = k
  · rw [if_pos h.symm, if_pos h]
  · rw [if_neg (fun e => h e.symm), if_neg h]
    by_cases h2 : i = x
    · rw [if_pos h2.symm, if_pos h2]
    · rw [if_neg (fun e => h2 e.symm), if_neg h2]
theorem swap_ker {p : Int} {r x k : Nat} {M : List (List Int)} (hM : Mat p r r M) (hx : x < r) (hk : k < r) (u : Nat → Int) : KerP p r r ((M.set x (gR M k)).set k (gR M x)) u ↔ KerP p r r M u := by
  constructor
  · intro h i hi
    by_cases h1 : i = k
    · have := h x hx
      rw [swap_row hM hx hk] at this
      by_cases h2 : x = k
      · rw [if_pos h2, h2] at this; rw [h1]; exact this
      · rw [if_neg h2, if_pos rfl] at this; rw [h1]; exact this
    · by_cases h2 : i = x
      · have := h k hk
        rw [swap_row hM hx hk, if_pos rfl] at this
        rw [h2]; exact this
      · have := h i hi
        rw [swap_row hM hx hk, if_neg h1, if_neg h2] at this
        exact this
  · intro h i hi
    rw [swap_row hM hx hk]
    split
    · exact h x hx
    · split
      · exact h k hk
      · exact h i hi
theorem swap_tri {p : Int} {r x k : Nat} {M : List (List Int)} (hM : Mat p r r M) (hx : x < r) (hk : k < r) (hkx : k ≤ x) (ht : Tri r k M) : Tri r k ((M.set x (gR M k)).set k (gR M x)) := by
  intro j hj
  obtain ⟨t1, t2⟩ := ht j hj
  refine ⟨by rw [swap_row hM hx hk, if_neg (by omega), if_neg (by omega)]; exact t1, fun i hi hir => ?_⟩
  rw [swap_row hM hx hk]
  split
  · exact t2 x (by omega) hx
  · split
    · exact t2 k hj hk
    · exact t2 i hi hir

theorem find_eq2 {p : Int} {r c : Nat} {m : List (List Int)} (hm : Mat p r c m) {k s : Nat} (hr : r ≤ 1048576) (hk : k < c) (hs : s ≤ r) :
    ∃ b, loop (findStep m (k : Int)) BIG (s : Int) = some b ∧ ∃ x : Nat, b = (x : Int) ∧ s ≤ x ∧ x ≤ r ∧ (x < r → gI (gR m x) k ≠ 0) ∧ ∀ i, s ≤ i → i < x → gI (gR m i) k = 0 := by
  refine loop_inv (fun t => ∃ x : Nat, t = (x : Int) ∧ s ≤ x ∧ x ≤ r ∧ ∀ i, s ≤ i → i < x → gI (gR m i) k = 0) (fun t => r - t.toNat) _ ⟨s, rfl, by omega, hs, fun i h1 h2 => by omega⟩ (by rw [BIG_val]; omega) ?_
  rintro t ⟨x, rfl, h1, h2, h0⟩
  unfold findStep
  have e1 := hm.1
  by_cases hx : x < r
  · have e2 := (hm.row hx).1
    rw [if_pos (by omega), idxR (by omega), some_bind, idxI (by omega), some_bind, some_bind]
    by_cases hz : gI (gR m x) k = 0
    · simp only [hz, ieq_self, if_true]
      refine .inl ⟨_, rfl, ⟨x + 1, ?_, by omega, by omega, fun i i1 i2 => by
        rcases Nat.lt_succ_iff_lt_or_eq.1 i2 with h | h
        · exact h0 i i1 h
        · rw [h]; exact hz⟩, ?_⟩
      · rw [w_in (by omega) (by omega)]; rfl
      · rw [w_in (by omega) (by omega)]; omega
    · have : ieq (gI (gR m x) k) 0 = false := by simp [ieq, hz]
      rw [this]
      exact .inr ⟨_, rfl, x, rfl, h1, h2, fun _ => hz, h0⟩
  · rw [if_neg (by omega), some_bind]
    exact .inr ⟨_, rfl, x, rfl, h1, h2, fun h => absurd h hx, h0⟩

section
variable {p : Int} {r : Nat} (hP : isP p = true) (hr : r ≤ 1048576)
include hP hr
theorem det_two2 {m v1 : List (List Int)} (hm : Mat p r r m) (hv : v1.length = r) :
    ∃ b, loop (s_l02Det_L0 p) BIG (m, 1, 0) = some b ∧ loop (i_field_determinant_L0 p v1) BIG (m, 1, 0) = some b ∧ (match b with | .inl d => d ≠ 0 ∧ ¬ Sg p r r m | .inr d => d = 0 ∧ Sg p r r m) := by
  have hp := isP_le hP
  generalize hM0 : m = M0
  rw [hM0] at hm
  refine loop_two (fun s => Mat p r r s.1 ∧ 0 ≤ s.2.1 ∧ s.2.1 < p ∧ s.2.1 ≠ 0 ∧ (∀ u, KerP p r r s.1 u ↔ KerP p r r M0 u) ∧ ∃ k : Nat, s.2.2 = (k : Int) ∧ k ≤ r ∧ Tri r k s.1) (fun s => r - s.2.2.toNat) _ ⟨hm, (by decide : (0 : Int) ≤ 1), (show (1 : Int) < p by omega), (by decide : (1 : Int) ≠ 0), fun _ => Iff.rfl, 0, rfl, by omega, fun j hj => by omega⟩ (by rw [BIG_val]; simp only []; omega) ?_
  rintro ⟨m, d, t⟩ ⟨hm, hd0, hd1, hdn, hker, k, rfl, hk, htri⟩
  simp only [] at hm hd0 hd1 hdn hker htri
  have e1 := hm.1
  unfold s_l02Det_L0 i_field_determinant_L0
  by_cases hkr : k < r
  · obtain ⟨b, h1, x, rfl, h2, h3, h4, hz⟩ := find_eq2 hm (k := k) (s := k) hr hkr hk
    have l1 : s_l02Det_L1 (m, d, (k : Int)) = findStep m (k : Int) := rfl
    have l2 : i_field_determinant_L1 (m, d, (k : Int)) = findStep m (k : Int) := rfl
    have c1 : (k : Int) < (m.length : Int) := by omega
    have c2 : (k : Int) < (v1.length : Int) := by omega
    by_cases hx : x = r
    · refine .inr ?_
      have hx' : (x : Int) = (m.length : Int) := by omega
      simp only [c1, c2, if_true, l1, l2, h1, some_bind, hx']
      obtain ⟨u, u1, u2⟩ := tri_stuck hP hm htri hkr fun i hi1 hi2 => hz i hi1 (by omega)
      exact ⟨_, rfl, rfl, rfl, u, u1, (hker u).1 u2⟩
    refine .inl ?_
    have hx' : ¬ (x : Int) = (m.length : Int) := by omega
    have hxr : x < r := by omega
    have hne := h4 hxr
    have e3 := (hm.row hxr).1
    have e4 := (hm.row hxr).get hkr
    obtain ⟨i1, i2, i3⟩ := inv_facts (a := gI (gR m x) k) hP (by omega) e4.2
    have f1 := s_l01Inv_eq (a := gI (gR m x) k) hP (by omega) e4.2
    by_cases hxk : x = k
    · have c3 : ¬ (k : Int) < (x : Int) := by omega
      have c4 : (x : Int) = (k : Int) := by omega
      have hM : Mat p r r m := hm
      have hMk : gR m k = gR m x := by rw [hxk]
      have e5 := hM.1
      obtain ⟨y, y1, y2, y3, y4⟩ := det_clear2 (p := p) (r := r) (M := m) (m0 := m) (R := gR m x) (k := k) (d0 := d) hP hr hkr hM hMk hne
      have q := mul_abs (a := d) (b := gI (gR m x) k) (A := 13) (B := 13) (by omega) (by omega)
      have q0 := Int.mul_nonneg (a := d) (b := gI (gR m x) k) (by omega) (by omega)
      have w3 : w64 (d * gI (gR m x) k) = d * gI (gR m x) k := w_in (by omega) (by omega)
      have w4 : (d * gI (gR m x) k).tmod p = d * gI (gR m x) k % p := tmod_nn (by omega)
      have w5 := i_field_num_eq (p := p) (n := d * gI (gR m x) k) (by omega) (by omega) (by omega) (by omega)
      have w6 : w64 ((k : Int) + 1) = ((k + 1 : Nat) : Int) := by rw [w_in (by omega) (by omega)]; rfl
      have hn := mod_num (a := d * gI (gR m x) k) (p := p) (by omega)
      simp only [c1, c2, if_true, l1, l2, h1, some_bind, hx', if_false, c3, not_true_eq_false, show ((x : Int) = (k : Int)) = True from eq_true c4, idxR (show k < m.length by omega), hMk, idxI (show k < (gR m x).length by omega), chk_bind (show ¬ p = 0 by omega), f1, w3, w4, w5, w6, y1, y2]
      exact ⟨_, rfl, rfl, ⟨y3, hn.1, hn.2, (fun e => ((mul_zero_mod hP ⟨hd0, hd1⟩ e4).1 e).elim hdn hne), fun u => (clear_ker hP hkr hM hMk hne y4 u).trans (hker u), k + 1, rfl, by omega, clear_tri hP hkr hM hMk hne y4 htri⟩, by simp only [Int.toNat_natCast]; omega⟩
    · have c3 : (k : Int) < (x : Int) := by omega
      have c4 : ¬ (x : Int) = (k : Int) := by omega
      have g2 : (m.set k (gR m x)).set x (gR m k) = (m.set x (gR m k)).set k (gR m x) := List.set_comm _ _ (fun h => hxk h.symm)
      have hn0 := mod_num (a := p - d) (p := p) (by omega)
      have hdn2 : (p - d) % p ≠ 0 := by
        rw [Int.emod_eq_of_lt (show 0 ≤ p - d by omega) (by omega)]; omega
      have w7 : w64 (p - d) = p - d := w_in (by omega) (by omega)
      have w8 : w64 (0 - d) = 0 - d := w_in (by omega) (by omega)
      have w9 : (p - d).tmod p = (p - d) % p := tmod_nn (by omega)
      have w10 : i_field_num p (0 - d) = some ((p - d) % p) := by
        rw [i_field_num_eq (by omega) (by omega) (by omega) (by omega)]
        have : p - d = 0 - d + p := by omega
        rw [this, Int.add_emod_right]
      have hM : Mat p r r ((m.set x (gR m k)).set k (gR m x)) := (hm.set hxr (hm.row hkr)).set hkr (hm.row hxr)
      have hMk : gR ((m.set x (gR m k)).set k (gR m x)) k = gR m x := by rw [gR_set (by rw [List.length_set]; omega), if_pos rfl]
      have e5 := hM.1
      obtain ⟨y, y1, y2, y3, y4⟩ := det_clear2 (p := p) (r := r) (M := ((m.set x (gR m k)).set k (gR m x))) (m0 := m) (R := gR m x) (k := k) (d0 := d) hP hr hkr hM hMk hne
      have q := mul_abs (a := ((p - d) % p)) (b := gI (gR m x) k) (A := 13) (B := 13) (by omega) (by omega)
      have q0 := Int.mul_nonneg (a := ((p - d) % p)) (b := gI (gR m x) k) (by omega) (by omega)
      have w3 : w64 (((p - d) % p) * gI (gR m x) k) = ((p - d) % p) * gI (gR m x) k := w_in (by omega) (by omega)
      have w4 : (((p - d) % p) * gI (gR m x) k).tmod p = ((p - d) % p) * gI (gR m x) k % p := tmod_nn (by omega)
      have w5 := i_field_num_eq (p := p) (n := ((p - d) % p) * gI (gR m x) k) (by omega) (by omega) (by omega) (by omega)
      have w6 : w64 ((k : Int) + 1) = ((k + 1 : Nat) : Int) := by rw [w_in (by omega) (by omega)]; rfl
      have hn := mod_num (a := ((p - d) % p) * gI (gR m x) k) (p := p) (by omega)
      simp only [c1, c2, if_true, l1, l2, h1, some_bind, hx', if_false, c3, c4, not_false_eq_true, idxR (show x < m.length by omega), idxR (show k < m.length by omega), idxR (show x < (m.set k (gR m x)).length by rw [List.length_set]; omega), idxR (show k < (m.set x (gR m k)).length by rw [List.length_set]; omega), Int.toNat_natCast, g2, w7, w8, w9, w10, idxR (show k < ((m.set x (gR m k)).set k (gR m x)).length by omega), hMk, idxI (show k < (gR m x).length by omega), chk_bind (show ¬ p = 0 by omega), f1, w3, w4, w5, w6, y1, y2]
      exact ⟨_, rfl, rfl, ⟨y3, hn.1, hn.2, (fun e => ((mul_zero_mod hP hn0 e4).1 e).elim hdn2 hne), fun u => ((clear_ker hP hkr hM hMk hne y4 u).trans (swap_ker hm hxr hkr u)).trans (hker u), k + 1, rfl, by omega, clear_tri hP hkr hM hMk hne y4 (swap_tri hm hxr hkr h2 htri)⟩, by simp only [Int.toNat_natCast]; omega⟩
  · refine .inr ?_
    simp only [show ¬ (k : Int) < (m.length : Int) by omega, show ¬ (k : Int) < (v1.length : Int) by omega, if_false]
    refine ⟨_, rfl, rfl, hdn, fun ⟨u, ⟨q, hq1, hq2⟩, hu⟩ => ?_⟩
    have hkk : k = r := by omega
    subst hkk
    exact hq2 (tri_free hP hm htri ((hker u).2 hu) q hq1)
theorem Det_iff {m : List (List Int)} (hm : Mat p r r m) : ∃ d, s_l02Det p m = some d ∧ i_field_determinant p m = some d ∧ (d = 0 ↔ Sg p r r m) := by
  obtain ⟨b, h1, h2, h3⟩ := det_two2 hP hr hm hm.1
  have hz := hm.sz hr hr
  unfold s_l02Det i_field_determinant
  rw [s_l01Own2_eq hz, i_cloneRows_eq hz, some_bind, some_bind, h1, h2, some_bind]
  cases b with
  | inl d => exact ⟨d, rfl, rfl, fun e => absurd e h3.1, fun e => absurd e h3.2⟩
  | inr d => exact ⟨d, rfl, rfl, fun _ => h3.2, fun _ => h3.1⟩
end
end Go.Vam

/- Plain laws: reduced rows, one put to the others at a time. -/
namespace Go.Vam
open Go Go.RowKit
set_option linter.unusedSimpArgs false
set_option linter.unusedVariables false
set_option linter.unusedSectionVars false

theorem s_l12First_lead (v : List Int) : s_l12First v = i_lead v := rfl
/-- Rows with a one of their own, nothing ahead of it, nothing else in its column. -/
structure Ech (p : Int) (n : Nat) (B : List (List Int)) (ld : Nat → Nat) : Prop where
  mat : Mat p B.length n B
  lt : ∀ j, j < B.length → ld j < n
  one : ∀ j, j < B.length → gI (gR B j) (ld j) = 1
  pre : ∀ j, j < B.length → ∀ q, q < ld j → gI (gR B j) q = 0
  col : ∀ j, j < B.length → ∀ i, i < B.length → i ≠ j → gI (gR B i) (ld j) = 0
  srt : ∀ i j, i < j → j < B.length → ld i < ld j
theorem Ech.first {p : Int} {n : Nat} {B : List (List Int)} {ld : Nat → Nat} (h : Ech p n B ld) (hn : n ≤ 1048576) {j : Nat} (hj : j < B.length) : s_l12First (gR B j) = some (ld j : Int) := by
  have e := (h.mat.row hj).1
  obtain ⟨f, f1, _, f3, f4, f5⟩ := first_two (v := gR B j) (q := ld j) (by omega) (by have := h.lt j hj; omega) (by rw [h.one j hj]; omega)
  have : f = ld j := by
    rcases Nat.lt_or_ge f (ld j) with hlt | hge
    · exact absurd (h.pre j hj f hlt) f4
    · omega
  rw [s_l12First_lead, f3, this]
section
variable {p : Int} {n : Nat} {B : List (List Int)} {ld : Nat → Nat} (hp : 3 ≤ p) (hp2 : p ≤ 13) (hn : n ≤ 1048576) (hB : Ech p n B ld) (hBl : B.length ≤ 1048576)
include hp hp2 hn hB hBl
theorem s_l12Rest_eq {x : List Int} (hx : Vec p n x) : ∃ y, s_l12Rest p B x = some y ∧ Vec p n y ∧ (∀ j, j < B.length → gI y (ld j) = 0) ∧ ∀ u, (∀ j, j < B.length → p ∣ rd n (gR B j) u) → (p ∣ rd n y u ↔ p ∣ rd n x u) := by
  unfold s_l12Rest
  have e1 := hx.1
  rw [s_l01Own_eq (by omega), some_bind]
  obtain ⟨y, h1, h2⟩ := loop_inv (step := s_l12Rest_L0 p B) (fun s => Vec p n s.1 ∧ ∃ k : Nat, s.2 = (k : Int) ∧ k ≤ B.length ∧ (∀ j, j < k → gI s.1 (ld j) = 0) ∧ ∀ u, (∀ j, j < B.length → p ∣ rd n (gR B j) u) → (p ∣ rd n s.1 u ↔ p ∣ rd n x u)) (fun s => B.length - s.2.toNat)
    (fun y => Vec p n y ∧ (∀ j, j < B.length → gI y (ld j) = 0) ∧ ∀ u, (∀ j, j < B.length → p ∣ rd n (gR B j) u) → (p ∣ rd n y u ↔ p ∣ rd n x u)) (s := (x, 0)) ⟨hx, 0, rfl, by omega, fun j hj => by omega, fun u _ => Iff.rfl⟩ (by rw [BIG_val]; simp only []; omega) (by
      rintro ⟨v, t⟩ ⟨hv, k, rfl, hk, hz, hu⟩
      simp only [] at hv hz hu
      unfold s_l12Rest_L0
      have e2 := hv.1
      by_cases hkb : k < B.length
      · refine .inl ?_
        have hl := hB.lt k hkb
        have hc := hv.get hl
        simp only [lt_cast hkb, if_true, idxR hkb, some_bind, hB.first hn hkb, idxI (show ld k < v.length by omega)]
        by_cases h0 : gI v (ld k) = 0
        · simp only [h0, not_true_eq_false, if_false, some_bind]
          refine ⟨_, rfl, ⟨hv, k + 1, by rw [w_in (by omega) (by omega)]; rfl, by omega, fun j hj => ?_, hu⟩, ?_⟩
          · rcases Nat.lt_succ_iff_lt_or_eq.1 hj with h | h
            · exact hz j h
            · rw [h]; exact h0
          · rw [w_in (by omega) (by omega)]; simp only []; omega
        · have sc := s_l11Scale_eq hp hp2 hn hc.1 (by omega) (hB.mat.row hkb)
          have mi := s_l11Minus_eq hp hp2 hn hv (scalev_vec (p := p) (by omega) n (gR B k) (gI v (ld k)))
          simp only [h0, not_false_eq_true, if_true, sc, mi, some_bind, plusv_scalev2]
          refine ⟨_, rfl, ⟨plusv_vec (by omega) .., k + 1, by rw [w_in (by omega) (by omega)]; rfl, by omega, fun j hj => ?_, fun u hB' => ?_⟩, ?_⟩
          · rw [plusv_at (hB.lt j (by omega))]
            rcases Nat.lt_succ_iff_lt_or_eq.1 hj with h | h
            · rw [hz j h, hB.col j (by omega) k hkb (by omega), Int.mul_zero, Int.add_zero]; rfl
            · rw [h, hB.one k hkb, Int.mul_one]
              have : gI v (ld k) + gI v (ld k) * -1 = 0 := by omega
              rw [this]; rfl
          · refine Iff.trans ?_ (hu u hB')
            rw [dvd_congr (rd_plusv u)]
            exact Int.dvd_add_left (Int.dvd_mul_of_dvd_right (hB' k hkb))
          · rw [w_in (by omega) (by omega)]; simp only []; omega
      · have hkk : k = B.length := by omega
        subst hkk
        refine .inr ⟨v, ?_, hv, hz, hu⟩
        simp only [lt_cast_self, if_false])
  rw [h1, some_bind]
  exact ⟨y, rfl, h2⟩
end

/-- A row less what it has at f. -/
def lessv (p : Int) (n f : Nat) (R v : List Int) : List Int := plusv p n v R (gI v f * -1)
section
variable {p : Int} {n f : Nat} {B : List (List Int)} {R : List Int} {ld : Nat → Nat} (hp : 3 ≤ p) (hp2 : p ≤ 13) (hn : n ≤ 1048576) (hB : Ech p n B ld) (hBl : B.length ≤ 1048575) (hR : Vec p n R) (hf : f < n)
include hp hp2 hn hB hBl hR hf
theorem put_loop : ∃ o : List (List Int) × Bool, loop (s_l12Put_L0 p B (f : Int) R) BIG ([], false, 0) = some o ∧
    ((o.2 = false ∧ o.1.length = B.length ∧ (∀ j, j < B.length → ¬ f < ld j) ∧ ∀ j, j < B.length → gR o.1 j = lessv p n f R (gR B j)) ∨
     (o.2 = true ∧ o.1.length = B.length + 1 ∧ ∃ pos, pos < B.length ∧ (∀ j, j < pos → ¬ f < ld j) ∧ f < ld pos ∧ ∀ j, j < B.length + 1 → gR o.1 j = if j < pos then lessv p n f R (gR B j) else if j = pos then R else lessv p n f R (gR B (j - 1)))) := by
  have ap : ∀ (o : List (List Int)) (v : List Int) (j : Nat), gR (o ++ [v]) j = if j < o.length then gR o j else if j = o.length then v else [] := by
    intro o v j
    unfold gR
    rw [List.getD_eq_getElem?_getD, List.getElem?_append]
    by_cases h : j < o.length
    · rw [if_pos h, if_pos h, List.getD_eq_getElem?_getD]
    · rw [if_neg h, if_neg h]
      by_cases h2 : j = o.length
      · rw [if_pos h2, h2, Nat.sub_self]; rfl
      · rw [if_neg h2, List.getElem?_eq_none (by simp; omega)]; rfl
  refine loop_inv (step := s_l12Put_L0 p B (f : Int) R) (fun s => ∃ k : Nat, s.2.2 = (k : Int) ∧ k ≤ B.length ∧
      ((s.2.1 = false ∧ s.1.length = k ∧ (∀ j, j < k → ¬ f < ld j) ∧ ∀ j, j < k → gR s.1 j = lessv p n f R (gR B j)) ∨
       (s.2.1 = true ∧ s.1.length = k + 1 ∧ ∃ pos, pos < k ∧ (∀ j, j < pos → ¬ f < ld j) ∧ f < ld pos ∧ ∀ j, j < k + 1 → gR s.1 j = if j < pos then lessv p n f R (gR B j) else if j = pos then R else lessv p n f R (gR B (j - 1))))) (fun s => B.length - s.2.2.toNat) _ (s := ([], false, 0)) ⟨0, rfl, by omega, .inl ⟨rfl, rfl, fun j hj => by omega, fun j hj => by omega⟩⟩ (by rw [BIG_val]; simp only []; omega) ?_
  rintro ⟨o, b, t⟩ ⟨k, rfl, hk, hs⟩
  simp only [] at hs
  unfold s_l12Put_L0
  by_cases hkb : k < B.length
  · refine .inl ?_
    have e1 := (hB.mat.row hkb).1
    have hc := (hB.mat.row hkb).get hf
    have sc := s_l11Scale_eq hp hp2 hn hc.1 (by omega) hR
    have mi := s_l11Minus_eq hp hp2 hn (hB.mat.row hkb) (scalev_vec (p := p) (by omega) n R (gI (gR B k) f))
    have w1 : w64 ((k : Int) + 1) = ((k + 1 : Nat) : Int) := by rw [w_in (by omega) (by omega)]; rfl
    have hol : o.length ≤ k + 1 := by rcases hs with h | h <;> omega
    have ht : (scalev p n R (gI (gR B k) f)).length = n := (scalev_vec (p := p) (by omega) n R (gI (gR B k) f)).1
    simp only [lt_cast hkb, if_true, idxR hkb, some_bind, hB.first hn hkb, idxI (show f < (gR B k).length by omega), sc, mi, plusv_scalev2, w1]
    rcases hs with ⟨rfl, hl, hng, hg⟩ | ⟨rfl, hl, pos, hpos, hng, hpf, hg⟩
    · simp only [if_true, some_bind]
      by_cases hlt : f < ld k
      · rw [ilt_true (Int.ofNat_lt.2 hlt)]
        simp only [if_true]
        rw [chk_bind (by simp only [List.length_cons, List.length_nil]; omega), some_bind, chk_bind (by simp only [List.length_cons, List.length_nil, List.length_append]; omega)]
        refine ⟨_, rfl, ⟨k + 1, rfl, by omega, .inr ⟨rfl, by simp [hl], k, by omega, hng, hlt, fun j hj => ?_⟩⟩, by simp only [Int.toNat_natCast]; omega⟩
        simp only []
        rw [ap, ap, List.length_append, hl, List.length_singleton]
        by_cases h1 : j < k
        · rw [if_pos (by omega), if_pos h1, if_pos h1, hg j h1]
        · by_cases h2 : j = k
          · rw [if_pos (by omega), if_neg h1, if_pos h2, if_neg h1, if_pos h2]
          · rw [if_neg (by omega), if_pos (by omega), if_neg h1, if_neg h2, show j - 1 = k by omega]; rfl
      · rw [ilt_false (fun e => hlt (Int.ofNat_lt.1 e))]
        simp only [Bool.false_eq_true, if_false, some_bind]
        rw [chk_bind (by simp only [List.length_cons, List.length_nil]; omega)]
        refine ⟨_, rfl, ⟨k + 1, rfl, by omega, .inl ⟨rfl, by simp [hl], (fun j hj => (Nat.lt_succ_iff_lt_or_eq.1 hj).elim (hng j) (fun e => e ▸ hlt)), fun j hj => ?_⟩⟩, by simp only [Int.toNat_natCast]; omega⟩
        simp only []
        rw [ap, hl]
        by_cases h1 : j < k
        · rw [if_pos h1, hg j h1]
        · rw [if_neg h1, if_pos (by omega), show j = k by omega]; rfl
    · simp only [Bool.true_eq_false, if_false, some_bind, Bool.false_eq_true]
      rw [chk_bind (by simp only [List.length_cons, List.length_nil]; omega)]
      refine ⟨_, rfl, ⟨k + 1, rfl, by omega, .inr ⟨rfl, by simp [hl], pos, by omega, hng, hpf, fun j hj => ?_⟩⟩, by simp only [Int.toNat_natCast]; omega⟩
      simp only []
      rw [ap, hl]
      by_cases h1 : j < k + 1
      · rw [if_pos h1, hg j h1]
      · rw [if_neg h1, if_pos (by omega), if_neg (by omega), if_neg (by omega), show j - 1 = k by omega]; rfl
  · have hkk : k = B.length := by omega
    subst hkk
    refine .inr ⟨(o, b), ?_, hs⟩
    simp only [lt_cast_self, if_false]
end
end Go.Vam

/- Plain laws: reduced rows in order; they are told by what they send to nothing. -/
namespace Go.Vam
open Go Go.RowKit
set_option linter.unusedSimpArgs false
set_option linter.unusedVariables false
set_option linter.unusedSectionVars false

theorem mod_dvd {p a b : Int} : a % p = b % p ↔ p ∣ a - b := by
  rw [Int.emod_eq_emod_iff_emod_sub_eq_zero, Int.dvd_iff_emod_eq_zero]
def Kr (p : Int) (n : Nat) (B : List (List Int)) (u : Nat → Int) : Prop := ∀ j, j < B.length → p ∣ rd n (gR B j) u
theorem lessv_at {p : Int} {n f q : Nat} {R v : List Int} (hq : q < n) : gI (lessv p n f R v) q = (gI v q + (gI v f * -1) * gI R q) % p := plusv_at hq
theorem lessv_vec {p : Int} (hp : 0 < p) (n f : Nat) (R v : List Int) : Vec p n (lessv p n f R v) := plusv_vec hp ..
theorem lessv_idle {p : Int} {n f q : Nat} {R v : List Int} (hv : Vec p n v) (hq : q < n) (h : gI R q = 0 ∨ gI v f = 0) : gI (lessv p n f R v) q = gI v q := by
  rw [lessv_at hq]
  have e := hv.get hq
  have : gI v f * -1 * gI R q = 0 := by rcases h with h | h <;> rw [h] <;> simp
  rw [this, Int.add_zero, mod_small e.1 e.2]
/-- Rows with one row more at pos, cleared of what they had at its lead. -/
theorem Ech.put {p : Int} {n f pos : Nat} {B B' : List (List Int)} {R : List Int} {ld : Nat → Nat} (hp : 1 < p) (hB : Ech p n B ld) (hR : Vec p n R) (hf : f < n)
    (hR1 : gI R f = 1) (hRp : ∀ q, q < f → gI R q = 0) (hRl : ∀ j, j < B.length → gI R (ld j) = 0)
    (hpos : pos ≤ B.length) (hlo : ∀ j, j < pos → ld j < f) (hhi : ∀ j, pos ≤ j → j < B.length → f < ld j)
    (hl : B'.length = B.length + 1) (hg : ∀ j, j < B.length + 1 → gR B' j = if j < pos then lessv p n f R (gR B j) else if j = pos then R else lessv p n f R (gR B (j - 1))) :
    Ech p n B' (fun j => if j < pos then ld j else if j = pos then f else ld (j - 1)) ∧ ∀ u, Kr p n B' u ↔ Kr p n B u ∧ p ∣ rd n R u := by
  have hne : ∀ j, j < B.length → ld j ≠ f := by
    intro j hj
    by_cases h : j < pos
    · have := hlo j h; omega
    · have := hhi j (by omega) hj; omega
  have l1 : ∀ j, j < B.length → gI (lessv p n f R (gR B j)) (ld j) = 1 := by
    intro j hj
    rw [lessv_idle (hB.mat.row hj) (hB.lt j hj) (.inl (hRl j hj))]; exact hB.one j hj
  have l2 : ∀ j, j < B.length → ∀ i, i < B.length → i ≠ j → gI (lessv p n f R (gR B i)) (ld j) = 0 := by
    intro j hj i hi hij
    rw [lessv_idle (hB.mat.row hi) (hB.lt j hj) (.inl (hRl j hj))]; exact hB.col j hj i hi hij
  have l3 : ∀ j, j < B.length → ∀ q, q < ld j → gI (lessv p n f R (gR B j)) q = 0 := by
    intro j hj q hq
    have hln := hB.lt j hj
    by_cases h : f < ld j
    · rw [lessv_idle (hB.mat.row hj) (by omega) (.inr (hB.pre j hj f h))]; exact hB.pre j hj q hq
    · rw [lessv_idle (hB.mat.row hj) (by omega) (.inl (hRp q (by omega)))]; exact hB.pre j hj q hq
  have l4 : ∀ j, j < B.length → gI (lessv p n f R (gR B j)) f = 0 := by
    intro j hj
    rw [lessv_at hf, hR1]
    have : gI (gR B j) f + gI (gR B j) f * -1 * 1 = 0 := by omega
    rw [this]; rfl
  have l5 : ∀ j u, p ∣ rd n R u → (p ∣ rd n (lessv p n f R (gR B j)) u ↔ p ∣ rd n (gR B j) u) := by
    intro j u hu
    unfold lessv
    rw [dvd_congr (rd_plusv u)]
    exact Int.dvd_add_left (Int.dvd_mul_of_dvd_right hu)
  constructor
  · constructor
    · refine ⟨by omega, fun j hj => ?_⟩
      show Vec p n (gR B' j)
      rw [hg j (by omega)]
      split
      · exact lessv_vec (by omega) ..
      · split
        · exact hR
        · exact lessv_vec (by omega) ..
    · intro j hj
      try simp only []
      split
      · exact hB.lt j (by omega)
      · split
        · exact hf
        · exact hB.lt (j - 1) (by omega)
    · intro j hj
      try simp only []
      rw [hg j (by omega)]
      by_cases h1 : j < pos
      · simp only [h1, if_true]; exact l1 j (by omega)
      · by_cases h2 : j = pos
        · simp only [h1, h2, if_false, if_true, Nat.lt_irrefl]; exact hR1
        · simp only [h1, h2, if_false]; exact l1 (j - 1) (by omega)
    · intro j hj q hq
      try simp only [] at hq
      rw [hg j (by omega)]
      by_cases h1 : j < pos
      · simp only [h1, if_true] at hq ⊢; exact l3 j (by omega) q hq
      · by_cases h2 : j = pos
        · simp only [h1, h2, if_false, if_true, Nat.lt_irrefl] at hq ⊢; exact hRp q hq
        · simp only [h1, h2, if_false] at hq ⊢; exact l3 (j - 1) (by omega) q hq
    · intro j hj i hi hij
      try simp only []
      rw [hg i (by omega)]
      by_cases h1 : j < pos
      · rw [if_pos h1]
        by_cases g1 : i < pos
        · rw [if_pos g1]; exact l2 j (by omega) i (by omega) hij
        · rw [if_neg g1]
          by_cases g2 : i = pos
          · rw [if_pos g2]; exact hRl j (by omega)
          · rw [if_neg g2]; exact l2 j (by omega) (i - 1) (by omega) (by omega)
      · rw [if_neg h1]
        by_cases h2 : j = pos
        · rw [if_pos h2]
          by_cases g1 : i < pos
          · rw [if_pos g1]; exact l4 i (by omega)
          · rw [if_neg g1, if_neg (by omega)]; exact l4 (i - 1) (by omega)
        · rw [if_neg h2]
          by_cases g1 : i < pos
          · rw [if_pos g1]; exact l2 (j - 1) (by omega) i (by omega) (by omega)
          · rw [if_neg g1]
            by_cases g2 : i = pos
            · rw [if_pos g2]; exact hRl (j - 1) (by omega)
            · rw [if_neg g2]; exact l2 (j - 1) (by omega) (i - 1) (by omega) (by omega)
    · intro i j hij hj
      try simp only []
      by_cases h1 : j < pos
      · rw [if_pos h1, if_pos (by omega)]; exact hB.srt i j hij (by omega)
      · by_cases h2 : j = pos
        · rw [if_neg h1, if_pos h2, if_pos (by omega)]; exact hlo i (by omega)
        · rw [if_neg h1, if_neg h2]
          by_cases g1 : i < pos
          · rw [if_pos g1]; exact hB.srt i (j - 1) (by omega) (by omega)
          · rw [if_neg g1]
            by_cases g2 : i = pos
            · rw [if_pos g2]; exact hhi (j - 1) (by omega) (by omega)
            · rw [if_neg g2]; exact hB.srt (i - 1) (j - 1) (by omega) (by omega)
  · intro u
    constructor
    · intro h
      have hRu : p ∣ rd n R u := by
        have := h pos (by omega)
        rwa [hg pos (by omega), if_neg (by omega), if_pos rfl] at this
      refine ⟨fun j hj => ?_, hRu⟩
      by_cases h1 : j < pos
      · have := h j (by omega)
        rw [hg j (by omega), if_pos h1] at this
        exact (l5 j u hRu).1 this
      · have := h (j + 1) (by omega)
        rw [hg (j + 1) (by omega), if_neg (by omega), if_neg (by omega)] at this
        exact (l5 j u hRu).1 this
    · intro ⟨h, hRu⟩ j hj
      rw [hg j (by omega)]
      split
      · exact (l5 j u hRu).2 (h j (by omega))
      · split
        · exact hRu
        · exact (l5 (j - 1) u hRu).2 (h (j - 1) (by omega))

/-- Leads rise: the j-th stands at j or behind. -/
theorem Ech.ge {p : Int} {n : Nat} {B : List (List Int)} {ld : Nat → Nat} (h : Ech p n B ld) : ∀ j, j < B.length → j ≤ ld j := by
  intro j
  induction j with
  | zero => intro _; omega
  | succ j ih =>
    intro hj
    have h1 := ih (by omega)
    have h2 := h.srt j (j + 1) (by omega) hj
    omega
theorem Ech.le {p : Int} {n : Nat} {B : List (List Int)} {ld : Nat → Nat} (h : Ech p n B ld) : B.length ≤ n := by
  by_cases h0 : B.length = 0
  · omega
  · have h1 := h.ge (B.length - 1) (by omega)
    have h2 := h.lt (B.length - 1) (by omega)
    omega
def isLd (k : Nat) (ld : Nat → Nat) (q : Nat) : Bool := (List.range k).any fun j => decide (ld j = q)
theorem isLd_iff {k : Nat} {ld : Nat → Nat} {q : Nat} : isLd k ld q = true ↔ ∃ j, j < k ∧ ld j = q := by
  unfold isLd
  simp only [List.any_eq_true, List.mem_range, decide_eq_true_eq]
theorem isLd_not {k : Nat} {ld : Nat → Nat} {q : Nat} (h : isLd k ld q = false) {j : Nat} (hj : j < k) : ld j ≠ q := by
  intro e
  have := isLd_iff.2 ⟨j, hj, e⟩
  rw [h] at this; exact Bool.noConfusion this
/-- The row that a lead's place belongs to. -/
def rowOf (ld : Nat → Nat) (q : Nat) : Nat → Nat
  | 0 => 0
  | k + 1 => if ld k = q then k else rowOf ld q k
theorem rowOf_spec {ld : Nat → Nat} {q : Nat} : ∀ {k : Nat}, (∃ j, j < k ∧ ld j = q) → rowOf ld q k < k ∧ ld (rowOf ld q k) = q
  | 0, ⟨j, h, _⟩ => by omega
  | k + 1, ⟨j, h, e⟩ => by
    unfold rowOf
    by_cases hk : ld k = q
    · rw [if_pos hk]; exact ⟨by omega, hk⟩
    · rw [if_neg hk]
      have hj : j < k := by
        rcases Nat.lt_succ_iff_lt_or_eq.1 h with h | h
        · exact h
        · rw [h] at e; exact absurd e hk
      have := rowOf_spec ⟨j, hj, e⟩
      exact ⟨by omega, this.2⟩
theorem Ech.inj {p : Int} {n : Nat} {B : List (List Int)} {ld : Nat → Nat} (h : Ech p n B ld) {i j : Nat} (hi : i < B.length) (hj : j < B.length) (e : ld i = ld j) : i = j := by
  rcases Nat.lt_trichotomy i j with h1 | h1 | h1
  · have := h.srt i j h1 hj; omega
  · exact h1
  · have := h.srt j i h1 hi; omega
/-- What a place f without a lead gives: 1 at f, and at each lead what its row needs. -/
def freeF (B : List (List Int)) (ld : Nat → Nat) (f : Nat) (q : Nat) : Int :=
  if q = f then 1 else if isLd B.length ld q = true then - gI (gR B (rowOf ld q B.length)) f else 0
theorem freeF_lead {p : Int} {n f j : Nat} {B : List (List Int)} {ld : Nat → Nat} (h : Ech p n B ld) (hf : isLd B.length ld f = false) (hj : j < B.length) : freeF B ld f (ld j) = - gI (gR B j) f := by
  unfold freeF
  have e : isLd B.length ld (ld j) = true := isLd_iff.2 ⟨j, hj, rfl⟩
  rw [if_neg (isLd_not hf hj), if_pos e]
  obtain ⟨h1, h2⟩ := rowOf_spec (isLd_iff.1 e)
  rw [h.inj h1 hj h2]
theorem freeF_other {f q : Nat} {B : List (List Int)} {ld : Nat → Nat} (hq : isLd B.length ld q = false) (hne : q ≠ f) : freeF B ld f q = 0 := by
  unfold freeF
  rw [if_neg hne, hq]; rfl
theorem sumN_two {f : Nat → Int} {n i k : Nat} (hi : i < n) (hk : k < n) (hne : i ≠ k) (h : ∀ q, q < n → q ≠ i → q ≠ k → f q = 0) : sumN f n = f i + f k := by
  have e : sumN f n = sumN (fun q => if q = i then f i else if q = i then 0 else f q) n := sumN_congr fun q _ => by
    by_cases h : q = i
    · rw [if_pos h, h]
    · rw [if_neg h, if_neg h]
  have e2 : sumN (fun q => if q = i then 0 else f q) n = f k := by
    rw [sumN_one hk (fun q hq hqk => by
      try simp only []
      by_cases h1 : q = i
      · rw [if_pos h1]
      · rw [if_neg h1]; exact h q hq h1 hqk)]
    rw [if_neg (by omega)]
  have e3 := sumN_upd (fun q => if q = i then 0 else f q) i (f i) n hi (by simp)
  have e4 : sumN f n = sumN (fun q => if q = i then f i else (fun q => if q = i then 0 else f q) q) n := e
  rw [e4, e3, e2]; omega
theorem freeF_ker {p : Int} {n f : Nat} {B : List (List Int)} {ld : Nat → Nat} (h : Ech p n B ld) (hf : isLd B.length ld f = false) (hfn : f < n) : Kr p n B (freeF B ld f) := by
  intro j hj
  have : rd n (gR B j) (freeF B ld f) = 0 := by
    unfold rd
    rw [sumN_two (i := ld j) (k := f) (h.lt j hj) hfn (isLd_not hf hj) (fun q hq h1 h2 => ?_)]
    · rw [freeF_lead h hf hj, h.one j hj]
      have : freeF B ld f f = 1 := by unfold freeF; rw [if_pos rfl]
      rw [this]; omega
    · try simp only []
      cases e : isLd B.length ld q with
      | false => rw [freeF_other e h2, Int.mul_zero]
      | true =>
        obtain ⟨i, hi, he⟩ := isLd_iff.1 e
        rw [← he, h.col i hi j hj (fun e2 => h1 (by rw [← he, e2])), Int.zero_mul]
  rw [this]; exact Int.dvd_zero p
theorem rises_unique {a b : Nat → Nat} {k l : Nat} (ha : ∀ i j, i < j → j < k → a i < a j) (hb : ∀ i j, i < j → j < l → b i < b j) (hab : ∀ j, j < k → ∃ i, i < l ∧ b i = a j) (hba : ∀ j, j < l → ∃ i, i < k ∧ a i = b j) : k = l ∧ ∀ j, j < k → a j = b j := by
  have key : ∀ j, j < k → j < l → a j = b j := by
    intro j
    induction j using Nat.strongRecOn with
    | ind j ih =>
      intro hk hl
      obtain ⟨i, hi, e⟩ := hab j hk
      obtain ⟨i', hi', e'⟩ := hba j hl
      have h1 : j ≤ i := by
        rcases Nat.lt_or_ge i j with h | h
        · have := ih i h (by omega) hi
          have := ha i j h hk
          omega
        · exact h
      have h2 : j ≤ i' := by
        rcases Nat.lt_or_ge i' j with h | h
        · have := ih i' h hi' (by omega)
          have := hb i' j h hl
          omega
        · exact h
      have h3 : b j ≤ b i := by
        rcases Nat.lt_or_ge j i with h | h
        · have := hb j i h hi; omega
        · have : j = i := by omega
          rw [this]; exact Nat.le_refl _
      have h4 : a j ≤ a i' := by
        rcases Nat.lt_or_ge j i' with h | h
        · have := ha j i' h hi'; omega
        · have : j = i' := by omega
          rw [this]; exact Nat.le_refl _
      omega
  have hkl : k = l := by
    rcases Nat.lt_trichotomy k l with h | h | h
    · obtain ⟨i, hi, e⟩ := hba k h
      have := key i hi (by omega)
      have := hb i k hi h
      omega
    · exact h
    · obtain ⟨i, hi, e⟩ := hab l h
      have := key i (by omega) hi
      have := ha i l hi h
      omega
  exact ⟨hkl, fun j hj => key j hj (by omega)⟩
/-- As many rows as places: just where nothing but nothing is sent to nothing. -/
theorem Ech.full_iff {p : Int} {n : Nat} {B : List (List Int)} {ld : Nat → Nat} (hp : 1 < p) (h : Ech p n B ld) : B.length = n ↔ ¬ ∃ u : Nat → Int, (∃ k, k < n ∧ ¬ p ∣ u k) ∧ Kr p n B u := by
  constructor
  · intro hl ⟨u, ⟨k, hk, hn⟩, hu⟩
    have hld : ∀ t j, j + t = n → j < n → ld j = j := by
      intro t
      induction t with
      | zero => intro j h1 h2; omega
      | succ t ih =>
        intro j h1 h2
        have g := h.ge j (by omega)
        by_cases hj : j + 1 < n
        · have := ih (j + 1) (by omega) hj
          have := h.srt j (j + 1) (by omega) (by omega)
          omega
        · have := h.lt j (by omega); omega
    have := hu k (by omega)
    have e : rd n (gR B k) u = u k := by
      unfold rd
      rw [sumN_one hk (fun q hq hqk => ?_)]
      · have := h.one k (by omega)
        rw [hld (n - k) k (by omega) hk] at this
        rw [this, Int.one_mul]
      · have := h.col q (by omega) k (by omega) (fun e => hqk e.symm)
        rw [hld (n - q) q (by omega) hq] at this
        rw [this, Int.zero_mul]
    rw [e] at this
    exact hn this
  · intro hno
    have hle := h.le
    rcases Nat.lt_or_ge B.length n with hlt | hge
    · exfalso
      -- a place without a lead
      have : ∃ f, f < n ∧ isLd B.length ld f = false := by
        by_cases hall : ∀ f, f < n → isLd B.length ld f = true
        · exfalso
          have key : ∀ f, f < n → ∃ j, j < B.length ∧ ld j = f := fun f hf => isLd_iff.1 (hall f hf)
          have hu := rises_unique (a := ld) (b := fun j => j) (k := B.length) (l := n) h.srt (fun i j hij _ => hij) (fun j hj => ⟨ld j, h.lt j hj, rfl⟩) (fun j hj => key j hj)
          omega
        · by_cases hex : ∃ f, f < n ∧ isLd B.length ld f = false
          · exact hex
          · exfalso
            apply hall
            intro f hf
            cases e : isLd B.length ld f with
            | true => rfl
            | false => exact absurd ⟨f, hf, e⟩ hex
      obtain ⟨f, hf, e⟩ := this
      refine hno ⟨freeF B ld f, ⟨f, hf, ?_⟩, freeF_ker h e hf⟩
      unfold freeF
      rw [if_pos rfl, Int.dvd_iff_emod_eq_zero, Int.emod_eq_of_lt (by omega) (by omega)]; omega
    · omega
end Go.Vam

/- Plain laws: both programs' reduced bases are reduced rows in order, and send the same to nothing. -/
namespace Go.Vam
open Go Go.RowKit
set_option linter.unusedSimpArgs false
set_option linter.unusedVariables false
set_option linter.unusedSectionVars false

structure RedK (r c : Nat) (m : List (List Int)) (d k : Nat) (piv : Nat → Nat) : Prop where
  red : Red r c m d piv
  plt : ∀ j, j < d → piv j < k
  pre : ∀ j, j < d → ∀ q, q < piv j → gI (gR m j) q = 0
  srt : ∀ i j, i < j → j < d → piv i < piv j
  low : ∀ i, d ≤ i → i < r → ∀ q, q < k → gI (gR m i) q = 0
theorem RedK.skip {r c d k : Nat} {m : List (List Int)} {piv : Nat → Nat} (h : RedK r c m d k piv) (h0 : ∀ i, d ≤ i → i < r → gI (gR m i) k = 0) : RedK r c m d (k + 1) piv :=
  ⟨h.red, fun j hj => Nat.lt_succ_of_lt (h.plt j hj), h.pre, h.srt, fun i h1 h2 q hq => (Nat.lt_succ_iff_lt_or_eq.1 hq).elim (h.low i h1 h2 q) (fun e => e ▸ h0 i h1 h2)⟩
section
variable {p : Int} {r c k d x : Nat} {m : List (List Int)} {piv : Nat → Nat} {R : List Int} (hP : isP p = true) (hm : Mat p r c m) (hk : k < c) (hd : d < r) (hdx : d ≤ x) (hx : x < r)
  (hne : gI (gR m x) k ≠ 0) (hRe : R = scalev p c (gR m x) (invp p (gI (gR m x) k)))
include hP hm hk hd hdx hx hne hRe
theorem clrm_row (i : Nat) (hi : i < r) : gR (clrm p r c k d R ((m.set x (gR m d)).set d R)) i = if i = d then R else clr p c k R (if i = x then gR m d else gR m i) := by
  have e1 := hm.1
  unfold clrm
  rw [gR_vecN _ hi]
  by_cases hid : i = d
  · rw [if_pos hid, if_pos hid]
  · rw [if_neg hid, if_neg hid, gR_set (by rw [List.length_set]; omega), if_neg (by omega), gR_set (by omega)]
    by_cases hix : i = x
    · rw [if_pos hix.symm, if_pos hix]
    · rw [if_neg (fun e => hix e.symm), if_neg hix]
theorem RedK.step (h : RedK r c m d k piv) : RedK r c (clrm p r c k d R ((m.set x (gR m d)).set d R)) (d + 1) (k + 1) (fun j => if j = d then k else piv j) := by
  have hp := isP_le hP
  have row := clrm_row hP hm hk hd hdx hx hne hRe
  have e4 := (hm.row hx).get hk
  obtain ⟨i1, i2, i3⟩ := inv_facts (a := gI (gR m x) k) hP (by omega) e4.2
  have hR0 : ∀ q, q < k → gI R q = 0 := by
    intro q hq
    rw [hRe]; unfold scalev
    rw [gI_vecN _ (by omega), h.low x hdx hx q hq]; simp
  have hent : ∀ v q, q < k → gI v q = 0 → gI (clr p c k R v) q = 0 := by
    intro v q hq hv
    unfold clr plusv
    rw [gI_vecN _ (by omega), hv, hR0 q hq]; simp
  refine ⟨h.red.step hP hm hk hd hdx hx hne hRe, fun j hj => ?_, fun j hj q hq => ?_, fun i j hij hj => ?_, fun i h1 h2 q hq => ?_⟩
  · try simp only []
    split
    · omega
    · have := h.plt j (by omega); omega
  · try simp only [] at hq
    rw [row j (by omega)]
    by_cases hjd : j = d
    · rw [if_pos hjd] at hq ⊢; exact hR0 q hq
    · rw [if_neg hjd] at hq ⊢
      have h3 := h.plt j (by omega)
      rw [if_neg (by omega)]
      exact hent _ q (by omega) (h.pre j (by omega) q hq)
  · try simp only []
    rw [if_neg (show ¬ i = d by omega)]
    split
    · exact h.plt i (by omega)
    · exact h.srt i j hij (by omega)
  · rw [row i h2, if_neg (by omega)]
    by_cases hqk : q < k
    · refine hent _ q hqk ?_
      split
      · exact h.low d (Nat.le_refl _) hd q hqk
      · exact h.low i (by omega) h2 q hqk
    · have hqe : q = k := by omega
      subst hqe
      have hRk : gI R q = 1 := by rw [hRe]; unfold scalev; rw [gI_vecN _ hk, i3]
      unfold clr plusv
      rw [gI_vecN _ hk, hRk, Int.mul_one]
      generalize gI (if i = x then gR m d else gR m i) q = e
      rw [Int.add_emod, Int.emod_emod_of_dvd _ (Int.dvd_refl p), ← Int.add_emod]
      have : e + (p - e) = p := by omega
      rw [this, Int.emod_self]
end
section
variable {p : Int} {r c : Nat} (hP : isP p = true) (hr0 : 0 < r) (hr : r ≤ 1048576) (hc : c ≤ 1048576)
include hP hr0 hr hc
end
end Go.Vam

/- Plain laws: rows reduced one at a time; IsAutomorphism. -/
namespace Go.Vam
open Go Go.RowKit
set_option linter.unusedSimpArgs false
set_option linter.unusedVariables false
set_option linter.unusedSectionVars false

theorem first_some {v : List Int} (hv : v.length ≤ 1048576) : (i_lead v = some (v.length : Int) ∧ ∀ k, k < v.length → gI v k = 0) ∨ ∃ f : Nat, f < v.length ∧ i_lead v = some (f : Int) ∧ gI v f ≠ 0 ∧ ∀ j, j < f → gI v j = 0 := by
  by_cases h : ∃ q, q < v.length ∧ gI v q ≠ 0
  · obtain ⟨q, hq, hne⟩ := h
    obtain ⟨f, f1, f2, f3, f4, f5⟩ := first_two hv hq hne
    exact .inr ⟨f, by omega, f3, f4, f5⟩
  · have h0 : ∀ k, k < v.length → gI v k = 0 := fun k hk => by
      by_cases e : gI v k = 0
      · exact e
      · exact absurd ⟨k, hk, e⟩ h
    exact .inl ⟨lead_zero hv h0, h0⟩
section
variable {p : Int} {n : Nat} (hP : isP p = true) (hn : n ≤ 1048000)
include hP hn
theorem s_l12Put_eq {B : List (List Int)} {ld : Nat → Nat} {x : List Int} (hB : Ech p n B ld) (hx : Vec p n x) :
    ∃ B' ld', s_l12Put p B x = some B' ∧ Ech p n B' ld' ∧ ∀ u, Kr p n B' u ↔ Kr p n B u ∧ p ∣ rd n x u := by
  have hp := isP_le hP
  have hle := hB.le
  obtain ⟨y, y1, y2, y3, y4⟩ := s_l12Rest_eq hp.1 hp.2 (by omega) hB (by omega) hx
  have yl := y2.1
  unfold s_l12Put
  rw [y1, some_bind]
  rcases first_some (v := y) (by omega) with ⟨h1, h2⟩ | ⟨f, f1, f2, f3, f4⟩
  · rw [s_l12First_lead, h1, some_bind, if_pos rfl]
    refine ⟨B, ld, rfl, hB, fun u => ⟨fun h => ⟨h, (y4 u h).1 ?_⟩, fun h => h.1⟩⟩
    have : rd n y u = 0 := by
      unfold rd
      rw [sumN_congr (g := fun _ => 0) (fun q hq => by rw [h2 q (by omega), Int.zero_mul])]
      exact sumN_zero n
    rw [this]; exact Int.dvd_zero p
  · have hfn : f < n := by omega
    have e4 := y2.get hfn
    obtain ⟨i1, i2, i3⟩ := inv_facts (a := gI y f) hP (by omega) e4.2
    have g1 := s_l01Inv_eq (a := gI y f) hP (by omega) e4.2
    have g2 := s_l11Scale_eq (p := p) (n := n) (a := y) (k := invp p (gI y f)) hp.1 hp.2 (by omega) (by omega) (by omega) y2
    have hR := scalev_vec (p := p) (by omega) n y (invp p (gI y f))
    have hRat : ∀ q, q < n → gI (scalev p n y (invp p (gI y f))) q = gI y q * invp p (gI y f) % p := by
      intro q hq; unfold scalev; rw [gI_vecN _ hq]
    have hRu : ∀ u, p ∣ rd n (scalev p n y (invp p (gI y f))) u ↔ p ∣ rd n y u := by
      intro u
      rw [dvd_congr (rd_scalev u), prime_dvd hP]
      refine ⟨fun h => h.resolve_left fun h => ?_, .inr⟩
      rw [num_dvd ⟨by omega, i2⟩] at h; omega
    generalize hRe : scalev p n y (invp p (gI y f)) = R at g2 hR hRat hRu
    have hR1 : gI R f = 1 := by rw [hRat f hfn, i3]
    have hR0 : ∀ q, q < n → gI y q = 0 → gI R q = 0 := fun q hq h => by rw [hRat q hq, h]; simp
    obtain ⟨o, o1, o2⟩ := put_loop hp.1 hp.2 (by omega) hB (by omega) hR hfn
    rw [s_l12First_lead, f2, some_bind, if_neg (by omega), idxI (by omega), some_bind, g1, some_bind, g2, some_bind, o1, some_bind]
    have fin : ∀ (B' : List (List Int)) (pos : Nat), pos ≤ B.length → (∀ j, j < pos → ¬ f < ld j) → (∀ j, pos ≤ j → j < B.length → f < ld j) → B'.length = B.length + 1 →
        (∀ j, j < B.length + 1 → gR B' j = if j < pos then lessv p n f R (gR B j) else if j = pos then R else lessv p n f R (gR B (j - 1))) →
        ∃ B'' ld', some B' = some B'' ∧ Ech p n B'' ld' ∧ ∀ u, Kr p n B'' u ↔ Kr p n B u ∧ p ∣ rd n x u := by
      intro B' pos hpos hlo hhi hl hg
      obtain ⟨q1, q2⟩ := hB.put (by omega) hR hfn hR1 (fun q hq => hR0 q (by omega) (f4 q hq)) (fun j hj => hR0 _ (hB.lt j hj) (y3 j hj)) hpos
        (fun j hj => by
          have h1 := hlo j hj
          have h2 : ld j ≠ f := fun e => f3 (by have := y3 j (by omega); rwa [e] at this)
          omega) hhi hl hg
      refine ⟨B', _, rfl, q1, fun u => ?_⟩
      rw [q2 u]
      constructor
      · intro ⟨a, b⟩
        exact ⟨a, (y4 u a).1 ((hRu u).1 b)⟩
      · intro ⟨a, b⟩
        exact ⟨a, (hRu u).2 ((y4 u a).2 b)⟩
    rcases o2 with ⟨h1, h2, h3, h4⟩ | ⟨h1, h2, pos, h3, h4, h5, h6⟩
    · simp only [h1, if_true]
      rw [chk_bind (by simp only [List.length_cons, List.length_nil]; omega), some_bind]
      refine fin _ B.length (Nat.le_refl _) h3 (fun j h1 h2 => by omega) (by simp [h2]) fun j hj => ?_
      unfold gR
      rw [List.getD_eq_getElem?_getD, List.getElem?_append]
      by_cases hjl : j < B.length
      · rw [if_pos (by omega), if_pos hjl]
        have := h4 j hjl
        unfold gR at this
        rw [← this, List.getD_eq_getElem?_getD]
      · have hjb : j = B.length := by omega
        rw [if_neg (by omega), if_neg hjl, if_pos hjb, hjb, h2, Nat.sub_self]; rfl
    · simp only [h1, Bool.true_eq_false, if_false]
      rw [some_bind]
      refine fin _ pos (by omega) h4 (fun j g1 g2 => ?_) h2 h6
      rcases Nat.lt_or_ge pos j with g | g
      · have := hB.srt pos j g g2; omega
      · have : j = pos := by omega
        rw [this]; exact h5
theorem s_l12Reduced_eq {r : Nat} {m : List (List Int)} (hr : r ≤ 1048576) (hm : Mat p r n m) : ∃ B ld, s_l12Reduced p m = some B ∧ Ech p n B ld ∧ ∀ u, Kr p n B u ↔ KerP p r n m u := by
  have e1 := hm.1
  unfold s_l12Reduced
  obtain ⟨B, h1, ld, h2, h3⟩ := loop_inv (step := s_l12Reduced_L0 p m) (fun s => ∃ k : Nat, s.2 = (k : Int) ∧ k ≤ r ∧ ∃ ld, Ech p n s.1 ld ∧ ∀ u, Kr p n s.1 u ↔ KerP p k n m u) (fun s => r - s.2.toNat)
    (fun B => ∃ ld, Ech p n B ld ∧ ∀ u, Kr p n B u ↔ KerP p r n m u) (s := ([], 0)) ⟨0, rfl, by omega, fun _ => 0, ⟨⟨rfl, fun i hi => by simp at hi⟩, fun j hj => by simp at hj, fun j hj => by simp at hj, fun j hj => by simp at hj, fun j hj => by simp at hj, fun i j _ hj => by simp at hj⟩, fun u => ⟨fun _ i hi => by omega, fun _ j hj => by simp at hj⟩⟩ (by rw [BIG_val]; simp only []; omega) (by
      rintro ⟨B, t⟩ ⟨k, rfl, hk, ld, hB, hu⟩
      try simp only [] at hB hu
      unfold s_l12Reduced_L0
      by_cases hkr : k < r
      · obtain ⟨B', ld', b1, b2, b3⟩ := s_l12Put_eq hP hn hB (hm.row hkr)
        refine .inl ⟨(B', ((k + 1 : Nat) : Int)), ?_, ⟨k + 1, rfl, by omega, ld', b2, fun u => ?_⟩, by simp only [Int.toNat_natCast]; omega⟩
        · try simp only []
          rw [if_pos (by omega), idxR (by omega), some_bind, b1, some_bind, w_in (by omega) (by omega)]; rfl
        · rw [b3 u, hu u]
          constructor
          · intro ⟨a, b⟩ i hi
            rcases Nat.lt_succ_iff_lt_or_eq.1 hi with h | h
            · exact a i h
            · rw [h]; exact b
          · intro h
            exact ⟨fun i hi => h i (by omega), h k (by omega)⟩
      · have hkk : k = r := by omega
        subst hkk
        refine .inr ⟨B, ?_, ld, hB, hu⟩
        try simp only []
        rw [if_neg (by omega)])
  rw [h1, some_bind]
  exact ⟨B, ld, rfl, h2, h3⟩
end

section
variable {p : Int} {w : List Int} {m : List (List Int)} (hP : isP p = true) (hl : w.length ≤ 4) (hw : Vec p w.length w) (hm : Mat p (2 ^ w.length) (2 ^ w.length) m)
def amB (p : Int) (w : List Int) (m : List (List Int)) (i j : Nat) : Bool := decide (imgv p w m i j = mulp p w (colv (2 ^ w.length) m i) (colv (2 ^ w.length) m j))
include hP hl hw hm
theorem s_am_loop : loop (s_l14Automorphism_L0 p w m (prodm p w) ((2 ^ w.length : Nat) : Int)) BIG 0 = some (if (List.range (2 ^ w.length)).all fun i => (List.range (2 ^ w.length)).all (amB p w m i) then .inl () else .inr false) := by
  have hp := isP_le hP
  have h16 := two_le hl
  have hT := prodm_mat hP hl hw
  have e0 := hT.1
  have inner : ∀ i : Nat, i < 2 ^ w.length → loop (s_l14Automorphism_L1 p w m (prodm p w) ((2 ^ w.length : Nat) : Int) (i : Int)) BIG 0 = some (if (List.range (2 ^ w.length)).all (amB p w m i) then .inl () else .inr (.inr (.inr false))) := by
    intro i hi
    have core : ∀ j : Nat, j < 2 ^ w.length → s_l14Automorphism_L1 p w m (prodm p w) ((2 ^ w.length : Nat) : Int) (i : Int) (j : Int) = if amB p w m i j = true then some (.inl ((j + 1 : Nat) : Int)) else some (.inr (.inr (.inr (.inr false)))) := by
      intro j hj
      have hx := xor_lt hi hj
      have e1 := (hT.row hi).1
      have ci := colv_vec (by omega) hm hi
      have cj := colv_vec (by omega) hm hj
      have cx := colv_vec (by omega) hm hx
      have hc := (axm_vec hP hl hw hi hj).get hx
      have hTij : gI (gR (prodm p w) i) j = gI (axm p w i j) (i ^^^ j) := by unfold prodm; rw [gR_vecN _ hi, gI_vecN _ hj]
      have sc := s_l11Scale_eq hp.1 hp.2 (show 2 ^ w.length ≤ 1048576 by omega) hc.1 (by omega) cx
      unfold s_l14Automorphism_L1
      simp only [lt_cast hj, if_true, idxR (show i < (prodm p w).length by omega), idxI (show j < (gR (prodm p w) i).length by omega), some_bind, hTij, bxor_k i (by omega) j (by omega), s_l14Column_eq (by omega) hm hx, s_l14Column_eq (by omega) hm hi, s_l14Column_eq (by omega) hm hj, sc,
        s_l11Times_eq hP hl hw ci cj]
      have hlen : (scalev p (2 ^ w.length) (colv (2 ^ w.length) m (i ^^^ j)) (gI (axm p w i j) (i ^^^ j))).length ≤ 1048576 := by unfold scalev; simp; omega
      rw [s_l01Same_eq hlen, some_bind, w_in (by omega) (by omega)]
      show (if amB p w m i j = false then _ else _) = _
      cases amB p w m i j <;> rfl
    refine all_loop _ (2 ^ w.length) (amB p w m i) _ (by rw [BIG_val]; omega) ?_ ?_ ?_
    · intro j hj hf
      rw [core j hj, if_pos hf]
    · intro j hj hf
      rw [core j hj, if_neg (by simp [hf])]
    · unfold s_l14Automorphism_L1
      simp only [lt_cast_self, if_false]
  rw [all_loop _ (2 ^ w.length) (fun i => (List.range (2 ^ w.length)).all (amB p w m i)) false (by rw [BIG_val]; omega)]
  · intro i hi hf
    unfold s_l14Automorphism_L0
    rw [if_pos (by omega), inner i hi, hf, w_in (by omega) (by omega)]; rfl
  · intro i hi hf
    unfold s_l14Automorphism_L0
    rw [if_pos (by omega), inner i hi, hf]; rfl
  · unfold s_l14Automorphism_L0
    simp only [lt_cast_self, if_false]
theorem i_am_loop : loop (i_Doubling_isAutomorphism_L0 p w m p (unitm (2 ^ w.length))) BIG 0 = some (if (List.range (2 ^ w.length)).all fun i => (List.range (2 ^ w.length)).all (amB p w m i) then .inl () else .inr false) := by
  have hp := isP_le hP
  have h16 := two_le hl
  have e0 := (unitm_mat (p := p) (by omega) (2 ^ w.length)).1
  have inner : ∀ i : Nat, i < 2 ^ w.length → loop (i_Doubling_isAutomorphism_L1 p w m p (i : Int) (axis (2 ^ w.length) i) (unitm (2 ^ w.length))) BIG 0 = some (if (List.range (2 ^ w.length)).all (amB p w m i) then .inl () else .inr (.inr (.inr false))) := by
    intro i hi
    have core : ∀ j : Nat, j < 2 ^ w.length → i_Doubling_isAutomorphism_L1 p w m p (i : Int) (axis (2 ^ w.length) i) (unitm (2 ^ w.length)) (j : Int) = if amB p w m i j = true then some (.inl ((j + 1 : Nat) : Int)) else some (.inr (.inr (.inr (.inr false)))) := by
      intro j hj
      have hx := xor_lt hi hj
      have ei := axis_vec (p := p) (by omega) hi
      have ej := axis_vec (p := p) (by omega) hj
      have ci := colv_vec (by omega) hm hi
      have cj := colv_vec (by omega) hm hj
      have hav := axm_vec hP hl hw hi hj
      have ap := i_field_apply_eq (show 0 < p by omega) (show p ≤ 13 by omega) (show 2 ^ w.length ≤ 1048576 by omega) (show 2 ^ w.length ≤ 1048576 by omega) hm hav
      rw [apply_only (by omega) hm hx hav (axm_only hl hi hj)] at ap
      have hlen : (imgv p w m i j).length ≤ 1048576 := by unfold imgv scalev; simp; omega
      unfold i_Doubling_isAutomorphism_L1
      simp only [e0, lt_cast hj, if_true, idxR (show j < (unitm (2 ^ w.length)).length by omega), gR_unitm hj, some_bind, i_column_eq (by omega) hm hi, i_column_eq (by omega) hm hj, i_Doubling_times_eq hP hl hw ei ej, i_Doubling_times_eq hP hl hw ci cj]
      rw [show mulp p w (axis (2 ^ w.length) i) (axis (2 ^ w.length) j) = axm p w i j from rfl, ap, some_bind]
      show ((g_slices_Equal_LI_I (imgv p w m i j) _).bind _) = _
      rw [slicesEqual_eq hlen, some_bind, w_in (by omega) (by omega)]
      show (if amB p w m i j = false then _ else _) = _
      cases amB p w m i j <;> rfl
    refine all_loop _ (2 ^ w.length) (amB p w m i) _ (by rw [BIG_val]; omega) ?_ ?_ ?_
    · intro j hj hf
      rw [core j hj, if_pos hf]
    · intro j hj hf
      rw [core j hj, if_neg (by simp [hf])]
    · unfold i_Doubling_isAutomorphism_L1
      simp only [e0, lt_cast_self, if_false]
  rw [all_loop _ (2 ^ w.length) (fun i => (List.range (2 ^ w.length)).all (amB p w m i)) false (by rw [BIG_val]; omega)]
  · intro i hi hf
    unfold i_Doubling_isAutomorphism_L0
    rw [e0, if_pos (by omega), idxR (by omega), some_bind, gR_unitm hi, i_Doubling_size_eq hl, some_bind, i_unit_eq (by omega), some_bind, inner i hi, hf, w_in (by omega) (by omega)]; rfl
  · intro i hi hf
    unfold i_Doubling_isAutomorphism_L0
    rw [e0, if_pos (by omega), idxR (by omega), some_bind, gR_unitm hi, i_Doubling_size_eq hl, some_bind, i_unit_eq (by omega), some_bind, inner i hi, hf]; rfl
  · unfold i_Doubling_isAutomorphism_L0
    simp only [e0, lt_cast_self, if_false]
theorem Automorphism_eq : ∃ b, s_l14Automorphism p w m = some b ∧ i_Doubling_isAutomorphism p w m = some b := by
  have hp := isP_le hP
  have h16 := two_le hl
  obtain ⟨d, _, d2, d3⟩ := Det_iff hP (show 2 ^ w.length ≤ 1048576 by omega) hm
  obtain ⟨B, ld, b1, b2, b3⟩ := s_l12Reduced_eq hP (show 2 ^ w.length ≤ 1048000 by omega) (show 2 ^ w.length ≤ 1048576 by omega) hm
  have hfull : B.length = 2 ^ w.length ↔ ¬ d = 0 := by
    rw [b2.full_iff (by omega), d3]
    unfold Sg
    constructor
    · intro h ⟨u, u1, u2⟩
      exact h ⟨u, u1, (b3 u).2 u2⟩
    · intro h ⟨u, u1, u2⟩
      exact h ⟨u, u1, (b3 u).1 u2⟩
  have e1 : s_l14Automorphism p w m = some (((List.range (2 ^ w.length)).all fun i => (List.range (2 ^ w.length)).all (amB p w m i)) && decide (¬ d = 0)) := by
    unfold s_l14Automorphism
    rw [s_l11Basis_eq hP hl hw, some_bind, s_l11Size_eq hl, some_bind, s_am_loop hP hl hw hm, some_bind]
    cases ((List.range (2 ^ w.length)).all fun i => (List.range (2 ^ w.length)).all (amB p w m i)) with
    | false => rfl
    | true =>
      simp only [if_true, b1, some_bind, Bool.true_and]
      rw [ieq_nat]
      congr 1
      exact decide_eq_decide.2 hfull
  have e2 : i_Doubling_isAutomorphism p w m = some (((List.range (2 ^ w.length)).all fun i => (List.range (2 ^ w.length)).all (amB p w m i)) && decide (¬ d = 0)) := by
    unfold i_Doubling_isAutomorphism i_Doubling_field
    rw [some_bind, d2, some_bind]
    by_cases h : d = 0
    · simp [h]
    · rw [if_neg h, i_Doubling_size_eq hl, some_bind, i_unit_eq (by omega), some_bind, i_am_loop hP hl hw hm, some_bind]
      cases ((List.range (2 ^ w.length)).all fun i => (List.range (2 ^ w.length)).all (amB p w m i)) with
      | false => rfl
      | true => simp [h]
  exact ⟨_, e1, e2⟩
end
end Go.Vam

/- Plain laws: kernels; both programs make the same reduced basis of what a table sends to nothing. -/
namespace Go.Vam
open Go Go.RowKit
set_option linter.unusedSimpArgs false
set_option linter.unusedVariables false
set_option linter.unusedSectionVars false

theorem Ech.nil (p : Int) (n : Nat) : Ech p n [] (fun _ => 0) :=
  ⟨⟨rfl, fun i hi => by simp at hi⟩, fun j hj => by simp at hj, fun j hj => by simp at hj, fun j hj => by simp at hj, fun j hj => by simp at hj, fun i j _ hj => by simp at hj⟩
section
variable {p : Int} {n : Nat} {B : List (List Int)} {ld : Nat → Nat} (hP : isP p = true) (hn : n ≤ 1048000) (hB : Ech p n B ld)
include hP hn hB
end
end Go.Vam

/- Plain law: the reduced rows that a table sends to nothing. -/
namespace Go.Vam
open Go Go.RowKit
set_option linter.unusedSimpArgs false
set_option linter.unusedVariables false
set_option linter.unusedSectionVars false

section
variable {p : Int} {n : Nat} {B : List (List Int)} {ld : Nat → Nat} (hP : isP p = true) (hn : n ≤ 1048000) (hB : Ech p n B ld)
include hP hn hB
end
end Go.Vam

/- Plain laws: ranks, kernels and how many vectors they have. -/
namespace Go.Vam
open Go Go.RowKit
set_option linter.unusedSimpArgs false
set_option linter.unusedVariables false
set_option linter.unusedSectionVars false

theorem sumN_add (f g : Nat → Int) (n : Nat) : sumN (fun q => f q + g q) n = sumN f n + sumN g n := by
  have := sumN_lin f g 1 n
  simp only [Int.one_mul] at this
  exact this
theorem sumN_mulL (k : Int) (f : Nat → Int) (n : Nat) : sumN (fun q => k * f q) n = k * sumN f n := by
  have := sumN_lin (fun _ => 0) f k n
  simp only [Int.zero_add, sumN_zero] at this
  exact this
theorem sumN_comm (f : Nat → Nat → Int) (m : Nat) : ∀ n, sumN (fun i => sumN (fun j => f i j) m) n = sumN (fun j => sumN (fun i => f i j) n) m
  | 0 => by simp only [sumN]; rw [sumN_zero]
  | n + 1 => by
    simp only [sumN]
    rw [sumN_add, sumN_comm f m n]
theorem sumN_dvd {p : Int} {f : Nat → Int} : ∀ {n : Nat}, (∀ k, k < n → p ∣ f k) → p ∣ sumN f n
  | 0, _ => Int.dvd_zero p
  | n + 1, h => by
    simp only [sumN]
    exact Int.dvd_add (sumN_dvd fun k hk => h k (by omega)) (h n (by omega))
theorem sumN_sub (f g : Nat → Int) (n : Nat) : sumN (fun q => f q - g q) n = sumN f n - sumN g n := by
  have := sumN_lin f g (-1) n
  have e : sumN (fun q => f q - g q) n = sumN (fun q => f q + -1 * g q) n := sumN_congr fun q _ => by omega
  rw [e, this]; omega
theorem dvd_trans_sub {p a b c : Int} (h1 : p ∣ a - b) (h2 : p ∣ b - c) : p ∣ a - c := by
  have := Int.dvd_add h1 h2
  rwa [show a - b + (b - c) = a - c by omega] at this
section
variable {p : Int} {n : Nat} {B : List (List Int)} {ld : Nat → Nat} (h : Ech p n B ld)
include h
theorem Ech.at_lead (g : Nat → Int) (q : Nat) : sumN (fun j => if ld j = q then g j else 0) B.length = if isLd B.length ld q = true then g (rowOf ld q B.length) else 0 := by
  by_cases hq : isLd B.length ld q = true
  · rw [if_pos hq]
    obtain ⟨a1, a2⟩ := rowOf_spec (isLd_iff.1 hq)
    rw [sumN_one a1 (fun j hj hne => if_neg fun e => hne (h.inj hj a1 (by rw [e, a2]))), if_pos a2]
  · rw [if_neg hq, sumN_congr (g := fun _ => 0) fun j hj => if_neg fun e => hq (isLd_iff.2 ⟨j, hj, e⟩)]
    exact sumN_zero _
/-- A sum over all places: those without a lead, and the leads. -/
theorem Ech.split (g : Nat → Int) : sumN g n = sumN (fun q => if isLd B.length ld q = true then 0 else g q) n + sumN (fun j => g (ld j)) B.length := by
  have e1 : sumN (fun j => g (ld j)) B.length = sumN (fun j => sumN (fun q => if ld j = q then g q else 0) n) B.length :=
    sumN_congr fun j hj => by rw [sumN_one (h.lt j hj) (fun q _ hq => if_neg fun e => hq e.symm), if_pos rfl]
  rw [e1, sumN_comm, ← sumN_add]
  refine sumN_congr fun q hq => ?_
  have e2 : sumN (fun j => if ld j = q then g q else 0) B.length = if isLd B.length ld q = true then g q else 0 := h.at_lead (fun _ => g q) q
  rw [e2]
  split <;> omega
end
end Go.Vam

/- Plain laws: the equations of derivations; both programs' bases of derivations are one. -/
namespace Go.Vam
open Go Go.RowKit
set_option linter.unusedSimpArgs false
set_option linter.unusedVariables false
set_option linter.unusedSectionVars false

theorem gR_append {x y : List (List Int)} {k : Nat} : gR (x ++ y) k = if k < x.length then gR x k else gR y (k - x.length) := by
  unfold gR
  rw [List.getD_eq_getElem?_getD, List.getElem?_append]
  by_cases h : k < x.length
  · rw [if_pos h, if_pos h, List.getD_eq_getElem?_getD]
  · rw [if_neg h, if_neg h, List.getD_eq_getElem?_getD]
theorem Mat.append {p : Int} {a b c : Nat} {x y : List (List Int)} (hx : Mat p a c x) (hy : Mat p b c y) : Mat p (a + b) c (x ++ y) := by
  have h1 := hx.1
  refine ⟨by rw [List.length_append, hx.1, hy.1], fun i hi => ?_⟩
  rw [gR_append]
  split
  · exact hx.2 i (by omega)
  · exact hy.2 (i - x.length) (by omega)
section
variable {p : Int} {w : List Int} (hP : isP p = true) (hl : w.length ≤ 4) (hw : Vec p w.length w)
include hP hl hw
end
end Go.Vam

/- Plain laws: what is drawn from a code. -/
namespace Go.Vam
open Go Go.RowKit
set_option linter.unusedSimpArgs false
set_option linter.unusedVariables false
set_option linter.unusedSectionVars false

/-- A table that is not large. -/
def tabS (m : List (List Int)) : Prop := m.length ≤ 17 ∧ ∀ x ∈ m, x.length ≤ 18
theorem tabS.sz {m : List (List Int)} (h : tabS m) : szM m := ⟨by have := h.1; omega, fun r hr => by have := h.2 r hr; omega⟩
theorem tabS.of {p : Int} {r k : Nat} {m : List (List Int)} (h : Mat p r k m) (hr : r ≤ 17) (hk : k ≤ 18) : tabS m := by
  refine ⟨by rw [h.1]; exact hr, fun x hx => ?_⟩
  obtain ⟨i, hi, rfl⟩ := List.getElem_of_mem hx
  have e := (h.2 i (by have := h.1; omega)).1
  rw [← gR_get hi] at e
  omega
theorem tabS.set {m : List (List Int)} (h : tabS m) (i : Nat) {x : List Int} (hx : x.length ≤ 18) : tabS (m.set i x) := by
  refine ⟨by rw [List.length_set]; exact h.1, fun y hy => ?_⟩
  rcases List.mem_or_eq_of_mem_set hy with h1 | h1
  · exact h.2 y h1
  · rw [h1]; exact hx
end Go.Vam

/- Plain laws: reflections keep the products of vectors. -/
namespace Go.Vam
open Go Go.RowKit
set_option linter.unusedSimpArgs false
set_option linter.unusedVariables false
set_option linter.unusedSectionVars false

/-- The product of vectors, as an integer. -/
def pairS (n : Nat) (w x y : List Int) : Int := sumN (fun k => gI x k * gI y k * gI w k) n
theorem pairp_S (p : Int) (n : Nat) (w x y : List Int) : pairp p n w x y = pairS n w x y % p := rfl
theorem pairS_comm (n : Nat) (w x y : List Int) : pairS n w x y = pairS n w y x := by
  unfold pairS
  exact sumN_congr fun k _ => by rw [Int.mul_comm (gI x k)]
theorem pairS_lin {p : Int} {n : Nat} {w x x' u y : List Int} {c : Int} (h : ∀ k, k < n → gI x' k % p = (gI x k + c * gI u k) % p) : pairS n w x' y % p = (pairS n w x y + c * pairS n w u y) % p := by
  unfold pairS
  rw [← sumN_lin]
  refine sumN_mod fun k hk => ?_
  rw [Int.mul_assoc, mul_mod_l (h k hk)]
  congr 1
  rw [Int.add_mul, Int.mul_assoc, Int.mul_assoc, Int.mul_assoc]
/-- What the reflection in u makes of v. -/
def reflv (p : Int) (n : Nat) (w u v : List Int) : List Int := plusv p n v u (-2 * pairS n w u v * invp p (pairp p n w u u))
theorem reflv_vec {p : Int} (hp : 0 < p) (n : Nat) (w u v : List Int) : Vec p n (reflv p n w u v) := plusv_vec hp ..
theorem reflv_at {p : Int} {n k : Nat} {w u v : List Int} (hk : k < n) : gI (reflv p n w u v) k = (gI v k + (-2 * pairS n w u v * invp p (pairp p n w u u)) * gI u k) % p := plusv_at hk
theorem inv_dvd {p a : Int} (hP : isP p = true) (h0 : a % p ≠ 0) : p ∣ invp p (a % p) * a - 1 := by
  have hp := isP_le hP
  have hn := mod_num (a := a) (p := p) (by omega)
  obtain ⟨_, _, i3⟩ := inv_facts (a := a % p) hP (by omega) hn.2
  rw [← mod_dvd, Int.emod_eq_of_lt (show (0 : Int) ≤ 1 by omega) (by omega), Int.mul_comm, ← i3]
  exact (mul_mod_l (emm a p)).symm
theorem reflv_pair {p : Int} {n : Nat} {w u : List Int} (hP : isP p = true) (hu : pairp p n w u u ≠ 0) (x y : List Int) :
    pairp p n w (reflv p n w u x) (reflv p n w u y) = pairp p n w x y := by
  rw [pairp_S, pairp_S]
  have ht := inv_dvd hP (a := pairS n w u u) hu
  rw [← pairp_S] at ht
  have hx : ∀ k, k < n → gI (reflv p n w u x) k % p = (gI x k + (-2 * pairS n w u x * invp p (pairp p n w u u)) * gI u k) % p := fun k hk => by rw [reflv_at hk, emm]
  have hy : ∀ k, k < n → gI (reflv p n w u y) k % p = (gI y k + (-2 * pairS n w u y * invp p (pairp p n w u u)) * gI u k) % p := fun k hk => by rw [reflv_at hk, emm]
  have h1 := mod_dvd.1 (pairS_lin (w := w) (y := reflv p n w u y) hx)
  have h2 := mod_dvd.1 (pairS_lin (w := w) (y := x) hy)
  have h3 := mod_dvd.1 (pairS_lin (w := w) (y := u) hy)
  rw [pairS_comm n w x (reflv p n w u y), pairS_comm n w u (reflv p n w u y)] at h1
  rw [pairS_comm n w y x, pairS_comm n w u x] at *
  rw [pairS_comm n w y u] at h3
  generalize hX : pairS n w x u = X at *
  generalize hY : pairS n w u y = Y at *
  generalize invp p (pairp p n w u u) = t at *
  generalize pairS n w u u = Q at *
  generalize pairS n w x y = Z at *
  generalize pairS n w (reflv p n w u x) (reflv p n w u y) = A at *
  generalize pairS n w (reflv p n w u y) x = B at *
  generalize pairS n w (reflv p n w u y) u = C at *
  rw [mod_dvd]
  obtain ⟨k1, e1⟩ := h1
  obtain ⟨k2, e2⟩ := h2
  obtain ⟨k3, e3⟩ := h3
  obtain ⟨k4, e4⟩ := ht
  exact ⟨k1 + k2 + (-2 * X * t) * k3 + 4 * X * Y * t * k4, by grind⟩
/-- The reflection's table. -/
def reflm (p : Int) (n : Nat) (w u : List Int) : List (List Int) := turnm n n (vecN n fun k => reflv p n w u (axis n k))
theorem pairS_axis {n k : Nat} {w u : List Int} (hk : k < n) : pairS n w u (axis n k) = gI u k * gI w k := by
  unfold pairS
  rw [sumN_one hk (fun q hq hqk => by rw [gI_axis hk, if_neg hqk]; simp), gI_axis hk, if_pos rfl, Int.mul_one]
theorem reflm_at {p : Int} {n r k : Nat} {w u : List Int} (hr : r < n) (hk : k < n) : gI (gR (reflm p n w u) r) k = ((if r = k then 1 else 0) + (-2 * (gI u k * gI w k) * invp p (pairp p n w u u)) * gI u r) % p := by
  unfold reflm
  rw [turnm_at hk hr, gR_vecN _ hk, reflv_at hr, gI_axis hk, pairS_axis hk]
theorem refl_times {p : Int} {n i : Nat} {w u : List Int} {m : List (List Int)} (hp : 0 < p) (hi : i < n) :
    gR (turnm n n (timesm p n n n (reflm p n w u) m)) i = reflv p n w u (gR (turnm n n m) i) := by
  have hv := (reflv_vec hp n w u (gR (turnm n n m) i)).1
  rw [extI hv (f := gI (reflv p n w u (gR (turnm n n m) i))) fun k _ => rfl]
  refine extI (by unfold turnm; rw [gR_vecN _ hi, vecN_len]) fun r hr => ?_
  rw [turnm_at hr hi, reflv_at hr, turnm_at hr hi]
  unfold timesm
  rw [gR_vecN _ hr, gI_vecN _ hi]
  have e1 : sumN (fun j => gI (gR (reflm p n w u) r) j * gI (gR m j) i) n % p = sumN (fun j => (if r = j then gI (gR m j) i else 0) + (-2 * invp p (pairp p n w u u) * gI u r) * (gI u j * gI (gR m j) i * gI w j)) n % p := by
    refine sumN_mod fun j hj => ?_
    rw [reflm_at hr hj, mul_mod_l (emm _ _)]
    congr 1
    split <;> grind
  rw [e1, sumN_lin, sumN_one hr (fun q hq hqr => if_neg (fun e => hqr e.symm)), if_pos rfl]
  congr 2
  have e2 : sumN (fun k => gI u k * gI (gR m k) i * gI w k) n = pairS n w u (gR (turnm n n m) i) := by
    unfold pairS
    exact sumN_congr fun k hk => by rw [turnm_at hk hi]
  rw [e2]
  grind
/-- A table whose columns have the products of the basis. -/
def IsoT (p : Int) (n : Nat) (w : List Int) (m : List (List Int)) : Prop := ∀ i, i < n → ∀ j, j < n → pairp p n w (gR (turnm n n m) i) (gR (turnm n n m) j) = if i = j then gI w i else 0
theorem IsoT.refl {p : Int} {n : Nat} {w u : List Int} {m : List (List Int)} (hP : isP p = true) (h : IsoT p n w m) (hu : pairp p n w u u ≠ 0) : IsoT p n w (timesm p n n n (reflm p n w u) m) := by
  have hp := isP_le hP
  intro i hi j hj
  rw [refl_times (by omega) hi, refl_times (by omega) hj, reflv_pair hP hu]
  exact h i hi j hj
end Go.Vam

/- Plain laws: decompositions into reflections; HasSquareNorm. -/
namespace Go.Vam
open Go Go.RowKit
set_option linter.unusedSimpArgs false
set_option linter.unusedVariables false
set_option linter.unusedSectionVars false

section
variable {p : Int} {n : Nat} {w u : List Int} (hP : isP p = true) (hn0 : 0 < n) (hn : n ≤ 1000) (hwl : w.length = n) (hw : Vec p n w) (hu : Vec p n u) (hQ : pairp p n w u u ≠ 0)
include hP hn0 hn hwl hw hu hQ
end
section
variable {p : Int} {n : Nat} {w : List Int} (hP : isP p = true) (hn0 : 0 < n) (hn : n ≤ 1000) (hwl : w.length = n) (hw : Vec p n w) (hz : ∀ k, k < n → gI w k ≠ 0)
include hP hn0 hn hwl hw hz
end
end Go.Vam

/- Plain laws: systems of equations and spans. -/
namespace Go.Vam
open Go Go.RowKit
set_option linter.unusedSimpArgs false
set_option linter.unusedVariables false
set_option linter.unusedSectionVars false

end Go.Vam

/- Plain law: FnKernels. -/
namespace Go.Vam
open Go Go.RowKit
set_option linter.unusedSimpArgs false
set_option linter.unusedVariables false
set_option linter.unusedSectionVars false

end Go.Vam

/- Plain laws: determinants of numbers, by expansion; they are multiplied with tables. -/
namespace Go.Vam
open Go Go.RowKit
set_option linter.unusedSimpArgs false
set_option linter.unusedVariables false
set_option linter.unusedSectionVars false

def skipN (i a : Nat) : Nat := if a < i then a else a + 1
def sgnN (i : Nat) : Int := if i % 2 = 0 then 1 else -1
/-- The determinant of the first n rows and columns, expanded along column 0. -/
def detN : Nat → (Nat → Nat → Int) → Int
  | 0, _ => 1
  | n + 1, M => sumN (fun i => sgnN i * M i 0 * detN n (fun a b => M (skipN i a) (b + 1))) (n + 1)
theorem sgnN_succ (i : Nat) : sgnN (i + 1) = - sgnN i := by
  unfold sgnN
  rcases Nat.mod_two_eq_zero_or_one i with h | h
  · rw [if_neg (by omega), if_pos h]
  · rw [if_pos (by omega), if_neg (by omega)]; rfl
theorem skipN_lt {n i a : Nat} (ha : a < n) : skipN i a < n + 1 := by unfold skipN; split <;> omega
theorem detN_congr : ∀ (n : Nat) {M M' : Nat → Nat → Int}, (∀ i, i < n → ∀ j, j < n → M i j = M' i j) → detN n M = detN n M'
  | 0, _, _, _ => rfl
  | n + 1, M, M', h => by
    unfold detN
    refine sumN_congr fun i hi => ?_
    rw [h i hi 0 (by omega), detN_congr n fun a ha b hb => h _ (skipN_lt ha) (b + 1) (by omega)]
theorem dvd_mul_sub {p a b x y : Int} (h1 : p ∣ a - b) (h2 : p ∣ x - y) : p ∣ a * x - b * y := by
  have e : a * x - b * y = (a - b) * x + b * (x - y) := by rw [Int.sub_mul, Int.mul_sub]; omega
  rw [e]
  exact Int.dvd_add (Int.dvd_mul_of_dvd_left h1) (Int.dvd_mul_of_dvd_right h2)
theorem sumN_cong_dvd {p : Int} {f g : Nat → Int} {n : Nat} (h : ∀ k, k < n → p ∣ f k - g k) : p ∣ sumN f n - sumN g n := by
  rw [← sumN_sub]; exact sumN_dvd h
theorem detN_mod {p : Int} : ∀ (n : Nat) {M M' : Nat → Nat → Int}, (∀ i, i < n → ∀ j, j < n → p ∣ M i j - M' i j) → p ∣ detN n M - detN n M'
  | 0, _, _, _ => by unfold detN; simp
  | n + 1, M, M', h => by
    unfold detN
    refine sumN_cong_dvd fun i hi => ?_
    refine dvd_mul_sub (dvd_mul_sub (by simp) (h i hi 0 (by omega))) (detN_mod n fun a ha b hb => h _ (skipN_lt ha) (b + 1) (by omega))

/-- Row i replaced. -/
def rowU (M : Nat → Nat → Int) (i : Nat) (r : Nat → Int) : Nat → Nat → Int := fun a b => if a = i then r b else M a b
theorem rowU_self (M : Nat → Nat → Int) (i : Nat) : rowU M i (M i) = M := by
  funext a b; unfold rowU; split
  · rename_i h; rw [h]
  · rfl
/-- Where row i stands when row k is left out. -/
def backN (k i : Nat) : Nat := if i < k then i else i - 1
theorem skipN_eq {k i a : Nat} (h : i ≠ k) : skipN k a = i ↔ a = backN k i := by
  unfold skipN backN
  constructor
  · intro e; split at e <;> split <;> omega
  · intro e; split at e <;> split <;> omega
theorem backN_lt {n k i : Nat} (hk : k < n + 1) (hi : i < n + 1) (h : i ≠ k) : backN k i < n := by unfold backN; split <;> omega
theorem minor_rowU {M : Nat → Nat → Int} {i k : Nat} {r : Nat → Int} (h : i ≠ k) : (fun a b => rowU M i r (skipN k a) (b + 1)) = rowU (fun a b => M (skipN k a) (b + 1)) (backN k i) (fun b => r (b + 1)) := by
  funext a b
  unfold rowU
  by_cases e : skipN k a = i
  · rw [if_pos e, if_pos ((skipN_eq h).1 e)]
  · rw [if_neg e, if_neg fun e' => e ((skipN_eq h).2 e')]
theorem minor_rowU_self {M : Nat → Nat → Int} {i : Nat} {r : Nat → Int} : (fun a b => rowU M i r (skipN i a) (b + 1)) = (fun a b => M (skipN i a) (b + 1)) := by
  funext a b
  unfold rowU
  rw [if_neg (by unfold skipN; split <;> omega)]
theorem detN_lin : ∀ (n : Nat) (M : Nat → Nat → Int) (i : Nat) (r s : Nat → Int) (c : Int), i < n →
    detN n (rowU M i (fun b => r b + c * s b)) = detN n (rowU M i r) + c * detN n (rowU M i s)
  | 0, _, _, _, _, _, h => by omega
  | n + 1, M, i, r, s, c, h => by
    unfold detN
    rw [← sumN_lin]
    refine sumN_congr fun k hk => ?_
    by_cases e : i = k
    · subst e
      rw [minor_rowU_self, minor_rowU_self, minor_rowU_self]
      simp only [rowU, if_true]
      grind
    · rw [minor_rowU e, minor_rowU e, minor_rowU e, detN_lin n _ _ (fun b => r (b + 1)) (fun b => s (b + 1)) c (backN_lt hk h e)]
      simp only [rowU, if_neg fun e' : k = i => e e'.symm]
      grind
theorem detN_adj : ∀ (n : Nat) (M : Nat → Nat → Int) (i : Nat), i + 1 < n → (∀ b, M i b = M (i + 1) b) → detN n M = 0
  | 0, _, _, h, _ => by omega
  | n + 1, M, i, h, he => by
    unfold detN
    rw [sumN_two (i := i) (k := i + 1) (by omega) h (by omega) fun k hk h1 h2 => ?_]
    · have e : (fun a b => M (skipN (i + 1) a) (b + 1)) = (fun a b => M (skipN i a) (b + 1)) := by
        funext a b
        by_cases ha : a = i
        · subst ha
          have e1 : skipN (a + 1) a = a := by unfold skipN; rw [if_pos (by omega)]
          have e2 : skipN a a = a + 1 := by unfold skipN; rw [if_neg (by omega)]
          rw [e1, e2]; exact he _
        · have : skipN (i + 1) a = skipN i a := by unfold skipN; split <;> split <;> omega
          rw [this]
      rw [e, sgnN_succ, he 0]
      grind
    · have : detN n (fun a b => M (skipN k a) (b + 1)) = 0 := by
        by_cases hki : k < i
        · refine detN_adj n _ (i - 1) (by omega) fun b => ?_
          have e1 : skipN k (i - 1) = i := by unfold skipN; rw [if_neg (by omega)]; omega
          have e2 : skipN k (i - 1 + 1) = i + 1 := by unfold skipN; rw [if_neg (by omega)]; omega
          simp only [e1, e2]; exact he _
        · refine detN_adj n _ i (by omega) fun b => ?_
          have e1 : skipN k i = i := by unfold skipN; rw [if_pos (by omega)]
          have e2 : skipN k (i + 1) = i + 1 := by unfold skipN; rw [if_pos (by omega)]
          simp only [e1, e2]; exact he _
      rw [this, Int.mul_zero]
theorem detN_swap_of {n i k : Nat} (hi : i < n) (hk : k < n) (hne : i ≠ k) (alt : ∀ M : Nat → Nat → Int, (∀ b, M i b = M k b) → detN n M = 0) (M : Nat → Nat → Int) :
    detN n (rowU (rowU M i (M k)) k (M i)) = - detN n M := by
  have key : ∀ r s : Nat → Int, detN n (rowU (rowU M i r) k s) + detN n (rowU (rowU M i s) k r) = 0 := by
    intro r s
    have h0 := alt (rowU (rowU M i (fun b => r b + 1 * s b)) k (fun b => r b + 1 * s b)) fun b => by
      simp only [rowU, if_true, if_neg hne]
    have h1 := alt (rowU (rowU M i r) k r) fun b => by simp only [rowU, if_true, if_neg hne]
    have h2 := alt (rowU (rowU M i s) k s) fun b => by simp only [rowU, if_true, if_neg hne]
    have cm : ∀ u v : Nat → Int, rowU (rowU M i u) k v = rowU (rowU M k v) i u := by
      intro u v; funext a b; unfold rowU
      by_cases a1 : a = i
      · subst a1; rw [if_neg hne, if_pos rfl, if_pos rfl]
      · simp only [if_neg a1]
    rw [detN_lin n (rowU M i (fun b => r b + 1 * s b)) k r s 1 hk, cm, cm, detN_lin n (rowU M k r) i r s 1 hi, detN_lin n (rowU M k s) i r s 1 hi] at h0
    rw [cm] at h1 h2
    rw [cm, cm]
    omega
  have h := key (M k) (M i)
  have e : rowU (rowU M i (M i)) k (M k) = M := by rw [rowU_self, rowU_self]
  rw [e] at h
  omega
theorem detN_alt {n : Nat} : ∀ (t i : Nat) (M : Nat → Nat → Int), i + 1 + t < n → (∀ b, M i b = M (i + 1 + t) b) → detN n M = 0
  | 0, i, M, h, he => detN_adj n M i h he
  | t + 1, i, M, h, he => by
    have hs := detN_swap_of (n := n) (i := i + 1 + t) (k := i + 1 + (t + 1)) (by omega) h (by omega) (fun M hM => detN_adj n M (i + 1 + t) (by omega) hM) M
    have h0 := detN_alt (n := n) t i (rowU (rowU M (i + 1 + t) (M (i + 1 + (t + 1)))) (i + 1 + (t + 1)) (M (i + 1 + t))) (by omega) fun b => by
      simp only [rowU, if_true, if_neg (show i ≠ i + 1 + (t + 1) by omega), if_neg (show i ≠ i + 1 + t by omega), if_neg (show i + 1 + t ≠ i + 1 + (t + 1) by omega)]
      exact he b
    omega
theorem detN_same {n i k : Nat} (hi : i < n) (hk : k < n) (hne : i ≠ k) (M : Nat → Nat → Int) (he : ∀ b, M i b = M k b) : detN n M = 0 := by
  rcases Nat.lt_or_gt_of_ne hne with h | h
  · exact detN_alt (k - i - 1) i M (by omega) fun b => by rw [he b]; congr 1; omega
  · exact detN_alt (i - k - 1) k M (by omega) fun b => by rw [← he b]; congr 1; omega
/-- Multiples of row k added to all others. -/
theorem detN_clear {n k : Nat} (hk : k < n) (M : Nat → Nat → Int) (c : Nat → Int) : detN n (fun a b => if a = k then M k b else M a b + c a * M k b) = detN n M := by
  have key : ∀ m, m ≤ n → detN n (fun a b => if a = k then M k b else if a < m then M a b + c a * M k b else M a b) = detN n M := by
    intro m
    induction m with
    | zero =>
      intro _
      refine detN_congr n fun a ha b hb => ?_
      by_cases e : a = k
      · rw [if_pos e, e]
      · rw [if_neg e, if_neg (by omega)]
    | succ m ih =>
      intro hm
      rw [← ih (by omega)]
      by_cases e : m = k
      · refine detN_congr n fun a ha b hb => ?_
        by_cases e2 : a = k
        · rw [if_pos e2, if_pos e2]
        · rw [if_neg e2, if_neg e2]
          by_cases e3 : a < m
          · rw [if_pos e3, if_pos (by omega)]
          · rw [if_neg e3, if_neg (by omega)]
      · generalize hH : (fun a b => if a = k then M k b else if a < m then M a b + c a * M k b else M a b) = H
        have h1 := detN_lin n H m (fun b => H m b) (fun b => H k b) (c m) (by omega)
        have h2 : detN n (rowU H m (fun b => H k b)) = 0 := detN_same (i := m) (k := k) (by omega) hk e _ fun b => by
          simp only [rowU, if_true, if_neg fun e' : k = m => e e'.symm]
        have h3 : rowU H m (fun b => H m b) = H := rowU_self H m
        rw [h2, h3, Int.mul_zero, Int.add_zero] at h1
        rw [← h1]
        refine detN_congr n fun a ha b hb => ?_
        unfold rowU
        rw [← hH]
        simp only [if_true]
        by_cases e2 : a = k
        · rw [if_pos e2, if_neg (by omega)]; rw [if_pos e2]
        · rw [if_neg e2]
          by_cases e3 : a = m
          · subst e3
            rw [if_pos (by omega), if_pos rfl, if_neg e2, if_neg (by omega)]
          · rw [if_neg e3, if_neg e2]
            by_cases e4 : a < m
            · rw [if_pos e4, if_pos (by omega)]
            · rw [if_neg e4, if_neg (by omega)]
  rw [← key n (Nat.le_refl n)]
  refine detN_congr n fun a ha b hb => ?_
  by_cases e : a = k
  · rw [if_pos e, if_pos e]
  · rw [if_neg e, if_neg e, if_pos ha]

def mulN (n : Nat) (A B : Nat → Nat → Int) : Nat → Nat → Int := fun a b => sumN (fun j => A a j * B j b) n
def prodN (f : Nat → Int) : Nat → Int
  | 0 => 1
  | k + 1 => prodN f k * f k
/-- The steps of an elimination: what they do to a product's determinant. -/
def QN (p : Int) (n : Nat) (A A' : Nat → Nat → Int) (s : Int) : Prop := (s = 1 ∨ s = -1) ∧ ∀ B, p ∣ detN n (mulN n A' B) - s * detN n (mulN n A B)
theorem QN.refl (p : Int) (n : Nat) (A : Nat → Nat → Int) : QN p n A A 1 := ⟨.inl rfl, fun B => by simp⟩
theorem QN.clear {p : Int} {n k : Nat} {A M : Nat → Nat → Int} {s : Int} (hk : k < n) (h : QN p n A M s) (c : Nat → Int) : QN p n A (fun a b => if a = k then M k b else M a b + c a * M k b) s := by
  refine ⟨h.1, fun B => ?_⟩
  have e : detN n (mulN n (fun a b => if a = k then M k b else M a b + c a * M k b) B) = detN n (mulN n M B) := by
    rw [← detN_clear hk (mulN n M B) c]
    refine detN_congr n fun a ha b hb => ?_
    unfold mulN
    by_cases ea : a = k
    · subst ea
      simp only [if_true]
    · simp only [if_neg ea]
      rw [← sumN_lin]
      refine sumN_congr fun j hj => ?_
      grind
  rw [e]; exact h.2 B
end Go.Vam

/- Plain laws: the programs' determinant is the expansion's. -/
namespace Go.Vam
open Go Go.RowKit
set_option linter.unusedSimpArgs false
set_option linter.unusedVariables false
set_option linter.unusedSectionVars false

def asN (m : List (List Int)) : Nat → Nat → Int := fun a b => gI (gR m a) b
def detL (r : Nat) (m : List (List Int)) : Int := detN r (asN m)
theorem prodN_congr {f g : Nat → Int} : ∀ {n : Nat}, (∀ k, k < n → f k = g k) → prodN f n = prodN g n
  | 0, _ => rfl
  | n + 1, h => by simp only [prodN, prodN_congr (n := n) fun k hk => h k (by omega), h n (by omega)]
/-- What the elimination keeps. -/
def DetInv (p : Int) (r : Nat) (M0 M : List (List Int)) (d : Int) (k : Nat) : Prop :=
  ∃ s : Int, p ∣ detL r M0 - s * detL r M ∧ p ∣ d - s * prodN (fun j => gI (gR M j) j) k
theorem DetInv.refl (p : Int) (r : Nat) (M0 : List (List Int)) : DetInv p r M0 M0 1 0 := ⟨1, by simp, by simp [prodN]⟩
theorem DetInv.clear {p : Int} {r k : Nat} {M0 M y : List (List Int)} {R : List Int} {d : Int} (h : DetInv p r M0 M d k) (hk : k < r) (hMk : gR M k = R) (hy : ∀ j, j < r → gR y j = if k < j then clp p r k R (gR M j) else gR M j) :
    DetInv p r M0 y (d * gI R k % p) (k + 1) := by
  obtain ⟨s, h1, h2⟩ := h
  have e : p ∣ detL r y - detL r M := by
    unfold detL
    rw [← detN_clear hk (asN M) (fun a => if k < a then (p - gI (gR M a) k) * invp p (gI R k) % p else 0)]
    refine detN_mod r fun a ha b hb => ?_
    simp only [asN]
    rw [hy a ha]
    by_cases e1 : a = k
    · rw [if_neg (by omega), if_pos e1, e1]; simp
    · rw [if_neg e1]
      by_cases e2 : k < a
      · rw [if_pos e2, if_pos e2]
        unfold clp
        rw [plusv_at hb, hMk, ← mod_dvd, emm]
      · rw [if_neg e2, if_neg e2]; simp
  have e3 : prodN (fun j => gI (gR y j) j) (k + 1) = prodN (fun j => gI (gR M j) j) k * gI R k := by
    simp only [prodN]
    rw [hy k hk, if_neg (by omega), hMk, prodN_congr (g := fun j => gI (gR M j) j) fun j hj => by rw [hy j (by omega), if_neg (by omega)]]
  refine ⟨s, ?_, ?_⟩
  · have : detL r M0 - s * detL r y = (detL r M0 - s * detL r M) - s * (detL r y - detL r M) := by grind
    rw [this]
    exact Int.dvd_sub h1 (Int.dvd_mul_of_dvd_right e)
  · rw [e3]
    have h3 : p ∣ d * gI R k % p - d * gI R k := by rw [← mod_dvd, emm]
    refine dvd_trans_sub h3 ?_
    have : d * gI R k - s * (prodN (fun j => gI (gR M j) j) k * gI R k) = (d - s * prodN (fun j => gI (gR M j) j) k) * gI R k := by grind
    rw [this]
    exact Int.dvd_mul_of_dvd_left h2

section
variable {p : Int} {r : Nat} (hP : isP p = true) (hr : r ≤ 1048576)
include hP hr
end
end Go.Vam
