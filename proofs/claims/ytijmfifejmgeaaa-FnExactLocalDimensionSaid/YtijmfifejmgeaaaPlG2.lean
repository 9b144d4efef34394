import Derived.Test.YtijmfifejmgeaaaPlG1
import Derived.Test.YtijmfifejmgeaaaFmG0
import Derived.Test.YtijmfifejmgeaaaPlG0
/- Plain laws: the programs' determinant is the expansion's. -/
namespace Go.Vam
open Go Go.RowKit
set_option linter.unusedSimpArgs false
set_option linter.unusedVariables false
set_option linter.unusedSectionVars false

def asN (m : List (List Int)) : Nat → Nat → Int := fun a b => gI (gR m a) b
def detL (r : Nat) (m : List (List Int)) : Int := detN r (asN m)
theorem prodN_congr {f g : Nat → Int} : ∀ {n : Nat}, (∀ k, k < n → f k = g k) → prodN f n = prodN g n
  | 0, _ => rfl
  | n + 1, h => by simp only [prodN, prodN_congr (n := n) fun k hk => h k (by omega), h n (by omega)]
/-- What the elimination keeps. -/
def DetInv (p : Int) (r : Nat) (M0 M : List (List Int)) (d : Int) (k : Nat) : Prop :=
  ∃ s : Int, p ∣ detL r M0 - s * detL r M ∧ p ∣ d - s * prodN (fun j => gI (gR M j) j) k
theorem DetInv.refl (p : Int) (r : Nat) (M0 : List (List Int)) : DetInv p r M0 M0 1 0 := ⟨1, by simp, by simp [prodN]⟩
theorem DetInv.clear {p : Int} {r k : Nat} {M0 M y : List (List Int)} {R : List Int} {d : Int} (h : DetInv p r M0 M d k) (hk : k < r) (hMk : gR M k = R) (hy : ∀ j, j < r → gR y j = if k < j then clp p r k R (gR M j) else gR M j) :
    DetInv p r M0 y (d * gI R k % p) (k + 1) := by
  obtain ⟨s, h1, h2⟩ := h
  have e : p ∣ detL r y - detL r M := by
    unfold detL
    rw [← detN_clear hk (asN M) (fun a => if k < a then (p - gI (gR M a) k) * invp p (gI R k) % p else 0)]
    refine detN_mod r fun a ha b hb => ?_
    simp only [asN]
    rw [hy a ha]
    by_cases e1 : a = k
    · rw [if_neg (by omega), if_pos e1, e1]; simp
    · rw [if_neg e1]
      by_cases e2 : k < a
      · rw [if_pos e2, if_pos e2]
        unfold clp
        rw [plusv_at hb, hMk, ← mod_dvd, emm]
      · rw [if_neg e2, if_neg e2]; simp
  have e3 : prodN (fun j => gI (gR y j) j) (k + 1) = prodN (fun j => gI (gR M j) j) k * gI R k := by
    simp only [prodN]
    rw [hy k hk, if_neg (by omega), hMk, prodN_congr (g := fun j => gI (gR M j) j) fun j hj => by rw [hy j (by omega), if_neg (by omega)]]
  refine ⟨s, ?_, ?_⟩
  · have : detL r M0 - s * detL r y = (detL r M0 - s * detL r M) - s * (detL r y - detL r M) := by grind
    rw [this]
    exact Int.dvd_sub h1 (Int.dvd_mul_of_dvd_right e)
  · rw [e3]
    have h3 : p ∣ d * gI R k % p - d * gI R k := by rw [← mod_dvd, emm]
    refine dvd_trans_sub h3 ?_
    have : d * gI R k - s * (prodN (fun j => gI (gR M j) j) k * gI R k) = (d - s * prodN (fun j => gI (gR M j) j) k) * gI R k := by grind
    rw [this]
    exact Int.dvd_mul_of_dvd_left h2

section
variable {p : Int} {r : Nat} (hP : isP p = true) (hr : r ≤ 1048576)
include hP hr
end
end Go.Vam

/- Plain laws: products are associative; turned products; ranks and determinants of products. -/
namespace Go.Vam
open Go Go.RowKit
set_option linter.unusedSimpArgs false
set_option linter.unusedVariables false
set_option linter.unusedSectionVars false

end Go.Vam

/- Plain laws: powers, exponents are added. -/
namespace Go.Vam
open Go Go.RowKit
set_option linter.unusedSimpArgs false
set_option linter.unusedVariables false
set_option linter.unusedSectionVars false

end Go.Vam

/- Plain laws: norms of elements; ConjugationBy. -/
namespace Go.Vam
open Go Go.RowKit
set_option linter.unusedSimpArgs false
set_option linter.unusedVariables false
set_option linter.unusedSectionVars false

theorem sumN_split (f : Nat → Int) (a b : Nat) : sumN f (a + b) = sumN f a + sumN (fun k => f (a + k)) b := by
  induction b with
  | zero => simp [sumN]
  | succ b ih => rw [← Nat.add_assoc]; simp only [sumN]; rw [ih]; omega
section
variable {p : Int} {w x : List Int} (hP : isP p = true) (hl : w.length ≤ 4) (hw : Vec p w.length w) (hx : Vec p (2 ^ w.length) x)
include hP hl hw hx
end
section
variable {p : Int} {w a b : List Int} (hP : isP p = true) (hl : w.length ≤ 4) (hw : Vec p w.length w) (ha : Vec p (2 ^ w.length) a) (hb : Vec p (2 ^ w.length) b)
include hP hl hw ha hb
end
end Go.Vam

/- Plain law: FnMatrixProducts. -/
namespace Go.Vam
open Go Go.RowKit
set_option linter.unusedSimpArgs false
set_option linter.unusedVariables false
set_option linter.unusedSectionVars false

section
variable {p : Int} {r n c : Nat} {a b : List (List Int)} (hP : isP p = true) (ha : Mat p r n a) (hr0 : 1 ≤ r) (hr : r ≤ 16) (hn0 : 1 ≤ n) (hn : n ≤ 16)
include hP ha hr0 hr hn0 hn
end
end Go.Vam

/- Plain laws: inverses of tables. -/
namespace Go.Vam
open Go Go.RowKit
set_option linter.unusedSimpArgs false
set_option linter.unusedVariables false
set_option linter.unusedSectionVars false

/-- The table with the unit behind it. -/
def widem (n : Nat) (a : List (List Int)) : List (List Int) := vecN n fun i => gR a i ++ axis n i
section
variable {p : Int} {n : Nat} {a : List (List Int)} (hp : 1 < p) (hn : n ≤ 1000) (ha : Mat p n n a)
include hp hn ha
end
section
variable {p : Int} {n : Nat} {a B : List (List Int)} {ld : Nat → Nat} (hP : isP p = true) (hn0 : 1 ≤ n) (hn : n ≤ 1000) (ha : Mat p n n a) (hB : Ech p (n + n) B ld) (hk : ∀ u, Kr p (n + n) B u ↔ KerP p n (n + n) (widem n a) u)
include hP hn0 hn ha hB hk
end

section
variable {p : Int} {n : Nat} {a : List (List Int)} (hP : isP p = true) (hn0 : 1 ≤ n) (hn : n ≤ 16) (ha : Mat p n n a)
include hP hn0 hn ha
end
end Go.Vam

/- Plain laws: the coordinates of a product; pure elements of few steps anticommute up to their pairing. -/
namespace Go.Vam
open Go Go.RowKit
set_option linter.unusedSimpArgs false
set_option linter.unusedVariables false
set_option linter.unusedSectionVars false

/-- Sums over all places are sums over all places moved. -/
theorem sum_xor (f : Nat → Int) : ∀ n, n ≤ 4 → ∀ m, m < 2 ^ n → ∀ s, sumN (fun i => f (s + (i ^^^ m))) (2 ^ n) = sumN (fun i => f (s + i)) (2 ^ n)
  | 0, _, m, hm, s => by
    have : m = 0 := by simpa using hm
    subst this; simp [sumN]
  | n + 1, hn, m, hm, s => by
    have hpow : 2 ^ (n + 1) = 2 ^ n + 2 ^ n := by rw [Nat.pow_succ]; omega
    have hX := xor_hi n (by omega)
    have ih := sum_xor f n (by omega)
    rw [hpow] at hm ⊢
    rw [sumN_split, sumN_split]
    rcases Nat.lt_or_ge m (2 ^ n) with h | h
    · congr 1
      · exact ih m h s
      · have e : sumN (fun k => f (s + ((2 ^ n + k) ^^^ m))) (2 ^ n) = sumN (fun k => f (s + 2 ^ n + (k ^^^ m))) (2 ^ n) := sumN_congr fun k hk => by rw [(hX k hk m h).2.1, Nat.add_assoc]
        rw [e, ih m h (s + 2 ^ n)]
        exact sumN_congr fun k hk => by rw [Nat.add_assoc]
    · obtain ⟨m', rfl⟩ := Nat.exists_eq_add_of_le h
      have hm' : m' < 2 ^ n := by omega
      have e1 : sumN (fun k => f (s + (k ^^^ (2 ^ n + m')))) (2 ^ n) = sumN (fun k => f (s + 2 ^ n + (k ^^^ m'))) (2 ^ n) := sumN_congr fun k hk => by rw [(hX k hk m' hm').1, Nat.add_assoc]
      have e2 : sumN (fun k => f (s + ((2 ^ n + k) ^^^ (2 ^ n + m')))) (2 ^ n) = sumN (fun k => f (s + (k ^^^ m'))) (2 ^ n) := sumN_congr fun k hk => by rw [(hX k hk m' hm').2.2]
      rw [e1, e2, ih m' hm' (s + 2 ^ n), ih m' hm' s, Int.add_comm]
      congr 1
      exact sumN_congr fun k hk => by rw [Nat.add_assoc]
theorem sum_xor0 (f : Nat → Int) {n m : Nat} (hn : n ≤ 4) (hm : m < 2 ^ n) : sumN (fun i => f (i ^^^ m)) (2 ^ n) = sumN f (2 ^ n) := by
  have := sum_xor f n hn m hm 0
  simpa only [Nat.zero_add] using this
theorem xor_back (i m : Nat) : (i ^^^ m) ^^^ m = i := by rw [Nat.xor_assoc, Nat.xor_self, Nat.xor_zero]

/-- The coordinates of a product. -/
theorem mulr_gen {p : Int} : ∀ (n : Nat), n ≤ 4 → ∀ (w x y : List Int) (m : Nat), m < 2 ^ n → gI (mulr p n w x y) m % p = sumN (fun i => gI x i * gI y (i ^^^ m) * axS n w i (i ^^^ m)) (2 ^ n) % p
  | 0, _, w, x, y, m, hm => by
    have : m = 0 := by simpa using hm
    subst this
    unfold mulr
    show gI x 0 * gI y 0 % p % p = _
    rw [emm]
    simp [sumN, axS]
  | n + 1, hn, w, x, y, m, hm => by
    have hpow : 2 ^ (n + 1) = 2 ^ n + 2 ^ n := by rw [Nat.pow_succ]; omega
    have hX := xor_hi n (by omega)
    have hlt : ∀ a b, a < 2 ^ n → b < 2 ^ n → a ^^^ b < 2 ^ n := fun a b ha hb => xor_lt ha hb
    have hre : ∀ (f : Nat → Int) (m : Nat), m < 2 ^ n → sumN (fun i => f (i ^^^ m)) (2 ^ n) = sumN f (2 ^ n) := fun f m h => sum_xor0 f (by omega) h
    have ih := mulr_gen (p := p) n (by omega) (w.take n)
    unfold mulr
    rw [hpow] at hm
    rw [hpow, sumN_split]
    generalize hd : 2 ^ n = d at hm hX hlt hre ih ⊢
    have hl : ∀ u v k, (plusv p d u v k).length = d := fun u v k => by unfold plusv; rw [vecN_len]
    rcases Nat.lt_or_ge m d with h | h
    · rw [gI_append, if_pos (by rw [hl]; exact h), plusv_at h, emm, Int.add_emod, ih _ _ m h, Int.mul_emod, ih _ _ m h, ← Int.mul_emod]
      have e1 : sumN (fun i => gI (x.take d) i * gI (y.take d) (i ^^^ m) * axS n (w.take n) i (i ^^^ m)) d = sumN (fun i => gI x i * gI y (i ^^^ m) * axS (n + 1) w i (i ^^^ m)) d := by
        refine sumN_congr fun i hi => ?_
        have hx := hlt i m hi h
        rw [gI_take hi, gI_take hx]
        conv => rhs; unfold axS
        rw [hd, if_pos hi, if_pos hx]
      have e2 : (gI w n * sumN (fun i => gI (starv p d (y.drop d)) i * gI (x.drop d) (i ^^^ m) * axS n (w.take n) i (i ^^^ m)) d) % p = sumN (fun i => gI x (d + i) * gI y ((d + i) ^^^ m) * axS (n + 1) w (d + i) ((d + i) ^^^ m)) d % p := by
        rw [← hre (fun i => gI (starv p d (y.drop d)) i * gI (x.drop d) (i ^^^ m) * axS n (w.take n) i (i ^^^ m)) m h, ← sumN_mulL]
        refine sumN_mod fun i hi => ?_
        have hx := hlt i m hi h
        have hb := xor_back i m
        conv => rhs; unfold axS
        rw [hd, (hX i hi m h).2.1, if_neg (by omega), if_neg (by omega), Nat.add_sub_cancel_left, Nat.add_sub_cancel_left, hb, gI_drop]
        have hs := starv_at (p := p) (a := y.drop d) hx
        rw [gI_drop] at hs
        have a1 : gI w n * (gI (starv p d (y.drop d)) (i ^^^ m) * gI x (d + i) * axS n (w.take n) (i ^^^ m) i) = gI (starv p d (y.drop d)) (i ^^^ m) * (gI w n * gI x (d + i) * axS n (w.take n) (i ^^^ m) i) := by grind
        rw [a1, mul_mod_l hs]
        congr 1
        grind
      rw [e2, e1, ← Int.add_emod]
    · obtain ⟨m', rfl⟩ := Nat.exists_eq_add_of_le h
      have hm' : m' < d := by omega
      rw [gI_append, if_neg (by rw [hl]; omega), hl, Nat.add_sub_cancel_left, plusv_at hm', emm, Int.add_emod, ih _ _ m' hm', Int.mul_emod, ih _ _ m' hm', ← Int.mul_emod, Int.one_mul]
      have e1 : sumN (fun i => gI (y.drop d) i * gI (x.take d) (i ^^^ m') * axS n (w.take n) i (i ^^^ m')) d = sumN (fun i => gI x i * gI y (i ^^^ (d + m')) * axS (n + 1) w i (i ^^^ (d + m'))) d := by
        rw [← hre (fun i => gI (y.drop d) i * gI (x.take d) (i ^^^ m') * axS n (w.take n) i (i ^^^ m')) m' hm']
        refine sumN_congr fun i hi => ?_
        have hx := hlt i m' hi hm'
        have hb := xor_back i m'
        conv => rhs; unfold axS
        rw [hd, (hX i hi m' hm').1, if_pos hi, if_neg (by omega), Nat.add_sub_cancel_left, hb, gI_drop, gI_take hi]
        grind
      have e2 : sumN (fun i => gI (x.drop d) i * gI (starv p d (y.take d)) (i ^^^ m') * axS n (w.take n) i (i ^^^ m')) d % p = sumN (fun i => gI x (d + i) * gI y ((d + i) ^^^ (d + m')) * axS (n + 1) w (d + i) ((d + i) ^^^ (d + m'))) d % p := by
        refine sumN_mod fun i hi => ?_
        have hx := hlt i m' hi hm'
        conv => rhs; unfold axS
        rw [hd, (hX i hi m' hm').2.2, if_neg (by omega), if_pos hx, Nat.add_sub_cancel_left, gI_drop]
        have hs := starv_at (p := p) (a := y.take d) hx
        rw [gI_take hx] at hs
        have a1 : gI x (d + i) * gI (starv p d (y.take d)) (i ^^^ m') * axS n (w.take n) i (i ^^^ m') = gI (starv p d (y.take d)) (i ^^^ m') * (gI x (d + i) * axS n (w.take n) i (i ^^^ m')) := by grind
        rw [a1, mul_mod_l hs]
        congr 1
        grind
      rw [e2, e1, ← Int.add_emod]

/-! ### The sign of a product of axes, apart from the steps' numbers -/
def sgF : Nat → Nat → Nat → Int
  | 0, _, _ => 1
  | n + 1, i, j =>
    if i < 2 ^ n then (if j < 2 ^ n then sgF n i j else sgF n (j - 2 ^ n) i)
    else (if j < 2 ^ n then sgs j * sgF n (i - 2 ^ n) j else sgs (j - 2 ^ n) * sgF n (j - 2 ^ n) (i - 2 ^ n))
/-- The product of the steps' numbers named by the digits. -/
def wpF (w : List Int) : Nat → Nat → Int
  | 0, _ => 1
  | n + 1, m => (if m < 2 ^ n then 1 else gI w n) * wpF w n (m % 2 ^ n)
theorem wpF_take {w : List Int} {N : Nat} : ∀ n, n ≤ N → ∀ m, wpF (w.take N) n m = wpF w n m
  | 0, _, _ => rfl
  | n + 1, h, m => by
    unfold wpF
    rw [wpF_take n (by omega), gI_take (by omega)]
theorem and_lt' : ∀ n, n ≤ 4 → ∀ i, i < 2 ^ n → ∀ j, j < 2 ^ n → i &&& j < 2 ^ n := fun n _ i hi j hj => Nat.lt_of_le_of_lt Nat.and_le_left hi
theorem and_hi : ∀ n, n < 4 → ∀ i, i < 2 ^ n → ∀ j, j < 2 ^ n → i &&& (2 ^ n + j) = (i &&& j) ∧ (2 ^ n + i) &&& j = (i &&& j) ∧ (2 ^ n + i) &&& (2 ^ n + j) = 2 ^ n + (i &&& j) := by decide
theorem axS_split : ∀ n, n ≤ 4 → ∀ (w : List Int) i j, i < 2 ^ n → j < 2 ^ n → axS n w i j = sgF n i j * wpF w n (i &&& j)
  | 0, _, w, i, j, _, _ => rfl
  | n + 1, hn, w, i, j, hi, hj => by
    have hpow : 2 ^ (n + 1) = 2 ^ n + 2 ^ n := by rw [Nat.pow_succ]; omega
    rw [hpow] at hi hj
    have ih := axS_split n (by omega) (w.take n)
    have hA := and_hi n (by omega)
    have hL := and_lt' n (by omega)
    have hw := wpF_take (w := w) (N := n) n (Nat.le_refl _)
    unfold axS sgF wpF
    generalize hd : 2 ^ n = d at hi hj ih hA hL ⊢
    rcases Nat.lt_or_ge i d with h1 | h1 <;> rcases Nat.lt_or_ge j d with h2 | h2
    · have h3 := hL i h1 j h2
      rw [if_pos h1, if_pos h2, if_pos h1, if_pos h2, if_pos h3, Int.one_mul, Nat.mod_eq_of_lt h3, ih i j h1 h2, hw]
    · obtain ⟨j', rfl⟩ := Nat.exists_eq_add_of_le h2
      have h3 := hL i h1 j' (by omega)
      rw [if_pos h1, if_neg (by omega), if_pos h1, if_neg (by omega), Nat.add_sub_cancel_left, (hA i h1 j' (by omega)).1, if_pos h3, Int.one_mul, Nat.mod_eq_of_lt h3, ih j' i (by omega) h1, hw, Nat.and_comm]
    · obtain ⟨i', rfl⟩ := Nat.exists_eq_add_of_le h1
      have h3 := hL i' (by omega) j h2
      rw [if_neg (by omega), if_pos h2, if_neg (by omega), if_pos h2, Nat.add_sub_cancel_left, (hA i' (by omega) j h2).2.1, if_pos h3, Int.one_mul, Nat.mod_eq_of_lt h3, ih i' j (by omega) h2, hw, Int.mul_assoc]
    · obtain ⟨i', rfl⟩ := Nat.exists_eq_add_of_le h1
      obtain ⟨j', rfl⟩ := Nat.exists_eq_add_of_le h2
      have h3 := hL i' (by omega) j' (by omega)
      have h4 : (d + (i' &&& j')) % d = i' &&& j' := by rw [Nat.add_mod_left, Nat.mod_eq_of_lt h3]
      rw [if_neg (by omega), if_neg (by omega), if_neg (by omega), if_neg (by omega), Nat.add_sub_cancel_left, Nat.add_sub_cancel_left, (hA i' (by omega) j' (by omega)).2.2, if_neg (by omega), h4, ih j' i' (by omega) (by omega), hw, Nat.and_comm j' i']
      grind
end Go.Vam

/- Plain law: FnMultiplicationMatrices. -/
namespace Go.Vam
open Go Go.RowKit
set_option linter.unusedSimpArgs false
set_option linter.unusedVariables false
set_option linter.unusedSectionVars false

section
variable {p : Int} {w x : List Int} (hP : isP p = true) (hl : w.length ≤ 4) (hw : Vec p w.length w) (hx : Vec p (2 ^ w.length) x)
include hP hl hw hx
end
end Go.Vam

/- Plain law: FnMultiplicationMatrices, the end. -/
namespace Go.Vam
open Go Go.RowKit
set_option linter.unusedSimpArgs false
set_option linter.unusedVariables false
set_option linter.unusedSectionVars false

section
variable {p : Int} {w x : List Int} (hw : w.length ≤ 1048576) (hx : x.length ≤ 1048576)
include hw hx
end
section
variable {p : Int} {w x : List Int} (hD : isDb p w = true) (hx : Vec p (2 ^ w.length) x)
include hD hx
end
section
variable {p : Int} {w a b : List Int} (hP : isP p = true) (hl : w.length ≤ 3) (hw : Vec p w.length w) (ha : Vec p (2 ^ w.length) a) (hb : Vec p (2 ^ w.length) b) (ha0 : gI a 0 = 0) (hb0 : gI b 0 = 0)
include hP hl hw ha hb ha0 hb0
end
end Go.Vam

/- Plain law: FnInverses. -/
namespace Go.Vam
open Go Go.RowKit
set_option linter.unusedSimpArgs false
set_option linter.unusedVariables false
set_option linter.unusedSectionVars false

end Go.Vam

/- Plain laws: triples. -/
namespace Go.Vam
open Go Go.RowKit
set_option linter.unusedSimpArgs false
set_option linter.unusedVariables false
set_option linter.unusedSectionVars false

/-! ### The laws' helpers -/
section
variable {a b c : List (List Int)}
end

/-! ### UnitTriple -/
section
variable {p : Int} {w a b : List Int} (hP : isP p = true) (hl : w.length ≤ 4) (hw : Vec p w.length w) (ha : Vec p (2 ^ w.length) a) (hb : Vec p (2 ^ w.length) b)
include hP hl hw ha hb
end
abbrev gT3 (l : List (List (List Int) × List (List Int) × List (List Int))) (k : Nat) : List (List Int) × List (List Int) × List (List Int) := l.getD k ([], [], [])
def szTs (l : List (List (List Int) × List (List Int) × List (List Int))) : Prop := l.length ≤ 1024 ∧ ∀ x ∈ l, szM x.1 ∧ szM x.2.1 ∧ szM x.2.2
theorem szTs.at {l : List (List (List Int) × List (List Int) × List (List Int))} (h : szTs l) {k : Nat} (hk : k < l.length) : szM (gT3 l k).1 ∧ szM (gT3 l k).2.1 ∧ szM (gT3 l k).2.2 := by
  have := h.2 _ (List.getElem_mem hk)
  rwa [getD_get hk ([], [], [])] at this
section
variable {p : Int} {w : List Int} {l : List (List (List Int) × List (List Int) × List (List Int))} (hw : w.length ≤ 1048576) (hz : szTs l)
include hw hz
end
end Go.Vam

/- Plain laws: triples, turned and multiplied. -/
namespace Go.Vam
open Go Go.RowKit
set_option linter.unusedSimpArgs false
set_option linter.unusedVariables false
set_option linter.unusedSectionVars false

end Go.Vam

/- Plain laws: loops: whether a table is one; its nucleus and its centre. -/
namespace Go.Vam
open Go Go.RowKit
set_option linter.unusedSimpArgs false
set_option linter.unusedVariables false
set_option linter.unusedSectionVars false

section
variable {a : List (List Int)} (hn : a.length ≤ 128) (hl : ∀ i, i < a.length → (gR a i).length = a.length)
include hn hl
end
section
variable {a : List (List Int)} (hn : a.length ≤ 128) (hm : Mat (a.length : Int) a.length a.length a)
include hn hm
end

section
variable {a : List (List Int)} (hn : a.length ≤ 128) (hm : Mat (a.length : Int) a.length a.length a)
include hn hm
end

end Go.Vam

/- Plain laws: AutomorphismFrom. -/
namespace Go.Vam
open Go Go.RowKit
set_option linter.unusedSimpArgs false
set_option linter.unusedVariables false
set_option linter.unusedSectionVars false

section
variable {p : Int} {w : List Int} (hP : isP p = true) (hl : w.length ≤ 4) (hw : Vec p w.length w)
include hP hl hw
theorem axm_val {i j : Nat} (hi : i < 2 ^ w.length) (hj : j < 2 ^ w.length) : gI (axm p w i j) (i ^^^ j) = axS w.length w i j % p := by
  have hm := xor_lt hi hj
  have hv := (axm_vec hP hl hw hi hj).get hm
  have h1 : gI (axm p w i j) (i ^^^ j) % p = _ := mulr_gen (p := p) w.length hl w (axis (2 ^ w.length) i) (axis (2 ^ w.length) j) (i ^^^ j) hm
  rw [Int.emod_eq_of_lt hv.1 hv.2] at h1
  rw [h1, sumN_one hi (fun q hq hqi => by rw [gI_axis hi, if_neg hqi]; simp)]
  have hx : i ^^^ (i ^^^ j) = j := by rw [← Nat.xor_assoc, Nat.xor_self, Nat.zero_xor]
  rw [hx, gI_axis hi, if_pos rfl, gI_axis hj, if_pos rfl]
  simp
end
section
variable {p : Int} {w : List Int} {a : List (List Int)} (hP : isP p = true) (hl : w.length ≤ 3) (hw : Vec p w.length w) (hal : a.length = w.length) (ha : ∀ k, k < a.length → Vec p (2 ^ w.length) (gR a k))
include hP hl hw hal ha
end

end Go.Vam

/- Plain laws: the decomposition of an orthogonal matrix. -/
namespace Go.Vam
open Go Go.RowKit
set_option linter.unusedSimpArgs false
set_option linter.unusedVariables false

theorem RowsV.small {p : Int} {n : Nat} {L : List (List Int)} (h : RowsV p n L) (hn : n ≤ 100) (hl : L.length ≤ 2 * n) : smallM L := by
  have hm : Mat p L.length n L := ⟨rfl, fun i hi => h _ (by rw [← gR_get hi]; exact List.getElem_mem _)⟩
  exact smallM.of hm (by omega) (by omega)

end Go.Vam

/- Plain laws: counts of norms, the search of units. -/
namespace Go.Vam
open Go Go.RowKit
set_option linter.unusedSimpArgs false
set_option linter.unusedVariables false
set_option linter.unusedSectionVars false

section
variable {p : Int} (hP : isP p = true)
include hP
variable {w : List Int} (hl : w.length ≤ 3) (hw : Vec p w.length w)
include hl hw
end
end Go.Vam

/- Plain laws: UnitsOf. -/
namespace Go.Vam
open Go Go.RowKit
set_option linter.unusedSimpArgs false
set_option linter.unusedVariables false
set_option linter.unusedSectionVars false

section
variable {p : Int} (hP : isP p = true) {dl : List Int} (hdv : Vec p dl.length dl) (hL8 : dl.length ≤ 8)
include hP hdv hL8
end

section
variable {p : Int} {w : List Int} (hP : isP p = true) (hl : w.length ≤ 3) (hw : Vec p w.length w)
include hP hl hw
end
end Go.Vam

/- Plain law: FnExactUnitsOf. -/
namespace Go.Vam
open Go Go.RowKit
set_option linter.unusedSimpArgs false
set_option linter.unusedVariables false

end Go.Vam

/- Plain laws: the norm of a product; LoopOfUnits. -/
namespace Go.Vam
open Go Go.RowKit
set_option linter.unusedSimpArgs false
set_option linter.unusedVariables false
set_option linter.unusedSectionVars false

def dD (n : Nat) (w : List Int) (m : Nat) : Int := sgs m * axS n w m m
theorem dD_split {n : Nat} (hn : n ≤ 4) (w : List Int) {m : Nat} (hm : m < 2 ^ n) : dD n w m = sgs m * sgF n m m * wpF w n m := by
  unfold dD
  rw [axS_split n hn w m m hm hm, Nat.and_self, Int.mul_assoc]
end Go.Vam

/- Plain law: LoopOfUnits. -/
namespace Go.Vam
open Go Go.RowKit
set_option linter.unusedSimpArgs false
set_option linter.unusedVariables false
set_option linter.unusedSectionVars false

section
variable {p : Int} {w : List Int} (hP : isP p = true) (hl : w.length ≤ 3) (hw : Vec p w.length w)
include hP hl hw
end
section
variable {p : Int} {w : List Int} {U : List (List Int)} {C : Int} (hP : isP p = true) (hl : w.length ≤ 3) (hw : Vec p w.length w) (hU : U.length ≤ 1000) (hv : ∀ i, i < U.length → Vec p (2 ^ w.length) (gR U i))
  (hc : ∀ i j, i < U.length → j < U.length → mulp p w (gR U i) (gR U j) ∈ U)
include hP hl hw hU hv hc
end
end Go.Vam

/- Plain algebra: the identities of Moufang, products with conjugates. -/
namespace Go.Vam
open Go Go.RowKit
set_option linter.unusedSimpArgs false
set_option linter.unusedVariables false
set_option linter.unusedSectionVars false

/-! ### Digits -/
theorem testBit_high {n m : Nat} (h1 : 2 ^ n ≤ m) (h2 : m < 2 ^ (n + 1)) : m.testBit n = true := by
  rw [Nat.testBit_eq_decide_div_mod_eq]
  have hp := Nat.two_pow_pos n
  have : m / 2 ^ n = 1 := by
    rw [Nat.pow_succ] at h2
    exact Nat.div_eq_of_lt_le (by omega) (by omega)
  rw [this]; rfl
/-- A product of powers of the steps' numbers. -/
def monN (w : List Int) : Nat → (Nat → Nat) → Int
  | 0, _ => 1
  | n + 1, f => gI w n ^ f n * monN w n f
theorem monN_congr {w : List Int} : ∀ {n : Nat} {f g : Nat → Nat}, (∀ t, t < n → f t = g t) → monN w n f = monN w n g
  | 0, _, _, _ => rfl
  | n + 1, f, g, h => by unfold monN; rw [h n (by omega), monN_congr fun t ht => h t (by omega)]
theorem monN_mul (w : List Int) : ∀ (n : Nat) (f g : Nat → Nat), monN w n f * monN w n g = monN w n fun t => f t + g t
  | 0, _, _ => rfl
  | n + 1, f, g => by unfold monN; rw [← monN_mul w n f g, Int.pow_add]; grind
theorem wpF_mon (w : List Int) : ∀ (n m : Nat), m < 2 ^ n → wpF w n m = monN w n fun t => (m.testBit t).toNat
  | 0, _, _ => rfl
  | n + 1, m, hm => by
    unfold wpF monN
    have hp := Nat.two_pow_pos n
    rw [wpF_mon w n (m % 2 ^ n) (Nat.mod_lt _ hp)]
    congr 1
    · by_cases h : m < 2 ^ n
      · simp only [if_pos h, Nat.testBit_lt_two_pow h]; show (1 : Int) = gI w n ^ 0; rw [Int.pow_zero]
      · simp only [if_neg h, testBit_high (show 2 ^ n ≤ m by omega) hm]; show gI w n = gI w n ^ 1; rw [Int.pow_succ, Int.pow_zero, Int.one_mul]
    · exact monN_congr fun t ht => by rw [Nat.testBit_mod_two_pow]; simp [ht]
theorem and_lt {n i j : Nat} (hi : i < 2 ^ n) : i &&& j < 2 ^ n := Nat.lt_of_le_of_lt Nat.and_le_left hi
theorem xc1 (a b : Nat) : a ^^^ (a ^^^ b) = b := by rw [← Nat.xor_assoc, Nat.xor_self, Nat.zero_xor]
theorem xc2 (a b : Nat) : a ^^^ (b ^^^ a) = b := by rw [Nat.xor_comm b a, xc1]
theorem xc3 (a b : Nat) : (a ^^^ b) ^^^ a = b := by rw [Nat.xor_comm, xc1]
theorem xc4 (a b : Nat) : (b ^^^ a) ^^^ a = b := by rw [Nat.xor_assoc, Nat.xor_self, Nat.xor_zero]

section
variable {n : Nat} (hn : n ≤ 3) (w : List Int)
include hn
end
end Go.Vam

/- Plain algebra: what is divided by an element of norm 1. -/
namespace Go.Vam
open Go Go.RowKit
set_option linter.unusedSimpArgs false
set_option linter.unusedVariables false
set_option linter.unusedSectionVars false

def e2 (u v t : Nat) : Nat := (u.testBit t).toNat + (v.testBit t).toNat
theorem monN_two {w : List Int} {n u v : Nat} (hn : n ≤ 4) (hu : u < 2 ^ n) (hv : v < 2 ^ n) : wpF w n u * wpF w n v = monN w n (e2 u v) := by
  rw [wpF_mon w n u hu, wpF_mon w n v hv, monN_mul]; rfl
section
variable {n : Nat} (hn : n ≤ 3) (w : List Int)
include hn
end

/-! ### The same for elements -/
section
variable {p : Int} {w : List Int} (hP : isP p = true) (hl : w.length ≤ 3) (hw : Vec p w.length w)
include hP hl hw
end
end Go.Vam

/- Plain algebra: a space of solutions by coordinates: how many it takes. -/
namespace Go.Vam
open Go Go.RowKit
set_option linter.unusedSimpArgs false
set_option linter.unusedVariables false
set_option linter.unusedSectionVars false

theorem Kr_comb {p : Int} {n : Nat} {B : List (List Int)} {k : Nat} (c : Nat → Int) {X : Nat → Nat → Int} (h : ∀ i, i < k → Kr p n B (X i)) : Kr p n B (fun q => sumN (fun i => c i * X i q) k) := by
  intro j hj
  rw [rd_comb]
  exact sumN_dvd fun i hi => Int.dvd_mul_of_dvd_right (h i hi j hj)
section
variable {p : Int} {n : Nat} {B : List (List Int)} {ld : Nat → Nat}
theorem freeL_mem {t : Nat} (ht : t < (freeL n B ld n).length) : (freeL n B ld n).getD t 0 < n ∧ isLd B.length ld ((freeL n B ld n).getD t 0) = false := by
  rw [List.getD_eq_getElem?_getD, List.getElem?_eq_getElem ht]
  have hm := List.getElem_mem ht
  have hf : ∀ f, f ∈ freeL n B ld n → f < n ∧ isLd B.length ld f = false := fun f hf => by
    unfold freeL at hf
    rw [List.mem_filter, List.mem_range] at hf
    simpa using hf
  exact hf _ hm
theorem freeL_has {q : Nat} (hq : q < n) (h : isLd B.length ld q = false) : ∃ t, t < (freeL n B ld n).length ∧ (freeL n B ld n).getD t 0 = q := by
  have : q ∈ freeL n B ld n := by
    unfold freeL
    rw [List.mem_filter, List.mem_range]
    simp [hq, h]
  obtain ⟨t, ht, e⟩ := List.getElem_of_mem this
  exact ⟨t, ht, by rw [List.getD_eq_getElem?_getD, List.getElem?_eq_getElem ht, e]; rfl⟩
theorem freeL_inj {s t : Nat} (hs : s < (freeL n B ld n).length) (ht : t < (freeL n B ld n).length) (e : (freeL n B ld n).getD s 0 = (freeL n B ld n).getD t 0) : s = t := by
  have hnd : (freeL n B ld n).Nodup := List.Pairwise.filter _ List.nodup_range
  rw [List.getD_eq_getElem?_getD, List.getElem?_eq_getElem hs, List.getD_eq_getElem?_getD, List.getElem?_eq_getElem ht] at e
  exact nodup_get_inj hnd hs ht (by simpa using e)
theorem Ech.free_zero (h : Ech p n B ld) {u : Nat → Int} (hu : Kr p n B u) (hz : ∀ t, t < (freeL n B ld n).length → p ∣ u ((freeL n B ld n).getD t 0)) : ∀ q, q < n → p ∣ u q := by
  have hfree : ∀ q, q < n → isLd B.length ld q = false → p ∣ u q := fun q hq e => by
    obtain ⟨t, ht, rfl⟩ := freeL_has (B := B) (ld := ld) hq e
    exact hz t ht
  intro q hq
  cases e : isLd B.length ld q with
  | false => exact hfree q hq e
  | true =>
    obtain ⟨j, hj, rfl⟩ := isLd_iff.1 e
    have h1 := hu j hj
    rw [h.row_lead hj] at h1
    refine (Int.dvd_add_right ?_).1 h1
    refine sumN_dvd fun q hq => ?_
    cases e : isLd B.length ld q with
    | true => exact Int.dvd_zero p
    | false => exact Int.dvd_mul_of_dvd_right (hfree q hq e)
/-- As many coordinates as solutions that are told by them. -/
theorem dim_coords (hP : isP p = true) (hn : n ≤ 1048000) (hB : Ech p n B ld) {D : Nat} (hD : D ≤ 1048000) (X : Nat → Nat → Int) (cd : Nat → Nat) (hX : ∀ i, i < D → Kr p n B (X i)) (hc : ∀ j, j < D → cd j < n)
    (hdel : ∀ i j, i < D → j < D → i ≠ j → p ∣ X i (cd j)) (hone : ∀ i, i < D → ¬ p ∣ X i (cd i)) (huni : ∀ u, Kr p n B u → (∀ j, j < D → p ∣ u (cd j)) → ∀ q, q < n → p ∣ u q) : D + B.length = n := by
  have hp := isP_le hP
  have hlen := freeL_len hB
  have pick : ∀ (c : Nat → Int) i, i < D → p ∣ sumN (fun i => c i * X i (cd i)) 0 → True := fun _ _ _ _ => trivial
  have a1 : D ≤ (freeL n B ld n).length := by
    rcases Nat.lt_or_ge (freeL n B ld n).length D with hlt | hge
    · exfalso
      obtain ⟨c, ⟨i, hi, hci⟩, hz⟩ := more_unknowns hP hD hlt (fun i t => X i ((freeL n B ld n).getD t 0))
      have hall := hB.free_zero (Kr_comb c hX) hz
      have h1 := hall (cd i) (hc i hi)
      have h2 : p ∣ sumN (fun k => c k * X k (cd i)) D - c i * X i (cd i) := by
        have : sumN (fun k => c k * X k (cd i)) D - c i * X i (cd i) = sumN (fun k => if k = i then 0 else c k * X k (cd i)) D := by
          have := sumN_upd (fun k => if k = i then 0 else c k * X k (cd i)) i (c i * X i (cd i)) D hi (by simp)
          have e : sumN (fun k => c k * X k (cd i)) D = sumN (fun q => if q = i then c i * X i (cd i) else if q = i then 0 else c q * X q (cd i)) D := sumN_congr fun k _ => by
            by_cases h : k = i
            · subst h; simp
            · simp [h]
          rw [e, this]; omega
        rw [this]
        refine sumN_dvd fun k hk => ?_
        by_cases h : k = i
        · rw [if_pos h]; exact Int.dvd_zero p
        · rw [if_neg h]; exact Int.dvd_mul_of_dvd_right (hdel k i hk hi h)
      have h3 : p ∣ c i * X i (cd i) := by
        have := Int.dvd_sub h1 h2
        rwa [Int.sub_sub_self] at this
      rcases (prime_dvd hP).1 h3 with h | h
      · exact hci h
      · exact hone i hi h
    · exact hge
  have a2 : (freeL n B ld n).length ≤ D := by
    rcases Nat.lt_or_ge D (freeL n B ld n).length with hlt | hge
    · exfalso
      obtain ⟨c, ⟨i, hi, hci⟩, hz⟩ := more_unknowns hP (by omega) hlt (fun t j => freeF B ld ((freeL n B ld n).getD t 0) (cd j))
      have hk : ∀ t, t < (freeL n B ld n).length → Kr p n B (freeF B ld ((freeL n B ld n).getD t 0)) := fun t ht => by
        obtain ⟨m1, m2⟩ := freeL_mem (B := B) (ld := ld) ht
        exact freeF_ker hB m2 m1
      have hall := huni _ (Kr_comb c hk) hz
      obtain ⟨m1, m2⟩ := freeL_mem (B := B) (ld := ld) hi
      have h1 := hall _ m1
      have e : freeF B ld ((freeL n B ld n).getD i 0) ((freeL n B ld n).getD i 0) = 1 := by unfold freeF; rw [if_pos rfl]
      have e2 : sumN (fun t => c t * freeF B ld ((freeL n B ld n).getD t 0) ((freeL n B ld n).getD i 0)) (freeL n B ld n).length = c i := by
        rw [sumN_one hi (fun t ht hne => by rw [freeF_other m2 (fun e => hne (freeL_inj hi ht e).symm), Int.mul_zero]), e, Int.mul_one]
      simp only [e2] at h1
      exact hci h1
    · exact hge
  omega
end

/-! ### Tables of equations, put together row by row -/
theorem KerP_one {p : Int} {n : Nat} {E : List (List Int)} {r : List Int} (u : Nat → Int) : KerP p (E ++ [r]).length n (E ++ [r]) u ↔ KerP p E.length n E u ∧ p ∣ rd n r u := by
  rw [List.length_append, KerP_append rfl]
  refine and_congr_right fun _ => ?_
  unfold KerP
  constructor
  · intro h
    have := h 0 (by simp)
    exact this
  · intro h i hi
    have : i = 0 := by simp at hi; omega
    subst this; exact h
theorem Mat.one {p : Int} {n : Nat} {E : List (List Int)} {r : List Int} (h : Mat p E.length n E) (hr : Vec p n r) : Mat p (E ++ [r]).length n (E ++ [r]) := by
  rw [List.length_append]
  refine h.append ⟨rfl, fun i hi => ?_⟩
  have : i = 0 := by simp at hi; omega
  subst this; exact hr
theorem row_loop {p : Int} {n : Nat} (step : List (List Int) × Int → Option ((List (List Int) × Int) ⊕ List (List Int))) (m b : Nat) (cnd : Nat → (Nat → Int) → Prop) {E0 : List (List Int)} (hm : m < BIG) (h0 : Mat p E0.length n E0)
    (hs : ∀ (j : Nat) (E : List (List Int)), j < m → Mat p E.length n E → E.length ≤ E0.length + j * b → ∃ E', step (E, (j : Int)) = some (.inl (E', ((j + 1 : Nat) : Int))) ∧ Mat p E'.length n E' ∧ E'.length ≤ E.length + b ∧ ∀ u, KerP p E'.length n E' u ↔ KerP p E.length n E u ∧ cnd j u)
    (he : ∀ E, step (E, (m : Int)) = some (.inr E)) :
    ∃ E', loop step BIG (E0, 0) = some E' ∧ Mat p E'.length n E' ∧ E'.length ≤ E0.length + m * b ∧ ∀ u, KerP p E'.length n E' u ↔ KerP p E0.length n E0 u ∧ ∀ j, j < m → cnd j u := by
  refine loop_inv (step := step) (fun s => ∃ (j : Nat) (E : List (List Int)), s = (E, (j : Int)) ∧ j ≤ m ∧ Mat p E.length n E ∧ E.length ≤ E0.length + j * b ∧ ∀ u, KerP p E.length n E u ↔ KerP p E0.length n E0 u ∧ ∀ i, i < j → cnd i u) (fun s => m - s.2.toNat) _
    ⟨0, E0, rfl, by omega, h0, by omega, fun u => ⟨fun h => ⟨h, fun i hi => by omega⟩, fun h => h.1⟩⟩ (by show m - 0 < BIG; omega) ?_
  rintro s ⟨j, E, rfl, hj, hE, hl, hu⟩
  by_cases hjm : j < m
  · obtain ⟨E', e1, e2, e3, e4⟩ := hs j E hjm hE hl
    refine .inl ⟨_, e1, ⟨j + 1, E', rfl, by omega, e2, by rw [Nat.add_mul]; omega, fun u => ?_⟩, by simp only [Int.toNat_natCast]; omega⟩
    rw [e4, hu]
    constructor
    · rintro ⟨⟨a, b⟩, c⟩
      refine ⟨a, fun i hi => ?_⟩
      rcases Nat.lt_succ_iff_lt_or_eq.1 hi with h | rfl
      · exact b i h
      · exact c
    · rintro ⟨a, b⟩
      exact ⟨⟨a, fun i hi => b i (by omega)⟩, b j (by omega)⟩
  · have : j = m := by omega
    subst this
    exact .inr ⟨_, he E, hE, hl, hu⟩
theorem rd_set {n : Nat} {v : List Int} {q : Nat} {x : Int} (u : Nat → Int) (hq : q < n) (hl : v.length = n) (h0 : gI v q = 0) : rd n (v.set q x) u = rd n v u + x * u q := by
  unfold rd
  have := sumN_upd (fun k => gI v k * u k) q (x * u q) n hq (by simp [h0])
  rw [← this]
  refine sumN_congr fun k hk => ?_
  unfold gI
  rw [List.getD_eq_getElem?_getD, List.getElem?_set]
  by_cases h : q = k
  · subst h; simp [hl, hq]
  · rw [if_neg h, if_neg (fun e => h e.symm), List.getD_eq_getElem?_getD]
theorem gI_set_ne {v : List Int} {q r : Nat} {x : Int} (h : q ≠ r) : gI (v.set q x) r = gI v r := by
  unfold gI
  rw [List.getD_eq_getElem?_getD, List.getElem?_set, if_neg h, List.getD_eq_getElem?_getD]
theorem gI_zeros (n q : Nat) : gI (List.replicate n 0) q = 0 := by
  unfold gI
  rw [List.getD_eq_getElem?_getD, List.getElem?_replicate]
  split <;> rfl
theorem rd_zeros (n m : Nat) (u : Nat → Int) : rd m (List.replicate n 0) u = 0 := by
  unfold rd
  rw [sumN_congr (g := fun _ => 0) fun k _ => by rw [gI_zeros, Int.zero_mul]]
  exact sumN_zero _
theorem zeros_vec {p : Int} (hp : 0 < p) (n : Nat) : Vec p n (List.replicate n 0) := ⟨by simp, fun q hq => by rw [gI_zeros]; omega⟩
end Go.Vam

/- Plain laws: the equations of local triples. -/
namespace Go.Vam
open Go Go.RowKit
set_option linter.unusedSimpArgs false
set_option linter.unusedVariables false
set_option linter.unusedSectionVars false

/-- The place of a number of the matrix a. -/
def pl (N a i k : Nat) : Nat := (a * N + i) * N + k
theorem pl_lt {N a i k : Nat} (ha : a < 3) (hi : i < N) (hk : k < N) : pl N a i k < 3 * N * N := by
  unfold pl
  have h1 : a * N ≤ 2 * N := Nat.mul_le_mul_right N (by omega)
  have h2 : (a * N + i + 1) * N ≤ 3 * N * N := Nat.mul_le_mul_right N (by omega)
  rw [Nat.add_mul] at h2
  omega
theorem pl_inj {N a i k a' i' k' : Nat} (hi : i < N) (hk : k < N) (hi' : i' < N) (hk' : k' < N) (h : pl N a i k = pl N a' i' k') : a = a' ∧ i = i' ∧ k = k' := by
  unfold pl at h
  have key : ∀ {x y u v : Nat}, u < N → v < N → x * N + u = y * N + v → x = y ∧ u = v := by
    intro x y u v hu hv e
    have h1 : (x * N + u) / N = x := by rw [Nat.mul_comm, Nat.mul_add_div (by omega), Nat.div_eq_of_lt hu]; omega
    have h2 : (y * N + v) / N = y := by rw [Nat.mul_comm, Nat.mul_add_div (by omega), Nat.div_eq_of_lt hv]; omega
    have : x = y := by rw [← h1, ← h2, e]
    subst this
    exact ⟨rfl, by omega⟩
  obtain ⟨h1, h2⟩ := key hk hk' h
  obtain ⟨h3, h4⟩ := key hi hi' h1
  exact ⟨h3, h4, h2⟩
theorem w_mulN {a N : Nat} (h : a * N ≤ 1000000) : w64 ((a : Int) * (N : Int)) = ((a * N : Nat) : Int) := by rw [← Int.natCast_mul, w_in (by omega) (by omega)]
theorem w_addN {a b : Nat} (h : a + b ≤ 1000000) : w64 ((a : Int) + (b : Int)) = ((a + b : Nat) : Int) := by rw [w_in (by omega) (by omega)]; omega
theorem pl_bound {N a i k : Nat} (hN : N ≤ 8) (ha : a < 3) (hi : i < N) (hk : k < N) : a * N ≤ 16 ∧ (a * N + i) * N ≤ 192 ∧ pl N a i k < 192 := by
  have h1 : a * N ≤ 2 * 8 := Nat.mul_le_mul (by omega) hN
  have h2 : (a * N + i) * N ≤ 24 * 8 := Nat.mul_le_mul (by omega) hN
  have h3 := pl_lt ha hi hk
  have h4 : 3 * N * N ≤ 24 * 8 := Nat.mul_le_mul (by omega) hN
  omega
theorem w_pl {N a i k : Nat} (hN : N ≤ 8) (ha : a < 3) (hi : i < N) (hk : k < N) : w64 (w64 (w64 (w64 ((a : Int) * (N : Int)) + (i : Int)) * (N : Int)) + (k : Int)) = ((pl N a i k : Nat) : Int) := by
  obtain ⟨b1, b2, b3⟩ := pl_bound hN ha hi hk
  unfold pl at b3 ⊢
  rw [w_mulN (by omega), w_addN (by omega), w_mulN (by omega), w_addN (by omega)]
theorem w_pl0 {N i k : Nat} (hN : N ≤ 8) (hi : i < N) (hk : k < N) : w64 (w64 ((i : Int) * (N : Int)) + (k : Int)) = ((pl N 0 i k : Nat) : Int) := by
  obtain ⟨b1, b2, b3⟩ := pl_bound (a := 0) hN (by omega) hi hk
  unfold pl at b3 ⊢
  simp only [Nat.zero_mul, Nat.zero_add] at b2 b3 ⊢
  rw [w_mulN (by omega), w_addN (by omega)]
theorem w_pl1 {N i k : Nat} (hN : N ≤ 8) (hi : i < N) (hk : k < N) : w64 (w64 (w64 ((N : Int) + (i : Int)) * (N : Int)) + (k : Int)) = ((pl N 1 i k : Nat) : Int) := by
  obtain ⟨b1, b2, b3⟩ := pl_bound (a := 1) hN (by omega) hi hk
  unfold pl at b3 ⊢
  simp only [Nat.one_mul] at b2 b3 ⊢
  rw [w_addN (by omega), w_mulN (by omega), w_addN (by omega)]
theorem w_pl2 {N i k : Nat} (hN : N ≤ 8) (hi : i < N) (hk : k < N) : w64 (w64 (w64 (w64 (2 * (N : Int)) + (i : Int)) * (N : Int)) + (k : Int)) = ((pl N 2 i k : Nat) : Int) := w_pl (a := 2) hN (by omega) hi hk
theorem w_3NN {N : Nat} (hN : N ≤ 8) : w64 (w64 (3 * (N : Int)) * (N : Int)) = ((3 * N * N : Nat) : Int) := by
  have h4 : 3 * N * N ≤ 24 * 8 := Nat.mul_le_mul (by omega) hN
  have e : w64 (3 * (N : Int)) = ((3 * N : Nat) : Int) := w_mulN (a := 3) (by omega)
  rw [e, w_mulN (by omega)]

section
variable {p : Int} {w : List Int} {N : Nat} {T : List (List Int)} {D : List Int} (hp : 3 ≤ p) (hp2 : p ≤ 13) (hN : N ≤ 8) (hpw : ∃ n, n ≤ 3 ∧ N = 2 ^ n) (hT : Mat p N N T) (hD : Vec p N D)
def skc (p : Int) (N : Nat) (D : List Int) (a i k : Nat) (u : Nat → Int) : Prop := if i = k then p ∣ gI D i * u (pl N a i i) else p ∣ gI D i * u (pl N a i k) + gI D k * u (pl N a k i)
def fm (p : Int) (T : List (List Int)) (x y : Nat) : Int := (2 * gI (gR T x) y * gI (gR T (x ^^^ y)) (x ^^^ y)) % p
def trc (p : Int) (N : Nat) (T : List (List Int)) (i j k : Nat) (u : Nat → Int) : Prop :=
  p ∣ fm p T (j ^^^ k) j * u (pl N 0 (j ^^^ k) i) + fm p T i (i ^^^ k) * u (pl N 1 (i ^^^ k) j) + fm p T i j * u (pl N 2 (i ^^^ j) k)
include hp hp2 hN hD in
theorem sk_step {a i k : Nat} (ha : a < 3) (hi : i < N) (hk : k ≤ i) {x y E : List (List Int)} (hE : Mat p E.length (3 * N * N) E) (hl : E.length ≤ 100000) :
    ∃ E', s_l15Basis_L2 (N : Int) D (x, (a : Int)) (y, (i : Int)) (E, (k : Int)) = some (.inl (E', ((k + 1 : Nat) : Int))) ∧ Mat p E'.length (3 * N * N) E' ∧ E'.length ≤ E.length + 1 ∧
      ∀ u, KerP p E'.length (3 * N * N) E' u ↔ KerP p E.length (3 * N * N) E u ∧ skc p N D a i k u := by
  have hkN : k < N := by omega
  have h4 : 3 * N * N ≤ 24 * 8 := Nat.mul_le_mul (by omega) hN
  have l1 := pl_lt ha hi hkN
  have l2 := pl_lt ha hkN hi
  have hDl := hD.1
  have di := hD.get hi
  have dk := hD.get hkN
  have zv := zeros_vec (p := p) (by omega) (3 * N * N)
  let r1 := (List.replicate (3 * N * N) (0 : Int)).set (pl N a i k) (gI D i)
  let r2 := r1.set (pl N a k i) (gI D k)
  have v1 : Vec p (3 * N * N) r1 := zv.set l1 di
  have v2 : Vec p (3 * N * N) r2 := v1.set l2 dk
  refine ⟨E ++ [r2], ?_, hE.one v2, by simp, fun u => ?_⟩
  · unfold s_l15Basis_L2
    have e0 : ((3 * N * N : Nat) : Int).toNat = 3 * N * N := Int.toNat_natCast _
    simp only [show (k : Int) ≤ (i : Int) by omega, if_true, w_3NN hN, w_pl hN ha hi hkN, w_pl hN ha hkN hi, e0]
    rw [chk_bind (by omega), some_bind, idxI (by omega), some_bind, idxI (by simpa using l1), some_bind, some_bind, idxI (by omega), some_bind, idxI (by simpa using l2), some_bind]
    simp only [Int.toNat_natCast]
    rw [chk_bind (by simp only [List.length_cons, List.length_nil]; omega), w_in (by omega) (by omega)]
    rfl
  · rw [KerP_one]
    refine and_congr_right fun _ => ?_
    unfold skc
    have e1 : rd (3 * N * N) r1 u = gI D i * u (pl N a i k) := by
      rw [rd_set u l1 zv.1 (gI_zeros _ _), rd_zeros]; omega
    by_cases h : i = k
    · subst h
      have : r2 = r1 := by show ((List.replicate (3 * N * N) (0 : Int)).set _ _).set _ _ = _; rw [List.set_set]
      rw [this, e1, if_pos rfl]
    · rw [if_neg h, rd_set u l2 v1.1 (by
        rw [gI_set_ne (fun e => h (pl_inj hi hkN hkN hi e).2.1), gI_zeros]), e1]
include hp hp2 hN hD in
theorem sk_loop {E0 : List (List Int)} (h0 : Mat p E0.length (3 * N * N) E0) (hl : E0.length ≤ 10000) : ∃ E, loop (s_l15Basis_L0 (N : Int) D) BIG (E0, 0) = some E ∧ Mat p E.length (3 * N * N) E ∧ E.length ≤ E0.length + 3 * 256 ∧
    ∀ u, KerP p E.length (3 * N * N) E u ↔ KerP p E0.length (3 * N * N) E0 u ∧ ∀ a, a < 3 → ∀ i, i < N → ∀ k, k < i + 1 → skc p N D a i k u := by
  refine row_loop _ 3 256 (fun a u => ∀ i, i < N → ∀ k, k < i + 1 → skc p N D a i k u) (by rw [BIG_val]; omega) h0 (fun a Ea ha hEa hla => ?_) fun E => ?_
  · obtain ⟨E', e1, e2, e3, e4⟩ := row_loop (p := p) (n := 3 * N * N) (s_l15Basis_L1 (N : Int) D (Ea, (a : Int))) N 16 (fun i u => ∀ k, k < i + 1 → skc p N D a i k u) (by rw [BIG_val]; omega) hEa (fun i Ei hi hEi hli => by
        obtain ⟨E', f1, f2, f3, f4⟩ := row_loop (p := p) (n := 3 * N * N) (s_l15Basis_L2 (N : Int) D (Ea, (a : Int)) (Ei, (i : Int))) (i + 1) 1 (fun k u => skc p N D a i k u) (by rw [BIG_val]; omega) hEi (fun k Ek hk hEk hlk => sk_step hp hp2 hN hD ha hi (by omega) hEk (by omega)) (fun E => by
            unfold s_l15Basis_L2
            rw [if_neg (by simp only []; omega)])
        refine ⟨E', ?_, f2, by omega, f4⟩
        unfold s_l15Basis_L1
        simp only [lt_cast hi, if_true, f1, some_bind]
        rw [w_in (by omega) (by omega)]; rfl) (fun E => by
        unfold s_l15Basis_L1
        simp only [lt_cast_self, if_false])
    refine ⟨E', ?_, e2, by omega, e4⟩
    unfold s_l15Basis_L0
    simp only [show (a : Int) < 3 by omega, if_true, e1, some_bind]
    rw [w_in (by omega) (by omega)]; rfl
  · unfold s_l15Basis_L0
    simp
include hp hp2 hN hpw hT in
theorem form_eq {x y : Nat} (hx : x < N) (hy : y < N) : s_l15Form p w T (x : Int) (y : Int) ((x ^^^ y : Nat) : Int) = some (fm p T x y) := by
  obtain ⟨n, hn3, rfl⟩ := hpw
  have hxy := xor_lt hx hy
  have hTl := hT.1
  have e1 := (hT.row hx).1
  have e2 := (hT.row hxy).1
  have t1 := (hT.row hx).get hy
  have t2 := (hT.row hxy).get hxy
  unfold s_l15Form
  rw [bxor_k _ (by omega) _ (by omega), if_neg (by simp), idxR (by omega), some_bind, idxI (by omega), some_bind, idxR (by omega), some_bind, idxI (by omega), some_bind]
  have b1 : 0 ≤ 2 * gI (gR T x) y * gI (gR T (x ^^^ y)) (x ^^^ y) ∧ 2 * gI (gR T x) y * gI (gR T (x ^^^ y)) (x ^^^ y) ≤ 26 * 13 := ⟨Int.mul_nonneg (by omega) (by omega), Int.mul_le_mul (by omega) (by omega) (by omega) (by omega)⟩
  rw [w_in (x := 2 * gI (gR T x) y) (by omega) (by omega), w_in (by omega) (by omega), s_l01Mod_eq (by omega) (by omega) (by omega) (by omega), some_bind]
  rfl
include hp hp2 hN hpw hT in
theorem tr_step {i j k : Nat} (hi : i < N) (hj : j < N) (hk : k < N) {x y E : List (List Int)} (hE : Mat p E.length (3 * N * N) E) (hl : E.length ≤ 100000) :
    ∃ E', s_l15Basis_L5 p w T (N : Int) (x, (i : Int)) (y, (j : Int)) (E, (k : Int)) = some (.inl (E', ((k + 1 : Nat) : Int))) ∧ Mat p E'.length (3 * N * N) E' ∧ E'.length ≤ E.length + 1 ∧
      ∀ u, KerP p E'.length (3 * N * N) E' u ↔ KerP p E.length (3 * N * N) E u ∧ trc p N T i j k u := by
  have hfe := @form_eq p w N T hp hp2 hN hpw hT
  obtain ⟨n, hn3, rfl⟩ := hpw
  have h4 : 3 * 2 ^ n * 2 ^ n ≤ 24 * 8 := Nat.mul_le_mul (by omega) hN
  have hjk := xor_lt hj hk
  have hik := xor_lt hi hk
  have hij := xor_lt hi hj
  have l1 := pl_lt (a := 0) (by omega) hjk hi
  have l2 := pl_lt (a := 1) (by omega) hik hj
  have l3 := pl_lt (a := 2) (by omega) hij hk
  have fmn : ∀ x y, 0 ≤ fm p T x y ∧ fm p T x y < p := fun x y => mod_num (by omega)
  have zv := zeros_vec (p := p) (by omega) (3 * 2 ^ n * 2 ^ n)
  have f1 : s_l15Form p w T ((j ^^^ k : Nat) : Int) (j : Int) (k : Int) = some (fm p T (j ^^^ k) j) := by
    have := hfe hjk hj
    rwa [xc3] at this
  have f2 : s_l15Form p w T (i : Int) ((i ^^^ k : Nat) : Int) (k : Int) = some (fm p T i (i ^^^ k)) := by
    have := hfe hi hik
    rwa [xc1] at this
  have f3 := hfe hi hj
  let r1 := (List.replicate (3 * 2 ^ n * 2 ^ n) (0 : Int)).set (pl (2 ^ n) 0 (j ^^^ k) i) (fm p T (j ^^^ k) j)
  let r2 := r1.set (pl (2 ^ n) 1 (i ^^^ k) j) (fm p T i (i ^^^ k))
  let r3 := r2.set (pl (2 ^ n) 2 (i ^^^ j) k) (fm p T i j)
  have v1 : Vec p (3 * 2 ^ n * 2 ^ n) r1 := zv.set l1 (fmn _ _)
  have v2 : Vec p (3 * 2 ^ n * 2 ^ n) r2 := v1.set l2 (fmn _ _)
  have v3 : Vec p (3 * 2 ^ n * 2 ^ n) r3 := v2.set l3 (fmn _ _)
  refine ⟨E ++ [r3], ?_, hE.one v3, by simp, fun u => ?_⟩
  · unfold s_l15Basis_L5
    have e0 : ((3 * 2 ^ n * 2 ^ n : Nat) : Int).toNat = 3 * 2 ^ n * 2 ^ n := Int.toNat_natCast _
    simp only [lt_cast hk, if_true, w_3NN hN, e0, bxor_k j (by omega) k (by omega), bxor_k i (by omega) k (by omega), bxor_k i (by omega) j (by omega), f1, f2, f3, some_bind, w_pl0 hN hjk hi, w_pl1 hN hik hj, w_pl2 hN hij hk]
    rw [chk_bind (by omega), idxI (by simpa using l1), some_bind]
    simp only [Int.toNat_natCast]
    rw [idxI (by simpa using l2), some_bind, idxI (by simpa using l3), some_bind]
    rw [chk_bind (by simp only [List.length_cons, List.length_nil]; omega), w_in (by omega) (by omega)]
    rfl
  · rw [KerP_one]
    refine and_congr_right fun _ => ?_
    unfold trc
    have e1 : rd (3 * 2 ^ n * 2 ^ n) r1 u = fm p T (j ^^^ k) j * u (pl (2 ^ n) 0 (j ^^^ k) i) := by
      rw [rd_set u l1 zv.1 (gI_zeros _ _), rd_zeros]; omega
    have n12 : pl (2 ^ n) 0 (j ^^^ k) i ≠ pl (2 ^ n) 1 (i ^^^ k) j := fun e => by have := (pl_inj hjk hi hik hj e).1; omega
    have n13 : pl (2 ^ n) 0 (j ^^^ k) i ≠ pl (2 ^ n) 2 (i ^^^ j) k := fun e => by have := (pl_inj hjk hi hij hk e).1; omega
    have n23 : pl (2 ^ n) 1 (i ^^^ k) j ≠ pl (2 ^ n) 2 (i ^^^ j) k := fun e => by have := (pl_inj hik hj hij hk e).1; omega
    have e2 : rd (3 * 2 ^ n * 2 ^ n) r2 u = fm p T (j ^^^ k) j * u (pl (2 ^ n) 0 (j ^^^ k) i) + fm p T i (i ^^^ k) * u (pl (2 ^ n) 1 (i ^^^ k) j) := by
      rw [rd_set u l2 v1.1 (by rw [gI_set_ne n12, gI_zeros]), e1]
    rw [rd_set u l3 v2.1 (by rw [gI_set_ne n23, gI_set_ne n13, gI_zeros]), e2]
include hp hp2 hN hpw hT in
theorem tr_loop {E0 : List (List Int)} (h0 : Mat p E0.length (3 * N * N) E0) (hl : E0.length ≤ 10000) : ∃ E, loop (s_l15Basis_L3 p w T (N : Int)) BIG (E0, 0) = some E ∧ Mat p E.length (3 * N * N) E ∧ E.length ≤ E0.length + N * 256 ∧
    ∀ u, KerP p E.length (3 * N * N) E u ↔ KerP p E0.length (3 * N * N) E0 u ∧ ∀ i, i < N → ∀ j, j < N → ∀ k, k < N → trc p N T i j k u := by
  refine row_loop _ N 256 (fun i u => ∀ j, j < N → ∀ k, k < N → trc p N T i j k u) (by rw [BIG_val]; omega) h0 (fun i Ea ha hEa hla => ?_) fun E => ?_
  · obtain ⟨E', e1, e2, e3, e4⟩ := row_loop (p := p) (n := 3 * N * N) (s_l15Basis_L4 p w T (N : Int) (Ea, (i : Int))) N 16 (fun j u => ∀ k, k < N → trc p N T i j k u) (by rw [BIG_val]; omega) hEa (fun j Ei hj hEi hli => by
        obtain ⟨E', f1, f2, f3, f4⟩ := row_loop (p := p) (n := 3 * N * N) (s_l15Basis_L5 p w T (N : Int) (Ea, (i : Int)) (Ei, (j : Int))) N 1 (fun k u => trc p N T i j k u) (by rw [BIG_val]; omega) hEi (fun k Ek hk hEk hlk => tr_step hp hp2 hN hpw hT ha hj hk hEk (by omega)) (fun E => by
            unfold s_l15Basis_L5
            simp only [lt_cast_self, if_false])
        refine ⟨E', ?_, f2, by omega, f4⟩
        unfold s_l15Basis_L4
        simp only [lt_cast hj, if_true, f1, some_bind]
        rw [w_in (by omega) (by omega)]; rfl) (fun E => by
        unfold s_l15Basis_L4
        simp only [lt_cast_self, if_false])
    refine ⟨E', ?_, e2, by omega, e4⟩
    unfold s_l15Basis_L3
    simp only [lt_cast ha, if_true, e1, some_bind]
    rw [w_in (by omega) (by omega)]; rfl
  · unfold s_l15Basis_L3
    simp only [lt_cast_self, if_false]
end
end Go.Vam

/- Plain algebra: the space of local triples: its coordinates, their number. -/
namespace Go.Vam
open Go Go.RowKit
set_option linter.unusedSimpArgs false
set_option linter.unusedVariables false
set_option linter.unusedSectionVars false

/-! ### Signs -/
def epsF (n i : Nat) : Int := sgs i * sgF n i i
def tr1 (n i j k : Nat) : Int := sgF n (j ^^^ k) j * sgF n k k
def tr2 (n i j k : Nat) : Int := sgF n i (i ^^^ k) * sgF n k k
def tr3 (n i j k : Nat) : Int := sgF n i j * sgF n (i ^^^ j) (i ^^^ j)
def baseY (n g r0 a r : Nat) : Int :=
  if a = 0 then (if r = r0 then 2 else if r = r0 ^^^ g then -2 * epsF n (r0 ^^^ g) * epsF n r0 else 0)
  else if a = 1 then -(tr1 n r0 r (r0 ^^^ r ^^^ g) * tr2 n r0 r (r0 ^^^ r ^^^ g)) else -(tr1 n r0 (r0 ^^^ r ^^^ g) r * tr3 n r0 (r0 ^^^ r ^^^ g) r)
def zY2 (n g r : Nat) : Int := -(tr3 n (r ^^^ g) 0 r * tr2 n (r ^^^ g) 0 r)
def zY (n g a r : Nat) : Int := if a = 0 then 0 else if a = 1 then -(tr2 n (r ^^^ g) r 0 * tr3 n (r ^^^ g) r 0 * zY2 n g 0) else zY2 n g r
/-- A solution, by its coordinate. -/
def ySol (n : Nat) (c : Nat × Nat × Nat) (a g r : Nat) : Int :=
  if g = c.1 then (if c.2.1 = 0 then (if n < 3 then baseY n g c.2.2 a r - baseY n g c.2.2 1 0 * zY n g a r else baseY n g c.2.2 a r) else zY n g a r) else 0
/-- The coordinates: the step, the matrix, the place. -/
def crdL (n : Nat) : List (Nat × Nat × Nat) :=
  ((List.range (2 ^ n)).drop 1).flatMap fun g => (((List.range (2 ^ n)).filter fun r => decide (r < r ^^^ g)).map fun r => (g, 0, r)) ++ (if n < 3 then [(g, 1, 0)] else [])
def crdAt (n j : Nat) : Nat × Nat × Nat := (crdL n).getD j (0, 0, 0)
def chkSk (n : Nat) (c : Nat × Nat × Nat) : Bool := (List.range 3).all fun a => (List.range (2 ^ n)).all fun i => (List.range (2 ^ n)).all fun k => decide (epsF n i * ySol n c a (i ^^^ k) k + epsF n k * ySol n c a (i ^^^ k) i = 0)
def chkTr (n : Nat) (c : Nat × Nat × Nat) : Bool := (List.range (2 ^ n)).all fun i => (List.range (2 ^ n)).all fun j => (List.range (2 ^ n)).all fun k =>
  decide (tr1 n i j k * ySol n c 0 (i ^^^ j ^^^ k) i + tr2 n i j k * ySol n c 1 (i ^^^ j ^^^ k) j + tr3 n i j k * ySol n c 2 (i ^^^ j ^^^ k) k = 0)
def chkCd (n : Nat) : Bool := (List.range (crdL n).length).all fun i => (List.range (crdL n).length).all fun j =>
  (let c := crdAt n i; let d := crdAt n j; let v := ySol n c d.2.1 d.1 d.2.2; if i = j then decide (v = 1) || decide (v = 2) else decide (v = 0))
def cycT (n g j k : Nat) : Int := -(tr2 n (j ^^^ k ^^^ g) j k * tr3 n (j ^^^ k ^^^ g) j k)
def chkCy (g : Nat) : Bool := (List.range 8).any fun j => (List.range 8).any fun k => decide (cycT 3 g 0 0 * cycT 3 g j 0 * cycT 3 g j k * cycT 3 g 0 k = -1)
theorem chk_sk : ((List.range 4).all fun n => (crdL n).all (chkSk n)) = true := by decide +kernel
theorem chk_tr : ((List.range 4).all fun n => (crdL n).all (chkTr n)) = true := by decide +kernel
theorem chk_cd : ((List.range 4).all chkCd) = true := by decide +kernel
theorem chk_cy : (((List.range 8).drop 1).all chkCy) = true := by decide +kernel
theorem crd_mem : ((List.range 4).all fun n => (crdL n).all fun c => decide (0 < c.1) && decide (c.1 < 2 ^ n) && decide (c.2.1 < 3) && decide (c.2.2 < 2 ^ n)) = true := by decide +kernel
theorem crd_len : ((List.range 4).all fun n => decide (((crdL n).length : Nat) = [0, 2, 9, 28].getD n 0)) = true := by decide +kernel
end Go.Vam

/- Plain algebra: the space of local triples has 0, 2, 9 or 28 dimensions. -/
namespace Go.Vam
open Go Go.RowKit
set_option linter.unusedSimpArgs false
set_option linter.unusedVariables false
set_option linter.unusedSectionVars false

theorem one_mul_pm {x y : Int} (hx : x = 1 ∨ x = -1) (hy : y = 1 ∨ y = -1) : x * y = 1 ∨ x * y = -1 := by
  rcases hx with rfl | rfl <;> rcases hy with rfl | rfl <;> simp
theorem sgs_one (j : Nat) : sgs j = 1 ∨ sgs j = -1 := by unfold sgs; split <;> simp
theorem sgF_one : ∀ n i j, sgF n i j = 1 ∨ sgF n i j = -1
  | 0, _, _ => .inl rfl
  | n + 1, i, j => by
    unfold sgF
    split <;> split
    · exact sgF_one n _ _
    · exact sgF_one n _ _
    · exact one_mul_pm (sgs_one _) (sgF_one n _ _)
    · exact one_mul_pm (sgs_one _) (sgF_one n _ _)
theorem eps_one (n i : Nat) : epsF n i = 1 ∨ epsF n i = -1 := one_mul_pm (sgs_one _) (sgF_one _ _ _)
theorem tr2_one (n i j k : Nat) : tr2 n i j k = 1 ∨ tr2 n i j k = -1 := one_mul_pm (sgF_one _ _ _) (sgF_one _ _ _)
theorem tr3_one (n i j k : Nat) : tr3 n i j k = 1 ∨ tr3 n i j k = -1 := one_mul_pm (sgF_one _ _ _) (sgF_one _ _ _)
theorem one_sq {x : Int} (hx : x = 1 ∨ x = -1) : x * x = 1 := by rcases hx with rfl | rfl <;> rfl
theorem dvd_one {p c x : Int} (hc : c = 1 ∨ c = -1) : p ∣ c * x ↔ p ∣ x := by
  rcases hc with rfl | rfl
  · rw [Int.one_mul]
  · rw [Int.neg_mul, Int.one_mul, Int.dvd_neg]
theorem wpF_nz {p : Int} {w : List Int} (hP : isP p = true) : ∀ n, (∀ t, t < n → ¬ p ∣ gI w t) → ∀ m, ¬ p ∣ wpF w n m
  | 0, _, _ => by
    have := isP_le hP
    unfold wpF
    intro h
    have := Int.le_of_dvd (by omega) h
    omega
  | n + 1, h, m => by
    have hp := isP_le hP
    unfold wpF
    intro hd
    rcases (prime_dvd hP).1 hd with h1 | h1
    · split at h1
      · have := Int.le_of_dvd (by omega) h1
        omega
      · exact h n (by omega) h1
    · exact wpF_nz hP n (fun t ht => h t (by omega)) _ h1
theorem not_two {p : Int} (hP : isP p = true) : ¬ p ∣ 2 := fun h => by
  have hp := isP_le hP
  have := Int.le_of_dvd (by omega) h
  omega
theorem mod_lin2 {p a a' b b' x y : Int} (ha : a % p = a' % p) (hb : b % p = b' % p) : p ∣ a * x + b * y ↔ p ∣ a' * x + b' * y := by
  rw [Int.dvd_iff_emod_eq_zero, Int.dvd_iff_emod_eq_zero, Int.add_emod, mul_mod_l ha, mul_mod_l hb, ← Int.add_emod]
theorem mod_lin3 {p a a' b b' c c' x y z : Int} (ha : a % p = a' % p) (hb : b % p = b' % p) (hc : c % p = c' % p) : p ∣ a * x + b * y + c * z ↔ p ∣ a' * x + b' * y + c' * z := by
  rw [Int.dvd_iff_emod_eq_zero, Int.dvd_iff_emod_eq_zero, Int.add_emod, Int.add_emod (a * x), mul_mod_l ha, mul_mod_l hb, mul_mod_l hc, ← Int.add_emod (a' * x), ← Int.add_emod]
def e3 (a b c t : Nat) : Nat := (a.testBit t).toNat + ((b.testBit t).toNat + (c.testBit t).toNat)
theorem monN_three {w : List Int} {n a b c : Nat} (ha : a < 2 ^ n) (hb : b < 2 ^ n) (hc : c < 2 ^ n) : wpF w n a * (wpF w n b * wpF w n c) = monN w n (e3 a b c) := by
  rw [wpF_mon w n a ha, wpF_mon w n b hb, wpF_mon w n c hc, monN_mul, monN_mul]; rfl
theorem sk_bits (i k t : Nat) : e2 i (k &&& (i ^^^ k)) t = e2 k (i &&& (i ^^^ k)) t := by
  unfold e2
  simp only [Nat.testBit_and, Nat.testBit_xor]
  cases i.testBit t <;> cases k.testBit t <;> decide
theorem tr_bits (i j k t : Nat) : e3 ((j ^^^ k) &&& j) k (i &&& (i ^^^ j ^^^ k)) t = e3 (i &&& (i ^^^ k)) k (j &&& (i ^^^ j ^^^ k)) t ∧ e3 ((j ^^^ k) &&& j) k (i &&& (i ^^^ j ^^^ k)) t = e3 (i &&& j) (i ^^^ j) (k &&& (i ^^^ j ^^^ k)) t := by
  unfold e3
  simp only [Nat.testBit_and, Nat.testBit_xor]
  cases i.testBit t <;> cases j.testBit t <;> cases k.testBit t <;> decide
/-- At least two of three digits. -/
def maj3 (i j k : Nat) : Nat := (i &&& j) ||| ((j &&& k) ||| (i &&& k))
theorem mj_bits (i j k t : Nat) : e2 (i &&& (i ^^^ k)) k t = e2 (maj3 i j k) ((i ^^^ j ^^^ k) &&& (j ^^^ (i ^^^ j ^^^ k))) t ∧ e2 (i &&& j) (i ^^^ j) t = e2 (maj3 i j k) ((i ^^^ j ^^^ k) &&& (k ^^^ (i ^^^ j ^^^ k))) t := by
  unfold e2 maj3
  simp only [Nat.testBit_and, Nat.testBit_xor, Nat.testBit_or]
  cases i.testBit t <;> cases j.testBit t <;> cases k.testBit t <;> decide
theorem maj_lt {n i j k : Nat} (hi : i < 2 ^ n) (hj : j < 2 ^ n) (hk : k < 2 ^ n) : maj3 i j k < 2 ^ n := Nat.or_lt_two_pow (and_lt hi) (Nat.or_lt_two_pow (and_lt hj) (and_lt hi))

theorem pl_dec {N q : Nat} (h : q < 3 * N * N) : ∃ a i k, a < 3 ∧ i < N ∧ k < N ∧ q = pl N a i k := by
  have h0 : 0 < N := by
    rcases Nat.eq_zero_or_pos N with h1 | h1
    · subst h1; simp at h
    · exact h1
  refine ⟨q / N / N, q / N % N, q % N, ?_, Nat.mod_lt _ h0, Nat.mod_lt _ h0, ?_⟩
  · rw [Nat.div_lt_iff_lt_mul h0, Nat.div_lt_iff_lt_mul h0]; exact h
  · unfold pl
    have h1 := Nat.div_add_mod q N
    have h2 := Nat.div_add_mod (q / N) N
    rw [Nat.mul_comm (q / N / N), h2, Nat.mul_comm, h1]
/-- A solution as numbers in one row. -/
def solU (n : Nat) (w : List Int) (c : Nat × Nat × Nat) (q : Nat) : Int :=
  wpF w n ((q % 2 ^ n) &&& ((q / 2 ^ n % 2 ^ n) ^^^ (q % 2 ^ n))) * ySol n c (q / 2 ^ n / 2 ^ n) ((q / 2 ^ n % 2 ^ n) ^^^ (q % 2 ^ n)) (q % 2 ^ n)
theorem solU_pl {n : Nat} {w : List Int} {c : Nat × Nat × Nat} {a i k : Nat} (hi : i < 2 ^ n) (hk : k < 2 ^ n) : solU n w c (pl (2 ^ n) a i k) = wpF w n (k &&& (i ^^^ k)) * ySol n c a (i ^^^ k) k := by
  have h0 := Nat.two_pow_pos n
  have e1 : pl (2 ^ n) a i k / 2 ^ n = a * 2 ^ n + i := by unfold pl; rw [Nat.mul_comm, Nat.mul_add_div h0, Nat.div_eq_of_lt hk]; omega
  have e2 : pl (2 ^ n) a i k % 2 ^ n = k := by unfold pl; rw [Nat.mul_comm, Nat.mul_add_mod, Nat.mod_eq_of_lt hk]
  have e3 : (a * 2 ^ n + i) / 2 ^ n = a := by rw [Nat.mul_comm, Nat.mul_add_div h0, Nat.div_eq_of_lt hi]; omega
  have e4 : (a * 2 ^ n + i) % 2 ^ n = i := by rw [Nat.mul_comm, Nat.mul_add_mod, Nat.mod_eq_of_lt hi]
  unfold solU
  rw [e1, e2, e3, e4]

section
variable {p : Int} {w : List Int} (hP : isP p = true) (hl : w.length ≤ 3) (hw : Vec p w.length w) (hz : hasZ w = false)
include hP hl hw hz
theorem step_nz : ∀ t, t < w.length → ¬ p ∣ gI w t := fun t ht h => by
  have h1 := (num_dvd (hw.get ht)).1 h
  have : hasZ w = true := (hasZ_iff w).2 (by rw [← h1, ← gI_get ht]; exact List.getElem_mem _)
  rw [hz] at this; cases this
theorem W_nz (m : Nat) : ¬ p ∣ wpF w w.length m := wpF_nz hP _ (step_nz hP hl hw hz) m
theorem dg_mod {i : Nat} (hi : i < 2 ^ w.length) : gI (dgv p w w.length) i % p = (epsF w.length i * wpF w w.length i) % p := by
  have hp := isP_le hP
  rw [dgv_at (by omega) w.length w i hi]
  have := dD_split (n := w.length) (by omega) w hi
  unfold dD at this
  rw [this]; rfl
theorem T_mod {x y : Nat} (hx : x < 2 ^ w.length) (hy : y < 2 ^ w.length) : gI (gR (prodm p w) x) y % p = (sgF w.length x y * wpF w w.length (x &&& y)) % p := by
  have hp := isP_le hP
  have e1 : gI (gR (prodm p w) x) y = axS w.length w x y % p := by
    unfold prodm
    rw [gR_vecN _ hx, gI_vecN _ hy]
    exact axm_val hP (by omega) hw hx hy
  rw [e1, emm, axS_split w.length (by omega) w x y hx hy]
theorem fm_mod {x y : Nat} (hx : x < 2 ^ w.length) (hy : y < 2 ^ w.length) : fm p (prodm p w) x y % p = (2 * (sgF w.length x y * wpF w w.length (x &&& y)) * (sgF w.length (x ^^^ y) (x ^^^ y) * wpF w w.length (x ^^^ y))) % p := by
  have hxy := xor_lt hx hy
  unfold fm
  have h1 : (2 * gI (gR (prodm p w) x) y) % p = (2 * (sgF w.length x y * wpF w w.length (x &&& y))) % p := by
    rw [Int.mul_emod, T_mod hP hl hw hz hx hy, ← Int.mul_emod]
  have h2 := T_mod hP hl hw hz hxy hxy
  rw [Nat.and_self] at h2
  rw [emm, Int.mul_emod, h1, h2, ← Int.mul_emod]
theorem skc_iff {a i k : Nat} (hi : i < 2 ^ w.length) (hk : k < 2 ^ w.length) (hik : i ≠ k) (u : Nat → Int) :
    skc p (2 ^ w.length) (dgv p w w.length) a i k u ↔ p ∣ epsF w.length i * wpF w w.length i * u (pl (2 ^ w.length) a i k) + epsF w.length k * wpF w w.length k * u (pl (2 ^ w.length) a k i) := by
  unfold skc
  rw [if_neg hik]
  exact mod_lin2 (dg_mod hP hl hw hz hi) (dg_mod hP hl hw hz hk)
theorem skc_self {a i : Nat} (hi : i < 2 ^ w.length) (u : Nat → Int) : skc p (2 ^ w.length) (dgv p w w.length) a i i u ↔ p ∣ u (pl (2 ^ w.length) a i i) := by
  unfold skc
  rw [if_pos rfl]
  constructor
  · intro h
    rcases (prime_dvd hP).1 h with h1 | h1
    · exfalso
      rw [Int.dvd_iff_emod_eq_zero, dg_mod hP hl hw hz hi, ← Int.dvd_iff_emod_eq_zero, dvd_one (eps_one _ _)] at h1
      exact W_nz hP hl hw hz _ h1
    · exact h1
  · exact fun h => Int.dvd_mul_of_dvd_right h
theorem trc_iff {i j k : Nat} (hi : i < 2 ^ w.length) (hj : j < 2 ^ w.length) (hk : k < 2 ^ w.length) (u : Nat → Int) :
    trc p (2 ^ w.length) (prodm p w) i j k u ↔ p ∣ tr1 w.length i j k * (wpF w w.length ((j ^^^ k) &&& j) * wpF w w.length k) * u (pl (2 ^ w.length) 0 (j ^^^ k) i) +
      tr2 w.length i j k * (wpF w w.length (i &&& (i ^^^ k)) * wpF w w.length k) * u (pl (2 ^ w.length) 1 (i ^^^ k) j) + tr3 w.length i j k * (wpF w w.length (i &&& j) * wpF w w.length (i ^^^ j)) * u (pl (2 ^ w.length) 2 (i ^^^ j) k) := by
  have hjk := xor_lt hj hk
  have hik := xor_lt hi hk
  unfold trc
  rw [mod_lin3 (fm_mod hP hl hw hz hjk hj) (fm_mod hP hl hw hz hi hik) (fm_mod hP hl hw hz hi hj), xc3, xc1]
  have e : ∀ (s W s' W' x : Int), 2 * (s * W) * (s' * W') * x = 2 * (s * s' * (W * W') * x) := fun s W s' W' x => by grind
  rw [e (sgF w.length (j ^^^ k) j), e (sgF w.length i (i ^^^ k)), e (sgF w.length i j), ← Int.mul_add, ← Int.mul_add]
  unfold tr1 tr2 tr3
  constructor
  · intro h
    rcases (prime_dvd hP).1 h with h1 | h1
    · exact absurd h1 (not_two hP)
    · exact h1
  · exact fun h => Int.dvd_mul_of_dvd_right h

/-! ### Solutions -/
theorem sol_sk {c : Nat × Nat × Nat} (hc : chkSk w.length c = true) {a i k : Nat} (ha : a < 3) (hi : i < 2 ^ w.length) (hk : k < 2 ^ w.length) (hc1 : 0 < c.1) : skc p (2 ^ w.length) (dgv p w w.length) a i k (solU w.length w c) := by
  by_cases h : i = k
  · subst h
    rw [skc_self hP hl hw hz hi, solU_pl hi hi, Nat.xor_self]
    have : ySol w.length c a 0 i = 0 := by unfold ySol; rw [if_neg (by omega)]
    rw [this, Int.mul_zero]; exact Int.dvd_zero p
  · rw [skc_iff hP hl hw hz hi hk h, solU_pl hi hk, solU_pl hk hi]
    have hs := List.all_eq_true.1 (List.all_eq_true.1 (List.all_eq_true.1 hc a (List.mem_range.2 ha)) i (List.mem_range.2 hi)) k (List.mem_range.2 hk)
    simp only [decide_eq_true_eq] at hs
    have hM : wpF w w.length i * wpF w w.length (k &&& (i ^^^ k)) = wpF w w.length k * wpF w w.length (i &&& (k ^^^ i)) := by
      rw [Nat.xor_comm k i, monN_two (by omega) hi (and_lt hk), monN_two (by omega) hk (and_lt hi)]
      exact monN_congr fun t _ => sk_bits i k t
    have e : epsF w.length i * wpF w w.length i * (wpF w w.length (k &&& (i ^^^ k)) * ySol w.length c a (i ^^^ k) k) + epsF w.length k * wpF w w.length k * (wpF w w.length (i &&& (k ^^^ i)) * ySol w.length c a (k ^^^ i) i) =
        (wpF w w.length i * wpF w w.length (k &&& (i ^^^ k))) * (epsF w.length i * ySol w.length c a (i ^^^ k) k) + (wpF w w.length k * wpF w w.length (i &&& (k ^^^ i))) * (epsF w.length k * ySol w.length c a (k ^^^ i) i) := by grind
    rw [e, ← hM, ← Int.mul_add, Nat.xor_comm k i, hs, Int.mul_zero]
    exact Int.dvd_zero p
theorem sol_tr {c : Nat × Nat × Nat} (hc : chkTr w.length c = true) {i j k : Nat} (hi : i < 2 ^ w.length) (hj : j < 2 ^ w.length) (hk : k < 2 ^ w.length) : trc p (2 ^ w.length) (prodm p w) i j k (solU w.length w c) := by
  have hjk := xor_lt hj hk
  have hik := xor_lt hi hk
  have hij := xor_lt hi hj
  have hs := List.all_eq_true.1 (List.all_eq_true.1 (List.all_eq_true.1 hc i (List.mem_range.2 hi)) j (List.mem_range.2 hj)) k (List.mem_range.2 hk)
  simp only [decide_eq_true_eq] at hs
  have g1 : (j ^^^ k) ^^^ i = i ^^^ j ^^^ k := by rw [Nat.xor_comm, Nat.xor_assoc]
  have g2 : (i ^^^ k) ^^^ j = i ^^^ j ^^^ k := by rw [Nat.xor_assoc, Nat.xor_comm k j, Nat.xor_assoc]
  rw [trc_iff hP hl hw hz hi hj hk, solU_pl hjk hi, solU_pl hik hj, solU_pl hij hk, g1, g2]
  have m1 := monN_three (w := w) (n := w.length) (and_lt (j := j) hjk) hk (and_lt (j := i ^^^ j ^^^ k) hi)
  have m2 := monN_three (w := w) (n := w.length) (and_lt (j := i ^^^ k) hi) hk (and_lt (j := i ^^^ j ^^^ k) hj)
  have m3 := monN_three (w := w) (n := w.length) (and_lt (j := j) hi) hij (and_lt (j := i ^^^ j ^^^ k) hk)
  rw [← monN_congr fun t _ => (tr_bits i j k t).1] at m2
  rw [← monN_congr fun t _ => (tr_bits i j k t).2] at m3
  generalize monN w w.length (e3 ((j ^^^ k) &&& j) k (i &&& (i ^^^ j ^^^ k))) = M at m1 m2 m3
  have e : ∀ (s A B C y : Int), s * (A * B) * (C * y) = (A * (B * C)) * (s * y) := fun s A B C y => by grind
  rw [e (tr1 w.length i j k), e (tr2 w.length i j k), e (tr3 w.length i j k), m1, m2, m3, ← Int.mul_add, ← Int.mul_add, hs, Int.mul_zero]
  exact Int.dvd_zero p
end
end Go.Vam

/- Plain law: LocalDimension. -/
namespace Go.Vam
open Go Go.RowKit
set_option linter.unusedSimpArgs false
set_option linter.unusedVariables false
set_option linter.unusedSectionVars false

theorem crd_has0 {n g r : Nat} (hg : 0 < g) (hgn : g < 2 ^ n) (hr : r < 2 ^ n) (h : r < r ^^^ g) : (g, 0, r) ∈ crdL n := by
  unfold crdL
  rw [List.mem_flatMap]
  refine ⟨g, ?_, List.mem_append_left _ (List.mem_map.2 ⟨r, List.mem_filter.2 ⟨List.mem_range.2 hr, by simpa using h⟩, rfl⟩)⟩
  rw [List.mem_drop_iff_getElem]
  exact ⟨g - 1, by simp; omega, by simp; omega⟩
theorem crd_has1 {n g : Nat} (hg : 0 < g) (hgn : g < 2 ^ n) (hn : n < 3) : (g, 1, 0) ∈ crdL n := by
  unfold crdL
  rw [List.mem_flatMap]
  refine ⟨g, ?_, List.mem_append_right _ (by rw [if_pos hn]; simp)⟩
  rw [List.mem_drop_iff_getElem]
  exact ⟨g - 1, by simp; omega, by simp; omega⟩
theorem xg1 (g j k : Nat) : j ^^^ k ^^^ g ^^^ j ^^^ k = g := Nat.eq_of_testBit_eq fun t => by
  simp only [Nat.testBit_xor]
  cases j.testBit t <;> cases k.testBit t <;> cases g.testBit t <;> rfl
theorem xg2 (g j k : Nat) : j ^^^ k ^^^ g ^^^ k = j ^^^ g := Nat.eq_of_testBit_eq fun t => by
  simp only [Nat.testBit_xor]
  cases j.testBit t <;> cases k.testBit t <;> cases g.testBit t <;> rfl
theorem xg3 (g j k : Nat) : j ^^^ k ^^^ g ^^^ j = k ^^^ g := Nat.eq_of_testBit_eq fun t => by
  simp only [Nat.testBit_xor]
  cases j.testBit t <;> cases k.testBit t <;> cases g.testBit t <;> rfl
theorem cyc_zero {p : Int} {c1 c2 c3 c4 y0 yj z0 zk : Int} (hP : isP p = true) (h1 : c1 = 1 ∨ c1 = -1) (h2 : c2 = 1 ∨ c2 = -1) (h3 : c3 = 1 ∨ c3 = -1) (h4 : c4 = 1 ∨ c4 = -1) (hc : c1 * c2 * c3 * c4 = -1)
    (e1 : p ∣ z0 - c1 * y0) (e2 : p ∣ z0 - c2 * yj) (e3 : p ∣ zk - c3 * yj) (e4 : p ∣ zk - c4 * y0) : p ∣ y0 := by
  have a1 : p ∣ c1 * y0 - c2 * yj := by
    have := Int.dvd_sub e2 e1
    rwa [show z0 - c2 * yj - (z0 - c1 * y0) = c1 * y0 - c2 * yj by omega] at this
  have a2 : p ∣ c3 * yj - c4 * y0 := by
    have := Int.dvd_sub e4 e3
    rwa [show zk - c4 * y0 - (zk - c3 * yj) = c3 * yj - c4 * y0 by omega] at this
  have a3 : p ∣ 2 * y0 := by
    have b1 : p ∣ c2 * c3 * c4 * (c1 * y0 - c2 * yj) := Int.dvd_mul_of_dvd_right a1
    have b2 : p ∣ c4 * (c3 * yj - c4 * y0) := Int.dvd_mul_of_dvd_right a2
    have b3 := Int.dvd_add b1 b2
    have s2 := one_sq h2
    have s4 := one_sq h4
    have : c2 * c3 * c4 * (c1 * y0 - c2 * yj) + c4 * (c3 * yj - c4 * y0) = -(2 * y0) := by
      have e1 : c2 * c3 * c4 * (c1 * y0 - c2 * yj) + c4 * (c3 * yj - c4 * y0) = (c1 * c2 * c3 * c4) * y0 - (c2 * c2) * (c3 * c4 * yj) + c3 * c4 * yj - (c4 * c4) * y0 := by grind
      rw [e1, hc, s2, s4]; grind
    rw [this, Int.dvd_neg] at b3
    exact b3
  rcases (prime_dvd hP).1 a3 with h | h
  · exact absurd h (not_two hP)
  · exact h
section
variable {p : Int} {w : List Int} (hP : isP p = true) (hl : w.length ≤ 3) (hw : Vec p w.length w) (hz : hasZ w = false)
include hP hl hw hz
theorem W_dvd {m : Nat} {x : Int} (h : p ∣ wpF w w.length m * x) : p ∣ x := by
  rcases (prime_dvd hP).1 h with h1 | h1
  · exact absurd h1 (W_nz hP hl hw hz m)
  · exact h1
theorem loc_uni {u : Nat → Int} (h1 : ∀ a, a < 3 → ∀ i, i < 2 ^ w.length → ∀ k, k < i + 1 → skc p (2 ^ w.length) (dgv p w w.length) a i k u)
    (h2 : ∀ i, i < 2 ^ w.length → ∀ j, j < 2 ^ w.length → ∀ k, k < 2 ^ w.length → trc p (2 ^ w.length) (prodm p w) i j k u)
    (h0 : ∀ c ∈ crdL w.length, p ∣ u (pl (2 ^ w.length) c.2.1 (c.2.2 ^^^ c.1) c.2.2)) : ∀ q, q < 3 * 2 ^ w.length * 2 ^ w.length → p ∣ u q := by
  have hdiag : ∀ a, a < 3 → ∀ i, i < 2 ^ w.length → p ∣ u (pl (2 ^ w.length) a i i) := fun a ha i hi => (skc_self hP hl hw hz hi u).1 (h1 a ha i hi i (by omega))
  have hsk : ∀ a, a < 3 → ∀ i, i < 2 ^ w.length → ∀ k, k < 2 ^ w.length → i ≠ k → p ∣ epsF w.length i * wpF w w.length i * u (pl (2 ^ w.length) a i k) + epsF w.length k * wpF w w.length k * u (pl (2 ^ w.length) a k i) := by
    intro a ha i hi k hk hne
    rcases Nat.lt_or_ge k i with h | h
    · exact (skc_iff hP hl hw hz hi hk hne u).1 (h1 a ha i hi k (by omega))
    · have := (skc_iff hP hl hw hz hk hi (fun e => hne e.symm) u).1 (h1 a ha k hk i (by omega))
      rwa [Int.add_comm]
  have hA : ∀ i, i < 2 ^ w.length → ∀ k, k < 2 ^ w.length → p ∣ u (pl (2 ^ w.length) 0 i k) := by
    intro i hi k hk
    by_cases hne : i = k
    · subst hne; exact hdiag 0 (by omega) i hi
    have hg : 0 < i ^^^ k := Nat.pos_of_ne_zero fun e => hne (by have := congrArg (· ^^^ k) e; simpa [xc4] using this)
    have hgn := xor_lt hi hk
    rcases Nat.lt_or_ge k i with h | h
    · have := h0 _ (crd_has0 hg hgn hk (by rw [xc2]; exact h))
      simpa only [xc2] using this
    · have := h0 _ (crd_has0 hg hgn hi (by rw [xc1]; omega))
      simp only [xc1] at this
      have hs := hsk 0 (by omega) i hi k hk hne
      have h3 : p ∣ epsF w.length i * wpF w w.length i * u (pl (2 ^ w.length) 0 i k) := (Int.dvd_add_left (Int.dvd_mul_of_dvd_right this)).1 hs
      rw [Int.mul_assoc, dvd_one (eps_one _ _)] at h3
      exact W_dvd hP hl hw hz h3
  have hrel : ∀ g, g < 2 ^ w.length → ∀ j, j < 2 ^ w.length → ∀ k, k < 2 ^ w.length →
      p ∣ wpF w w.length (g &&& (k ^^^ g)) * u (pl (2 ^ w.length) 2 (k ^^^ g) k) - cycT w.length g j k * (wpF w w.length (g &&& (j ^^^ g)) * u (pl (2 ^ w.length) 1 (j ^^^ g) j)) := by
    intro g hg j hj k hk
    have hi : j ^^^ k ^^^ g < 2 ^ w.length := xor_lt (xor_lt hj hk) hg
    have g1 := xg1 g j k
    have g2 := xg2 g j k
    have g3 := xg3 g j k
    have ht := (trc_iff hP hl hw hz hi hj hk u).1 (h2 _ hi j hj k hk)
    have b := fun t => mj_bits (j ^^^ k ^^^ g) j k t
    rw [g1] at b
    have m1 : wpF w w.length ((j ^^^ k ^^^ g) &&& ((j ^^^ k ^^^ g) ^^^ k)) * wpF w w.length k = wpF w w.length (maj3 (j ^^^ k ^^^ g) j k) * wpF w w.length (g &&& (j ^^^ g)) := by
      rw [monN_two (by omega) (and_lt hi) hk, monN_two (by omega) (maj_lt hi hj hk) (and_lt hg)]
      exact monN_congr fun t _ => (b t).1
    have m2 : wpF w w.length ((j ^^^ k ^^^ g) &&& j) * wpF w w.length ((j ^^^ k ^^^ g) ^^^ j) = wpF w w.length (maj3 (j ^^^ k ^^^ g) j k) * wpF w w.length (g &&& (k ^^^ g)) := by
      rw [monN_two (by omega) (and_lt hi) (xor_lt hi hj), monN_two (by omega) (maj_lt hi hj hk) (and_lt hg)]
      exact monN_congr fun t _ => (b t).2
    rw [m1, m2, g2, g3] at ht
    have hA0 : p ∣ tr1 w.length (j ^^^ k ^^^ g) j k * (wpF w w.length ((j ^^^ k) &&& j) * wpF w w.length k) * u (pl (2 ^ w.length) 0 (j ^^^ k) (j ^^^ k ^^^ g)) := Int.dvd_mul_of_dvd_right (hA _ (xor_lt hj hk) _ hi)
    rw [Int.add_assoc] at ht
    have ht2 := (Int.dvd_add_right hA0).1 ht
    unfold cycT
    have s2 := tr2_one w.length (j ^^^ k ^^^ g) j k
    have s3 := tr3_one w.length (j ^^^ k ^^^ g) j k
    generalize tr2 w.length (j ^^^ k ^^^ g) j k = t2 at ht2 s2 ⊢
    generalize tr3 w.length (j ^^^ k ^^^ g) j k = t3 at ht2 s3 ⊢
    have hd : p ∣ wpF w w.length (maj3 (j ^^^ k ^^^ g) j k) * (t3 * (wpF w w.length (g &&& (k ^^^ g)) * u (pl (2 ^ w.length) 2 (k ^^^ g) k)) + t2 * (wpF w w.length (g &&& (j ^^^ g)) * u (pl (2 ^ w.length) 1 (j ^^^ g) j))) := by
      rw [show wpF w w.length (maj3 (j ^^^ k ^^^ g) j k) * (t3 * (wpF w w.length (g &&& (k ^^^ g)) * u (pl (2 ^ w.length) 2 (k ^^^ g) k)) + t2 * (wpF w w.length (g &&& (j ^^^ g)) * u (pl (2 ^ w.length) 1 (j ^^^ g) j))) =
        t2 * (wpF w w.length (maj3 (j ^^^ k ^^^ g) j k) * wpF w w.length (g &&& (j ^^^ g))) * u (pl (2 ^ w.length) 1 (j ^^^ g) j) + t3 * (wpF w w.length (maj3 (j ^^^ k ^^^ g) j k) * wpF w w.length (g &&& (k ^^^ g))) * u (pl (2 ^ w.length) 2 (k ^^^ g) k) by grind]
      exact ht2
    have hd2 := W_dvd hP hl hw hz hd
    generalize wpF w w.length (g &&& (k ^^^ g)) * u (pl (2 ^ w.length) 2 (k ^^^ g) k) = Z at hd2 ⊢
    generalize wpF w w.length (g &&& (j ^^^ g)) * u (pl (2 ^ w.length) 1 (j ^^^ g) j) = Y at hd2 ⊢
    have hd3 : p ∣ t3 * (t3 * Z + t2 * Y) := Int.dvd_mul_of_dvd_right hd2
    rw [show t3 * (t3 * Z + t2 * Y) = (t3 * t3) * Z + t2 * t3 * Y by grind, one_sq s3, Int.one_mul] at hd3
    rwa [show Z - -(t2 * t3) * Y = Z + t2 * t3 * Y by grind]
  have hY0 : ∀ g, 0 < g → g < 2 ^ w.length → p ∣ wpF w w.length (g &&& (0 ^^^ g)) * u (pl (2 ^ w.length) 1 (0 ^^^ g) 0) := by
    intro g hg0 hg
    by_cases hn : w.length < 3
    · have := h0 _ (crd_has1 hg0 hg hn)
      exact Int.dvd_mul_of_dvd_right this
    · have h3 : w.length = 3 := by omega
      have hc : chkCy g = true := by
        have hg8 : g = 1 ∨ g = 2 ∨ g = 3 ∨ g = 4 ∨ g = 5 ∨ g = 6 ∨ g = 7 := by rw [h3] at hg; omega
        exact List.all_eq_true.1 chk_cy g (by rcases hg8 with rfl | rfl | rfl | rfl | rfl | rfl | rfl <;> decide)
      unfold chkCy at hc
      obtain ⟨j, hj, hc⟩ := List.any_eq_true.1 hc
      obtain ⟨k, hk, hc⟩ := List.any_eq_true.1 hc
      simp only [decide_eq_true_eq] at hc
      have hj' : j < 2 ^ w.length := by rw [h3]; exact List.mem_range.1 hj
      have hk' : k < 2 ^ w.length := by rw [h3]; exact List.mem_range.1 hk
      have z0 := Nat.two_pow_pos w.length
      have cy : ∀ j k, cycT w.length g j k = 1 ∨ cycT w.length g j k = -1 := fun j k => by
        unfold cycT
        rcases one_mul_pm (tr2_one w.length (j ^^^ k ^^^ g) j k) (tr3_one w.length (j ^^^ k ^^^ g) j k) with h | h <;> rw [h] <;> simp
      rw [← h3] at hc
      exact cyc_zero hP (cy 0 0) (cy j 0) (cy j k) (cy 0 k) hc (hrel g hg 0 z0 0 z0) (hrel g hg j hj' 0 z0) (hrel g hg j hj' k hk') (hrel g hg 0 z0 k hk')
  have hZ : ∀ g, 0 < g → g < 2 ^ w.length → ∀ k, k < 2 ^ w.length → p ∣ wpF w w.length (g &&& (k ^^^ g)) * u (pl (2 ^ w.length) 2 (k ^^^ g) k) := fun g hg0 hg k hk => by
    have := hrel g hg 0 (Nat.two_pow_pos _) k hk
    exact dvd_of_sub this (Int.dvd_mul_of_dvd_right (hY0 g hg0 hg))
  have hY : ∀ g, 0 < g → g < 2 ^ w.length → ∀ j, j < 2 ^ w.length → p ∣ wpF w w.length (g &&& (j ^^^ g)) * u (pl (2 ^ w.length) 1 (j ^^^ g) j) := fun g hg0 hg j hj => by
    have h := hrel g hg j hj 0 (Nat.two_pow_pos _)
    have h2 := dvd_of_sub (dvd_sub_symm h) (hZ g hg0 hg 0 (Nat.two_pow_pos _))
    have cy : cycT w.length g j 0 = 1 ∨ cycT w.length g j 0 = -1 := by
      unfold cycT
      rcases one_mul_pm (tr2_one w.length (j ^^^ 0 ^^^ g) j 0) (tr3_one w.length (j ^^^ 0 ^^^ g) j 0) with h | h <;> rw [h] <;> simp
    exact (dvd_one cy).1 h2
  intro q hq
  obtain ⟨a, i, k, ha, hi, hk, rfl⟩ := pl_dec hq
  by_cases hne : i = k
  · subst hne; exact hdiag a ha i hi
  have hg : 0 < i ^^^ k := Nat.pos_of_ne_zero fun e => hne (by have := congrArg (· ^^^ k) e; simpa [xc4] using this)
  have hgn := xor_lt hi hk
  match a, ha with
  | 0, _ => exact hA i hi k hk
  | 1, _ =>
    have := W_dvd hP hl hw hz (hY _ hg hgn k hk)
    rwa [xc2] at this
  | 2, _ =>
    have := W_dvd hP hl hw hz (hZ _ hg hgn k hk)
    rwa [xc2] at this
theorem crd_at {j : Nat} (hj : j < (crdL w.length).length) : crdAt w.length j ∈ crdL w.length ∧ 0 < (crdAt w.length j).1 ∧ (crdAt w.length j).1 < 2 ^ w.length ∧ (crdAt w.length j).2.1 < 3 ∧ (crdAt w.length j).2.2 < 2 ^ w.length := by
  have hm : crdAt w.length j ∈ crdL w.length := by
    unfold crdAt
    rw [List.getD_eq_getElem?_getD, List.getElem?_eq_getElem hj]
    exact List.getElem_mem hj
  have := List.all_eq_true.1 (List.all_eq_true.1 crd_mem w.length (List.mem_range.2 (by omega))) _ hm
  simp only [Bool.and_eq_true, decide_eq_true_eq] at this
  exact ⟨hm, this.1.1.1, this.1.1.2, this.1.2, this.2⟩
theorem loc_dim {B : List (List Int)} {ld : Nat → Nat} (hB : Ech p (3 * 2 ^ w.length * 2 ^ w.length) B ld)
    (hk : ∀ u, Kr p (3 * 2 ^ w.length * 2 ^ w.length) B u ↔ (∀ a, a < 3 → ∀ i, i < 2 ^ w.length → ∀ k, k < i + 1 → skc p (2 ^ w.length) (dgv p w w.length) a i k u) ∧ ∀ i, i < 2 ^ w.length → ∀ j, j < 2 ^ w.length → ∀ k, k < 2 ^ w.length → trc p (2 ^ w.length) (prodm p w) i j k u) :
    (crdL w.length).length + B.length = 3 * 2 ^ w.length * 2 ^ w.length := by
  have hp := isP_le hP
  have hN : 2 ^ w.length ≤ 8 := Nat.pow_le_pow_right (show 0 < 2 by omega) hl
  have h4 : 3 * 2 ^ w.length * 2 ^ w.length ≤ 24 * 8 := Nat.mul_le_mul (by omega) hN
  have hD : (crdL w.length).length ≤ 28 := (by decide +kernel : ∀ n, n < 4 → (crdL n).length ≤ 28) _ (by omega)
  have hval : ∀ i j, i < (crdL w.length).length → j < (crdL w.length).length → solU w.length w (crdAt w.length i) (pl (2 ^ w.length) (crdAt w.length j).2.1 ((crdAt w.length j).2.2 ^^^ (crdAt w.length j).1) (crdAt w.length j).2.2) =
      wpF w w.length ((crdAt w.length j).2.2 &&& (crdAt w.length j).1) * ySol w.length (crdAt w.length i) (crdAt w.length j).2.1 (crdAt w.length j).1 (crdAt w.length j).2.2 := fun i j hi hj => by
    obtain ⟨_, c1, c2, c3, c4⟩ := crd_at hP hl hw hz hj
    rw [solU_pl (xor_lt c4 c2) c4, xc3]
  have hcd : ∀ i j, i < (crdL w.length).length → j < (crdL w.length).length → (if i = j then (ySol w.length (crdAt w.length i) (crdAt w.length j).2.1 (crdAt w.length j).1 (crdAt w.length j).2.2 = 1 ∨ ySol w.length (crdAt w.length i) (crdAt w.length j).2.1 (crdAt w.length j).1 (crdAt w.length j).2.2 = 2) else ySol w.length (crdAt w.length i) (crdAt w.length j).2.1 (crdAt w.length j).1 (crdAt w.length j).2.2 = 0) := fun i j hi hj => by
    have := List.all_eq_true.1 (List.all_eq_true.1 (List.all_eq_true.1 chk_cd w.length (List.mem_range.2 (by omega))) i (List.mem_range.2 hi)) j (List.mem_range.2 hj)
    simp only [] at this
    split at this
    · rename_i h
      rw [if_pos h]
      simpa using this
    · rename_i h
      rw [if_neg h]
      simpa using this
  refine dim_coords hP (by omega) hB (by omega) (fun i => solU w.length w (crdAt w.length i)) (fun j => pl (2 ^ w.length) (crdAt w.length j).2.1 ((crdAt w.length j).2.2 ^^^ (crdAt w.length j).1) (crdAt w.length j).2.2) (fun i hi => ?_) (fun j hj => ?_) (fun i j hi hj hne => ?_) (fun i hi => ?_) (fun u hu hz' => ?_)
  · obtain ⟨hm, c1, c2, c3, c4⟩ := crd_at hP hl hw hz hi
    rw [hk]
    have k1 := List.all_eq_true.1 (List.all_eq_true.1 chk_sk w.length (List.mem_range.2 (by omega))) _ hm
    have k2 := List.all_eq_true.1 (List.all_eq_true.1 chk_tr w.length (List.mem_range.2 (by omega))) _ hm
    exact ⟨fun a ha i hi k hk' => sol_sk hP hl hw hz k1 ha hi (by omega) c1, fun i hi j hj k hk' => sol_tr hP hl hw hz k2 hi hj hk'⟩
  · obtain ⟨hm, c1, c2, c3, c4⟩ := crd_at hP hl hw hz hj
    exact pl_lt c3 (xor_lt c4 c2) c4
  · rw [hval i j hi hj]
    have := hcd i j hi hj
    rw [if_neg hne] at this
    rw [this, Int.mul_zero]; exact Int.dvd_zero p
  · rw [hval i i hi hi]
    have := hcd i i hi hi
    rw [if_pos rfl] at this
    intro h
    have h2 := W_dvd hP hl hw hz h
    rcases this with e | e
    · rw [e] at h2
      have := Int.le_of_dvd (by omega) h2
      omega
    · rw [e] at h2
      exact not_two hP h2
  · obtain ⟨u1, u2⟩ := (hk u).1 hu
    refine loc_uni hP hl hw hz u1 u2 fun c hc => ?_
    obtain ⟨j, hj, rfl⟩ := List.getElem_of_mem hc
    have := hz' j hj
    have e : crdAt w.length j = (crdL w.length)[j] := by unfold crdAt; rw [List.getD_eq_getElem?_getD, List.getElem?_eq_getElem hj]; rfl
    simp only [e] at this
    exact this
end
theorem s_l15Basis_len {p : Int} {w : List Int} (hP : isP p = true) (hl : w.length ≤ 3) (hw : Vec p w.length w) (hz : hasZ w = false) : ∃ V, s_l15Basis p w = some V ∧ V.length = (crdL w.length).length := by
  have hp := isP_le hP
  have hN : 2 ^ w.length ≤ 8 := Nat.pow_le_pow_right (show 0 < 2 by omega) hl
  have h4 : 3 * 2 ^ w.length * 2 ^ w.length ≤ 24 * 8 := Nat.mul_le_mul (by omega) hN
  have hD : Vec p (2 ^ w.length) (dgv p w w.length) := dgv_vec (by omega) w w.length
  have hT := prodm_mat hP (show w.length ≤ 4 by omega) hw
  obtain ⟨E1, a1, a2, a3, a4⟩ := sk_loop (p := p) (N := 2 ^ w.length) (D := dgv p w w.length) (by omega) (by omega) hN hD (E0 := []) ⟨rfl, fun i hi => by simp at hi⟩ (by simp)
  obtain ⟨E, b1, b2, b3, b4⟩ := tr_loop (p := p) (w := w) (N := 2 ^ w.length) (T := prodm p w) (by omega) (by omega) hN ⟨w.length, hl, rfl⟩ hT a2 (by simp at a3; omega)
  have hEl : E.length ≤ 10000 := by simp at a3; omega
  obtain ⟨V, B, ld, k1, k2, ⟨lv, k3⟩, k4, k5, k6⟩ := Kernel_two (n := 3 * 2 ^ w.length * 2 ^ w.length) hP (by omega) (by omega) (by omega) b2 b2 (fun u => Iff.rfl)
  have hdim := loc_dim hP hl hw hz k4 (fun u => by
    rw [k5 u, b4 u, a4 u]
    exact ⟨fun h => ⟨h.1.2, h.2⟩, fun h => ⟨⟨fun i hi => by simp at hi, h.1⟩, h.2⟩⟩)
  have hnul := nullity hP (by omega) k4 k3 k6
  refine ⟨V, ?_, by omega⟩
  unfold s_l15Basis
  rw [s_l11Basis_eq hP (by omega) hw, some_bind, s_l11Size_eq (by omega), some_bind, s_diag_eq hP (by omega) hw, some_bind, a1, some_bind, b1, some_bind, w_3NN hN, k2, some_bind]
theorem LocalDimension_eq {p : Int} {w : List Int} (hw : w.length ≤ 1048576) : ∃ V C, s_LocalDimension p w = some (V, C) ∧ i_LocalDimension p w = some (V, C) := by
  unfold s_LocalDimension i_LocalDimension
  rw [s_l14Code_eq hw, i_checkThree_eq hw ⟨by simp, by simp⟩ (by simp) (fun m hm => by simp at hm), some_bind, some_bind]
  have hC : thC p w [] [] = dbC p w := by unfold thC; simp; intro h; exact h.symm
  rw [hC]
  by_cases h0 : dbC p w = 0
  · obtain ⟨a1, a2⟩ := dbC_zero h0
    obtain ⟨hP, hl, hv, hz⟩ := isDb_iff a1
    obtain ⟨V, e1, e2⟩ := s_l15Basis_len hP a2 hv hz
    have hlen := List.all_eq_true.1 crd_len w.length (List.mem_range.2 (by omega))
    simp only [decide_eq_true_eq] at hlen
    have hi : idx ([0, 2, 9, 28] : List Int) (w.length : Int) = some (V.length : Int) := by
      rw [e2, hlen]
      have hw' : w.length = 0 ∨ w.length = 1 ∨ w.length = 2 ∨ w.length = 3 := by omega
      rcases hw' with h | h | h | h <;> rw [h] <;> rfl
    simp only [h0, not_true_eq_false, if_false, e1, hi, some_bind]
    exact ⟨_, _, rfl, rfl⟩
  · simp only [h0, not_false_eq_true, if_true]
    exact ⟨_, _, rfl, rfl⟩
theorem LawLocalDimension {p : Int} {w : List Int} (hw : lenI w) : l_FnExactLocalDimension p w = some true := by
  unfold l_FnExactLocalDimension
  rw [szDb_eq hw (by omega) (by omega), some_bind]
  by_cases h1 : ((w.length : Nat) : Int) ≤ 1048576
  · have hs : szv w.length 1048576 = 1048576 - ((w.length : Nat) : Int) := by unfold szv; rw [if_pos h1]
    rw [hs, if_neg (by omega)]
    have hw' : w.length ≤ 1048576 := by omega
    obtain ⟨V, C, e3, e4⟩ := LocalDimension_eq (p := p) hw'
    have e2 := toDb_eq (p := p) hw'
    have e5 := eqDb_self (p := p) hw'
    simp only [e2, e3, e4, e5, some_bind, Bool.true_eq_false, Bool.false_eq_true, if_false, if_true, ieq_self, Bool.not_true, natneg, not_true_eq_false]
  · have hs : szv w.length 1048576 = -1 := by unfold szv; rw [if_neg h1]
    rw [hs, if_pos (by omega)]
end Go.Vam
