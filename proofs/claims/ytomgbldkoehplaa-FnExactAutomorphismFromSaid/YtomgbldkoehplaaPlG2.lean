import Derived.Test.YtomgbldkoehplaaPlG1
import Derived.Test.YtomgbldkoehplaaFnI
import Derived.Test.YtomgbldkoehplaaFnJ
import Derived.Test.YtomgbldkoehplaaFnK
import Derived.Test.YtomgbldkoehplaaFnM
import Derived.Test.YtomgbldkoehplaaFnN
import Derived.Test.YtomgbldkoehplaaFnO
/- Plain laws: products are associative; turned products; ranks and determinants of products. -/
namespace Go.Vam
open Go Go.RowKit
set_option linter.unusedSimpArgs false
set_option linter.unusedVariables false
set_option linter.unusedSectionVars false

end Go.Vam

/- Plain laws: powers, exponents are added. -/
namespace Go.Vam
open Go Go.RowKit
set_option linter.unusedSimpArgs false
set_option linter.unusedVariables false
set_option linter.unusedSectionVars false

end Go.Vam

/- Plain laws: norms of elements; ConjugationBy. -/
namespace Go.Vam
open Go Go.RowKit
set_option linter.unusedSimpArgs false
set_option linter.unusedVariables false
set_option linter.unusedSectionVars false

theorem sumN_split (f : Nat → Int) (a b : Nat) : sumN f (a + b) = sumN f a + sumN (fun k => f (a + k)) b := by
  induction b with
  | zero => simp [sumN]
  | succ b ih => rw [← Nat.add_assoc]; simp only [sumN]; rw [ih]; omega
section
variable {p : Int} {w x : List Int} (hP : isP p = true) (hl : w.length ≤ 4) (hw : Vec p w.length w) (hx : Vec p (2 ^ w.length) x)
include hP hl hw hx
end
section
variable {p : Int} {w a b : List Int} (hP : isP p = true) (hl : w.length ≤ 4) (hw : Vec p w.length w) (ha : Vec p (2 ^ w.length) a) (hb : Vec p (2 ^ w.length) b)
include hP hl hw ha hb
end
end Go.Vam

/- Plain law: FnMatrixProducts. -/
namespace Go.Vam
open Go Go.RowKit
set_option linter.unusedSimpArgs false
set_option linter.unusedVariables false
set_option linter.unusedSectionVars false

section
variable {p : Int} {r n c : Nat} {a b : List (List Int)} (hP : isP p = true) (ha : Mat p r n a) (hr0 : 1 ≤ r) (hr : r ≤ 16) (hn0 : 1 ≤ n) (hn : n ≤ 16)
include hP ha hr0 hr hn0 hn
end
end Go.Vam

/- Plain laws: inverses of tables. -/
namespace Go.Vam
open Go Go.RowKit
set_option linter.unusedSimpArgs false
set_option linter.unusedVariables false
set_option linter.unusedSectionVars false

/-- The table with the unit behind it. -/
def widem (n : Nat) (a : List (List Int)) : List (List Int) := vecN n fun i => gR a i ++ axis n i
section
variable {p : Int} {n : Nat} {a : List (List Int)} (hp : 1 < p) (hn : n ≤ 1000) (ha : Mat p n n a)
include hp hn ha
end
section
variable {p : Int} {n : Nat} {a B : List (List Int)} {ld : Nat → Nat} (hP : isP p = true) (hn0 : 1 ≤ n) (hn : n ≤ 1000) (ha : Mat p n n a) (hB : Ech p (n + n) B ld) (hk : ∀ u, Kr p (n + n) B u ↔ KerP p n (n + n) (widem n a) u)
include hP hn0 hn ha hB hk
end

section
variable {p : Int} {n : Nat} {a : List (List Int)} (hP : isP p = true) (hn0 : 1 ≤ n) (hn : n ≤ 16) (ha : Mat p n n a)
include hP hn0 hn ha
end
end Go.Vam

/- Plain laws: the coordinates of a product; pure elements of few steps anticommute up to their pairing. -/
namespace Go.Vam
open Go Go.RowKit
set_option linter.unusedSimpArgs false
set_option linter.unusedVariables false
set_option linter.unusedSectionVars false

/-- Sums over all places are sums over all places moved. -/
theorem sum_xor (f : Nat → Int) : ∀ n, n ≤ 4 → ∀ m, m < 2 ^ n → ∀ s, sumN (fun i => f (s + (i ^^^ m))) (2 ^ n) = sumN (fun i => f (s + i)) (2 ^ n)
  | 0, _, m, hm, s => by
    have : m = 0 := by simpa using hm
    subst this; simp [sumN]
  | n + 1, hn, m, hm, s => by
    have hpow : 2 ^ (n + 1) = 2 ^ n + 2 ^ n := by rw [Nat.pow_succ]; omega
    have hX := xor_hi n (by omega)
    have ih := sum_xor f n (by omega)
    rw [hpow] at hm ⊢
    rw [sumN_split, sumN_split]
    rcases Nat.lt_or_ge m (2 ^ n) with h | h
    · congr 1
      · exact ih m h s
      · have e : sumN (fun k => f (s + ((2 ^ n + k) ^^^ m))) (2 ^ n) = sumN (fun k => f (s + 2 ^ n + (k ^^^ m))) (2 ^ n) := sumN_congr fun k hk => by rw [(hX k hk m h).2.1, Nat.add_assoc]
        rw [e, ih m h (s + 2 ^ n)]
        exact sumN_congr fun k hk => by rw [Nat.add_assoc]
    · obtain ⟨m', rfl⟩ := Nat.exists_eq_add_of_le h
      have hm' : m' < 2 ^ n := by omega
      have e1 : sumN (fun k => f (s + (k ^^^ (2 ^ n + m')))) (2 ^ n) = sumN (fun k => f (s + 2 ^ n + (k ^^^ m'))) (2 ^ n) := sumN_congr fun k hk => by rw [(hX k hk m' hm').1, Nat.add_assoc]
      have e2 : sumN (fun k => f (s + ((2 ^ n + k) ^^^ (2 ^ n + m')))) (2 ^ n) = sumN (fun k => f (s + (k ^^^ m'))) (2 ^ n) := sumN_congr fun k hk => by rw [(hX k hk m' hm').2.2]
      rw [e1, e2, ih m' hm' (s + 2 ^ n), ih m' hm' s, Int.add_comm]
      congr 1
      exact sumN_congr fun k hk => by rw [Nat.add_assoc]
theorem sum_xor0 (f : Nat → Int) {n m : Nat} (hn : n ≤ 4) (hm : m < 2 ^ n) : sumN (fun i => f (i ^^^ m)) (2 ^ n) = sumN f (2 ^ n) := by
  have := sum_xor f n hn m hm 0
  simpa only [Nat.zero_add] using this
theorem xor_back (i m : Nat) : (i ^^^ m) ^^^ m = i := by rw [Nat.xor_assoc, Nat.xor_self, Nat.xor_zero]

/-- The coordinates of a product. -/
theorem mulr_gen {p : Int} : ∀ (n : Nat), n ≤ 4 → ∀ (w x y : List Int) (m : Nat), m < 2 ^ n → gI (mulr p n w x y) m % p = sumN (fun i => gI x i * gI y (i ^^^ m) * axS n w i (i ^^^ m)) (2 ^ n) % p
  | 0, _, w, x, y, m, hm => by
    have : m = 0 := by simpa using hm
    subst this
    unfold mulr
    show gI x 0 * gI y 0 % p % p = _
    rw [emm]
    simp [sumN, axS]
  | n + 1, hn, w, x, y, m, hm => by
    have hpow : 2 ^ (n + 1) = 2 ^ n + 2 ^ n := by rw [Nat.pow_succ]; omega
    have hX := xor_hi n (by omega)
    have hlt : ∀ a b, a < 2 ^ n → b < 2 ^ n → a ^^^ b < 2 ^ n := fun a b ha hb => xor_lt ha hb
    have hre : ∀ (f : Nat → Int) (m : Nat), m < 2 ^ n → sumN (fun i => f (i ^^^ m)) (2 ^ n) = sumN f (2 ^ n) := fun f m h => sum_xor0 f (by omega) h
    have ih := mulr_gen (p := p) n (by omega) (w.take n)
    unfold mulr
    rw [hpow] at hm
    rw [hpow, sumN_split]
    generalize hd : 2 ^ n = d at hm hX hlt hre ih ⊢
    have hl : ∀ u v k, (plusv p d u v k).length = d := fun u v k => by unfold plusv; rw [vecN_len]
    rcases Nat.lt_or_ge m d with h | h
    · rw [gI_append, if_pos (by rw [hl]; exact h), plusv_at h, emm, Int.add_emod, ih _ _ m h, Int.mul_emod, ih _ _ m h, ← Int.mul_emod]
      have e1 : sumN (fun i => gI (x.take d) i * gI (y.take d) (i ^^^ m) * axS n (w.take n) i (i ^^^ m)) d = sumN (fun i => gI x i * gI y (i ^^^ m) * axS (n + 1) w i (i ^^^ m)) d := by
        refine sumN_congr fun i hi => ?_
        have hx := hlt i m hi h
        rw [gI_take hi, gI_take hx]
        conv => rhs; unfold axS
        rw [hd, if_pos hi, if_pos hx]
      have e2 : (gI w n * sumN (fun i => gI (starv p d (y.drop d)) i * gI (x.drop d) (i ^^^ m) * axS n (w.take n) i (i ^^^ m)) d) % p = sumN (fun i => gI x (d + i) * gI y ((d + i) ^^^ m) * axS (n + 1) w (d + i) ((d + i) ^^^ m)) d % p := by
        rw [← hre (fun i => gI (starv p d (y.drop d)) i * gI (x.drop d) (i ^^^ m) * axS n (w.take n) i (i ^^^ m)) m h, ← sumN_mulL]
        refine sumN_mod fun i hi => ?_
        have hx := hlt i m hi h
        have hb := xor_back i m
        conv => rhs; unfold axS
        rw [hd, (hX i hi m h).2.1, if_neg (by omega), if_neg (by omega), Nat.add_sub_cancel_left, Nat.add_sub_cancel_left, hb, gI_drop]
        have hs := starv_at (p := p) (a := y.drop d) hx
        rw [gI_drop] at hs
        have a1 : gI w n * (gI (starv p d (y.drop d)) (i ^^^ m) * gI x (d + i) * axS n (w.take n) (i ^^^ m) i) = gI (starv p d (y.drop d)) (i ^^^ m) * (gI w n * gI x (d + i) * axS n (w.take n) (i ^^^ m) i) := by grind
        rw [a1, mul_mod_l hs]
        congr 1
        grind
      rw [e2, e1, ← Int.add_emod]
    · obtain ⟨m', rfl⟩ := Nat.exists_eq_add_of_le h
      have hm' : m' < d := by omega
      rw [gI_append, if_neg (by rw [hl]; omega), hl, Nat.add_sub_cancel_left, plusv_at hm', emm, Int.add_emod, ih _ _ m' hm', Int.mul_emod, ih _ _ m' hm', ← Int.mul_emod, Int.one_mul]
      have e1 : sumN (fun i => gI (y.drop d) i * gI (x.take d) (i ^^^ m') * axS n (w.take n) i (i ^^^ m')) d = sumN (fun i => gI x i * gI y (i ^^^ (d + m')) * axS (n + 1) w i (i ^^^ (d + m'))) d := by
        rw [← hre (fun i => gI (y.drop d) i * gI (x.take d) (i ^^^ m') * axS n (w.take n) i (i ^^^ m')) m' hm']
        refine sumN_congr fun i hi => ?_
        have hx := hlt i m' hi hm'
        have hb := xor_back i m'
        conv => rhs; unfold axS
        rw [hd, (hX i hi m' hm').1, if_pos hi, if_neg (by omega), Nat.add_sub_cancel_left, hb, gI_drop, gI_take hi]
        grind
      have e2 : sumN (fun i => gI (x.drop d) i * gI (starv p d (y.take d)) (i ^^^ m') * axS n (w.take n) i (i ^^^ m')) d % p = sumN (fun i => gI x (d + i) * gI y ((d + i) ^^^ (d + m')) * axS (n + 1) w (d + i) ((d + i) ^^^ (d + m'))) d % p := by
        refine sumN_mod fun i hi => ?_
        have hx := hlt i m' hi hm'
        conv => rhs; unfold axS
        rw [hd, (hX i hi m' hm').2.2, if_neg (by omega), if_pos hx, Nat.add_sub_cancel_left, gI_drop]
        have hs := starv_at (p := p) (a := y.take d) hx
        rw [gI_take hx] at hs
        have a1 : gI x (d + i) * gI (starv p d (y.take d)) (i ^^^ m') * axS n (w.take n) i (i ^^^ m') = gI (starv p d (y.take d)) (i ^^^ m') * (gI x (d + i) * axS n (w.take n) i (i ^^^ m')) := by grind
        rw [a1, mul_mod_l hs]
        congr 1
        grind
      rw [e2, e1, ← Int.add_emod]

end Go.Vam

/- Plain law: FnMultiplicationMatrices. -/
namespace Go.Vam
open Go Go.RowKit
set_option linter.unusedSimpArgs false
set_option linter.unusedVariables false
set_option linter.unusedSectionVars false

section
variable {p : Int} {w x : List Int} (hP : isP p = true) (hl : w.length ≤ 4) (hw : Vec p w.length w) (hx : Vec p (2 ^ w.length) x)
include hP hl hw hx
end
end Go.Vam

/- Plain law: FnMultiplicationMatrices, the end. -/
namespace Go.Vam
open Go Go.RowKit
set_option linter.unusedSimpArgs false
set_option linter.unusedVariables false
set_option linter.unusedSectionVars false

section
variable {p : Int} {w x : List Int} (hw : w.length ≤ 1048576) (hx : x.length ≤ 1048576)
include hw hx
end
section
variable {p : Int} {w x : List Int} (hD : isDb p w = true) (hx : Vec p (2 ^ w.length) x)
include hD hx
end
section
variable {p : Int} {w a b : List Int} (hP : isP p = true) (hl : w.length ≤ 3) (hw : Vec p w.length w) (ha : Vec p (2 ^ w.length) a) (hb : Vec p (2 ^ w.length) b) (ha0 : gI a 0 = 0) (hb0 : gI b 0 = 0)
include hP hl hw ha hb ha0 hb0
end
end Go.Vam

/- Plain law: FnInverses. -/
namespace Go.Vam
open Go Go.RowKit
set_option linter.unusedSimpArgs false
set_option linter.unusedVariables false
set_option linter.unusedSectionVars false

end Go.Vam

/- Plain laws: triples. -/
namespace Go.Vam
open Go Go.RowKit
set_option linter.unusedSimpArgs false
set_option linter.unusedVariables false
set_option linter.unusedSectionVars false

/-! ### The laws' helpers -/
section
variable {a b c : List (List Int)}
end

/-! ### UnitTriple -/
section
variable {p : Int} {w a b : List Int} (hP : isP p = true) (hl : w.length ≤ 4) (hw : Vec p w.length w) (ha : Vec p (2 ^ w.length) a) (hb : Vec p (2 ^ w.length) b)
include hP hl hw ha hb
end
abbrev gT3 (l : List (List (List Int) × List (List Int) × List (List Int))) (k : Nat) : List (List Int) × List (List Int) × List (List Int) := l.getD k ([], [], [])
def szTs (l : List (List (List Int) × List (List Int) × List (List Int))) : Prop := l.length ≤ 1024 ∧ ∀ x ∈ l, szM x.1 ∧ szM x.2.1 ∧ szM x.2.2
theorem szTs.at {l : List (List (List Int) × List (List Int) × List (List Int))} (h : szTs l) {k : Nat} (hk : k < l.length) : szM (gT3 l k).1 ∧ szM (gT3 l k).2.1 ∧ szM (gT3 l k).2.2 := by
  have := h.2 _ (List.getElem_mem hk)
  rwa [getD_get hk ([], [], [])] at this
section
variable {p : Int} {w : List Int} {l : List (List (List Int) × List (List Int) × List (List Int))} (hw : w.length ≤ 1048576) (hz : szTs l)
include hw hz
end
end Go.Vam

/- Plain laws: triples, turned and multiplied. -/
namespace Go.Vam
open Go Go.RowKit
set_option linter.unusedSimpArgs false
set_option linter.unusedVariables false
set_option linter.unusedSectionVars false

end Go.Vam

/- Plain laws: loops: whether a table is one; its nucleus and its centre. -/
namespace Go.Vam
open Go Go.RowKit
set_option linter.unusedSimpArgs false
set_option linter.unusedVariables false
set_option linter.unusedSectionVars false

section
variable {a : List (List Int)} (hn : a.length ≤ 128) (hl : ∀ i, i < a.length → (gR a i).length = a.length)
include hn hl
end
section
variable {a : List (List Int)} (hn : a.length ≤ 128) (hm : Mat (a.length : Int) a.length a.length a)
include hn hm
end

section
variable {a : List (List Int)} (hn : a.length ≤ 128) (hm : Mat (a.length : Int) a.length a.length a)
include hn hm
end

end Go.Vam

/- Plain laws: AutomorphismFrom. -/
namespace Go.Vam
open Go Go.RowKit
set_option linter.unusedSimpArgs false
set_option linter.unusedVariables false
set_option linter.unusedSectionVars false

theorem axS_zero : ∀ (n : Nat) (w : List Int) (j : Nat), j < 2 ^ n → axS n w 0 j = 1 ∧ axS n w j 0 = 1
  | 0, w, j, h => by
    have : j = 0 := by simp at h; omega
    subst this
    exact ⟨rfl, rfl⟩
  | n + 1, w, j, h => by
    have hpos : 0 < 2 ^ n := Nat.two_pow_pos n
    rw [Nat.pow_succ] at h
    by_cases hj : j < 2 ^ n
    · have ih := axS_zero n (w.take n) j hj
      exact ⟨by simp only [axS, if_pos hpos, if_pos hj, ih.1], by simp only [axS, if_pos hpos, if_pos hj, ih.2]⟩
    · have ih := axS_zero n (w.take n) (j - 2 ^ n) (by omega)
      exact ⟨by simp only [axS, if_pos hpos, if_neg hj, ih.2], by simp only [axS, if_pos hpos, if_neg hj, ih.2, sgs, if_true, Int.mul_one]⟩
theorem axS_pow : ∀ (n : Nat) (w : List Int) (j k : Nat), k < n → j < 2 ^ k → axS n w j (2 ^ k) = 1
  | 0, _, _, _, h, _ => by omega
  | n + 1, w, j, k, hk, hj => by
    have hjn : j < 2 ^ n := Nat.lt_of_lt_of_le hj (Nat.pow_le_pow_right (by omega) (by omega))
    rcases Nat.lt_or_ge k n with h | h
    · have h2 : 2 ^ k < 2 ^ n := Nat.pow_lt_pow_right (by omega) h
      simp only [axS, if_pos hjn, if_pos h2]
      exact axS_pow n (w.take n) j k h hj
    · have : k = n := by omega
      subst this
      simp only [axS, if_pos hjn, if_neg (Nat.lt_irrefl _), Nat.sub_self]
      exact (axS_zero k (w.take k) j hjn).1

section
variable {p : Int} {w : List Int} (hP : isP p = true) (hl : w.length ≤ 4) (hw : Vec p w.length w)
include hP hl hw
theorem axm_val {i j : Nat} (hi : i < 2 ^ w.length) (hj : j < 2 ^ w.length) : gI (axm p w i j) (i ^^^ j) = axS w.length w i j % p := by
  have hm := xor_lt hi hj
  have hv := (axm_vec hP hl hw hi hj).get hm
  have h1 : gI (axm p w i j) (i ^^^ j) % p = _ := mulr_gen (p := p) w.length hl w (axis (2 ^ w.length) i) (axis (2 ^ w.length) j) (i ^^^ j) hm
  rw [Int.emod_eq_of_lt hv.1 hv.2] at h1
  rw [h1, sumN_one hi (fun q hq hqi => by rw [gI_axis hi, if_neg hqi]; simp)]
  have hx : i ^^^ (i ^^^ j) = j := by rw [← Nat.xor_assoc, Nat.xor_self, Nat.zero_xor]
  rw [hx, gI_axis hi, if_pos rfl, gI_axis hj, if_pos rfl]
  simp
theorem one_mulp {x : List Int} (hx : Vec p (2 ^ w.length) x) : mulp p w (axis (2 ^ w.length) 0) x = x := by
  have hp := isP_le hP
  have hpos := two_pos w.length
  have hv := mulp_vec hP hl hw (axis_vec (by omega) hpos) hx
  have e1 : mulp p w (axis (2 ^ w.length) 0) x = vecN (2 ^ w.length) (gI x) := extI hv.1 fun m hm => by
    have h2 := hv.get hm
    have h1 : gI (mulp p w (axis (2 ^ w.length) 0) x) m % p = _ := mulr_gen (p := p) w.length hl w (axis (2 ^ w.length) 0) x m hm
    rw [Int.emod_eq_of_lt h2.1 h2.2] at h1
    rw [h1, sumN_one hpos (fun q hq hqi => by rw [gI_axis hpos, if_neg hqi]; simp), Nat.zero_xor, gI_axis hpos, if_pos rfl, (axS_zero w.length w m hm).1]
    have h3 := hx.get hm
    simp only [Int.one_mul, Int.mul_one]
    exact Int.emod_eq_of_lt h3.1 h3.2
  have e2 : x = vecN (2 ^ w.length) (gI x) := extI hx.1 fun m _ => rfl
  rw [e1]; exact e2.symm
theorem prod_one {j k : Nat} (hk : k < w.length) (hj : j < 2 ^ k) : gI (gR (prodm p w) j) (2 ^ k) = 1 := by
  have hp := isP_le hP
  have h2 : 2 ^ k < 2 ^ w.length := Nat.pow_lt_pow_right (by omega) hk
  unfold prodm
  rw [gR_vecN _ (by omega), gI_vecN _ h2, axm_val hP hl hw (by omega) h2, axS_pow w.length w j k hk hj]
  exact Int.emod_eq_of_lt (by omega) (by omega)
end
/-- The columns behind k images. -/
def colsN (p : Int) (w : List Int) (a : List (List Int)) : Nat → List (List Int)
  | 0 => [axis (2 ^ w.length) 0]
  | k + 1 => colsN p w a k ++ (colsN p w a k).map fun x => mulp p w x (gR a k)
theorem colsN_len (p : Int) (w : List Int) (a : List (List Int)) : ∀ k, (colsN p w a k).length = 2 ^ k
  | 0 => rfl
  | k + 1 => by simp [colsN, colsN_len p w a k, Nat.pow_succ]; omega
theorem colsN_zero (p : Int) (w : List Int) (a : List (List Int)) : ∀ k, gR (colsN p w a k) 0 = axis (2 ^ w.length) 0
  | 0 => rfl
  | k + 1 => by
    have h := colsN_zero p w a k
    have hl := colsN_len p w a k
    have hpos : 0 < 2 ^ k := Nat.two_pow_pos k
    unfold gR at h ⊢
    simp only [colsN]
    rw [List.getD_eq_getElem?_getD, List.getElem?_append_left (by omega), ← List.getD_eq_getElem?_getD]
    exact h
theorem colsN_vec {p : Int} {w : List Int} {a : List (List Int)} (hP : isP p = true) (hl : w.length ≤ 4) (hw : Vec p w.length w) (ha : ∀ k, k < a.length → Vec p (2 ^ w.length) (gR a k)) : ∀ k, k ≤ a.length → ∀ x ∈ colsN p w a k, Vec p (2 ^ w.length) x
  | 0, _, x, hx => by
    simp only [colsN, List.mem_cons, List.not_mem_nil, or_false] at hx
    subst hx
    exact axis_vec (by have := isP_le hP; omega) (two_pos _)
  | k + 1, hk, x, hx => by
    have ih := colsN_vec hP hl hw ha k (by omega)
    simp only [colsN, List.mem_append, List.mem_map] at hx
    rcases hx with hx | ⟨y, hy, rfl⟩
    · exact ih x hx
    · exact mulp_vec hP hl hw (ih y hy) (ha k (by omega))

theorem foldN_map (C z : List (List Int)) (F : List Int → List Int) : ∀ n, foldN (fun j s => s ++ [F (gR C j)]) z n = z ++ (List.range n).map fun j => F (gR C j)
  | 0 => by simp [foldN]
  | n + 1 => by simp [foldN, foldN_map C z F n, List.range_succ]
theorem range_map_gR (C : List (List Int)) (F : List Int → List Int) : ((List.range C.length).map fun j => F (gR C j)) = C.map F := by
  apply List.ext_getElem
  · simp
  · intro i h1 h2
    simp only [List.getElem_map, List.getElem_range]
    rw [gR_get (by simpa using h2)]
section
variable {p : Int} {w : List Int} {a : List (List Int)} (hP : isP p = true) (hl : w.length ≤ 3) (hw : Vec p w.length w) (hal : a.length = w.length) (ha : ∀ k, k < a.length → Vec p (2 ^ w.length) (gR a k))
include hP hl hw hal ha
theorem cols_row {k : Nat} (hk : k ≤ a.length) {j : Nat} (hj : j < 2 ^ k) : Vec p (2 ^ w.length) (gR (colsN p w a k) j) := by
  have hlen := colsN_len p w a k
  refine colsN_vec hP (by omega) hw ha k hk _ ?_
  rw [← gR_get (show j < (colsN p w a k).length by omega)]
  exact List.getElem_mem _
theorem pow_le8 {k : Nat} (hk : k ≤ a.length) : 2 ^ k ≤ 8 := by
  have : 2 ^ k ≤ 2 ^ 3 := Nat.pow_le_pow_right (by omega) (by omega)
  omega
theorem i_inner_cols {k : Nat} (hk : k < a.length) : loop (i_AutomorphismFrom_L1 p w (colsN p w a k, (k : Int)) (gR a k)) BIG (colsN p w a k, 0) = some (colsN p w a (k + 1)) := by
  have hlen := colsN_len p w a k
  have h8 := pow_le8 hP hl hw hal ha (k := k) (by omega)
  obtain ⟨h1, _⟩ := fold_loop (i_AutomorphismFrom_L1 p w (colsN p w a k, (k : Int)) (gR a k)) (colsN p w a k).length (fun j s => s ++ [mulp p w (gR (colsN p w a k) j) (gR a k)]) (colsN p w a k) (fun j s => s.length = (colsN p w a k).length + j) id (by rw [BIG_val]; omega) (by simp)
    (fun j s hj hs => by simp [hs]; omega)
    (fun j s hj hs => by
      unfold i_AutomorphismFrom_L1
      have hv := cols_row hP hl hw hal ha (k := k) (by omega) (show j < 2 ^ k by omega)
      simp only [show (j : Int) < ((colsN p w a k).length : Int) by omega, if_true, idxR hj, some_bind, i_Doubling_times_eq hP (by omega) hw hv (ha k hk)]
      rw [chk_bind (by simp only [List.length_cons, List.length_nil]; omega), w_in (by omega) (by omega)]
      rfl) (fun s hs => by
      unfold i_AutomorphismFrom_L1
      simp)
  have e : ((List.range (colsN p w a k).length).map fun j => mulp p w (gR (colsN p w a k) j) (gR a k)) = (colsN p w a k).map fun x => mulp p w x (gR a k) := range_map_gR (colsN p w a k) fun x => mulp p w x (gR a k)
  rw [h1, foldN_map (colsN p w a k) (colsN p w a k) (fun x => mulp p w x (gR a k)), e]
  rfl
theorem i_cols : loop (i_AutomorphismFrom_L0 p w a) BIG ([axis (2 ^ w.length) 0], 0) = some (colsN p w a a.length) := by
  refine loop_for (fun k => (colsN p w a k, (k : Int))) a.length (by rw [BIG_val]; omega) rfl ?_ ?_
  · intro k hk
    unfold i_AutomorphismFrom_L0
    have hlen := colsN_len p w a k
    have h8 := pow_le8 hP hl hw hal ha (k := k) (by omega)
    simp only [show (k : Int) < (a.length : Int) by omega, if_true, idxR hk, some_bind]
    rw [chk_bind (by omega), i_inner_cols hP hl hw hal ha hk, some_bind, w_in (by omega) (by omega)]
    rfl
  · unfold i_AutomorphismFrom_L0
    simp
theorem inv_one : s_l01Inv p 1 = some 1 := by
  have hp := isP_le hP
  rw [s_l01Inv_eq hP (by omega) (by omega)]
  obtain ⟨h1, h2, h3⟩ := inv_facts (a := 1) hP (by omega) (by omega)
  rw [Int.one_mul, Int.emod_eq_of_lt (by omega) h2] at h3
  rw [h3]
theorem scale_one {x : List Int} (hx : Vec p (2 ^ w.length) x) : s_l11Scale p 1 x = some x := by
  have hp := isP_le hP
  rw [s_l11Scale_eq (n := 2 ^ w.length) hp.1 hp.2 (by have := two_le (show w.length ≤ 4 by omega); omega) (by omega) (by omega) hx]
  congr 1
  have e2 : x = vecN (2 ^ w.length) (gI x) := extI hx.1 fun m _ => rfl
  conv => rhs; rw [e2]
  unfold scalev
  refine vecN_congr fun i hi => ?_
  have := hx.get hi
  rw [Int.mul_one]
  exact Int.emod_eq_of_lt this.1 this.2
theorem s_inner_cols {k : Nat} (hk : k < a.length) : loop (s_AutomorphismFrom_L1 p w (prodm p w) (colsN p w a k, (k : Int)) (gR a k)) BIG (colsN p w a k ++ [gR a k], 1) = some (colsN p w a (k + 1)) := by
  have hlen := colsN_len p w a k
  have h8 := pow_le8 hP hl hw hal ha (k := k) (by omega)
  have hpos : 0 < 2 ^ k := Nat.two_pow_pos k
  have hshl : shl .i64 1 (IntKind.u64.wrap (k : Int)) = ((2 ^ k : Nat) : Int) := by
    have : k = 0 ∨ k = 1 ∨ k = 2 := by omega
    rcases this with rfl | rfl | rfl <;> rfl
  have h2w : 2 ^ k < 2 ^ w.length := Nat.pow_lt_pow_right (by omega) (by omega)
  have hpm := prodm_mat hP (by omega) hw
  have hfin : colsN p w a (k + 1) = colsN p w a k ++ [gR a k] ++ (List.range (2 ^ k - 1)).map fun t => mulp p w (gR (colsN p w a k) (t + 1)) (gR a k) := by
    show colsN p w a k ++ (colsN p w a k).map (fun x => mulp p w x (gR a k)) = _
    rw [← range_map_gR (colsN p w a k) fun x => mulp p w x (gR a k), hlen]
    obtain ⟨m, hm⟩ : ∃ m, 2 ^ k = m + 1 := ⟨2 ^ k - 1, by omega⟩
    rw [hm, List.range_succ_eq_map]
    simp only [List.map_cons, List.map_map, colsN_zero, one_mulp hP (show w.length ≤ 4 by omega) hw (ha k hk), Nat.add_sub_cancel, List.append_assoc, List.singleton_append]
    rfl
  refine loop_for (fun j => (colsN p w a k ++ [gR a k] ++ (List.range j).map (fun t => mulp p w (gR (colsN p w a k) (t + 1)) (gR a k)), ((j + 1 : Nat) : Int))) (2 ^ k - 1) (by rw [BIG_val]; omega) (by simp) ?_ ?_
  · intro j hj
    unfold s_AutomorphismFrom_L1
    have hv := cols_row hP hl hw hal ha (k := k) (by omega) (show j + 1 < 2 ^ k by omega)
    have hmv := mulp_vec hP (show w.length ≤ 4 by omega) hw hv (ha k hk)
    have hpl := hpm.1
    have hrow := (hpm.row (show j + 1 < 2 ^ w.length by omega)).1
    have hidx : idx (colsN p w a k ++ [gR a k] ++ (List.range j).map (fun t => mulp p w (gR (colsN p w a k) (t + 1)) (gR a k))) ((j + 1 : Nat) : Int) = some (gR (colsN p w a k) (j + 1)) := by
      rw [idxR (by simp; omega)]
      congr 1
      unfold gR
      rw [List.getD_eq_getElem?_getD, List.append_assoc, List.getElem?_append_left (by omega), ← List.getD_eq_getElem?_getD]
    simp only [hshl, show ((j + 1 : Nat) : Int) < ((2 ^ k : Nat) : Int) by omega, if_true, idxR (show j + 1 < (prodm p w).length by omega), idxI (show 2 ^ k < (gR (prodm p w) (j + 1)).length by omega), some_bind,
      prod_one hP (show w.length ≤ 4 by omega) hw (show k < w.length by omega) (show j + 1 < 2 ^ k by omega), inv_one hP hl hw hal ha, hidx, s_l11Times_eq hP (show w.length ≤ 4 by omega) hw hv (ha k hk), scale_one hP hl hw hal ha hmv]
    rw [chk_bind (by simp; omega), w_in (by omega) (by omega)]
    congr 3
    simp [List.range_succ]
  · unfold s_AutomorphismFrom_L1
    rw [hfin, hshl]
    have : ¬ (((2 ^ k - 1 + 1 : Nat) : Int) < ((2 ^ k : Nat) : Int)) := by omega
    simp only [this, if_false]
theorem s_cols : loop (s_AutomorphismFrom_L0 p w a (prodm p w)) BIG ([axis (2 ^ w.length) 0], 0) = some (colsN p w a a.length) := by
  refine loop_for (fun k => (colsN p w a k, (k : Int))) a.length (by rw [BIG_val]; omega) rfl ?_ ?_
  · intro k hk
    unfold s_AutomorphismFrom_L0
    have hlen := colsN_len p w a k
    have h8 := pow_le8 hP hl hw hal ha (k := k) (by omega)
    have h16 := two_le (show w.length ≤ 4 by omega)
    have hva := (ha k hk).1
    have hwr : (0 : Int) ≤ IntKind.u64.wrap (k : Int) := by
      have : k = 0 ∨ k = 1 ∨ k = 2 := by omega
      rcases this with rfl | rfl | rfl <;> decide
    simp only [show (k : Int) < (a.length : Int) by omega, if_true]
    rw [chk_bind hwr, idxR hk, some_bind, s_l01Own_eq (by omega), some_bind, chk_bind (by simp only [List.length_cons, List.length_nil]; omega), s_inner_cols hP hl hw hal ha hk, some_bind, w_in (by omega) (by omega)]
    rfl
  · unfold s_AutomorphismFrom_L0
    simp
end

theorem AutomorphismFrom_eq {p : Int} {w : List Int} {a : List (List Int)} (hw : w.length ≤ 1048576) (hz : szM a) :
    ∃ V C, s_AutomorphismFrom p w a = some (V, C) ∧ i_AutomorphismFrom p w a = some (V, C) ∧ smallM V := by
  unfold s_AutomorphismFrom i_AutomorphismFrom
  rw [s_l14Elements_eq hw hz, i_checkThree_eq hw hz (by simp) (by simp), some_bind, some_bind]
  by_cases h0 : thC p w a [] = 0
  rotate_left
  · simp only [h0, not_false_eq_true, if_true]
    exact ⟨_, _, rfl, rfl, smallM.nil⟩
  obtain ⟨a1, hl3, a3, _⟩ := thC_zero h0
  obtain ⟨hP, hl, hw', _⟩ := isDb_iff a1
  by_cases hal : a.length = w.length
  rotate_left
  · simp only [h0, not_true_eq_false, if_false, show ((a.length : Int) = (w.length : Int)) = False from eq_false (by omega), not_false_eq_true, if_true]
    exact ⟨_, _, rfl, rfl, smallM.nil⟩
  have hp := isP_le hP
  have h16 := two_le hl
  have hpos := two_pos w.length
  have ha : ∀ k, k < a.length → Vec p (2 ^ w.length) (gR a k) := fun k hk => a3 _ (by rw [← gR_get hk]; exact List.getElem_mem _)
  have hel : i_Doubling_element p w 0 = some (axis (2 ^ w.length) 0) := by
    unfold i_Doubling_element
    have e1 := (unitm_mat (p := p) (by omega) (2 ^ w.length)).1
    rw [i_Doubling_size_eq hl, some_bind, i_unit_eq (by omega), some_bind, idxR0 (by omega), some_bind, gR_unitm hpos]
  have hone : s_l11One p w 0 = some (axis (2 ^ w.length) 0) := s_l11One_eq (k := 0) hl hpos
  have hcl := colsN_len p w a a.length
  have hcm : Mat p (2 ^ w.length) (2 ^ w.length) (colsN p w a a.length) := ⟨by rw [hcl, hal], fun i hi => cols_row hP hl3 hw' hal ha (Nat.le_refl _) (by rw [hal]; exact hi)⟩
  have hT := turnm_mat hcm
  have t1 := i_transpose_eq hpos (by omega) (by omega) hcm
  have t2 := s_l11Columns_eq (by omega) hcm
  obtain ⟨b, b1, b2⟩ := Automorphism_eq (p := p) (w := w) (m := turnm (2 ^ w.length) (2 ^ w.length) (colsN p w a a.length)) hP hl hw' hT
  simp only [h0, not_true_eq_false, if_false, hal, s_l11Basis_eq hP hl hw', hone, hel, some_bind]
  have c1 := s_cols hP hl3 hw' hal ha
  have c2 := i_cols hP hl3 hw' hal ha
  simp only [hal] at c1 c2 t1 t2 b1 b2 hT
  simp only [c1, c2, some_bind, t1, t2, b1, b2]
  cases b with
  | false => exact ⟨_, _, rfl, rfl, smallM.nil⟩
  | true => exact ⟨_, _, rfl, rfl, smallM.of hT (by omega) (by omega)⟩
theorem LawAutomorphismFrom {p : Int} {w : List Int} {a : List (List Int)} (hw : lenI w) (hm : lenM a) : l_FnExactAutomorphismFrom p w a = some true := by
  unfold l_FnExactAutomorphismFrom
  rw [szDb_eq hw (by omega) (by omega), some_bind]
  by_cases h1 : ((w.length : Nat) : Int) ≤ 1048576
  rotate_left
  · have hs : szv w.length 1048576 = -1 := by unfold szv; rw [if_neg h1]
    rw [hs, if_pos (by omega)]
  have hs : szv w.length 1048576 = 1048576 - ((w.length : Nat) : Int) := by unfold szv; rw [if_pos h1]
  rw [hs, if_neg (by omega), szM_eq hm (by omega) (by omega), some_bind]
  by_cases h2 : ((a.length + rowsum a : Nat) : Int) ≤ 1048576 - ((w.length : Nat) : Int)
  rotate_left
  · have hs2 : szv (a.length + rowsum a) (1048576 - ((w.length : Nat) : Int)) = -1 := by unfold szv; rw [if_neg h2]
    rw [hs2, if_pos (by omega)]
  have hs2 : szv (a.length + rowsum a) (1048576 - ((w.length : Nat) : Int)) = 1048576 - ((w.length : Nat) : Int) - ((a.length + rowsum a : Nat) : Int) := by unfold szv; rw [if_pos h2]
  rw [hs2, if_neg (by omega)]
  obtain ⟨za, ra⟩ := sz_split (m := a) (by omega) h2
  have hw' : w.length ≤ 1048576 := by omega
  obtain ⟨V, C, e3, e4, z1, z2, z3⟩ := AutomorphismFrom_eq (p := p) hw' za
  have e1 := toM_eq za.1 za.2
  have e2 := toDb_eq (p := p) hw'
  have e5 := eqDb_self (p := p) hw'
  have e6 := eqM_self za
  have e7 := eqM_self (m := V) ⟨z1, z2⟩
  have e8 := markDb_1 (p := p) hw'
  have e9 : l_markInt64SS a ((1 + w.length : Nat) : Int) = some (((1 + w.length + rowsum a : Nat) : Int), mrkM (1 + w.length) a) := markM_eq (by have := za.1; omega) (by omega)
  have e10 := markM_1 z1 z3
  have e11 := heldM_1 z1 z3
  simp only [e1, e2, e3, e4, e5, e6, e7, e8, e9, e10, e11, some_bind, Bool.true_eq_false, Bool.false_eq_true, if_false, if_true, ieq_self, Bool.not_true, natneg, not_true_eq_false, bne_self_eq_false]
end Go.Vam
