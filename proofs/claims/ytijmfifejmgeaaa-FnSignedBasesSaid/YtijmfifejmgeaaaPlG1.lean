import Derived.Test.YtijmfifejmgeaaaFmG0
import Derived.Test.YtijmfifejmgeaaaPlG0
/- Plain laws: decompositions into reflections; HasSquareNorm. -/
namespace Go.Vam
open Go Go.RowKit
set_option linter.unusedSimpArgs false
set_option linter.unusedVariables false
set_option linter.unusedSectionVars false

section
variable {p : Int} {n : Nat} {w u : List Int} (hP : isP p = true) (hn0 : 0 < n) (hn : n ≤ 1000) (hwl : w.length = n) (hw : Vec p n w) (hu : Vec p n u) (hQ : pairp p n w u u ≠ 0)
include hP hn0 hn hwl hw hu hQ
end
/-- Rows of n numbers each. -/
def RowsV (p : Int) (n : Nat) (L : List (List Int)) : Prop := ∀ r ∈ L, Vec p n r
section
variable {p : Int} {n : Nat} {w : List Int} (hP : isP p = true) (hn0 : 0 < n) (hn : n ≤ 1000) (hwl : w.length = n) (hw : Vec p n w) (hz : ∀ k, k < n → gI w k ≠ 0)
include hP hn0 hn hwl hw hz
end
end Go.Vam

/- Plain laws: systems of equations and spans. -/
namespace Go.Vam
open Go Go.RowKit
set_option linter.unusedSimpArgs false
set_option linter.unusedVariables false
set_option linter.unusedSectionVars false

theorem likeI_self {v : List Int} (h : v.length ≤ 1048576) : l_likeInts v v = some true := by
  unfold l_likeInts
  simp only [not_true_eq_false, if_false]
  obtain ⟨b, h1, h2⟩ := any_loop (l_likeInts_L0 v v) v.length (fun _ => false) (fun _ => true) (by rw [BIG_val]; omega)
    (fun k hk _ => by
      unfold l_likeInts_L0
      simp only [lt_cast hk, if_true, idxI hk, some_bind, not_true_eq_false, if_false]
      rw [w_in (by omega) (by omega)]; rfl) (fun k hk hf => by cases hf) (by
      unfold l_likeInts_L0
      simp only [lt_cast_self, if_false])
  rcases h2 with ⟨rfl, _⟩ | ⟨k, _, _, hf, _⟩
  · rw [h1, some_bind]
  · cases hf
end Go.Vam

/- Plain law: FnKernels. -/
namespace Go.Vam
open Go Go.RowKit
set_option linter.unusedSimpArgs false
set_option linter.unusedVariables false
set_option linter.unusedSectionVars false

theorem likeR_self {m : List (List Int)} (h : szM m) : l_likeRows5 m m = some true := by
  unfold l_likeRows5
  simp only [not_true_eq_false, if_false]
  have h1 := h.1
  obtain ⟨b, h1, h2⟩ := any_loop (l_likeRows5_L0 m m) m.length (fun _ => false) (fun _ => true) (by rw [BIG_val]; omega)
    (fun k hk _ => by
      unfold l_likeRows5_L0
      have hr : (gR m k).length ≤ 1048576 := h.2 _ (by rw [← gR_get hk]; exact List.getElem_mem hk)
      simp only [lt_cast hk, if_true, idxR hk, some_bind, likeI_self hr, Bool.true_eq_false, if_false]
      rw [w_in (by omega) (by omega)]; rfl) (fun k hk hf => by cases hf) (by
      unfold l_likeRows5_L0
      simp only [lt_cast_self, if_false])
  rcases h2 with ⟨rfl, _⟩ | ⟨k, _, _, hf, _⟩
  · rw [h1, some_bind]
  · cases hf
end Go.Vam

/- Plain laws: determinants of numbers, by expansion; they are multiplied with tables. -/
namespace Go.Vam
open Go Go.RowKit
set_option linter.unusedSimpArgs false
set_option linter.unusedVariables false
set_option linter.unusedSectionVars false

def skipN (i a : Nat) : Nat := if a < i then a else a + 1
def sgnN (i : Nat) : Int := if i % 2 = 0 then 1 else -1
/-- The determinant of the first n rows and columns, expanded along column 0. -/
def detN : Nat → (Nat → Nat → Int) → Int
  | 0, _ => 1
  | n + 1, M => sumN (fun i => sgnN i * M i 0 * detN n (fun a b => M (skipN i a) (b + 1))) (n + 1)
theorem sgnN_succ (i : Nat) : sgnN (i + 1) = - sgnN i := by
  unfold sgnN
  rcases Nat.mod_two_eq_zero_or_one i with h | h
  · rw [if_neg (by omega), if_pos h]
  · rw [if_pos (by omega), if_neg (by omega)]; rfl
theorem skipN_lt {n i a : Nat} (ha : a < n) : skipN i a < n + 1 := by unfold skipN; split <;> omega
theorem detN_congr : ∀ (n : Nat) {M M' : Nat → Nat → Int}, (∀ i, i < n → ∀ j, j < n → M i j = M' i j) → detN n M = detN n M'
  | 0, _, _, _ => rfl
  | n + 1, M, M', h => by
    unfold detN
    refine sumN_congr fun i hi => ?_
    rw [h i hi 0 (by omega), detN_congr n fun a ha b hb => h _ (skipN_lt ha) (b + 1) (by omega)]
theorem dvd_mul_sub {p a b x y : Int} (h1 : p ∣ a - b) (h2 : p ∣ x - y) : p ∣ a * x - b * y := by
  have e : a * x - b * y = (a - b) * x + b * (x - y) := by rw [Int.sub_mul, Int.mul_sub]; omega
  rw [e]
  exact Int.dvd_add (Int.dvd_mul_of_dvd_left h1) (Int.dvd_mul_of_dvd_right h2)
theorem sumN_cong_dvd {p : Int} {f g : Nat → Int} {n : Nat} (h : ∀ k, k < n → p ∣ f k - g k) : p ∣ sumN f n - sumN g n := by
  rw [← sumN_sub]; exact sumN_dvd h
theorem detN_mod {p : Int} : ∀ (n : Nat) {M M' : Nat → Nat → Int}, (∀ i, i < n → ∀ j, j < n → p ∣ M i j - M' i j) → p ∣ detN n M - detN n M'
  | 0, _, _, _ => by unfold detN; simp
  | n + 1, M, M', h => by
    unfold detN
    refine sumN_cong_dvd fun i hi => ?_
    refine dvd_mul_sub (dvd_mul_sub (by simp) (h i hi 0 (by omega))) (detN_mod n fun a ha b hb => h _ (skipN_lt ha) (b + 1) (by omega))

/-- Row i replaced. -/
def rowU (M : Nat → Nat → Int) (i : Nat) (r : Nat → Int) : Nat → Nat → Int := fun a b => if a = i then r b else M a b
theorem rowU_self (M : Nat → Nat → Int) (i : Nat) : rowU M i (M i) = M := by
  funext a b; unfold rowU; split
  · rename_i h; rw [h]
  · rfl
/-- Where row i stands when row k is left out. -/
def backN (k i : Nat) : Nat := if i < k then i else i - 1
theorem skipN_eq {k i a : Nat} (h : i ≠ k) : skipN k a = i ↔ a = backN k i := by
  unfold skipN backN
  constructor
  · intro e; split at e <;> split <;> omega
  · intro e; split at e <;> split <;> omega
theorem backN_lt {n k i : Nat} (hk : k < n + 1) (hi : i < n + 1) (h : i ≠ k) : backN k i < n := by unfold backN; split <;> omega
theorem minor_rowU {M : Nat → Nat → Int} {i k : Nat} {r : Nat → Int} (h : i ≠ k) : (fun a b => rowU M i r (skipN k a) (b + 1)) = rowU (fun a b => M (skipN k a) (b + 1)) (backN k i) (fun b => r (b + 1)) := by
  funext a b
  unfold rowU
  by_cases e : skipN k a = i
  · rw [if_pos e, if_pos ((skipN_eq h).1 e)]
  · rw [if_neg e, if_neg fun e' => e ((skipN_eq h).2 e')]
theorem minor_rowU_self {M : Nat → Nat → Int} {i : Nat} {r : Nat → Int} : (fun a b => rowU M i r (skipN i a) (b + 1)) = (fun a b => M (skipN i a) (b + 1)) := by
  funext a b
  unfold rowU
  rw [if_neg (by unfold skipN; split <;> omega)]
theorem detN_lin : ∀ (n : Nat) (M : Nat → Nat → Int) (i : Nat) (r s : Nat → Int) (c : Int), i < n →
    detN n (rowU M i (fun b => r b + c * s b)) = detN n (rowU M i r) + c * detN n (rowU M i s)
  | 0, _, _, _, _, _, h => by omega
  | n + 1, M, i, r, s, c, h => by
    unfold detN
    rw [← sumN_lin]
    refine sumN_congr fun k hk => ?_
    by_cases e : i = k
    · subst e
      rw [minor_rowU_self, minor_rowU_self, minor_rowU_self]
      simp only [rowU, if_true]
      grind
    · rw [minor_rowU e, minor_rowU e, minor_rowU e, detN_lin n _ _ (fun b => r (b + 1)) (fun b => s (b + 1)) c (backN_lt hk h e)]
      simp only [rowU, if_neg fun e' : k = i => e e'.symm]
      grind
theorem detN_adj : ∀ (n : Nat) (M : Nat → Nat → Int) (i : Nat), i + 1 < n → (∀ b, M i b = M (i + 1) b) → detN n M = 0
  | 0, _, _, h, _ => by omega
  | n + 1, M, i, h, he => by
    unfold detN
    rw [sumN_two (i := i) (k := i + 1) (by omega) h (by omega) fun k hk h1 h2 => ?_]
    · have e : (fun a b => M (skipN (i + 1) a) (b + 1)) = (fun a b => M (skipN i a) (b + 1)) := by
        funext a b
        by_cases ha : a = i
        · subst ha
          have e1 : skipN (a + 1) a = a := by unfold skipN; rw [if_pos (by omega)]
          have e2 : skipN a a = a + 1 := by unfold skipN; rw [if_neg (by omega)]
          rw [e1, e2]; exact he _
        · have : skipN (i + 1) a = skipN i a := by unfold skipN; split <;> split <;> omega
          rw [this]
      rw [e, sgnN_succ, he 0]
      grind
    · have : detN n (fun a b => M (skipN k a) (b + 1)) = 0 := by
        by_cases hki : k < i
        · refine detN_adj n _ (i - 1) (by omega) fun b => ?_
          have e1 : skipN k (i - 1) = i := by unfold skipN; rw [if_neg (by omega)]; omega
          have e2 : skipN k (i - 1 + 1) = i + 1 := by unfold skipN; rw [if_neg (by omega)]; omega
          simp only [e1, e2]; exact he _
        · refine detN_adj n _ i (by omega) fun b => ?_
          have e1 : skipN k i = i := by unfold skipN; rw [if_pos (by omega)]
          have e2 : skipN k (i + 1) = i + 1 := by unfold skipN; rw [if_pos (by omega)]
          simp only [e1, e2]; exact he _
      rw [this, Int.mul_zero]
theorem detN_swap_of {n i k : Nat} (hi : i < n) (hk : k < n) (hne : i ≠ k) (alt : ∀ M : Nat → Nat → Int, (∀ b, M i b = M k b) → detN n M = 0) (M : Nat → Nat → Int) :
    detN n (rowU (rowU M i (M k)) k (M i)) = - detN n M := by
  have key : ∀ r s : Nat → Int, detN n (rowU (rowU M i r) k s) + detN n (rowU (rowU M i s) k r) = 0 := by
    intro r s
    have h0 := alt (rowU (rowU M i (fun b => r b + 1 * s b)) k (fun b => r b + 1 * s b)) fun b => by
      simp only [rowU, if_true, if_neg hne]
    have h1 := alt (rowU (rowU M i r) k r) fun b => by simp only [rowU, if_true, if_neg hne]
    have h2 := alt (rowU (rowU M i s) k s) fun b => by simp only [rowU, if_true, if_neg hne]
    have cm : ∀ u v : Nat → Int, rowU (rowU M i u) k v = rowU (rowU M k v) i u := by
      intro u v; funext a b; unfold rowU
      by_cases a1 : a = i
      · subst a1; rw [if_neg hne, if_pos rfl, if_pos rfl]
      · simp only [if_neg a1]
    rw [detN_lin n (rowU M i (fun b => r b + 1 * s b)) k r s 1 hk, cm, cm, detN_lin n (rowU M k r) i r s 1 hi, detN_lin n (rowU M k s) i r s 1 hi] at h0
    rw [cm] at h1 h2
    rw [cm, cm]
    omega
  have h := key (M k) (M i)
  have e : rowU (rowU M i (M i)) k (M k) = M := by rw [rowU_self, rowU_self]
  rw [e] at h
  omega
theorem detN_alt {n : Nat} : ∀ (t i : Nat) (M : Nat → Nat → Int), i + 1 + t < n → (∀ b, M i b = M (i + 1 + t) b) → detN n M = 0
  | 0, i, M, h, he => detN_adj n M i h he
  | t + 1, i, M, h, he => by
    have hs := detN_swap_of (n := n) (i := i + 1 + t) (k := i + 1 + (t + 1)) (by omega) h (by omega) (fun M hM => detN_adj n M (i + 1 + t) (by omega) hM) M
    have h0 := detN_alt (n := n) t i (rowU (rowU M (i + 1 + t) (M (i + 1 + (t + 1)))) (i + 1 + (t + 1)) (M (i + 1 + t))) (by omega) fun b => by
      simp only [rowU, if_true, if_neg (show i ≠ i + 1 + (t + 1) by omega), if_neg (show i ≠ i + 1 + t by omega), if_neg (show i + 1 + t ≠ i + 1 + (t + 1) by omega)]
      exact he b
    omega
theorem detN_same {n i k : Nat} (hi : i < n) (hk : k < n) (hne : i ≠ k) (M : Nat → Nat → Int) (he : ∀ b, M i b = M k b) : detN n M = 0 := by
  rcases Nat.lt_or_gt_of_ne hne with h | h
  · exact detN_alt (k - i - 1) i M (by omega) fun b => by rw [he b]; congr 1; omega
  · exact detN_alt (i - k - 1) k M (by omega) fun b => by rw [← he b]; congr 1; omega
/-- Multiples of row k added to all others. -/
theorem detN_clear {n k : Nat} (hk : k < n) (M : Nat → Nat → Int) (c : Nat → Int) : detN n (fun a b => if a = k then M k b else M a b + c a * M k b) = detN n M := by
  have key : ∀ m, m ≤ n → detN n (fun a b => if a = k then M k b else if a < m then M a b + c a * M k b else M a b) = detN n M := by
    intro m
    induction m with
    | zero =>
      intro _
      refine detN_congr n fun a ha b hb => ?_
      by_cases e : a = k
      · rw [if_pos e, e]
      · rw [if_neg e, if_neg (by omega)]
    | succ m ih =>
      intro hm
      rw [← ih (by omega)]
      by_cases e : m = k
      · refine detN_congr n fun a ha b hb => ?_
        by_cases e2 : a = k
        · rw [if_pos e2, if_pos e2]
        · rw [if_neg e2, if_neg e2]
          by_cases e3 : a < m
          · rw [if_pos e3, if_pos (by omega)]
          · rw [if_neg e3, if_neg (by omega)]
      · generalize hH : (fun a b => if a = k then M k b else if a < m then M a b + c a * M k b else M a b) = H
        have h1 := detN_lin n H m (fun b => H m b) (fun b => H k b) (c m) (by omega)
        have h2 : detN n (rowU H m (fun b => H k b)) = 0 := detN_same (i := m) (k := k) (by omega) hk e _ fun b => by
          simp only [rowU, if_true, if_neg fun e' : k = m => e e'.symm]
        have h3 : rowU H m (fun b => H m b) = H := rowU_self H m
        rw [h2, h3, Int.mul_zero, Int.add_zero] at h1
        rw [← h1]
        refine detN_congr n fun a ha b hb => ?_
        unfold rowU
        rw [← hH]
        simp only [if_true]
        by_cases e2 : a = k
        · rw [if_pos e2, if_neg (by omega)]; rw [if_pos e2]
        · rw [if_neg e2]
          by_cases e3 : a = m
          · subst e3
            rw [if_pos (by omega), if_pos rfl, if_neg e2, if_neg (by omega)]
          · rw [if_neg e3, if_neg e2]
            by_cases e4 : a < m
            · rw [if_pos e4, if_pos (by omega)]
            · rw [if_neg e4, if_neg (by omega)]
  rw [← key n (Nat.le_refl n)]
  refine detN_congr n fun a ha b hb => ?_
  by_cases e : a = k
  · rw [if_pos e, if_pos e]
  · rw [if_neg e, if_neg e, if_pos ha]

def mulN (n : Nat) (A B : Nat → Nat → Int) : Nat → Nat → Int := fun a b => sumN (fun j => A a j * B j b) n
def prodN (f : Nat → Int) : Nat → Int
  | 0 => 1
  | k + 1 => prodN f k * f k
/-- The steps of an elimination: what they do to a product's determinant. -/
def QN (p : Int) (n : Nat) (A A' : Nat → Nat → Int) (s : Int) : Prop := (s = 1 ∨ s = -1) ∧ ∀ B, p ∣ detN n (mulN n A' B) - s * detN n (mulN n A B)
theorem QN.refl (p : Int) (n : Nat) (A : Nat → Nat → Int) : QN p n A A 1 := ⟨.inl rfl, fun B => by simp⟩
theorem QN.clear {p : Int} {n k : Nat} {A M : Nat → Nat → Int} {s : Int} (hk : k < n) (h : QN p n A M s) (c : Nat → Int) : QN p n A (fun a b => if a = k then M k b else M a b + c a * M k b) s := by
  refine ⟨h.1, fun B => ?_⟩
  have e : detN n (mulN n (fun a b => if a = k then M k b else M a b + c a * M k b) B) = detN n (mulN n M B) := by
    rw [← detN_clear hk (mulN n M B) c]
    refine detN_congr n fun a ha b hb => ?_
    unfold mulN
    by_cases ea : a = k
    · subst ea
      simp only [if_true]
    · simp only [if_neg ea]
      rw [← sumN_lin]
      refine sumN_congr fun j hj => ?_
      grind
  rw [e]; exact h.2 B
end Go.Vam

/- Plain laws: the programs' determinant is the expansion's. -/
namespace Go.Vam
open Go Go.RowKit
set_option linter.unusedSimpArgs false
set_option linter.unusedVariables false
set_option linter.unusedSectionVars false

def asN (m : List (List Int)) : Nat → Nat → Int := fun a b => gI (gR m a) b
def detL (r : Nat) (m : List (List Int)) : Int := detN r (asN m)
theorem prodN_congr {f g : Nat → Int} : ∀ {n : Nat}, (∀ k, k < n → f k = g k) → prodN f n = prodN g n
  | 0, _ => rfl
  | n + 1, h => by simp only [prodN, prodN_congr (n := n) fun k hk => h k (by omega), h n (by omega)]
/-- What the elimination keeps. -/
def DetInv (p : Int) (r : Nat) (M0 M : List (List Int)) (d : Int) (k : Nat) : Prop :=
  ∃ s : Int, p ∣ detL r M0 - s * detL r M ∧ p ∣ d - s * prodN (fun j => gI (gR M j) j) k
theorem DetInv.refl (p : Int) (r : Nat) (M0 : List (List Int)) : DetInv p r M0 M0 1 0 := ⟨1, by simp, by simp [prodN]⟩
theorem DetInv.clear {p : Int} {r k : Nat} {M0 M y : List (List Int)} {R : List Int} {d : Int} (h : DetInv p r M0 M d k) (hk : k < r) (hMk : gR M k = R) (hy : ∀ j, j < r → gR y j = if k < j then clp p r k R (gR M j) else gR M j) :
    DetInv p r M0 y (d * gI R k % p) (k + 1) := by
  obtain ⟨s, h1, h2⟩ := h
  have e : p ∣ detL r y - detL r M := by
    unfold detL
    rw [← detN_clear hk (asN M) (fun a => if k < a then (p - gI (gR M a) k) * invp p (gI R k) % p else 0)]
    refine detN_mod r fun a ha b hb => ?_
    simp only [asN]
    rw [hy a ha]
    by_cases e1 : a = k
    · rw [if_neg (by omega), if_pos e1, e1]; simp
    · rw [if_neg e1]
      by_cases e2 : k < a
      · rw [if_pos e2, if_pos e2]
        unfold clp
        rw [plusv_at hb, hMk, ← mod_dvd, emm]
      · rw [if_neg e2, if_neg e2]; simp
  have e3 : prodN (fun j => gI (gR y j) j) (k + 1) = prodN (fun j => gI (gR M j) j) k * gI R k := by
    simp only [prodN]
    rw [hy k hk, if_neg (by omega), hMk, prodN_congr (g := fun j => gI (gR M j) j) fun j hj => by rw [hy j (by omega), if_neg (by omega)]]
  refine ⟨s, ?_, ?_⟩
  · have : detL r M0 - s * detL r y = (detL r M0 - s * detL r M) - s * (detL r y - detL r M) := by grind
    rw [this]
    exact Int.dvd_sub h1 (Int.dvd_mul_of_dvd_right e)
  · rw [e3]
    have h3 : p ∣ d * gI R k % p - d * gI R k := by rw [← mod_dvd, emm]
    refine dvd_trans_sub h3 ?_
    have : d * gI R k - s * (prodN (fun j => gI (gR M j) j) k * gI R k) = (d - s * prodN (fun j => gI (gR M j) j) k) * gI R k := by grind
    rw [this]
    exact Int.dvd_mul_of_dvd_left h2

section
variable {p : Int} {r : Nat} (hP : isP p = true) (hr : r ≤ 1048576)
include hP hr
end
end Go.Vam

/- Plain laws: products are associative; turned products; ranks and determinants of products. -/
namespace Go.Vam
open Go Go.RowKit
set_option linter.unusedSimpArgs false
set_option linter.unusedVariables false
set_option linter.unusedSectionVars false

end Go.Vam

/- Plain laws: powers, exponents are added. -/
namespace Go.Vam
open Go Go.RowKit
set_option linter.unusedSimpArgs false
set_option linter.unusedVariables false
set_option linter.unusedSectionVars false

end Go.Vam

/- Plain laws: norms of elements; ConjugationBy. -/
namespace Go.Vam
open Go Go.RowKit
set_option linter.unusedSimpArgs false
set_option linter.unusedVariables false
set_option linter.unusedSectionVars false

theorem sumN_split (f : Nat → Int) (a b : Nat) : sumN f (a + b) = sumN f a + sumN (fun k => f (a + k)) b := by
  induction b with
  | zero => simp [sumN]
  | succ b ih => rw [← Nat.add_assoc]; simp only [sumN]; rw [ih]; omega
section
variable {p : Int} {w x : List Int} (hP : isP p = true) (hl : w.length ≤ 4) (hw : Vec p w.length w) (hx : Vec p (2 ^ w.length) x)
include hP hl hw hx
end
section
variable {p : Int} {w a b : List Int} (hP : isP p = true) (hl : w.length ≤ 4) (hw : Vec p w.length w) (ha : Vec p (2 ^ w.length) a) (hb : Vec p (2 ^ w.length) b)
include hP hl hw ha hb
end
end Go.Vam

/- Plain law: FnMatrixProducts. -/
namespace Go.Vam
open Go Go.RowKit
set_option linter.unusedSimpArgs false
set_option linter.unusedVariables false
set_option linter.unusedSectionVars false

section
variable {p : Int} {r n c : Nat} {a b : List (List Int)} (hP : isP p = true) (ha : Mat p r n a) (hr0 : 1 ≤ r) (hr : r ≤ 16) (hn0 : 1 ≤ n) (hn : n ≤ 16)
include hP ha hr0 hr hn0 hn
end
end Go.Vam

/- Plain laws: inverses of tables. -/
namespace Go.Vam
open Go Go.RowKit
set_option linter.unusedSimpArgs false
set_option linter.unusedVariables false
set_option linter.unusedSectionVars false

/-- The table with the unit behind it. -/
def widem (n : Nat) (a : List (List Int)) : List (List Int) := vecN n fun i => gR a i ++ axis n i
section
variable {p : Int} {n : Nat} {a : List (List Int)} (hp : 1 < p) (hn : n ≤ 1000) (ha : Mat p n n a)
include hp hn ha
end
section
variable {p : Int} {n : Nat} {a B : List (List Int)} {ld : Nat → Nat} (hP : isP p = true) (hn0 : 1 ≤ n) (hn : n ≤ 1000) (ha : Mat p n n a) (hB : Ech p (n + n) B ld) (hk : ∀ u, Kr p (n + n) B u ↔ KerP p n (n + n) (widem n a) u)
include hP hn0 hn ha hB hk
end

section
variable {p : Int} {n : Nat} {a : List (List Int)} (hP : isP p = true) (hn0 : 1 ≤ n) (hn : n ≤ 16) (ha : Mat p n n a)
include hP hn0 hn ha
end
end Go.Vam

/- Plain laws: the coordinates of a product; pure elements of few steps anticommute up to their pairing. -/
namespace Go.Vam
open Go Go.RowKit
set_option linter.unusedSimpArgs false
set_option linter.unusedVariables false
set_option linter.unusedSectionVars false

/-- Sums over all places are sums over all places moved. -/
theorem sum_xor (f : Nat → Int) : ∀ n, n ≤ 4 → ∀ m, m < 2 ^ n → ∀ s, sumN (fun i => f (s + (i ^^^ m))) (2 ^ n) = sumN (fun i => f (s + i)) (2 ^ n)
  | 0, _, m, hm, s => by
    have : m = 0 := by simpa using hm
    subst this; simp [sumN]
  | n + 1, hn, m, hm, s => by
    have hpow : 2 ^ (n + 1) = 2 ^ n + 2 ^ n := by rw [Nat.pow_succ]; omega
    have hX := xor_hi n (by omega)
    have ih := sum_xor f n (by omega)
    rw [hpow] at hm ⊢
    rw [sumN_split, sumN_split]
    rcases Nat.lt_or_ge m (2 ^ n) with h | h
    · congr 1
      · exact ih m h s
      · have e : sumN (fun k => f (s + ((2 ^ n + k) ^^^ m))) (2 ^ n) = sumN (fun k => f (s + 2 ^ n + (k ^^^ m))) (2 ^ n) := sumN_congr fun k hk => by rw [(hX k hk m h).2.1, Nat.add_assoc]
        rw [e, ih m h (s + 2 ^ n)]
        exact sumN_congr fun k hk => by rw [Nat.add_assoc]
    · obtain ⟨m', rfl⟩ := Nat.exists_eq_add_of_le h
      have hm' : m' < 2 ^ n := by omega
      have e1 : sumN (fun k => f (s + (k ^^^ (2 ^ n + m')))) (2 ^ n) = sumN (fun k => f (s + 2 ^ n + (k ^^^ m'))) (2 ^ n) := sumN_congr fun k hk => by rw [(hX k hk m' hm').1, Nat.add_assoc]
      have e2 : sumN (fun k => f (s + ((2 ^ n + k) ^^^ (2 ^ n + m')))) (2 ^ n) = sumN (fun k => f (s + (k ^^^ m'))) (2 ^ n) := sumN_congr fun k hk => by rw [(hX k hk m' hm').2.2]
      rw [e1, e2, ih m' hm' (s + 2 ^ n), ih m' hm' s, Int.add_comm]
      congr 1
      exact sumN_congr fun k hk => by rw [Nat.add_assoc]
theorem sum_xor0 (f : Nat → Int) {n m : Nat} (hn : n ≤ 4) (hm : m < 2 ^ n) : sumN (fun i => f (i ^^^ m)) (2 ^ n) = sumN f (2 ^ n) := by
  have := sum_xor f n hn m hm 0
  simpa only [Nat.zero_add] using this
theorem xor_back (i m : Nat) : (i ^^^ m) ^^^ m = i := by rw [Nat.xor_assoc, Nat.xor_self, Nat.xor_zero]

/-- The coordinates of a product. -/
theorem mulr_gen {p : Int} : ∀ (n : Nat), n ≤ 4 → ∀ (w x y : List Int) (m : Nat), m < 2 ^ n → gI (mulr p n w x y) m % p = sumN (fun i => gI x i * gI y (i ^^^ m) * axS n w i (i ^^^ m)) (2 ^ n) % p
  | 0, _, w, x, y, m, hm => by
    have : m = 0 := by simpa using hm
    subst this
    unfold mulr
    show gI x 0 * gI y 0 % p % p = _
    rw [emm]
    simp [sumN, axS]
  | n + 1, hn, w, x, y, m, hm => by
    have hpow : 2 ^ (n + 1) = 2 ^ n + 2 ^ n := by rw [Nat.pow_succ]; omega
    have hX := xor_hi n (by omega)
    have hlt : ∀ a b, a < 2 ^ n → b < 2 ^ n → a ^^^ b < 2 ^ n := fun a b ha hb => xor_lt ha hb
    have hre : ∀ (f : Nat → Int) (m : Nat), m < 2 ^ n → sumN (fun i => f (i ^^^ m)) (2 ^ n) = sumN f (2 ^ n) := fun f m h => sum_xor0 f (by omega) h
    have ih := mulr_gen (p := p) n (by omega) (w.take n)
    unfold mulr
    rw [hpow] at hm
    rw [hpow, sumN_split]
    generalize hd : 2 ^ n = d at hm hX hlt hre ih ⊢
    have hl : ∀ u v k, (plusv p d u v k).length = d := fun u v k => by unfold plusv; rw [vecN_len]
    rcases Nat.lt_or_ge m d with h | h
    · rw [gI_append, if_pos (by rw [hl]; exact h), plusv_at h, emm, Int.add_emod, ih _ _ m h, Int.mul_emod, ih _ _ m h, ← Int.mul_emod]
      have e1 : sumN (fun i => gI (x.take d) i * gI (y.take d) (i ^^^ m) * axS n (w.take n) i (i ^^^ m)) d = sumN (fun i => gI x i * gI y (i ^^^ m) * axS (n + 1) w i (i ^^^ m)) d := by
        refine sumN_congr fun i hi => ?_
        have hx := hlt i m hi h
        rw [gI_take hi, gI_take hx]
        conv => rhs; unfold axS
        rw [hd, if_pos hi, if_pos hx]
      have e2 : (gI w n * sumN (fun i => gI (starv p d (y.drop d)) i * gI (x.drop d) (i ^^^ m) * axS n (w.take n) i (i ^^^ m)) d) % p = sumN (fun i => gI x (d + i) * gI y ((d + i) ^^^ m) * axS (n + 1) w (d + i) ((d + i) ^^^ m)) d % p := by
        rw [← hre (fun i => gI (starv p d (y.drop d)) i * gI (x.drop d) (i ^^^ m) * axS n (w.take n) i (i ^^^ m)) m h, ← sumN_mulL]
        refine sumN_mod fun i hi => ?_
        have hx := hlt i m hi h
        have hb := xor_back i m
        conv => rhs; unfold axS
        rw [hd, (hX i hi m h).2.1, if_neg (by omega), if_neg (by omega), Nat.add_sub_cancel_left, Nat.add_sub_cancel_left, hb, gI_drop]
        have hs := starv_at (p := p) (a := y.drop d) hx
        rw [gI_drop] at hs
        have a1 : gI w n * (gI (starv p d (y.drop d)) (i ^^^ m) * gI x (d + i) * axS n (w.take n) (i ^^^ m) i) = gI (starv p d (y.drop d)) (i ^^^ m) * (gI w n * gI x (d + i) * axS n (w.take n) (i ^^^ m) i) := by grind
        rw [a1, mul_mod_l hs]
        congr 1
        grind
      rw [e2, e1, ← Int.add_emod]
    · obtain ⟨m', rfl⟩ := Nat.exists_eq_add_of_le h
      have hm' : m' < d := by omega
      rw [gI_append, if_neg (by rw [hl]; omega), hl, Nat.add_sub_cancel_left, plusv_at hm', emm, Int.add_emod, ih _ _ m' hm', Int.mul_emod, ih _ _ m' hm', ← Int.mul_emod, Int.one_mul]
      have e1 : sumN (fun i => gI (y.drop d) i * gI (x.take d) (i ^^^ m') * axS n (w.take n) i (i ^^^ m')) d = sumN (fun i => gI x i * gI y (i ^^^ (d + m')) * axS (n + 1) w i (i ^^^ (d + m'))) d := by
        rw [← hre (fun i => gI (y.drop d) i * gI (x.take d) (i ^^^ m') * axS n (w.take n) i (i ^^^ m')) m' hm']
        refine sumN_congr fun i hi => ?_
        have hx := hlt i m' hi hm'
        have hb := xor_back i m'
        conv => rhs; unfold axS
        rw [hd, (hX i hi m' hm').1, if_pos hi, if_neg (by omega), Nat.add_sub_cancel_left, hb, gI_drop, gI_take hi]
        grind
      have e2 : sumN (fun i => gI (x.drop d) i * gI (starv p d (y.take d)) (i ^^^ m') * axS n (w.take n) i (i ^^^ m')) d % p = sumN (fun i => gI x (d + i) * gI y ((d + i) ^^^ (d + m')) * axS (n + 1) w (d + i) ((d + i) ^^^ (d + m'))) d % p := by
        refine sumN_mod fun i hi => ?_
        have hx := hlt i m' hi hm'
        conv => rhs; unfold axS
        rw [hd, (hX i hi m' hm').2.2, if_neg (by omega), if_pos hx, Nat.add_sub_cancel_left, gI_drop]
        have hs := starv_at (p := p) (a := y.take d) hx
        rw [gI_take hx] at hs
        have a1 : gI x (d + i) * gI (starv p d (y.take d)) (i ^^^ m') * axS n (w.take n) i (i ^^^ m') = gI (starv p d (y.take d)) (i ^^^ m') * (gI x (d + i) * axS n (w.take n) i (i ^^^ m')) := by grind
        rw [a1, mul_mod_l hs]
        congr 1
        grind
      rw [e2, e1, ← Int.add_emod]

/-! ### The sign of a product of axes, apart from the steps' numbers -/
def sgF : Nat → Nat → Nat → Int
  | 0, _, _ => 1
  | n + 1, i, j =>
    if i < 2 ^ n then (if j < 2 ^ n then sgF n i j else sgF n (j - 2 ^ n) i)
    else (if j < 2 ^ n then sgs j * sgF n (i - 2 ^ n) j else sgs (j - 2 ^ n) * sgF n (j - 2 ^ n) (i - 2 ^ n))
/-- The product of the steps' numbers named by the digits. -/
def wpF (w : List Int) : Nat → Nat → Int
  | 0, _ => 1
  | n + 1, m => (if m < 2 ^ n then 1 else gI w n) * wpF w n (m % 2 ^ n)
theorem wpF_take {w : List Int} {N : Nat} : ∀ n, n ≤ N → ∀ m, wpF (w.take N) n m = wpF w n m
  | 0, _, _ => rfl
  | n + 1, h, m => by
    unfold wpF
    rw [wpF_take n (by omega), gI_take (by omega)]
theorem and_lt' : ∀ n, n ≤ 4 → ∀ i, i < 2 ^ n → ∀ j, j < 2 ^ n → i &&& j < 2 ^ n := fun n _ i hi j hj => Nat.lt_of_le_of_lt Nat.and_le_left hi
theorem and_hi : ∀ n, n < 4 → ∀ i, i < 2 ^ n → ∀ j, j < 2 ^ n → i &&& (2 ^ n + j) = (i &&& j) ∧ (2 ^ n + i) &&& j = (i &&& j) ∧ (2 ^ n + i) &&& (2 ^ n + j) = 2 ^ n + (i &&& j) := by decide
theorem axS_split : ∀ n, n ≤ 4 → ∀ (w : List Int) i j, i < 2 ^ n → j < 2 ^ n → axS n w i j = sgF n i j * wpF w n (i &&& j)
  | 0, _, w, i, j, _, _ => rfl
  | n + 1, hn, w, i, j, hi, hj => by
    have hpow : 2 ^ (n + 1) = 2 ^ n + 2 ^ n := by rw [Nat.pow_succ]; omega
    rw [hpow] at hi hj
    have ih := axS_split n (by omega) (w.take n)
    have hA := and_hi n (by omega)
    have hL := and_lt' n (by omega)
    have hw := wpF_take (w := w) (N := n) n (Nat.le_refl _)
    unfold axS sgF wpF
    generalize hd : 2 ^ n = d at hi hj ih hA hL ⊢
    rcases Nat.lt_or_ge i d with h1 | h1 <;> rcases Nat.lt_or_ge j d with h2 | h2
    · have h3 := hL i h1 j h2
      rw [if_pos h1, if_pos h2, if_pos h1, if_pos h2, if_pos h3, Int.one_mul, Nat.mod_eq_of_lt h3, ih i j h1 h2, hw]
    · obtain ⟨j', rfl⟩ := Nat.exists_eq_add_of_le h2
      have h3 := hL i h1 j' (by omega)
      rw [if_pos h1, if_neg (by omega), if_pos h1, if_neg (by omega), Nat.add_sub_cancel_left, (hA i h1 j' (by omega)).1, if_pos h3, Int.one_mul, Nat.mod_eq_of_lt h3, ih j' i (by omega) h1, hw, Nat.and_comm]
    · obtain ⟨i', rfl⟩ := Nat.exists_eq_add_of_le h1
      have h3 := hL i' (by omega) j h2
      rw [if_neg (by omega), if_pos h2, if_neg (by omega), if_pos h2, Nat.add_sub_cancel_left, (hA i' (by omega) j h2).2.1, if_pos h3, Int.one_mul, Nat.mod_eq_of_lt h3, ih i' j (by omega) h2, hw, Int.mul_assoc]
    · obtain ⟨i', rfl⟩ := Nat.exists_eq_add_of_le h1
      obtain ⟨j', rfl⟩ := Nat.exists_eq_add_of_le h2
      have h3 := hL i' (by omega) j' (by omega)
      have h4 : (d + (i' &&& j')) % d = i' &&& j' := by rw [Nat.add_mod_left, Nat.mod_eq_of_lt h3]
      rw [if_neg (by omega), if_neg (by omega), if_neg (by omega), if_neg (by omega), Nat.add_sub_cancel_left, Nat.add_sub_cancel_left, (hA i' (by omega) j' (by omega)).2.2, if_neg (by omega), h4, ih j' i' (by omega) (by omega), hw, Nat.and_comm j' i']
      grind
end Go.Vam

/- Plain law: FnMultiplicationMatrices. -/
namespace Go.Vam
open Go Go.RowKit
set_option linter.unusedSimpArgs false
set_option linter.unusedVariables false
set_option linter.unusedSectionVars false

section
variable {p : Int} {w x : List Int} (hP : isP p = true) (hl : w.length ≤ 4) (hw : Vec p w.length w) (hx : Vec p (2 ^ w.length) x)
include hP hl hw hx
end
theorem draw_steps {c : List Int} {a h p : Int} {k : Nat} (hS : Src c a) (hP : isP p = true) (hk : k ≤ 8) : ∃ (v : List Int) (a' h' : Int), loop s_l11Draw_L0 BIG (c, a, h, p, [], (k : Int)) = some (c, a', h', p, v) ∧ v.length = k ∧ Src c a' := by
  have hp := isP_le hP
  obtain ⟨b, h1, v, a', h', rfl, h3, h4⟩ := loop_inv (step := s_l11Draw_L0) (fun s => ∃ (j : Nat) (a' h' : Int) (out : List Int), s = (c, a', h', p, out, ((k - j : Nat) : Int)) ∧ j ≤ k ∧ out.length = j ∧ Src c a') (fun s => s.2.2.2.2.2.toNat)
    (fun b => ∃ v a' h', b = (c, a', h', p, v) ∧ v.length = k ∧ Src c a') (s := (c, a, h, p, [], (k : Int))) ⟨0, a, h, [], rfl, by omega, rfl, hS⟩ (by rw [BIG_val]; simp only []; omega) (by
      rintro s ⟨j, a', h', out, rfl, hj, hv, hS'⟩
      unfold s_l11Draw_L0
      by_cases hjk : j < k
      · refine .inl ?_
        have e0 : (0 : Int) < ((k - j : Nat) : Int) := by omega
        obtain ⟨r, a2, h2, e, r1, r2, S2⟩ := next_eq (h := h') (n := 2) hS' (by omega) (by omega)
        have w1 : w64 (p - 1) = p - 1 := w_in (by omega) (by omega)
        have w2 : w64 (((k - j : Nat) : Int) - 1) = ((k - (j + 1) : Nat) : Int) := by rw [w_in (by omega) (by omega)]; omega
        simp only [e0, if_true, e, some_bind, w1, w2]
        by_cases c0 : r = 0
        · simp only [c0, if_true]
          rw [chk_bind (by simp only [List.length_cons, List.length_nil]; omega), some_bind]
          exact ⟨_, rfl, ⟨j + 1, a2, h2, _, rfl, by omega, by rw [List.length_append]; simp; omega, S2⟩, by simp only []; omega⟩
        · obtain ⟨r3, a3, h3, e3, p3, q3, S3⟩ := next_eq (h := h2) (n := p - 1) S2 (by omega) (by omega)
          simp only [c0, if_false, e3, some_bind]
          rw [chk_bind (by simp only [List.length_cons, List.length_nil]; omega), some_bind]
          exact ⟨_, rfl, ⟨j + 1, a3, h3, _, rfl, by omega, by rw [List.length_append]; simp; omega, S3⟩, by simp only []; omega⟩
      · have : j = k := by omega
        subst this
        refine .inr ⟨(c, a', h', p, out), ?_, out, a', h', rfl, hv, hS'⟩
        simp)
  exact ⟨v, a', h', h1, h3, h4⟩
theorem draw_doubling {c : List Int} {a h m : Int} (hS : Src c a) (hm : 0 ≤ m) (hm2 : m ≤ 8) : ∃ (p : Int) (w : List Int) (a' h' : Int), s_l11Draw c a h m = some ((p, w), (c, a', h')) ∧ isP p = true ∧ w.length ≤ 4 ∧ Src c a' := by
  unfold s_l11Draw
  obtain ⟨p, a1, h1, e1, m1, S1⟩ := pick_eq (h := h) (l := [3, 5, 7, 11, 13]) hS (by simp) (by simp)
  obtain ⟨k, a2, h2, e2, m2, S2⟩ := pick_eq (h := h1) (l := [0, 1, 2, 2, 3, 3, 3, 4]) S1 (by simp) (by simp)
  have hP : isP p = true := by
    simp only [List.mem_cons, List.not_mem_nil, or_false] at m1
    unfold isP
    rcases m1 with rfl | rfl | rfl | rfl | rfl <;> decide
  have hk : 0 ≤ k ∧ k ≤ 4 := by
    simp only [List.mem_cons, List.not_mem_nil, or_false] at m2
    omega
  obtain ⟨q, hq, hq4⟩ : ∃ q : Nat, imin m k = (q : Int) ∧ q ≤ 4 := by
    unfold imin
    split
    · exact ⟨k.toNat, by omega, by omega⟩
    · exact ⟨m.toNat, by omega, by omega⟩
  obtain ⟨v, a3, h3, e3, l3, S3⟩ := draw_steps (h := h2) (k := q) S2 hP (by omega)
  simp only [e1, e2, some_bind, hq, e3]
  exact ⟨p, v, a3, h3, rfl, hP, by omega, S3⟩
theorem draw_any {c : List Int} {a h m : Int} (hS : Src c a) (hm : 0 ≤ m) (hm2 : m ≤ 8) : ∃ (p : Int) (w : List Int) (a' h' : Int), s_l11DrawAny c a h m = some ((p, w), (c, a', h')) ∧ 0 ≤ p ∧ p ≤ 17 ∧ w.length ≤ 5 ∧ Src c a' := by
  unfold s_l11DrawAny
  obtain ⟨p, w, a1, h1, e1, hP, hl, S1⟩ := draw_doubling (h := h) hS hm hm2
  have hp := isP_le hP
  obtain ⟨r, a2, h2, e2, r1, r2, S2⟩ := next_eq (h := h1) (n := 30) S1 (by omega) (by omega)
  simp only [e1, some_bind, e2]
  by_cases c0 : r = 0
  · obtain ⟨x, a3, h3, e3, m3, S3⟩ := pick_eq (h := h2) (l := [2, 9, 17, 0]) S2 (by simp) (by simp)
    simp only [c0, if_true, e3, some_bind]
    have hx : 0 ≤ x ∧ x ≤ 17 := by
      simp only [List.mem_cons, List.not_mem_nil, or_false] at m3
      omega
    exact ⟨x, w, a3, h3, rfl, hx.1, hx.2, by omega, S3⟩
  simp only [c0, if_false]
  by_cases c1 : r = 1
  · obtain ⟨x, a3, h3, e3, m3, S3⟩ := pick_eq (h := h2) (l := [0, p]) S2 (by simp) (by simp)
    simp only [c1, if_true, e3, some_bind]
    rw [chk_bind (by simp only [List.length_cons, List.length_nil]; omega), some_bind]
    exact ⟨p, _, a3, h3, rfl, by omega, by omega, by rw [List.length_append]; simp; omega, S3⟩
  simp only [c1, if_false]
  by_cases c2 : r = 2
  · obtain ⟨b, g1, v, rfl, g2⟩ := loop_inv (step := s_l11DrawAny_L0) (fun s => ∃ v : List Int, s = (p, v) ∧ v.length ≤ 5) (fun s => 5 - s.2.length) (fun b => ∃ v : List Int, b = (p, v) ∧ v.length ≤ 5) (s := (p, w)) ⟨w, rfl, by omega⟩ (by rw [BIG_val]; simp only []; omega) (by
      rintro s ⟨v, rfl, hv⟩
      unfold s_l11DrawAny_L0
      by_cases h5 : (v.length : Int) < 5
      · refine .inl ?_
        simp only [h5, if_true]
        rw [chk_bind (by simp only [List.length_cons, List.length_nil]; omega)]
        exact ⟨_, rfl, ⟨_, rfl, by rw [List.length_append]; simp; omega⟩, by simp only [List.length_append, List.length_cons, List.length_nil]; omega⟩
      · refine .inr ⟨(p, v), ?_, v, rfl, hv⟩
        simp only [h5, if_false])
    simp only [c2, if_true, g1, some_bind]
    exact ⟨p, v, a2, h2, rfl, by omega, by omega, g2, S2⟩
  simp only [c2, if_false, some_bind]
  exact ⟨p, w, a2, h2, rfl, by omega, by omega, by omega, S2⟩
theorem same9_is : l_same9 = l_likeRows5 := rfl
theorem same9_self {m : List (List Int)} (h : szM m) : l_same9 m m = some true := by rw [same9_is]; exact likeR_self h
end Go.Vam

/- Plain law: FnMultiplicationMatrices, the end. -/
namespace Go.Vam
open Go Go.RowKit
set_option linter.unusedSimpArgs false
set_option linter.unusedVariables false
set_option linter.unusedSectionVars false

section
variable {p : Int} {w x : List Int} (hw : w.length ≤ 1048576) (hx : x.length ≤ 1048576)
include hw hx
end
section
variable {p : Int} {w x : List Int} (hD : isDb p w = true) (hx : Vec p (2 ^ w.length) x)
include hD hx
end
section
variable {p : Int} {w a b : List Int} (hP : isP p = true) (hl : w.length ≤ 3) (hw : Vec p w.length w) (ha : Vec p (2 ^ w.length) a) (hb : Vec p (2 ^ w.length) b) (ha0 : gI a 0 = 0) (hb0 : gI b 0 = 0)
include hP hl hw ha hb ha0 hb0
end
end Go.Vam

/- Plain law: FnInverses. -/
namespace Go.Vam
open Go Go.RowKit
set_option linter.unusedSimpArgs false
set_option linter.unusedVariables false
set_option linter.unusedSectionVars false

end Go.Vam

/- Plain laws: triples. -/
namespace Go.Vam
open Go Go.RowKit
set_option linter.unusedSimpArgs false
set_option linter.unusedVariables false
set_option linter.unusedSectionVars false

/-! ### The laws' helpers -/
section
variable {a b c : List (List Int)}
end

/-! ### UnitTriple -/
section
variable {p : Int} {w a b : List Int} (hP : isP p = true) (hl : w.length ≤ 4) (hw : Vec p w.length w) (ha : Vec p (2 ^ w.length) a) (hb : Vec p (2 ^ w.length) b)
include hP hl hw ha hb
end
abbrev gT3 (l : List (List (List Int) × List (List Int) × List (List Int))) (k : Nat) : List (List Int) × List (List Int) × List (List Int) := l.getD k ([], [], [])
def szTs (l : List (List (List Int) × List (List Int) × List (List Int))) : Prop := l.length ≤ 1024 ∧ ∀ x ∈ l, szM x.1 ∧ szM x.2.1 ∧ szM x.2.2
theorem szTs.at {l : List (List (List Int) × List (List Int) × List (List Int))} (h : szTs l) {k : Nat} (hk : k < l.length) : szM (gT3 l k).1 ∧ szM (gT3 l k).2.1 ∧ szM (gT3 l k).2.2 := by
  have := h.2 _ (List.getElem_mem hk)
  rwa [getD_get hk ([], [], [])] at this
section
variable {p : Int} {w : List Int} {l : List (List (List Int) × List (List Int) × List (List Int))} (hw : w.length ≤ 1048576) (hz : szTs l)
include hw hz
end
end Go.Vam

/- Plain laws: triples, turned and multiplied. -/
namespace Go.Vam
open Go Go.RowKit
set_option linter.unusedSimpArgs false
set_option linter.unusedVariables false
set_option linter.unusedSectionVars false

end Go.Vam

/- Plain laws: loops: whether a table is one; its nucleus and its centre. -/
namespace Go.Vam
open Go Go.RowKit
set_option linter.unusedSimpArgs false
set_option linter.unusedVariables false
set_option linter.unusedSectionVars false

/-- A loop that leaves at the first index that fails; its state hangs on the index. -/
theorem all_loopS {σ B : Type} (step : σ → Option (σ ⊕ (Unit ⊕ B))) (n : Nat) (f : Nat → Bool) (st : Nat → σ) (r : B) (hn : n < BIG)
    (hs : ∀ k, k < n → (∀ j, j < k → f j = true) → f k = true → step (st k) = some (.inl (st (k + 1)))) (hb : ∀ k, k < n → (∀ j, j < k → f j = true) → f k = false → step (st k) = some (.inr (.inr r)))
    (he : (∀ j, j < n → f j = true) → step (st n) = some (.inr (.inl ()))) : loop step BIG (st 0) = some (if (List.range n).all f then .inl () else .inr r) := by
  have key : ∀ d k m, k + d = n → d < m → (∀ j, j < k → f j = true) → loop step m (st k) = some (if (List.range n).all f then .inl () else .inr r) := by
    intro d
    induction d with
    | zero =>
      intro k m hk hm ha
      obtain ⟨m, rfl⟩ : ∃ m', m = m' + 1 := ⟨m - 1, by omega⟩
      have : k = n := by omega
      subst this
      have hall : (List.range k).all f = true := by
        rw [List.all_eq_true]
        intro x hx
        exact ha x (List.mem_range.1 hx)
      simp only [loop, he ha, hall, if_true]
    | succ d ih =>
      intro k m hk hm ha
      obtain ⟨m, rfl⟩ : ∃ m', m = m' + 1 := ⟨m - 1, by omega⟩
      cases hf : f k with
      | true =>
        simp only [loop, hs k (by omega) ha hf]
        refine ih (k + 1) m (by omega) (by omega) fun j hj => ?_
        rcases Nat.lt_succ_iff_lt_or_eq.1 hj with h | rfl
        · exact ha j h
        · exact hf
      | false =>
        have hall : (List.range n).all f = false := by
          rw [List.all_eq_false]
          exact ⟨k, List.mem_range.2 (by omega), by simp [hf]⟩
        simp only [loop, hb k (by omega) ha hf, hall, Bool.false_eq_true, if_false]
  exact key n 0 BIG (by omega) hn fun j hj => by omega

/-- The marks of what has been seen. -/
def marks (n : Nat) (f : Nat → Int) (j : Nat) : List Bool := (List.range n).map fun v : Nat => (List.range j).any fun k => decide (f k = (v : Int))
theorem marks_len (n : Nat) (f : Nat → Int) (j : Nat) : (marks n f j).length = n := by simp [marks]
theorem marks_zero (n : Nat) (f : Nat → Int) : marks n f 0 = List.replicate n false := by
  unfold marks
  apply List.ext_getElem
  · simp
  · intro i h1 h2; simp
theorem marks_get {n : Nat} {f : Nat → Int} {j : Nat} {x : Int} (h : 0 ≤ x ∧ x ≤ (n : Int) - 1) : idx (marks n f j) x = some ((List.range j).any fun k => decide (f k = x)) := by
  obtain ⟨v, rfl⟩ := Int.eq_ofNat_of_zero_le h.1
  have hv : v < n := by omega
  have : idx (marks n f j) ((v : Nat) : Int) = some ((marks n f j).getD v false) := idxD (by rw [marks_len]; exact hv) false
  rw [this]
  simp [marks, hv]
theorem marks_set {n : Nat} {f : Nat → Int} {j : Nat} (h : 0 ≤ f j ∧ f j ≤ (n : Int) - 1) : (marks n f j).set (f j).toNat true = marks n f (j + 1) := by
  unfold marks
  apply List.ext_getElem
  · simp
  · intro i h1 h2
    simp only [List.length_map, List.length_range, List.length_set] at h1 h2
    rw [List.getElem_set]
    simp only [List.getElem_map, List.getElem_range, List.range_succ, List.any_append, List.any_cons, List.any_nil, Bool.or_false]
    by_cases e : (f j).toNat = i
    · rw [if_pos e]
      have : f j = (i : Int) := by omega
      simp [this]
    · rw [if_neg e]
      have : ¬ f j = (i : Int) := by omega
      simp [this]
/-- The entry at j is a number of the loop that has not been seen. -/
def okB (n : Nat) (f : Nat → Int) (j : Nat) : Bool := (decide (0 ≤ f j) && decide (f j ≤ (n : Int) - 1)) && !((List.range j).any fun k => decide (f k = f j))
def onceB (n : Nat) (f : Nat → Int) : Bool := (List.range n).all (okB n f)
theorem okB_rng {n : Nat} {f : Nat → Int} {j : Nat} (h : okB n f j = true) : 0 ≤ f j ∧ f j ≤ (n : Int) - 1 := by
  unfold okB at h
  simp only [Bool.and_eq_true, decide_eq_true_eq] at h
  exact h.1
theorem i_isOnce_eq {r : List Int} {n : Nat} (hr : r.length = n) (hn : n ≤ 1048576) : i_isOnce r = some (onceB n (gI r)) := by
  unfold i_isOnce
  rw [chk_bind (by omega)]
  have key := all_loopS (i_isOnce_L0 r) n (okB n (gI r)) (fun k => (marks n (gI r) k, (k : Int))) false (by rw [BIG_val]; omega) ?_ ?_ ?_
  · have e0 : (List.replicate (r.length : Int).toNat false, (0 : Int)) = (marks n (gI r) 0, ((0 : Nat) : Int)) := by rw [marks_zero, hr]; rfl
    rw [e0, key, some_bind]
    unfold onceB
    cases (List.range n).all (okB n (gI r)) <;> rfl
  · intro k hk _ hf
    unfold i_isOnce_L0
    have hrng := okB_rng hf
    have hseen : ((List.range k).any fun j => decide (gI r j = gI r k)) = false := by
      unfold okB at hf
      simp only [Bool.and_eq_true, Bool.not_eq_true'] at hf
      exact hf.2
    unfold i_length_I
    simp only [hr, show (k : Int) < (n : Int) by omega, if_true, idxI (show k < r.length by omega), some_bind, i_inRange_eq, w_in (x := (n : Int) - 1) (by omega) (by omega), show decide (0 ≤ gI r k) = true from decide_eq_true hrng.1, show decide (gI r k ≤ (n : Int) - 1) = true from decide_eq_true hrng.2,
      Bool.and_self, Bool.true_eq_false, if_false, marks_get hrng, hseen, Bool.false_eq_true, marks_set hrng, w_in (x := (k : Int) + 1) (by omega) (by omega)]
    rfl
  · intro k hk _ hf
    unfold i_isOnce_L0 i_length_I
    simp only [hr, show (k : Int) < (n : Int) by omega, if_true, idxI (show k < r.length by omega), some_bind, i_inRange_eq, w_in (x := (n : Int) - 1) (by omega) (by omega)]
    cases hrg : (decide (0 ≤ gI r k) && decide (gI r k ≤ (n : Int) - 1)) with
    | false => simp
    | true =>
      have hrng : 0 ≤ gI r k ∧ gI r k ≤ (n : Int) - 1 := by simpa using hrg
      have hseen : ((List.range k).any fun j => decide (gI r j = gI r k)) = true := by
        unfold okB at hf
        rw [hrg] at hf
        simpa using hf
      simp only [Bool.true_eq_false, if_false, marks_get hrng, hseen, some_bind, if_true]
  · intro _
    unfold i_isOnce_L0
    simp [hr]

/-! ### Whether a table is a loop -/
def rowB (a : List (List Int)) (i : Nat) : Bool :=
  onceB a.length (gI (gR a i)) && onceB a.length (fun k => gI (gR a k) i) && (decide (gI (gR a 0) i = (i : Int)) && decide (gI (gR a i) 0 = (i : Int)))
def isLp (a : List (List Int)) : Bool :=
  (decide (1 ≤ (a.length : Int)) && decide ((a.length : Int) ≤ 128)) && ((List.range a.length).all (fun i => decide ((gR a i).length = a.length)) && (List.range a.length).all (rowB a))

theorem s_lenrows {a : List (List Int)} (hn : a.length ≤ 1048576) : loop (s_l13Is_L0 a) BIG 0 = some (if (List.range a.length).all (fun i => decide ((gR a i).length = a.length)) then .inl () else .inr false) := by
  refine all_loop _ a.length _ false (by rw [BIG_val]; omega) ?_ ?_ ?_
  · intro k hk hf
    have hf' : (gR a k).length = a.length := by simpa using hf
    unfold s_l13Is_L0
    simp only [show (k : Int) < (a.length : Int) by omega, if_true, idxR hk, some_bind, hf', not_true_eq_false, if_false]
    rw [w_in (by omega) (by omega)]; rfl
  · intro k hk hf
    have hf' : ¬ (gR a k).length = a.length := by simpa using hf
    unfold s_l13Is_L0
    simp only [show (k : Int) < (a.length : Int) by omega, if_true, idxR hk, some_bind, show ¬ ((gR a k).length : Int) = (a.length : Int) by omega, not_false_eq_true]
  · unfold s_l13Is_L0
    simp
theorem i_lenrows {a : List (List Int)} (hn : a.length ≤ 1048576) : loop (i_IsLoop_L0 a) BIG 0 = some (if (List.range a.length).all (fun i => decide ((gR a i).length = a.length)) then .inl () else .inr false) := by
  refine all_loop _ a.length _ false (by rw [BIG_val]; omega) ?_ ?_ ?_
  · intro k hk hf
    have hf' : (gR a k).length = a.length := by simpa using hf
    unfold i_IsLoop_L0
    simp only [show (k : Int) < (a.length : Int) by omega, if_true, idxR hk, some_bind, hf', not_true_eq_false, if_false]
    rw [w_in (by omega) (by omega)]; rfl
  · intro k hk hf
    have hf' : ¬ (gR a k).length = a.length := by simpa using hf
    unfold i_IsLoop_L0
    simp only [show (k : Int) < (a.length : Int) by omega, if_true, idxR hk, some_bind, show ¬ ((gR a k).length : Int) = (a.length : Int) by omega, not_false_eq_true]
  · unfold i_IsLoop_L0
    simp

section
variable {a : List (List Int)} (hn : a.length ≤ 128) (hl : ∀ i, i < a.length → (gR a i).length = a.length)
include hn hl
theorem s_rowcol {i : Nat} (hi : i < a.length) : loop (s_l13Is_L2 a (i : Int)) BIG (List.replicate (a.length : Int).toNat false, List.replicate (a.length : Int).toNat false, 0) =
    some (if onceB a.length (gI (gR a i)) && onceB a.length (fun k => gI (gR a k) i) then .inl () else .inr (.inr (.inr false))) := by
  have e0 : (List.replicate (a.length : Int).toNat false, List.replicate (a.length : Int).toNat false, (0 : Int)) = (marks a.length (gI (gR a i)) 0, marks a.length (fun k => gI (gR a k) i) 0, ((0 : Nat) : Int)) := by
    rw [marks_zero, marks_zero]; rfl
  have e1 : (onceB a.length (gI (gR a i)) && onceB a.length (fun k => gI (gR a k) i)) = (List.range a.length).all fun j => okB a.length (gI (gR a i)) j && okB a.length (fun k => gI (gR a k) i) j := by
    unfold onceB
    rw [Bool.eq_iff_iff]
    simp only [Bool.and_eq_true, List.all_eq_true]
    exact ⟨fun h x hx => ⟨h.1 x hx, h.2 x hx⟩, fun h => ⟨fun x hx => (h x hx).1, fun x hx => (h x hx).2⟩⟩
  rw [e0, e1]
  have body : ∀ k, k < a.length → s_l13Is_L2 a (i : Int) (marks a.length (gI (gR a i)) k, marks a.length (fun k => gI (gR a k) i) k, (k : Int)) =
      if okB a.length (gI (gR a i)) k && okB a.length (fun k => gI (gR a k) i) k then some (.inl (marks a.length (gI (gR a i)) (k + 1), marks a.length (fun k => gI (gR a k) i) (k + 1), ((k + 1 : Nat) : Int))) else some (.inr (.inr (.inr (.inr false)))) := by
    intro k hk
    unfold s_l13Is_L2
    have li := hl i hi
    have lk := hl k hk
    simp only [show (k : Int) < (a.length : Int) by omega, if_true, idxR hi, idxR hk, idxI (show k < (gR a i).length by omega), idxI (show i < (gR a k).length by omega), some_bind, s_l01In_eq, w_in (x := (a.length : Int) - 1) (by omega) (by omega)]
    cases r1 : (decide (0 ≤ gI (gR a i) k) && decide (gI (gR a i) k ≤ (a.length : Int) - 1)) with
    | false => simp [okB, r1]
    | true =>
      have q1 : 0 ≤ gI (gR a i) k ∧ gI (gR a i) k ≤ (a.length : Int) - 1 := by simpa using r1
      simp only [Bool.true_eq_false, if_false]
      cases r2 : (decide (0 ≤ gI (gR a k) i) && decide (gI (gR a k) i ≤ (a.length : Int) - 1)) with
      | false => simp [okB, r2]
      | true =>
        have q2 : 0 ≤ (fun k => gI (gR a k) i) k ∧ (fun k => gI (gR a k) i) k ≤ (a.length : Int) - 1 := by simpa using r2
        have m2 : idx (marks a.length (fun k => gI (gR a k) i) k) (gI (gR a k) i) = some ((List.range k).any fun j => decide (gI (gR a j) i = gI (gR a k) i)) := marks_get q2
        have s2 : (marks a.length (fun k => gI (gR a k) i) k).set (gI (gR a k) i).toNat true = marks a.length (fun k => gI (gR a k) i) (k + 1) := marks_set q2
        simp only [Bool.true_eq_false, if_false, marks_get q1, m2, some_bind]
        cases r3 : ((List.range k).any fun j => decide (gI (gR a i) j = gI (gR a i) k)) with
        | true => simp [okB, r3]
        | false =>
          simp only [Bool.false_eq_true, if_false, some_bind]
          cases r4 : ((List.range k).any fun j => decide (gI (gR a j) i = gI (gR a k) i)) with
          | true => simp [okB, r4]
          | false =>
            have o1 : okB a.length (gI (gR a i)) k = true := by unfold okB; rw [r1, r3]; rfl
            have o2 : okB a.length (fun k => gI (gR a k) i) k = true := by unfold okB; rw [r2, r4]; rfl
            simp only [o1, o2, Bool.and_self, if_true, Bool.false_eq_true, if_false, marks_set q1, s2, w_in (x := (k : Int) + 1) (by omega) (by omega)]
            rfl
  refine all_loopS _ a.length _ (fun k => (marks a.length (gI (gR a i)) k, marks a.length (fun k => gI (gR a k) i) k, (k : Int))) _ (by rw [BIG_val]; omega) ?_ ?_ ?_
  · intro k hk _ hf
    rw [body k hk, hf]; rfl
  · intro k hk _ hf
    rw [body k hk, hf]; rfl
  · intro _
    unfold s_l13Is_L2
    simp
end
theorem s_l13Is_eq {a : List (List Int)} (hz : a.length ≤ 1048576) : s_l13Is a = some (isLp a) := by
  unfold s_l13Is isLp
  rw [s_l01In_eq, some_bind]
  cases h0 : (decide (1 ≤ (a.length : Int)) && decide ((a.length : Int) ≤ 128)) with
  | false => simp
  | true =>
    have h0' : 1 ≤ (a.length : Int) ∧ (a.length : Int) ≤ 128 := by simpa using h0
    rw [s_lenrows hz]
    cases h1 : (List.range a.length).all (fun i => decide ((gR a i).length = a.length)) with
    | false => simp
    | true =>
      have hl : ∀ i, i < a.length → (gR a i).length = a.length := fun i hi => by
        have := List.all_eq_true.1 h1 i (List.mem_range.2 hi)
        simpa using this
      have hn : a.length ≤ 128 := by omega
      have key : loop (s_l13Is_L1 a) BIG 0 = some (if (List.range a.length).all (rowB a) then .inl () else .inr false) := by
        have body : ∀ k, k < a.length → s_l13Is_L1 a (k : Int) = if rowB a k then some (.inl ((k + 1 : Nat) : Int)) else some (.inr (.inr false)) := by
          intro k hk
          unfold s_l13Is_L1
          rw [if_pos (by omega), chk_bind (by omega), chk_bind (by omega), s_rowcol hn hl hk]
          have l0 := hl 0 (by omega)
          have lk := hl k hk
          unfold rowB
          cases (onceB a.length (gI (gR a k)) && onceB a.length (fun j => gI (gR a j) k)) with
          | false => simp
          | true =>
            simp only [if_true, some_bind, idxR0 (show 0 < a.length by omega), idxI (show k < (gR a 0).length by omega), idxR hk, idxI0 (show 0 < (gR a k).length by omega), Bool.true_and]
            by_cases c1 : gI (gR a 0) k = (k : Int)
            · by_cases c2 : gI (gR a k) 0 = (k : Int)
              · simp only [c1, c2, not_true_eq_false, if_false, some_bind, ieq_self, Bool.not_true, Bool.false_eq_true, decide_true, Bool.and_self, if_true, w_in (x := (k : Int) + 1) (by omega) (by omega)]
                rfl
              · have : ieq (gI (gR a k) 0) (k : Int) = false := by simp [ieq, c2]
                simp [c1, c2, this]
            · simp [c1]
        refine all_loop _ a.length (rowB a) false (by rw [BIG_val]; omega) ?_ ?_ ?_
        · intro k hk hf
          rw [body k hk, if_pos hf]
        · intro k hk hf
          rw [body k hk, if_neg (by simp [hf])]
        · unfold s_l13Is_L1
          simp
      simp only [Bool.true_eq_false, if_false, if_true, some_bind, key, Bool.true_and]
      cases (List.range a.length).all (rowB a) <;> rfl

theorem onceB_rng {n : Nat} {f : Nat → Int} (h : onceB n f = true) {j : Nat} (hj : j < n) : 0 ≤ f j ∧ f j ≤ (n : Int) - 1 :=
  okB_rng (List.all_eq_true.1 h j (List.mem_range.2 hj))
theorem onceB_congr {n : Nat} {f g : Nat → Int} (h : ∀ j, j < n → f j = g j) : onceB n f = onceB n g := by
  unfold onceB
  rw [Bool.eq_iff_iff]
  simp only [List.all_eq_true, List.mem_range]
  have key : ∀ x, x < n → okB n f x = okB n g x := fun x hx => by
    unfold okB
    rw [h x hx]
    congr 2
    rw [Bool.eq_iff_iff]
    simp only [List.any_eq_true, List.mem_range, decide_eq_true_eq]
    constructor
    · rintro ⟨k, hk, e⟩; exact ⟨k, hk, by rw [← h k (by omega)]; exact e⟩
    · rintro ⟨k, hk, e⟩; exact ⟨k, hk, by rw [h k (by omega)]; exact e⟩
  exact ⟨fun H x hx => by rw [← key x hx]; exact H x hx, fun H x hx => by rw [key x hx]; exact H x hx⟩
theorem contains_once {m : List (List Int)} {n : Nat} (hm : m.length ≤ 1048576) (hn : n ≤ 1048576) (hr : ∀ k, k < m.length → (gR m k).length = n) :
    g_slices_ContainsFunc_LLI_LI_of_i_IsLoop_c1 m = some (!(List.range m.length).all fun k => onceB n (gI (gR m k))) := by
  unfold g_slices_ContainsFunc_LLI_LI_of_i_IsLoop_c1 g_slices_IndexFunc_LLI_LI_of_i_IsLoop_c1
  have core : ∀ k, k < m.length → i_IsLoop_c1 (gR m k) = some (!onceB n (gI (gR m k))) := fun k hk => by
    unfold i_IsLoop_c1
    rw [i_isOnce_eq (hr k hk) hn, some_bind]
  obtain ⟨b, h1, h2⟩ := any_loop (g_slices_IndexFunc_LLI_LI_of_i_IsLoop_c1_L0 m) m.length (fun k => !onceB n (gI (gR m k))) (fun k => (k : Int)) (by rw [BIG_val]; omega)
    (fun k hk hf => by
      unfold g_slices_IndexFunc_LLI_LI_of_i_IsLoop_c1_L0
      simp only [show (k : Int) < (m.length : Int) by omega, if_true, idxR hk, some_bind, core k hk, hf, Bool.false_eq_true, if_false]
      rw [w_in (by omega) (by omega)]; rfl) (fun k hk hf => by
      unfold g_slices_IndexFunc_LLI_LI_of_i_IsLoop_c1_L0
      simp only [show (k : Int) < (m.length : Int) by omega, if_true, idxR hk, some_bind, core k hk, hf]) (by
      unfold g_slices_IndexFunc_LLI_LI_of_i_IsLoop_c1_L0
      simp)
  rw [not_all, h1]
  rcases h2 with ⟨rfl, h3⟩ | ⟨k, hk, rfl, hf, h3, _⟩
  · rw [h3]; simp [ile]
  · rw [h3]; simp [ile]
theorem i_IsLoop_eq {a : List (List Int)} (hz : a.length ≤ 1048576) : i_IsLoop a = some (isLp a) := by
  unfold i_IsLoop isLp
  by_cases hA : (a.length : Int) < 1
  · have : decide (1 ≤ (a.length : Int)) = false := decide_eq_false (by omega)
    simp [hA, this]
  by_cases hB : (128 : Int) < (a.length : Int)
  · have : decide ((a.length : Int) ≤ 128) = false := decide_eq_false (by omega)
    simp [hA, this, ilt_true hB]
  have hd : (decide (1 ≤ (a.length : Int)) && decide ((a.length : Int) ≤ 128)) = true := by simp; omega
  have hn : a.length ≤ 128 := by omega
  rw [hd, i_lenrows hz]
  simp only [hA, if_false, some_bind, ilt_false hB, Bool.false_eq_true]
  cases h1 : (List.range a.length).all (fun i => decide ((gR a i).length = a.length)) with
  | false => simp
  | true =>
    have hl : ∀ i, i < a.length → (gR a i).length = a.length := fun i hi => by
      have := List.all_eq_true.1 h1 i (List.mem_range.2 hi)
      simpa using this
    let f : Nat → Bool := fun i => onceB a.length (gI (gR a i)) && (decide (gI (gR a 0) i = (i : Int)) && decide (gI (gR a i) 0 = (i : Int)))
    have key : loop (i_IsLoop_L1 a) BIG 0 = some (if (List.range a.length).all f then .inl () else .inr false) := by
      have body : ∀ k, k < a.length → i_IsLoop_L1 a (k : Int) = if f k then some (.inl ((k + 1 : Nat) : Int)) else some (.inr (.inr false)) := by
        intro k hk
        unfold i_IsLoop_L1
        have l0 := hl 0 (by omega)
        have lk := hl k hk
        simp only [show (k : Int) < (a.length : Int) by omega, if_true, idxR hk, some_bind, idxI0 (show 0 < (gR a k).length by omega), idxR0 (show 0 < a.length by omega), idxI (show k < (gR a 0).length by omega), i_isOnce_eq lk hz, f]
        by_cases c2 : gI (gR a k) 0 = (k : Int)
        · by_cases c1 : gI (gR a 0) k = (k : Int)
          · simp only [c1, c2, not_true_eq_false, if_false, some_bind, decide_true, Bool.and_self, Bool.and_true]
            cases onceB a.length (gI (gR a k)) with
            | true =>
              simp only [Bool.not_true, Bool.false_eq_true, if_false, if_true, w_in (x := (k : Int) + 1) (by omega) (by omega)]
              rfl
            | false => simp
          · simp [c1, c2]
        · simp [c2]
      refine all_loop _ a.length f false (by rw [BIG_val]; omega) ?_ ?_ ?_
      · intro k hk hf
        rw [body k hk, if_pos hf]
      · intro k hk hf
        rw [body k hk, if_neg (by simp [hf])]
      · unfold i_IsLoop_L1
        simp
    simp only [if_true, some_bind, key, Bool.true_and]
    have hrow : (List.range a.length).all (rowB a) = ((List.range a.length).all f && (List.range a.length).all fun k => onceB a.length (fun j => gI (gR a j) k)) := by
      rw [Bool.eq_iff_iff]
      simp only [Bool.and_eq_true, List.all_eq_true, rowB, f]
      exact ⟨fun h => ⟨fun x hx => ⟨(h x hx).1.1, (h x hx).2⟩, fun x hx => (h x hx).1.2⟩, fun h x hx => ⟨⟨(h.1 x hx).1, h.2 x hx⟩, (h.1 x hx).2⟩⟩
    rw [hrow]
    cases hf : (List.range a.length).all f with
    | false => simp
    | true =>
      have hm : Mat (a.length : Int) a.length a.length a := ⟨rfl, fun i hi => ⟨hl i hi, fun k hk => by
        have h3 := List.all_eq_true.1 hf i (List.mem_range.2 hi)
        simp only [f, Bool.and_eq_true] at h3
        have := onceB_rng h3.1 hk
        exact ⟨this.1, by omega⟩⟩⟩
      have ht := i_transpose_eq (show 0 < a.length by omega) hz hz hm
      have hlen : (turnm a.length a.length a).length = a.length := by unfold turnm; exact vecN_len _ _
      have hrr : ∀ k, k < (turnm a.length a.length a).length → (gR (turnm a.length a.length a) k).length = a.length := fun k hk => by
        rw [hlen] at hk
        unfold turnm
        rw [gR_vecN _ hk]
        exact vecN_len _ _
      simp only [if_true, ht, some_bind, contains_once (by rw [hlen]; exact hz) hz hrr, Bool.not_not, Bool.true_and]
      congr 1
      rw [hlen, Bool.eq_iff_iff]
      simp only [List.all_eq_true, List.mem_range]
      have : ∀ k, k < a.length → onceB a.length (gI (gR (turnm a.length a.length a) k)) = onceB a.length (fun j => gI (gR a j) k) := fun k hk => onceB_congr fun j hj => turnm_at hj hk
      exact ⟨fun h x hx => by rw [← this x hx]; exact h x hx, fun h x hx => by rw [this x hx]; exact h x hx⟩
/-! ### The nucleus and the centre -/
theorem isLp_tab {a : List (List Int)} (h : isLp a = true) : a.length ≤ 128 ∧ 0 < a.length ∧ Mat (a.length : Int) a.length a.length a := by
  unfold isLp at h
  simp only [Bool.and_eq_true, List.all_eq_true, List.mem_range, decide_eq_true_eq] at h
  refine ⟨by omega, by omega, rfl, fun i hi => ⟨h.2.1 i hi, fun k hk => ?_⟩⟩
  have h3 := h.2.2 i hi
  unfold rowB at h3
  simp only [Bool.and_eq_true] at h3
  have := onceB_rng h3.1.1 hk
  exact ⟨this.1, by omega⟩
/-- The product of two elements. -/
def tN (a : List (List Int)) (i j : Nat) : Nat := (gI (gR a i) j).toNat
/-- Three elements associate. -/
def asB (a : List (List Int)) (x y z : Nat) : Bool := decide (tN a (tN a x y) z = tN a x (tN a y z))
def comB (a : List (List Int)) (x y : Nat) : Bool := decide (tN a x y = tN a y x)
section
variable {a : List (List Int)} (hn : a.length ≤ 128) (hm : Mat (a.length : Int) a.length a.length a)
include hn hm
theorem tN_lt {i j : Nat} (hi : i < a.length) (hj : j < a.length) : tN a i j < a.length ∧ gI (gR a i) j = ((tN a i j : Nat) : Int) := by
  have := (hm.row hi).get hj
  unfold tN
  omega
theorem idx_t {i j : Nat} (hi : i < a.length) (hj : j < a.length) : idx (gR a i) (j : Int) = some ((tN a i j : Nat) : Int) := by
  have h1 := (hm.row hi).1
  rw [idxI (by omega), (tN_lt hn hm hi hj).2]
theorem as_eq {x y z : Nat} (hx : x < a.length) (hy : y < a.length) (hz : z < a.length) : s_l13Associates a (x : Int) (y : Int) (z : Int) = some (asB a x y z) ∧ i_associates a (x : Int) (y : Int) (z : Int) = some (asB a x y z) := by
  have t1 := (tN_lt hn hm hx hy).1
  have t2 := (tN_lt hn hm hy hz).1
  unfold s_l13Associates i_associates asB
  rw [idxR hx, some_bind, idx_t hn hm hx hy, some_bind, idxR t1, some_bind, idx_t hn hm t1 hz, some_bind, idxR hy, some_bind, idx_t hn hm hy hz, some_bind, idx_t hn hm hx t2, some_bind, ieq_nat]
  exact ⟨rfl, rfl⟩
end

theorem foldN_filter (F : Nat → Bool) : ∀ n, foldN (fun k s => if F k then s ++ [(k : Int)] else s) ([] : List Int) n = ((List.range n).filter F).map (fun k : Nat => (k : Int))
  | 0 => by simp [foldN]
  | n + 1 => by
    simp only [foldN, foldN_filter F n, List.range_succ, List.filter_append, List.map_append]
    cases h : F n <;> simp [h]

section
variable {a : List (List Int)} (hn : a.length ≤ 128) (hm : Mat (a.length : Int) a.length a.length a)
include hn hm
end

end Go.Vam

/- Plain laws: what is made of some elements of a loop: the search of both programs ends with it. -/
namespace Go.Vam
open Go Go.RowKit
set_option linter.unusedSimpArgs false
set_option linter.unusedVariables false
set_option linter.unusedSectionVars false

/-- What is made of some elements. -/
inductive Mk (a : List (List Int)) (S : Nat → Prop) : Nat → Prop
  | zero : Mk a S 0
  | seed {x : Nat} : S x → Mk a S x
  | mul {x y : Nat} : Mk a S x → Mk a S y → Mk a S (tN a x y)
theorem Mk.mono {a : List (List Int)} {S T : Nat → Prop} (h : ∀ x, S x → T x) {x : Nat} (hx : Mk a S x) : Mk a T x := by
  induction hx with
  | zero => exact .zero
  | seed hs => exact .seed (h _ hs)
  | mul _ _ h1 h2 => exact .mul h1 h2
/-- A closed set that has the elements has all that is made of them. -/
theorem Mk.least {a : List (List Int)} {S T : Nat → Prop} (h0 : T 0) (hs : ∀ x, S x → T x) (hm : ∀ x y, T x → T y → T (tN a x y)) {x : Nat} (hx : Mk a S x) : T x := by
  induction hx with
  | zero => exact h0
  | seed h => exact hs _ h
  | mul _ _ h1 h2 => exact hm _ _ h1 h2

def addS (s : List Bool × List Int) (x : Nat) : List Bool × List Int := if s.1.getD x false = true then s else (s.1.set x true, s.2 ++ [(x : Int)])

/-- Marks and queue agree, and have what is made alone. -/
structure Bq (a : List (List Int)) (S : Nat → Prop) (s : List Bool × List Int) : Prop where
  len : s.1.length = a.length
  nd : s.2.Nodup
  rng : ∀ v ∈ s.2, ∃ k : Nat, k < a.length ∧ v = (k : Int) ∧ Mk a S k
  mrk : ∀ k : Nat, k < a.length → (s.1.getD k false = true ↔ (k : Int) ∈ s.2)

section
variable {a : List (List Int)} {S : Nat → Prop} {s : List Bool × List Int}
theorem Bq.perm (h : Bq a S s) : s.2.Perm (((List.range a.length).filter fun k : Nat => decide ((k : Int) ∈ s.2)).map fun k : Nat => (k : Int)) := by
  refine (List.perm_ext_iff_of_nodup h.nd ?_).2 fun v => ?_
  · refine List.Pairwise.map _ ?_ (List.Pairwise.filter _ List.nodup_range)
    intro x y hxy e
    exact hxy (by omega)
  · rw [List.mem_map]
    constructor
    · intro hv
      obtain ⟨k, hk, rfl, _⟩ := h.rng v hv
      exact ⟨k, List.mem_filter.2 ⟨List.mem_range.2 hk, by simpa using hv⟩, rfl⟩
    · rintro ⟨k, hk, rfl⟩
      simpa using (List.mem_filter.1 hk).2
theorem Bq.short (h : Bq a S s) : s.2.length ≤ a.length := by
  rw [h.perm.length_eq, List.length_map]
  have := List.length_filter_le (fun k : Nat => decide ((k : Int) ∈ s.2)) (List.range a.length)
  simpa using this
theorem Bq.add (h : Bq a S s) {x : Nat} (hx : x < a.length) (hc : Mk a S x) : Bq a S (addS s x) ∧ (x : Int) ∈ (addS s x).2 ∧ ∃ t, (addS s x).2 = s.2 ++ t := by
  unfold addS
  by_cases hm : s.1.getD x false = true
  · rw [if_pos hm]
    exact ⟨h, (h.mrk x hx).1 hm, [], by simp⟩
  · rw [if_neg hm]
    have hn : (x : Int) ∉ s.2 := fun e => hm ((h.mrk x hx).2 e)
    refine ⟨⟨by simp [h.len], ?_, fun v hv => ?_, fun k hk => ?_⟩, by simp, _, rfl⟩
    · refine List.nodup_append.2 ⟨h.nd, by simp, fun u hu v hv => ?_⟩
      simp only [List.mem_singleton] at hv
      subst hv
      exact fun e => hn (e ▸ hu)
    · rcases List.mem_append.1 hv with hv | hv
      · exact h.rng v hv
      · simp only [List.mem_singleton] at hv
        exact ⟨x, hx, hv, hc⟩
    · simp only [List.mem_append, List.mem_singleton, List.getD_eq_getElem?_getD, List.getElem?_set, h.len]
      by_cases e : x = k
      · subst e
        simp [hx]
      · rw [if_neg e, ← List.getD_eq_getElem?_getD, h.mrk k hk]
        constructor
        · exact fun h => .inl h
        · rintro (h | h)
          · exact h
          · exact absurd (by omega) e

/-- The queue's element at a place. -/
def qN (s : List Bool × List Int) (j : Nat) : Nat := (gI s.2 j).toNat
theorem Bq.at_ (h : Bq a S s) {j : Nat} (hj : j < s.2.length) : gI s.2 j = ((qN s j : Nat) : Int) ∧ qN s j < a.length ∧ Mk a S (qN s j) := by
  have hmem : gI s.2 j ∈ s.2 := by rw [← gI_get hj]; exact List.getElem_mem _
  obtain ⟨k, hk, e, hc⟩ := h.rng _ hmem
  have : qN s j = k := by unfold qN; omega
  rw [this]
  exact ⟨e, hk, hc⟩
theorem qN_app {s s' : List Bool × List Int} {t : List Int} (h : s'.2 = s.2 ++ t) {j : Nat} (hj : j < s.2.length) : qN s' j = qN s j := by
  unfold qN gI
  rw [h]
  simp only [List.getD_eq_getElem?_getD, List.getElem?_append_left hj]

/-- A step of both loops: the two products of the elements at i and k. -/
def stepS (a : List (List Int)) (s : List Bool × List Int) (i k : Nat) : List Bool × List Int := addS (addS s (tN a (qN s i) (qN s k))) (tN a (qN s k) (qN s i))
/-- The products of the elements at i and j are in the queue. -/
def hasP (a : List (List Int)) (s : List Bool × List Int) (i j : Nat) : Prop := ((tN a (qN s i) (qN s j) : Nat) : Int) ∈ s.2 ∧ ((tN a (qN s j) (qN s i) : Nat) : Int) ∈ s.2
theorem hasP.app {s s' : List Bool × List Int} {t : List Int} (h : s'.2 = s.2 ++ t) {i j : Nat} (hi : i < s.2.length) (hj : j < s.2.length) (hp : hasP a s i j) : hasP a s' i j := by
  unfold hasP
  rw [qN_app h hi, qN_app h hj, h]
  exact ⟨List.mem_append_left _ hp.1, List.mem_append_left _ hp.2⟩

variable (hn : a.length ≤ 128) (hm : Mat (a.length : Int) a.length a.length a)
include hn hm
theorem Bq.step (h : Bq a S s) {i k : Nat} (hi : i < s.2.length) (hk : k < s.2.length) : Bq a S (stepS a s i k) ∧ hasP a (stepS a s i k) i k ∧ ∃ t, (stepS a s i k).2 = s.2 ++ t := by
  obtain ⟨e1, l1, c1⟩ := h.at_ hi
  obtain ⟨e2, l2, c2⟩ := h.at_ hk
  obtain ⟨b1, m1, t1, ht1⟩ := h.add (tN_lt hn hm l1 l2).1 (.mul c1 c2)
  obtain ⟨b2, m2, t2, ht2⟩ := b1.add (tN_lt hn hm l2 l1).1 (.mul c2 c1)
  have ht : (stepS a s i k).2 = s.2 ++ (t1 ++ t2) := by unfold stepS; rw [ht2, ht1, List.append_assoc]
  refine ⟨b2, ?_, _, ht⟩
  unfold hasP
  rw [qN_app ht hi, qN_app ht hk]
  refine ⟨?_, m2⟩
  unfold stepS
  rw [ht2]
  exact List.mem_append_left _ m1

theorem inner_loop (step : List Bool × List Int × Int → Option ((List Bool × List Int × Int) ⊕ (List Bool × List Int))) {i : Nat} (h : Bq a S s) (hi : i < s.2.length)
    (h1 : ∀ k s', k ≤ i → Bq a S s' → i < s'.2.length → step (s'.1, s'.2, (k : Int)) = some (.inl ((stepS a s' i k).1, (stepS a s' i k).2, ((k + 1 : Nat) : Int))))
    (h2 : ∀ s' : List Bool × List Int, step (s'.1, s'.2, ((i + 1 : Nat) : Int)) = some (.inr s')) :
    ∃ s', loop step BIG (s.1, s.2, 0) = some s' ∧ Bq a S s' ∧ (∃ t, s'.2 = s.2 ++ t) ∧ ∀ k, k ≤ i → hasP a s' i k := by
  refine loop_inv (step := step) (fun z => ∃ (k : Nat) (s' : List Bool × List Int), z = (s'.1, s'.2, (k : Int)) ∧ k ≤ i + 1 ∧ Bq a S s' ∧ (∃ t, s'.2 = s.2 ++ t) ∧ ∀ j, j < k → hasP a s' i j) (fun z => i + 1 - z.2.2.toNat) _
    ⟨0, s, rfl, by omega, h, ⟨[], by simp⟩, fun j hj => by omega⟩ (by have := h.short; rw [BIG_val]; show i + 1 - 0 < _; omega) ?_
  rintro z ⟨k, s', rfl, hk, hb, ⟨t, ht⟩, hp⟩
  have hl : s.2.length ≤ s'.2.length := by rw [ht]; simp
  by_cases hki : k ≤ i
  · obtain ⟨b1, p1, t1, ht1⟩ := hb.step hn hm (show i < s'.2.length by omega) (show k < s'.2.length by omega)
    refine .inl ⟨_, h1 k s' hki hb (by omega), ⟨k + 1, _, rfl, by omega, b1, ⟨t ++ t1, by rw [ht1, ht, List.append_assoc]⟩, fun j hj => ?_⟩, by simp only [Int.toNat_natCast]; omega⟩
    rcases Nat.lt_succ_iff_lt_or_eq.1 hj with hj | rfl
    · exact (hp j hj).app ht1 (by omega) (by omega)
    · exact p1
  · have : k = i + 1 := by omega
    subst this
    exact .inr ⟨_, h2 s', hb, ⟨t, ht⟩, fun j hj => hp j (by omega)⟩

theorem outer_loop {B : Type} (out : List Bool × List Int → B) (step : List Bool × List Int × Int → Option ((List Bool × List Int × Int) ⊕ B)) (h : Bq a S s)
    (h1 : ∀ (i : Nat) s', Bq a S s' → i < s'.2.length → ∃ s'', step (s'.1, s'.2, (i : Int)) = some (.inl (s''.1, s''.2, ((i + 1 : Nat) : Int))) ∧ Bq a S s'' ∧ (∃ t, s''.2 = s'.2 ++ t) ∧ ∀ k, k ≤ i → hasP a s'' i k)
    (h2 : ∀ s' : List Bool × List Int, Bq a S s' → step (s'.1, s'.2, (s'.2.length : Int)) = some (.inr (out s'))) :
    ∃ s', loop step BIG (s.1, s.2, 0) = some (out s') ∧ Bq a S s' ∧ (∃ t, s'.2 = s.2 ++ t) ∧ ∀ i k, i < s'.2.length → k < s'.2.length → ((tN a (qN s' i) (qN s' k) : Nat) : Int) ∈ s'.2 := by
  have key := loop_inv (step := step) (fun z => ∃ (i : Nat) (s' : List Bool × List Int), z = (s'.1, s'.2, (i : Int)) ∧ i ≤ s'.2.length ∧ Bq a S s' ∧ (∃ t, s'.2 = s.2 ++ t) ∧ ∀ j k, j < i → k ≤ j → hasP a s' j k) (fun z => a.length - z.2.2.toNat)
    (fun b => ∃ s', b = out s' ∧ Bq a S s' ∧ (∃ t, s'.2 = s.2 ++ t) ∧ ∀ i k, i < s'.2.length → k < s'.2.length → ((tN a (qN s' i) (qN s' k) : Nat) : Int) ∈ s'.2)
    (s := (s.1, s.2, 0)) ⟨0, s, rfl, by omega, h, ⟨[], by simp⟩, fun j k hj => by omega⟩ (by rw [BIG_val]; show a.length - 0 < _; omega) ?_
  · obtain ⟨b, e, s', rfl, h3⟩ := key
    exact ⟨s', e, h3⟩
  rintro z ⟨i, s', rfl, hi, hb, ⟨t, ht⟩, hp⟩
  have hsh := hb.short
  by_cases hil : i < s'.2.length
  · obtain ⟨s'', e, b2, ⟨t2, ht2⟩, hp2⟩ := h1 i s' hb hil
    refine .inl ⟨_, e, ⟨i + 1, s'', rfl, ?_, b2, ⟨t ++ t2, by rw [ht2, ht, List.append_assoc]⟩, fun j k hj hk => ?_⟩, by simp only [Int.toNat_natCast]; omega⟩
    · rw [ht2, List.length_append]; omega
    · rcases Nat.lt_succ_iff_lt_or_eq.1 hj with hj | rfl
      · exact (hp j k hj hk).app ht2 (by omega) (by omega)
      · exact hp2 k hk
  · have : i = s'.2.length := by omega
    subst this
    refine .inr ⟨_, h2 s' hb, s', rfl, hb, ⟨t, ht⟩, fun j k hj hk => ?_⟩
    by_cases hkj : k ≤ j
    · exact (hp j k hj hkj).1
    · exact (hp k j hk (by omega)).2

/-- What is closed and holds the elements is what is made of them. -/
theorem Bq.all (h : Bq a S s) (h0 : (0 : Int) ∈ s.2) (hs : ∀ x, S x → (x : Int) ∈ s.2) (hc : ∀ i k, i < s.2.length → k < s.2.length → ((tN a (qN s i) (qN s k) : Nat) : Int) ∈ s.2) (x : Nat) :
    (x : Int) ∈ s.2 ↔ Mk a S x := by
  constructor
  · intro hx
    obtain ⟨k, _, e, hk⟩ := h.rng _ hx
    have : x = k := by omega
    rw [this]; exact hk
  · intro hx
    refine hx.least (T := fun x => (x : Int) ∈ s.2) h0 hs fun x y hx hy => ?_
    have key : ∀ x : Nat, (x : Int) ∈ s.2 → ∃ i, i < s.2.length ∧ qN s i = x := fun x hx => by
      obtain ⟨i, hi, e⟩ := List.getElem_of_mem hx
      refine ⟨i, hi, ?_⟩
      unfold qN
      rw [← gI_get hi, e]; simp
    obtain ⟨i, hi, rfl⟩ := key x hx
    obtain ⟨k, hk, rfl⟩ := key y hy
    exact hc i k hi hk
end

/-! ### The programs -/
open Classical in
noncomputable def mkB (a : List (List Int)) (S : Nat → Prop) (k : Nat) : Bool := decide (Mk a S k)
theorem mkB_iff {a : List (List Int)} {S : Nat → Prop} {k : Nat} : mkB a S k = true ↔ Mk a S k := by unfold mkB; simp
theorem mkB_congr {a : List (List Int)} {S T : Nat → Prop} (h : ∀ x, S x ↔ T x) (k : Nat) : mkB a S k = mkB a T k := by
  rw [Bool.eq_iff_iff, mkB_iff, mkB_iff]
  exact ⟨Mk.mono fun x hx => (h x).1 hx, Mk.mono fun x hx => (h x).2 hx⟩
/-- The least subloop, ascending. -/
noncomputable def subN (a : List (List Int)) (S : Nat → Prop) : List Nat := (List.range a.length).filter (mkB a S)
abbrev castL (l : List Nat) : List Int := l.map fun k : Nat => (k : Int)
theorem castL_gI {l : List Nat} {j : Nat} (h : j < l.length) : gI (castL l) j = ((l[j] : Nat) : Int) := by
  rw [← gI_get (by simpa using h)]; simp [castL]

section
variable {a : List (List Int)} (hn : a.length ≤ 128) (hm : Mat (a.length : Int) a.length a.length a)
variable {S : Nat → Prop} {s : List Bool × List Int}
theorem Bq.start (h0 : 0 < a.length) : Bq a S ((List.replicate a.length false).set 0 true, [0]) := by
  refine ⟨by simp, by simp, fun v hv => ⟨0, h0, by simpa using hv, .zero⟩, fun k hk => ?_⟩
  simp only [List.getD_eq_getElem?_getD, List.getElem?_set, List.length_replicate]
  by_cases e : 0 = k
  · subst e; simp [h0]
  · rw [if_neg e]
    simp [hk]; omega
theorem seeds_loop (step : List Bool × List Int × Int → Option ((List Bool × List Int × Int) ⊕ (List Bool × List Int))) {l : List Nat} (hS : ∀ x, x ∈ l → S x) (hl : ∀ x ∈ l, x < a.length) (hb : l.length < BIG) (h : Bq a S s)
    (h1 : ∀ (j : Nat) (hj : j < l.length) s', Bq a S s' → step (s'.1, s'.2, (j : Int)) = some (.inl ((addS s' l[j]).1, (addS s' l[j]).2, ((j + 1 : Nat) : Int))))
    (h2 : ∀ s' : List Bool × List Int, step (s'.1, s'.2, (l.length : Int)) = some (.inr s')) :
    ∃ s', loop step BIG (s.1, s.2, 0) = some s' ∧ Bq a S s' ∧ (∃ t, s'.2 = s.2 ++ t) ∧ ∀ x ∈ l, (x : Int) ∈ s'.2 := by
  refine loop_inv (step := step) (fun z => ∃ (j : Nat) (s' : List Bool × List Int), z = (s'.1, s'.2, (j : Int)) ∧ j ≤ l.length ∧ Bq a S s' ∧ (∃ t, s'.2 = s.2 ++ t) ∧ ∀ x ∈ l.take j, (x : Int) ∈ s'.2) (fun z => l.length - z.2.2.toNat) _
    ⟨0, s, rfl, by omega, h, ⟨[], by simp⟩, fun x hx => by simp at hx⟩ (by show l.length - 0 < BIG; omega) ?_
  rintro z ⟨j, s', rfl, hj, hb', ⟨t, ht⟩, hp⟩
  by_cases hjl : j < l.length
  · obtain ⟨b1, m1, t1, ht1⟩ := hb'.add (hl _ (List.getElem_mem hjl)) (.seed (hS _ (List.getElem_mem hjl)))
    refine .inl ⟨_, h1 j hjl s' hb', ⟨j + 1, _, rfl, by omega, b1, ⟨t ++ t1, by rw [ht1, ht, List.append_assoc]⟩, fun x hx => ?_⟩, by simp only [Int.toNat_natCast]; omega⟩
    rw [List.take_succ_eq_append_getElem hjl] at hx
    rcases List.mem_append.1 hx with hx | hx
    · rw [ht1]; exact List.mem_append_left _ (hp x hx)
    · simp only [List.mem_singleton] at hx
      rw [hx]; exact m1
  · have : j = l.length := by omega
    subst this
    rw [List.take_length] at hp
    exact .inr ⟨_, h2 s', hb', ⟨t, ht⟩, hp⟩
include hn
theorem c1_add (h : Bq a S s) {x : Nat} (hx : x < a.length) : i_subloop_c1 (x : Int) s.1 s.2 = some (addS s x) := by
  unfold i_subloop_c1 addS
  have hs := h.short
  rw [idxD (z := false) (by rw [h.len]; exact hx), some_bind]
  cases hb : s.1.getD x false with
  | true => simp
  | false =>
    simp only [if_true, Bool.false_eq_true, if_false]
    rw [chk_bind (by simp only [List.length_cons, List.length_nil]; omega)]
    rfl
include hm
theorem i_sub_inner {i : Nat} (h : Bq a S s) (hi : i < s.2.length) : ∃ s', loop (i_subloop_L2 a (s.1, s.2, (i : Int))) BIG (s.1, s.2, 0) = some s' ∧ Bq a S s' ∧ (∃ t, s'.2 = s.2 ++ t) ∧ ∀ k, k ≤ i → hasP a s' i k := by
  refine inner_loop hn hm _ h hi ?_ ?_
  · intro k s' hk hb hi'
    have hsh := hb.short
    obtain ⟨e1, l1, c1⟩ := hb.at_ hi'
    obtain ⟨e2, l2, c2⟩ := hb.at_ (show k < s'.2.length by omega)
    obtain ⟨b1, m1, t1, ht1⟩ := hb.add (tN_lt hn hm l1 l2).1 (.mul c1 c2)
    have hi2 : i < (addS s' (tN a (qN s' i) (qN s' k))).2.length := by rw [ht1, List.length_append]; omega
    have hk2 : k < (addS s' (tN a (qN s' i) (qN s' k))).2.length := by omega
    have g1 : gI (addS s' (tN a (qN s' i) (qN s' k))).2 i = ((qN s' i : Nat) : Int) := by rw [(b1.at_ hi2).1, qN_app ht1 hi']
    have g2 : gI (addS s' (tN a (qN s' i) (qN s' k))).2 k = ((qN s' k : Nat) : Int) := by rw [(b1.at_ hk2).1, qN_app ht1 (by omega)]
    unfold i_subloop_L2
    simp only [show (k : Int) ≤ (i : Int) by omega, if_true, idxI hi', idxI (show k < s'.2.length by omega), e1, e2, some_bind, idxR l1, idxR l2, idx_t hn hm l1 l2, idx_t hn hm l2 l1, c1_add hn hb (tN_lt hn hm l1 l2).1,
      idxI hi2, idxI hk2, g1, g2, c1_add hn b1 (tN_lt hn hm l2 l1).1, w_in (x := (k : Int) + 1) (by omega) (by omega)]
    rfl
  · intro s'
    unfold i_subloop_L2
    rw [if_neg (by simp only []; omega)]
theorem s_sub_inner {i : Nat} (h : Bq a S s) (hi : i < s.2.length) : ∃ s', loop (s_l13Sub_L2 a (s.1, s.2, (i : Int))) BIG (s.1, s.2, 0) = some s' ∧ Bq a S s' ∧ (∃ t, s'.2 = s.2 ++ t) ∧ ∀ k, k ≤ i → hasP a s' i k := by
  have add3 : ∀ {s' : List Bool × List Int} {x : Nat}, Bq a S s' → x < a.length → ∀ (p : List Int) (j : Nat) (hp : p.length = 2), j < 2 → gI p j = (x : Int) → s_l13Sub_L3 (s'.1, s'.2, p, (j : Int)) = some (.inl ((addS s' x).1, (addS s' x).2, p, ((j + 1 : Nat) : Int))) := by
    intro s' x hb hx p j hp hj hg
    have hs := hb.short
    unfold s_l13Sub_L3 addS
    simp only [show (j : Int) < 2 by omega, if_true, idxI (show j < p.length by omega), hg, some_bind]
    rw [idxD (z := false) (by rw [hb.len]; exact hx), some_bind]
    cases hbb : s'.1.getD x false with
    | true =>
      simp only [Bool.true_eq_false, if_false, if_true, some_bind]
      rw [w_in (by omega) (by omega)]; rfl
    | false =>
      simp only [if_true, Bool.false_eq_true, if_false]
      rw [chk_bind (by simp only [List.length_cons, List.length_nil]; omega), some_bind, w_in (by omega) (by omega)]
      rfl
  have pairs : ∀ {s' : List Bool × List Int} {x y : Nat}, Bq a S s' → x < a.length → Mk a S x → y < a.length → loop s_l13Sub_L3 BIG (s'.1, s'.2, [(x : Int), (y : Int)], 0) = some (addS (addS s' x) y) := by
    intro s' x y hb hx hcx hy
    obtain ⟨b1, _, _⟩ := hb.add hx hcx
    obtain ⟨m, hm'⟩ : ∃ m, BIG = m + 3 := ⟨BIG - 3, by rw [BIG_val]⟩
    have q1 := add3 hb hx [(x : Int), (y : Int)] 0 rfl (by omega) rfl
    have q2 := add3 b1 hy [(x : Int), (y : Int)] 1 rfl (by omega) rfl
    have q3 : s_l13Sub_L3 ((addS (addS s' x) y).1, (addS (addS s' x) y).2, [(x : Int), (y : Int)], ((1 + 1 : Nat) : Int)) = some (.inr (addS (addS s' x) y)) := by
      unfold s_l13Sub_L3
      rw [if_neg (by simp only []; omega)]
    rw [hm']
    have q1' : s_l13Sub_L3 (s'.1, s'.2, [(x : Int), (y : Int)], 0) = _ := q1
    simp only [loop, q1', q2, q3]
  refine inner_loop hn hm _ h hi ?_ ?_
  · intro k s' hk hb hi'
    have hsh := hb.short
    obtain ⟨e1, l1, c1⟩ := hb.at_ hi'
    obtain ⟨e2, l2, c2⟩ := hb.at_ (show k < s'.2.length by omega)
    have hp := pairs hb (tN_lt hn hm l1 l2).1 (.mul c1 c2) (tN_lt hn hm l2 l1).1
    unfold s_l13Sub_L2
    simp only [show (k : Int) ≤ (i : Int) by omega, if_true, idxI hi', idxI (show k < s'.2.length by omega), e1, e2, some_bind, idxR l1, idxR l2, idx_t hn hm l1 l2, idx_t hn hm l2 l1, hp, w_in (x := (k : Int) + 1) (by omega) (by omega)]
    rfl
  · intro s'
    unfold s_l13Sub_L2
    rw [if_neg (by simp only []; omega)]

theorem subs_eq (h0 : 0 < a.length) {l : List Nat} (hl : ∀ x ∈ l, x < a.length) (hb : l.length ≤ 1099511627776) :
    s_l13Sub a (castL l) = some (castL (subN a (· ∈ l))) ∧ i_subloop a (castL l) = some (castL (subN a (· ∈ l))) := by
  have hz : (0 : Int) ∈ ([0] : List Int) := by simp
  have st0 : Bq a (· ∈ l) ((List.replicate a.length false).set 0 true, [0]) := Bq.start h0
  have fin : ∀ {s s' s'' : List Bool × List Int}, s.2 = [0] → (∃ t, s'.2 = s.2 ++ t) → (∀ x ∈ l, (x : Int) ∈ s'.2) → Bq a (· ∈ l) s'' → (∃ t, s''.2 = s'.2 ++ t) →
      (∀ i k, i < s''.2.length → k < s''.2.length → ((tN a (qN s'' i) (qN s'' k) : Nat) : Int) ∈ s''.2) → ∀ x : Nat, (x : Int) ∈ s''.2 ↔ Mk a (· ∈ l) x := by
    rintro s s' s'' e0 ⟨t, ht⟩ hs hb ⟨t2, ht2⟩ hc
    refine hb.all hn hm ?_ (fun x hx => ?_) hc
    · rw [ht2, ht, e0]; simp
    · rw [ht2]; exact List.mem_append_left _ (hs x hx)
  constructor
  · unfold s_l13Sub
    have e0 : (a.length : Int).toNat = a.length := by simp
    rw [chk_bind (by omega), some_bind, e0, idxD0 (z := false) (by simpa using h0), some_bind]
    obtain ⟨s1, f1, b1, t1, p1⟩ := seeds_loop (s_l13Sub_L0 (castL l)) (S := (· ∈ l)) (fun x hx => hx) hl (by rw [BIG_val]; omega) st0 (fun j hj s' hb' => by
        have hs := hb'.short
        unfold s_l13Sub_L0 addS
        simp only [show (j : Int) < ((castL l).length : Int) by simp; omega, if_true, idxI (show j < (castL l).length by simpa using hj), castL_gI hj, some_bind]
        rw [idxD (z := false) (by rw [hb'.len]; exact hl _ (List.getElem_mem hj)), some_bind]
        cases hbb : s'.1.getD l[j] false with
        | true =>
          simp only [Bool.true_eq_false, if_false, if_true, some_bind]
          rw [w_in (by omega) (by omega)]; rfl
        | false =>
          simp only [if_true, Bool.false_eq_true, if_false]
          rw [chk_bind (by simp only [List.length_cons, List.length_nil]; omega), some_bind, w_in (by omega) (by omega)]
          rfl) (fun s' => by
        unfold s_l13Sub_L0
        rw [if_neg (by simp [castL])])
    rw [f1, some_bind]
    obtain ⟨s2, f2, b2, t2, p2⟩ := outer_loop hn hm (fun s => s.1) (s_l13Sub_L1 a) b1 (fun i s' hb' hi => by
        obtain ⟨s'', g1, g2, g3, g4⟩ := s_sub_inner hn hm hb' hi
        have := hb'.short
        refine ⟨s'', ?_, g2, g3, g4⟩
        unfold s_l13Sub_L1
        simp only [show (i : Int) < (s'.2.length : Int) by omega, if_true, g1, some_bind, w_in (x := (i : Int) + 1) (by omega) (by omega)]
        rfl) (fun s' hb' => by
        unfold s_l13Sub_L1
        simp)
    rw [f2, some_bind]
    have hall := fin (s := ((List.replicate a.length false).set 0 true, [0])) rfl t1 p1 b2 t2 p2
    obtain ⟨h1, _⟩ := fold_loop (s_l13Sub_L4 a s2.1) a.length (fun k s => if mkB a (· ∈ l) k then s ++ [(k : Int)] else s) [] (fun k s => s.length ≤ k) id (by rw [BIG_val]; omega) (by simp)
      (fun k s hk hs => by
        split
        · simp; omega
        · omega)
      (fun k s hk hs => by
        unfold s_l13Sub_L4
        simp only [show (k : Int) < (a.length : Int) by omega, if_true]
        rw [idxD (z := false) (by rw [b2.len]; exact hk), some_bind]
        have e : s2.1.getD k false = mkB a (· ∈ l) k := by rw [Bool.eq_iff_iff, mkB_iff, b2.mrk k hk]; exact hall k
        rw [e]
        cases mkB a (· ∈ l) k with
        | true =>
          simp only [if_true]
          rw [chk_bind (by simp only [List.length_cons, List.length_nil]; omega), some_bind, w_in (by omega) (by omega)]
          rfl
        | false =>
          simp only [Bool.false_eq_true, if_false, some_bind]
          rw [w_in (by omega) (by omega)]
          rfl) (fun s _ => by
        unfold s_l13Sub_L4
        simp)
    rw [h1, some_bind, foldN_filter]; rfl
  · unfold i_subloop
    have e0 : (a.length : Int).toNat = a.length := by simp
    have e1 : i_subloop_c1 0 (List.replicate a.length false) [] = some ((List.replicate a.length false).set 0 true, [0]) := by
      unfold i_subloop_c1
      rw [idxD0 (z := false) (by simpa using h0), some_bind]
      simp only [List.getD_eq_getElem?_getD, List.getElem?_replicate, h0, if_true, Option.getD_some]
      rw [chk_bind (by simp only [List.length_cons, List.length_nil]; omega)]
      rfl
    rw [chk_bind (by omega), e0, e1, some_bind]
    obtain ⟨s1, f1, b1, t1, p1⟩ := seeds_loop (i_subloop_L0 (castL l)) (S := (· ∈ l)) (fun x hx => hx) hl (by rw [BIG_val]; omega) st0 (fun j hj s' hb' => by
        unfold i_subloop_L0
        simp only [show (j : Int) < ((castL l).length : Int) by simp; omega, if_true, idxI (show j < (castL l).length by simpa using hj), castL_gI hj, some_bind, c1_add hn hb' (hl _ (List.getElem_mem hj)), w_in (x := (j : Int) + 1) (by omega) (by omega)]
        rfl) (fun s' => by
        unfold i_subloop_L0
        rw [if_neg (by simp [castL])])
    rw [f1, some_bind]
    obtain ⟨s2, f2, b2, t2, p2⟩ := outer_loop hn hm (fun s => s.2) (i_subloop_L1 a) b1 (fun i s' hb' hi => by
        obtain ⟨s'', g1, g2, g3, g4⟩ := i_sub_inner hn hm hb' hi
        have := hb'.short
        refine ⟨s'', ?_, g2, g3, g4⟩
        unfold i_subloop_L1
        simp only [show (i : Int) < (s'.2.length : Int) by omega, if_true, g1, some_bind, w_in (x := (i : Int) + 1) (by omega) (by omega)]
        rfl) (fun s' hb' => by
        unfold i_subloop_L1
        simp)
    have hall := fin (s := ((List.replicate a.length false).set 0 true, [0])) rfl t1 p1 b2 t2 p2
    have hs2 := b2.short
    rw [f2, some_bind, chk_bind (by omega)]
    congr 1
    refine List.Perm.eq_of_pairwise (le := fun x y : Int => x ≤ y) (fun x y _ _ h1 h2 => by omega) ?_ ?_ ?_
    · have := List.pairwise_mergeSort (le := fun x y : Int => decide (x ≤ y)) (fun x y z h1 h2 => by simp only [decide_eq_true_eq] at *; omega) (fun x y => by simp only [Bool.or_eq_true, decide_eq_true_eq]; omega) s2.2
      exact this.imp fun h => by simpa using h
    · refine List.Pairwise.map _ (R := fun x y : Nat => x ≤ y) (fun x y h => by omega) (List.Pairwise.filter _ ?_)
      exact List.pairwise_le_range
    · refine (List.mergeSort_perm _ _).trans ?_
      refine b2.perm.trans ?_
      have : (List.range a.length).filter (fun k : Nat => decide ((k : Int) ∈ s2.2)) = subN a (· ∈ l) := by
        unfold subN
        refine List.filter_congr fun k _ => ?_
        rw [Bool.eq_iff_iff, mkB_iff, decide_eq_true_eq]
        exact hall k
      rw [this]
end
end Go.Vam

/- Plain laws: SubloopFrom, IsDiassociativeLoop. -/
namespace Go.Vam
open Go Go.RowKit
set_option linter.unusedSimpArgs false
set_option linter.unusedVariables false
set_option linter.unusedSectionVars false

theorem i_checkLoop_eq {a : List (List Int)} {b : List Int} (hz : a.length ≤ 1048576) (hb : b.length ≤ 1048576) :
    i_checkLoop a b = some (if isLp a = false then 1 else if b.all (fun x => decide (0 ≤ x) && decide (x ≤ (a.length : Int) - 1)) then 0 else 2) := by
  unfold i_checkLoop
  rw [i_IsLoop_eq hz, some_bind]
  cases hL : isLp a with
  | false => simp
  | true =>
    obtain ⟨hn, h0, hm⟩ := isLp_tab hL
    simp only [Bool.true_eq_false, if_false]
    unfold g_slices_ContainsFunc_LI_I_of_i_checkLoop_c1 g_slices_IndexFunc_LI_I_of_i_checkLoop_c1
    have c1 : ∀ x, i_checkLoop_c1 x a = some (!(decide (0 ≤ x) && decide (x ≤ (a.length : Int) - 1))) := fun x => by
      unfold i_checkLoop_c1 i_length_LI
      simp only [some_bind, i_inRange_eq, w_in (x := (a.length : Int) - 1) (by omega) (by omega)]
    obtain ⟨r, h1, h2⟩ := any_loop (g_slices_IndexFunc_LI_I_of_i_checkLoop_c1_L0 b a) b.length (fun k => !(decide (0 ≤ gI b k) && decide (gI b k ≤ (a.length : Int) - 1))) (fun k => (k : Int)) (by rw [BIG_val]; omega)
      (fun k hk hf => by
        unfold g_slices_IndexFunc_LI_I_of_i_checkLoop_c1_L0
        simp only [show (k : Int) < (b.length : Int) by omega, if_true, idxI hk, some_bind, c1, hf, Bool.false_eq_true, if_false]
        rw [w_in (by omega) (by omega)]; rfl) (fun k hk hf => by
        unfold g_slices_IndexFunc_LI_I_of_i_checkLoop_c1_L0
        simp only [show (k : Int) < (b.length : Int) by omega, if_true, idxI hk, some_bind, c1, hf]) (by
        unfold g_slices_IndexFunc_LI_I_of_i_checkLoop_c1_L0
        simp)
    have e : (b.all fun x => decide (0 ≤ x) && decide (x ≤ (a.length : Int) - 1)) = !((List.range b.length).any fun k => !(decide (0 ≤ gI b k) && decide (gI b k ≤ (a.length : Int) - 1))) := by
      rw [← all_rangeI b (fun x => decide (0 ≤ x) && decide (x ≤ (a.length : Int) - 1))]
      rw [Bool.eq_iff_iff]
      simp only [List.all_eq_true, Bool.not_eq_true', List.any_eq_false, Bool.not_eq_true, Bool.not_eq_false', Bool.not_eq_false]
    rw [h1, e]
    rcases h2 with ⟨rfl, h3⟩ | ⟨k, hk, rfl, hf, h3, _⟩
    · rw [h3]; simp [ile]
    · rw [h3]; simp [ile]

theorem subN_len (a : List (List Int)) (S : Nat → Prop) : (subN a S).length ≤ a.length := by
  have := List.length_filter_le (mkB a S) (List.range a.length)
  simpa [subN] using this
/-! ### Diassociativity -/
def allA (a : List (List Int)) (V : List Nat) : Bool := V.all fun u => V.all fun v => V.all fun w => asB a u v w
theorem all_rangeN (V : List Nat) (g : Nat → Bool) : ((List.range V.length).all fun k => g (V.getD k 0)) = V.all g := all_range V g 0
section
variable {a : List (List Int)} (hn : a.length ≤ 128) (hm : Mat (a.length : Int) a.length a.length a) {V : List Nat} (hV : ∀ x ∈ V, x < a.length) (hVl : V.length ≤ 128)
include hn hm hV hVl
theorem gV {k : Nat} (hk : k < V.length) : gI (castL V) k = ((V.getD k 0 : Nat) : Int) ∧ V.getD k 0 < a.length := by
  rw [castL_gI hk, getD_get hk 0]
  exact ⟨rfl, by rw [← getD_get hk 0]; exact hV _ (List.getElem_mem hk)⟩
theorem s_dia2 : loop (s_IsDiassociativeLoop_L2 a (castL V)) BIG 0 = some (if allA a V then .inl () else .inr (.inr (.inr (.inr (.inr (false, 0)))))) := by
  have hlen : (castL V).length = V.length := by simp [castL]
  have l4 : ∀ i j, i < V.length → j < V.length → loop (s_IsDiassociativeLoop_L4 a (castL V) (i : Int) (j : Int)) BIG 0 = some (if V.all (asB a (V.getD i 0) (V.getD j 0)) then .inl () else .inr (.inr (.inr (.inr (.inr (.inr (.inr (.inr (.inr (false, 0)))))))))) := by
    intro i j hi hj
    obtain ⟨g1, l1⟩ := gV hn hm hV hVl hi
    obtain ⟨g2, l2⟩ := gV hn hm hV hVl hj
    rw [← all_rangeN V (asB a (V.getD i 0) (V.getD j 0))]
    refine all_loop _ V.length _ _ (by rw [BIG_val]; omega) ?_ ?_ ?_
    · intro k hk hf
      obtain ⟨g3, l3⟩ := gV hn hm hV hVl hk
      unfold s_IsDiassociativeLoop_L4
      rw [hlen, if_pos (by omega), idxI (by omega), some_bind, idxI (by omega), some_bind, idxI (by omega), some_bind, g1, g2, g3, (as_eq hn hm l1 l2 l3).1, some_bind, hf, if_neg (by simp), w_in (by omega) (by omega)]
      rfl
    · intro k hk hf
      obtain ⟨g3, l3⟩ := gV hn hm hV hVl hk
      unfold s_IsDiassociativeLoop_L4
      rw [hlen, if_pos (by omega), idxI (by omega), some_bind, idxI (by omega), some_bind, idxI (by omega), some_bind, g1, g2, g3, (as_eq hn hm l1 l2 l3).1, some_bind, hf, if_pos rfl]
    · unfold s_IsDiassociativeLoop_L4
      rw [hlen, if_neg (by omega)]
  have l3 : ∀ i, i < V.length → loop (s_IsDiassociativeLoop_L3 a (castL V) (i : Int)) BIG 0 = some (if V.all (fun v => V.all (asB a (V.getD i 0) v)) then .inl () else .inr (.inr (.inr (.inr (.inr (.inr (.inr (false, 0)))))))) := by
    intro i hi
    rw [← all_rangeN V (fun v => V.all (asB a (V.getD i 0) v))]
    refine all_loop _ V.length _ _ (by rw [BIG_val]; omega) ?_ ?_ ?_
    · intro k hk hf
      unfold s_IsDiassociativeLoop_L3
      rw [hlen, if_pos (by omega), l4 i k hi hk, hf]
      simp only [if_true, some_bind]
      rw [w_in (by omega) (by omega)]; rfl
    · intro k hk hf
      unfold s_IsDiassociativeLoop_L3
      rw [hlen, if_pos (by omega), l4 i k hi hk, hf]
      rfl
    · unfold s_IsDiassociativeLoop_L3
      rw [hlen, if_neg (by omega)]
  unfold allA
  rw [← all_rangeN V (fun u => V.all fun v => V.all fun w => asB a u v w)]
  refine all_loop _ V.length _ _ (by rw [BIG_val]; omega) ?_ ?_ ?_
  · intro k hk hf
    unfold s_IsDiassociativeLoop_L2
    rw [hlen, if_pos (by omega), l3 k hk, hf]
    simp only [if_true, some_bind]
    rw [w_in (by omega) (by omega)]; rfl
  · intro k hk hf
    unfold s_IsDiassociativeLoop_L2
    rw [hlen, if_pos (by omega), l3 k hk, hf]
    rfl
  · unfold s_IsDiassociativeLoop_L2
    rw [hlen, if_neg (by omega)]
theorem i_dia2 : loop (i_IsDiassociativeLoop_L2 a (castL V)) BIG 0 = some (if allA a V then .inl () else .inr (.inr (.inr (.inr (.inr (false, 0)))))) := by
  have hlen : (castL V).length = V.length := by simp [castL]
  have l4 : ∀ u v, u < a.length → v < a.length → g_slices_ContainsFunc_LI_I_of_i_IsDiassociativeLoop_c1 (castL V) a (u : Int) (v : Int) = some (!V.all (asB a u v)) := by
    intro u v hu hv
    unfold g_slices_ContainsFunc_LI_I_of_i_IsDiassociativeLoop_c1 g_slices_IndexFunc_LI_I_of_i_IsDiassociativeLoop_c1
    have core : ∀ k, k < V.length → i_IsDiassociativeLoop_c1 (gI (castL V) k) a (u : Int) (v : Int) = some (!asB a u v (V.getD k 0)) := fun k hk => by
      obtain ⟨g3, l3⟩ := gV hn hm hV hVl hk
      unfold i_IsDiassociativeLoop_c1
      rw [g3, (as_eq hn hm hu hv l3).2, some_bind]
    obtain ⟨r, h1, h2⟩ := any_loop (g_slices_IndexFunc_LI_I_of_i_IsDiassociativeLoop_c1_L0 (castL V) a (u : Int) (v : Int)) V.length (fun k => !asB a u v (V.getD k 0)) (fun k => (k : Int)) (by rw [BIG_val]; omega)
      (fun k hk hf => by
        unfold g_slices_IndexFunc_LI_I_of_i_IsDiassociativeLoop_c1_L0
        simp only [hlen, show (k : Int) < (V.length : Int) by omega, if_true, idxI (show k < (castL V).length by omega), some_bind, core k hk, hf, Bool.false_eq_true, if_false]
        rw [w_in (by omega) (by omega)]; rfl) (fun k hk hf => by
        unfold g_slices_IndexFunc_LI_I_of_i_IsDiassociativeLoop_c1_L0
        simp only [hlen, show (k : Int) < (V.length : Int) by omega, if_true, idxI (show k < (castL V).length by omega), some_bind, core k hk, hf]) (by
        unfold g_slices_IndexFunc_LI_I_of_i_IsDiassociativeLoop_c1_L0
        simp [hlen])
    have e : V.all (asB a u v) = !((List.range V.length).any fun k => !asB a u v (V.getD k 0)) := by
      rw [← all_rangeN V (asB a u v), Bool.eq_iff_iff]
      simp only [List.all_eq_true, Bool.not_eq_true', List.any_eq_false, Bool.not_eq_true, Bool.not_eq_false', Bool.not_eq_false]
    rw [h1, e]
    rcases h2 with ⟨rfl, h3⟩ | ⟨k, hk, rfl, hf, h3, _⟩
    · rw [h3]; simp [ile]
    · rw [h3]; simp [ile]
  have l3 : ∀ u, u < a.length → loop (i_IsDiassociativeLoop_L3 a (castL V) (u : Int)) BIG 0 = some (if V.all (fun v => V.all (asB a u v)) then .inl () else .inr (.inr (.inr (.inr (.inr (.inr (.inr (false, 0)))))))) := by
    intro u hu
    rw [← all_rangeN V (fun v => V.all (asB a u v))]
    refine all_loop _ V.length _ _ (by rw [BIG_val]; omega) ?_ ?_ ?_
    · intro k hk hf
      obtain ⟨g3, l3⟩ := gV hn hm hV hVl hk
      unfold i_IsDiassociativeLoop_L3
      rw [hlen, if_pos (by omega), idxI (by omega), some_bind, g3, l4 u _ hu l3, hf, some_bind, if_neg (by simp), w_in (by omega) (by omega)]
      rfl
    · intro k hk hf
      obtain ⟨g3, l3⟩ := gV hn hm hV hVl hk
      unfold i_IsDiassociativeLoop_L3
      rw [hlen, if_pos (by omega), idxI (by omega), some_bind, g3, l4 u _ hu l3, hf, some_bind, if_pos (by simp)]
    · unfold i_IsDiassociativeLoop_L3
      rw [hlen, if_neg (by omega)]
  unfold allA
  rw [← all_rangeN V (fun u => V.all fun v => V.all fun w => asB a u v w)]
  refine all_loop _ V.length _ _ (by rw [BIG_val]; omega) ?_ ?_ ?_
  · intro k hk hf
    obtain ⟨g3, l3'⟩ := gV hn hm hV hVl hk
    unfold i_IsDiassociativeLoop_L2
    rw [hlen, if_pos (by omega), idxI (by omega), some_bind, g3, l3 _ l3', hf]
    simp only [if_true, some_bind]
    rw [w_in (by omega) (by omega)]; rfl
  · intro k hk hf
    obtain ⟨g3, l3'⟩ := gV hn hm hV hVl hk
    unfold i_IsDiassociativeLoop_L2
    rw [hlen, if_pos (by omega), idxI (by omega), some_bind, g3, l3 _ l3', hf]
    rfl
  · unfold i_IsDiassociativeLoop_L2
    rw [hlen, if_neg (by omega)]
end
theorem subN_lt {a : List (List Int)} {S : Nat → Prop} : ∀ x ∈ subN a S, x < a.length := fun x hx => List.mem_range.1 (List.mem_filter.1 hx).1
/-- Any two elements make an associative subloop. -/
noncomputable def diaB (a : List (List Int)) : Bool := (List.range a.length).all fun x => (List.range (x + 1)).all fun y => allA a (subN a (· ∈ [x, y]))
theorem IsDiassociativeLoop_eq {a : List (List Int)} (hz : a.length ≤ 1048576) :
    s_IsDiassociativeLoop a = some (if isLp a = false then (false, 1) else if 32 < a.length then (false, 3) else (diaB a, 0)) ∧ i_IsDiassociativeLoop a = some (if isLp a = false then (false, 1) else if 32 < a.length then (false, 3) else (diaB a, 0)) := by
  unfold s_IsDiassociativeLoop i_IsDiassociativeLoop i_length_LI
  rw [s_l13Is_eq hz, i_checkLoop_eq hz (by simp), some_bind, some_bind]
  cases hL : isLp a with
  | false => simp
  | true =>
    obtain ⟨hn, h0, hm⟩ := isLp_tab hL
    simp only [Bool.true_eq_false, if_false, List.all_nil, if_true, not_true_eq_false]
    by_cases h32 : 32 < a.length
    · rw [if_pos (by omega), if_pos h32, if_pos (by omega)]; exact ⟨rfl, rfl⟩
    rw [if_neg (by omega), if_neg h32, if_neg (by omega), some_bind]
    have sub2 : ∀ x y, x < a.length → y < a.length → s_l13Sub a [(x : Int), (y : Int)] = some (castL (subN a (· ∈ [x, y]))) ∧ i_subloop a [(x : Int), (y : Int)] = some (castL (subN a (· ∈ [x, y]))) := fun x y hx hy =>
      subs_eq hn hm h0 (l := [x, y]) (by simp [hx, hy]) (by simp)
    have hsl : ∀ S, (subN a S).length ≤ 128 := fun S => Nat.le_trans (subN_len a S) hn
    constructor
    · have l1 : ∀ x, x < a.length → loop (s_IsDiassociativeLoop_L1 a (x : Int)) BIG (x : Int) = some (if (List.range (a.length - x)).all (fun k => allA a (subN a (· ∈ [x, x + k]))) then .inl () else .inr (.inr (.inr (false, 0)))) := by
        intro x hx
        have := all_loopS (s_IsDiassociativeLoop_L1 a (x : Int)) (a.length - x) (fun k => allA a (subN a (· ∈ [x, x + k]))) (fun k => ((x + k : Nat) : Int)) (.inr (.inr (false, 0))) (by rw [BIG_val]; omega)
          (fun k hk _ hf => by
            unfold s_IsDiassociativeLoop_L1
            rw [if_pos (by omega), (sub2 x (x + k) hx (by omega)).1, some_bind, s_dia2 hn hm subN_lt (hsl _), hf]
            simp only [if_true, some_bind]
            rw [w_in (by omega) (by omega)]; rfl)
          (fun k hk _ hf => by
            unfold s_IsDiassociativeLoop_L1
            rw [if_pos (by omega), (sub2 x (x + k) hx (by omega)).1, some_bind, s_dia2 hn hm subN_lt (hsl _), hf]
            rfl)
          (fun _ => by
            unfold s_IsDiassociativeLoop_L1
            rw [if_neg (by omega)])
        simpa using this
      have l0 := all_loop (s_IsDiassociativeLoop_L0 a) a.length (fun x => (List.range (a.length - x)).all (fun k => allA a (subN a (· ∈ [x, x + k])))) (false, 0) (by rw [BIG_val]; omega)
        (fun k hk hf => by
          unfold s_IsDiassociativeLoop_L0
          rw [if_pos (by omega), l1 k hk, hf]
          simp only [if_true, some_bind]
          rw [w_in (by omega) (by omega)]; rfl)
        (fun k hk hf => by
          unfold s_IsDiassociativeLoop_L0
          rw [if_pos (by omega), l1 k hk, hf]
          rfl)
        (by
          unfold s_IsDiassociativeLoop_L0
          simp)
      rw [l0, some_bind]
      have e : ((List.range a.length).all fun x => (List.range (a.length - x)).all (fun k => allA a (subN a (· ∈ [x, x + k])))) = diaB a := by
        unfold diaB
        rw [Bool.eq_iff_iff]
        simp only [List.all_eq_true, List.mem_range]
        have sym : ∀ x y, subN a (· ∈ [x, y]) = subN a (· ∈ [y, x]) := fun x y => by
          unfold subN
          exact List.filter_congr fun k _ => mkB_congr (fun z => by simp [or_comm]) k
        constructor
        · intro h x hx y hy
          have := h y (by omega) (x - y) (by omega)
          rw [show y + (x - y) = x by omega] at this
          rwa [sym]
        · intro h x hx k hk
          have := h (x + k) (by omega) x (by omega)
          rwa [sym]
      rw [e]
      cases diaB a <;> rfl
    · have l1 : ∀ x, x < a.length → loop (i_IsDiassociativeLoop_L1 a (x : Int)) BIG 0 = some (if (List.range (x + 1)).all (fun y => allA a (subN a (· ∈ [x, y]))) then .inl () else .inr (.inr (.inr (false, 0)))) := by
        intro x hx
        refine all_loop (i_IsDiassociativeLoop_L1 a (x : Int)) (x + 1) (fun y => allA a (subN a (· ∈ [x, y]))) (.inr (.inr (false, 0))) (by rw [BIG_val]; omega) ?_ ?_ ?_
        · intro k hk hf
          unfold i_IsDiassociativeLoop_L1
          rw [w_in (x := (x : Int) + 1) (by omega) (by omega), if_pos (by omega), (sub2 x k hx (by omega)).2, some_bind, i_dia2 hn hm subN_lt (hsl _), hf]
          simp only [if_true, some_bind]
          rw [w_in (by omega) (by omega)]; rfl
        · intro k hk hf
          unfold i_IsDiassociativeLoop_L1
          rw [w_in (x := (x : Int) + 1) (by omega) (by omega), if_pos (by omega), (sub2 x k hx (by omega)).2, some_bind, i_dia2 hn hm subN_lt (hsl _), hf]
          rfl
        · unfold i_IsDiassociativeLoop_L1
          rw [w_in (x := (x : Int) + 1) (by omega) (by omega), if_neg (by omega)]
      have l0 := all_loop (i_IsDiassociativeLoop_L0 a (a.length : Int)) a.length (fun x => (List.range (x + 1)).all (fun y => allA a (subN a (· ∈ [x, y])))) (false, 0) (by rw [BIG_val]; omega)
        (fun k hk hf => by
          unfold i_IsDiassociativeLoop_L0
          rw [if_pos (by omega), l1 k hk, hf]
          simp only [if_true, some_bind]
          rw [w_in (by omega) (by omega)]; rfl)
        (fun k hk hf => by
          unfold i_IsDiassociativeLoop_L0
          rw [if_pos (by omega), l1 k hk, hf]
          rfl)
        (by
          unfold i_IsDiassociativeLoop_L0
          simp)
      rw [l0, some_bind]
      unfold diaB
      cases (List.range a.length).all fun x => (List.range (x + 1)).all (fun y => allA a (subN a (· ∈ [x, y]))) <;> rfl

end Go.Vam

/- Plain laws: AutomorphismFrom. -/
namespace Go.Vam
open Go Go.RowKit
set_option linter.unusedSimpArgs false
set_option linter.unusedVariables false
set_option linter.unusedSectionVars false

section
variable {p : Int} {w : List Int} (hP : isP p = true) (hl : w.length ≤ 4) (hw : Vec p w.length w)
include hP hl hw
theorem axm_val {i j : Nat} (hi : i < 2 ^ w.length) (hj : j < 2 ^ w.length) : gI (axm p w i j) (i ^^^ j) = axS w.length w i j % p := by
  have hm := xor_lt hi hj
  have hv := (axm_vec hP hl hw hi hj).get hm
  have h1 : gI (axm p w i j) (i ^^^ j) % p = _ := mulr_gen (p := p) w.length hl w (axis (2 ^ w.length) i) (axis (2 ^ w.length) j) (i ^^^ j) hm
  rw [Int.emod_eq_of_lt hv.1 hv.2] at h1
  rw [h1, sumN_one hi (fun q hq hqi => by rw [gI_axis hi, if_neg hqi]; simp)]
  have hx : i ^^^ (i ^^^ j) = j := by rw [← Nat.xor_assoc, Nat.xor_self, Nat.zero_xor]
  rw [hx, gI_axis hi, if_pos rfl, gI_axis hj, if_pos rfl]
  simp
end
section
variable {p : Int} {w : List Int} {a : List (List Int)} (hP : isP p = true) (hl : w.length ≤ 3) (hw : Vec p w.length w) (hal : a.length = w.length) (ha : ∀ k, k < a.length → Vec p (2 ^ w.length) (gR a k))
include hP hl hw hal ha
end

end Go.Vam

/- Plain laws: the decomposition of an orthogonal matrix. -/
namespace Go.Vam
open Go Go.RowKit
set_option linter.unusedSimpArgs false
set_option linter.unusedVariables false

theorem RowsV.small {p : Int} {n : Nat} {L : List (List Int)} (h : RowsV p n L) (hn : n ≤ 100) (hl : L.length ≤ 2 * n) : smallM L := by
  have hm : Mat p L.length n L := ⟨rfl, fun i hi => h _ (by rw [← gR_get hi]; exact List.getElem_mem _)⟩
  exact smallM.of hm (by omega) (by omega)

end Go.Vam

/- Plain laws: counts of norms, the search of units. -/
namespace Go.Vam
open Go Go.RowKit
set_option linter.unusedSimpArgs false
set_option linter.unusedVariables false
set_option linter.unusedSectionVars false

section
variable {p : Int} (hP : isP p = true)
include hP
variable {w : List Int} (hl : w.length ≤ 3) (hw : Vec p w.length w)
include hl hw
end
end Go.Vam

/- Plain laws: UnitsOf. -/
namespace Go.Vam
open Go Go.RowKit
set_option linter.unusedSimpArgs false
set_option linter.unusedVariables false
set_option linter.unusedSectionVars false

section
variable {p : Int} (hP : isP p = true) {dl : List Int} (hdv : Vec p dl.length dl) (hL8 : dl.length ≤ 8)
include hP hdv hL8
end

section
variable {p : Int} {w : List Int} (hP : isP p = true) (hl : w.length ≤ 3) (hw : Vec p w.length w)
include hP hl hw
end
end Go.Vam

/- Plain law: FnExactUnitsOf. -/
namespace Go.Vam
open Go Go.RowKit
set_option linter.unusedSimpArgs false
set_option linter.unusedVariables false

end Go.Vam

/- Plain laws: the norm of a product; LoopOfUnits. -/
namespace Go.Vam
open Go Go.RowKit
set_option linter.unusedSimpArgs false
set_option linter.unusedVariables false
set_option linter.unusedSectionVars false

end Go.Vam

/- Plain law: LoopOfUnits. -/
namespace Go.Vam
open Go Go.RowKit
set_option linter.unusedSimpArgs false
set_option linter.unusedVariables false
set_option linter.unusedSectionVars false

section
variable {p : Int} {w : List Int} (hP : isP p = true) (hl : w.length ≤ 3) (hw : Vec p w.length w)
include hP hl hw
end
section
variable {p : Int} {w : List Int} {U : List (List Int)} {C : Int} (hP : isP p = true) (hl : w.length ≤ 3) (hw : Vec p w.length w) (hU : U.length ≤ 1000) (hv : ∀ i, i < U.length → Vec p (2 ^ w.length) (gR U i))
  (hc : ∀ i j, i < U.length → j < U.length → mulp p w (gR U i) (gR U j) ∈ U)
include hP hl hw hU hv hc
end
end Go.Vam

/- Plain algebra: the identities of Moufang, products with conjugates. -/
namespace Go.Vam
open Go Go.RowKit
set_option linter.unusedSimpArgs false
set_option linter.unusedVariables false
set_option linter.unusedSectionVars false

theorem xc1 (a b : Nat) : a ^^^ (a ^^^ b) = b := by rw [← Nat.xor_assoc, Nat.xor_self, Nat.zero_xor]
theorem xc2 (a b : Nat) : a ^^^ (b ^^^ a) = b := by rw [Nat.xor_comm b a, xc1]
theorem xc3 (a b : Nat) : (a ^^^ b) ^^^ a = b := by rw [Nat.xor_comm, xc1]
theorem xc4 (a b : Nat) : (b ^^^ a) ^^^ a = b := by rw [Nat.xor_assoc, Nat.xor_self, Nat.xor_zero]

section
variable {n : Nat} (hn : n ≤ 3) (w : List Int)
include hn
end
end Go.Vam

/- Plain algebra: what is divided by an element of norm 1. -/
namespace Go.Vam
open Go Go.RowKit
set_option linter.unusedSimpArgs false
set_option linter.unusedVariables false
set_option linter.unusedSectionVars false

def e2 (u v t : Nat) : Nat := (u.testBit t).toNat + (v.testBit t).toNat
section
variable {n : Nat} (hn : n ≤ 3) (w : List Int)
include hn
end

/-! ### The same for elements -/
section
variable {p : Int} {w : List Int} (hP : isP p = true) (hl : w.length ≤ 3) (hw : Vec p w.length w)
include hP hl hw
end
end Go.Vam

/- Plain law: FnUnits. -/
namespace Go.Vam
open Go Go.RowKit
set_option linter.unusedSimpArgs false
set_option linter.unusedVariables false
set_option linter.unusedSectionVars false

section
variable {p : Int} {w : List Int} (hP : isP p = true) (hl : w.length ≤ 3) (hw : Vec p w.length w)
include hP hl hw
end
end Go.Vam

/- Plain law: FnUnits. -/
namespace Go.Vam
open Go Go.RowKit
set_option linter.unusedSimpArgs false
set_option linter.unusedVariables false
set_option linter.unusedSectionVars false

end Go.Vam
