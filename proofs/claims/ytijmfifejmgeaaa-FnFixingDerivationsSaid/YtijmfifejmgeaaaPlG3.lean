import Derived.Test.YtijmfifejmgeaaaPlG2
import Derived.Test.YtijmfifejmgeaaaFmG0
/- Plain algebra: the derivations of three steps have 14 dimensions; what they make of one element has 6. -/
namespace Go.Vam
open Go Go.RowKit
set_option linter.unusedSimpArgs false
set_option linter.unusedVariables false
set_option linter.unusedSectionVars false

def xpF (x : List Int) (i : Nat) : Int := if i = 0 then 0 else gI x i
def qF (w : List Int) (i : Nat) : Int := epsF w.length i * wpF w w.length i
def nnF (w x : List Int) : Int := sumN (fun b => qF w b * xpF x b * xpF x b) (2 ^ w.length)
def dlU (w x : List Int) (l q : Nat) : Int := sumN (fun i => gI x i * wpF w w.length (i &&& l) * dvU w.length w (i ^^^ l) (dIL i l) q) (2 ^ w.length)
theorem sumN_sq2 (f : Nat → Nat → Int) (n : Nat) : 2 * sumN (fun b => sumN (fun i => f b i) n) n = sumN (fun b => sumN (fun i => f b i + f i b) n) n := by
  have : sumN (fun b => sumN (fun i => f b i + f i b) n) n = sumN (fun b => sumN (fun i => f b i) n) n + sumN (fun b => sumN (fun i => f i b) n) n := by
    rw [← sumN_add]
    exact sumN_congr fun b _ => sumN_add _ _ _
  rw [this, ← sumN_comm f n n]; omega
theorem xor_eq_iff {a b c : Nat} : a ^^^ b = c ↔ a = c ^^^ b := ⟨fun h => by rw [← h, xc4], fun h => by rw [h, xc4]⟩
theorem sym_case {i b l a m : Nat} {C : Prop} [Decidable C] {W eps X : Nat → Int} (a1 : i = b → (C ↔ a = l)) (a2 : i = l → (C ↔ b = a)) (a3 : b = l → (C ↔ i = a)) (m1 : i = b → m = b) (m2 : i = l → m = l) (m3 : b = l → m = l) :
    X b * X i * (if C then W m * ((if i = b then 8 * eps i else 0) - (if i = l then 4 * eps l else 0) - (if b = l then 4 * eps l else 0)) else 0) =
      (if i = b then (if a = l then 8 * (eps b * W b * X b * X b) else 0) else 0) - (if i = l then (if b = a then 4 * (eps l * W l * X l * X a) else 0) else 0) - (if b = l then (if i = a then 4 * (eps l * W l * X l * X a) else 0) else 0) := by
  by_cases c1 : i = b
  · have h1 := a1 c1
    have h2 := m1 c1
    subst c1
    by_cases c2 : i = l
    · subst c2
      by_cases e : a = i
      · subst e
        rw [if_pos (h1.2 rfl), h2]
        simp only [if_true]
        grind
      · rw [if_neg (fun h => e (h1.1 h))]
        have e' : ¬ i = a := fun h => e h.symm
        simp [e, e']
    · simp only [c2, if_true, if_false]
      by_cases e : a = l
      · rw [if_pos (h1.2 e), h2, if_pos e]; grind
      · rw [if_neg (fun h => e (h1.1 h)), if_neg e]; simp
  · by_cases c2 : i = l
    · have h1 := a2 c2
      have h2 := m2 c2
      subst c2
      have c1' : ¬ b = i := fun h => c1 h.symm
      simp only [c1, c1', if_true, if_false]
      by_cases e : b = a
      · rw [if_pos (h1.2 e), h2, if_pos e, e]; grind
      · rw [if_neg (fun h => e (h1.1 h)), if_neg e]; simp
    · by_cases c3 : b = l
      · have h1 := a3 c3
        have h2 := m3 c3
        subst c3
        simp only [c1, if_true, if_false]
        by_cases e : i = a
        · rw [if_pos (h1.2 e), h2, if_pos e, e]; grind
        · rw [if_neg (fun h => e (h1.1 h)), if_neg e]; simp
      · simp only [c1, c2, c3, if_false]
        split <;> simp
section
variable {p : Int} {w : List Int} (hP : isP p = true) (h3 : w.length = 3) (hw : Vec p w.length w) (hz : hasZ w = false)
include hP h3 hw hz
theorem pw8 : 2 ^ w.length = 8 := by rw [h3]
theorem dv_facts {j : Nat} (hj : j < 14) : 0 < dvG j ∧ dvG j < 2 ^ w.length ∧ dvR j < 2 ^ w.length := by
  have := List.all_eq_true.1 chk_dvR j (List.mem_range.2 hj)
  simp only [Bool.and_eq_true, decide_eq_true_eq] at this
  rw [pw8 hP h3 hw hz]
  exact ⟨this.1.1, this.1.2, this.2⟩
theorem chk_w {g : Nat} {Y : Nat → Int} (h : chkDv g Y = true) : ∀ i k, i < 2 ^ w.length → k < 2 ^ w.length → sgF w.length i k * Y (i ^^^ k) - sgF w.length (i ^^^ g) k * Y i - sgF w.length i (k ^^^ g) * Y k = 0 := by
  intro i k hi hk
  rw [pw8 hP h3 hw hz] at hi hk
  rw [h3]
  exact chkDv_of h hi hk
theorem dv_val {i j : Nat} (hi : i < 14) (hj : j < 14) : dvU w.length w (dvG i) (dvY i) ((dvR j ^^^ dvG j) * 2 ^ w.length + dvR j) = if i = j then wpF w w.length (dvR j &&& dvG i) else 0 := by
  have fj := dv_facts hP h3 hw hz hj
  rw [dvU_at hP (by omega) hw hz fj.2.2, xc3]
  have := List.all_eq_true.1 (List.all_eq_true.1 chk_dvC i (List.mem_range.2 hi)) j (List.mem_range.2 hj)
  simp only [decide_eq_true_eq] at this
  by_cases e : dvG j = dvG i
  · rw [if_pos e] at this ⊢
    rw [this]
    by_cases e2 : i = j
    · simp [e2]
    · simp [e2]
  · rw [if_neg e] at this ⊢
    by_cases e2 : i = j
    · subst e2; exact absurd rfl e
    · rw [if_neg e2]
theorem der_uni {u : Nat → Int} (h : ∀ i k g, i < 2 ^ w.length → k < 2 ^ w.length → g < 2 ^ w.length → dvc p w u i k g) (h0 : ∀ j, j < 14 → p ∣ u ((dvR j ^^^ dvG j) * 2 ^ w.length + dvR j)) :
    ∀ q, q < 2 ^ w.length * 2 ^ w.length → p ∣ u q := by
  have hpos := two_pos w.length
  have h8 := pw8 hP h3 hw hz
  have hl : w.length ≤ 3 := by omega
  have key : ∀ g k, g < 2 ^ w.length → k < 2 ^ w.length → p ∣ u ((k ^^^ g) * 2 ^ w.length + k) := by
    intro g k hg hk
    have z0 : p ∣ u ((0 ^^^ g) * 2 ^ w.length + 0) := der_zero0 hP h3 hw hz h hg
    have zg : p ∣ u ((g ^^^ g) * 2 ^ w.length + g) := by rw [Nat.xor_self]; exact der_top hP h3 hw hz h hg
    by_cases g0 : g = 0
    · subst g0
      rw [Nat.xor_zero]
      exact der_diag hP h3 hw hz h hk
    have c1 := h0 (2 * (g - 1)) (by omega)
    have c2 := h0 (2 * (g - 1) + 1) (by omega)
    have eg1 : dvG (2 * (g - 1)) = g := by unfold dvG; omega
    have eg2 : dvG (2 * (g - 1) + 1) = g := by unfold dvG; omega
    have er1 : dvR (2 * (g - 1)) = dr1 g := by unfold dvR; rw [if_pos (by omega), eg1]
    have er2 : dvR (2 * (g - 1) + 1) = dr2 g := by unfold dvR; rw [if_neg (by omega), eg2]
    have f1 := (dv_facts hP h3 hw hz (show 2 * (g - 1) < 14 by omega)).2.2
    have f2 := (dv_facts hP h3 hw hz (show 2 * (g - 1) + 1 < 14 by omega)).2.2
    rw [er1] at f1
    rw [er2] at f2
    rw [eg1, er1] at c1
    rw [eg2, er2] at c2
    have pr : ∀ i k, i < 2 ^ w.length → k < 2 ^ w.length → p ∣ u ((i ^^^ g) * 2 ^ w.length + i) → p ∣ u ((k ^^^ g) * 2 ^ w.length + k) → p ∣ u (((i ^^^ k) ^^^ g) * 2 ^ w.length + (i ^^^ k)) := fun i k hi hk a b => der_prod hP hl hw hz (h i k g hi hk hg) a b
    have c12 := pr _ _ f1 f2 c1 c2
    have c1g := pr _ _ f1 hg c1 zg
    have c2g := pr _ _ f2 hg c2 zg
    have c12g := pr _ _ (xor_lt f1 f2) hg c12 zg
    have hc := List.all_eq_true.1 (List.all_eq_true.1 chk_cov g (List.mem_range.2 (by omega))) k (List.mem_range.2 (by omega))
    simp only [Bool.or_eq_true, decide_eq_true_eq] at hc
    rcases hc with (((((((e | e) | e) | e) | e) | e) | e) | e) | e
    · exact absurd e g0
    · rw [e]; exact z0
    · rw [e]; exact zg
    · rw [e]; exact c1
    · rw [e]; exact c2
    · rw [e]; exact c12
    · rw [e]; exact c1g
    · rw [e]; exact c2g
    · rw [e]; exact c12g
  intro q hq
  have hk : q % 2 ^ w.length < 2 ^ w.length := Nat.mod_lt _ hpos
  have ha : q / 2 ^ w.length < 2 ^ w.length := Nat.div_lt_of_lt_mul hq
  have := key (q / 2 ^ w.length ^^^ q % 2 ^ w.length) (q % 2 ^ w.length) (xor_lt ha hk) hk
  rw [xc2] at this
  rwa [Nat.mul_comm, Nat.div_add_mod] at this
theorem der_dim {B : List (List Int)} {ld : Nat → Nat} (hB : Ech p (2 ^ w.length * 2 ^ w.length) B ld)
    (hk : ∀ u, Kr p (2 ^ w.length * 2 ^ w.length) B u ↔ ∀ i k g, i < 2 ^ w.length → k < 2 ^ w.length → g < 2 ^ w.length → dvc p w u i k g) : 14 + B.length = 2 ^ w.length * 2 ^ w.length := by
  have hp := isP_le hP
  have h8 := pw8 hP h3 hw hz
  have hl : w.length ≤ 3 := by omega
  refine dim_coords hP (by rw [h8]; omega) hB (by omega) (fun i => dvU w.length w (dvG i) (dvY i)) (fun j => (dvR j ^^^ dvG j) * 2 ^ w.length + dvR j) (fun i hi => ?_) (fun j hj => ?_) (fun i j hi hj hne => ?_) (fun i hi => ?_) (fun u hu hz' => ?_)
  · refine (hk _).2 fun a k g ha hk' hg => dvU_sol hP hl hw hz (dv_facts hP h3 hw hz hi).2.1 ?_ ha hk' hg
    exact chk_w hP h3 hw hz (List.all_eq_true.1 chk_dvY i (List.mem_range.2 hi))
  · have f := dv_facts hP h3 hw hz hj
    exact place_lt (xor_lt f.2.2 f.2.1) f.2.2
  · rw [dv_val hP h3 hw hz hi hj, if_neg hne]; exact Int.dvd_zero p
  · rw [dv_val hP h3 hw hz hi hi, if_pos rfl]
    exact W_nz hP hl hw hz _
  · exact der_uni hP h3 hw hz ((hk u).1 hu) hz'

/-! ### What derivations make of an element -/
theorem img_zero {u : Nat → Int} {x : List Int} (h : ∀ i k g, i < 2 ^ w.length → k < 2 ^ w.length → g < 2 ^ w.length → dvc p w u i k g) : p ∣ sumN (fun b => gI x b * u (0 * 2 ^ w.length + b)) (2 ^ w.length) :=
  sumN_dvd fun b hb => Int.dvd_mul_of_dvd_right (der_top hP h3 hw hz h hb)
theorem img_perp {u : Nat → Int} {x : List Int} (h : ∀ i k g, i < 2 ^ w.length → k < 2 ^ w.length → g < 2 ^ w.length → dvc p w u i k g) :
    p ∣ sumN (fun a => qF w a * xpF x a * sumN (fun b => gI x b * u (a * 2 ^ w.length + b)) (2 ^ w.length)) (2 ^ w.length) := by
  have hl : w.length ≤ 3 := by omega
  have e1 : p ∣ sumN (fun a => qF w a * xpF x a * sumN (fun b => gI x b * u (a * 2 ^ w.length + b)) (2 ^ w.length)) (2 ^ w.length) - sumN (fun a => sumN (fun b => qF w a * u (a * 2 ^ w.length + b) * xpF x a * xpF x b) (2 ^ w.length)) (2 ^ w.length) := by
    rw [← sumN_sub]
    refine sumN_dvd fun a ha => ?_
    rw [← sumN_mulL, ← sumN_sub]
    refine sumN_dvd fun b hb => ?_
    by_cases b0 : b = 0
    · subst b0
      have := der_unit hP hl hw hz h ha
      rw [Nat.add_zero]
      have e : qF w a * xpF x a * (gI x 0 * u (a * 2 ^ w.length)) - qF w a * u (a * 2 ^ w.length) * xpF x a * xpF x 0 = (qF w a * xpF x a * gI x 0 - qF w a * xpF x a * xpF x 0) * u (a * 2 ^ w.length) := by grind
      rw [e]
      exact Int.dvd_mul_of_dvd_right this
    · have e : xpF x b = gI x b := by unfold xpF; rw [if_neg b0]
      rw [e]
      have : qF w a * xpF x a * (gI x b * u (a * 2 ^ w.length + b)) - qF w a * u (a * 2 ^ w.length + b) * xpF x a * gI x b = 0 := by grind
      rw [this]; exact Int.dvd_zero p
  refine dvd_of_sub e1 ?_
  have h2 : p ∣ 2 * sumN (fun a => sumN (fun b => qF w a * u (a * 2 ^ w.length + b) * xpF x a * xpF x b) (2 ^ w.length)) (2 ^ w.length) := by
    rw [sumN_sq2 fun a b => qF w a * u (a * 2 ^ w.length + b) * xpF x a * xpF x b]
    refine sumN_dvd fun a ha => sumN_dvd fun b hb => ?_
    by_cases a0 : a = 0
    · have : xpF x a = 0 := by unfold xpF; rw [if_pos a0]
      rw [this]; simp
    by_cases b0 : b = 0
    · have : xpF x b = 0 := by unfold xpF; rw [if_pos b0]
      rw [this]; simp
    have := der_skew hP h3 hw hz h ha hb a0 b0
    have e : qF w a * u (a * 2 ^ w.length + b) * xpF x a * xpF x b + qF w b * u (b * 2 ^ w.length + a) * xpF x b * xpF x a = (qF w a * u (a * 2 ^ w.length + b) + qF w b * u (b * 2 ^ w.length + a)) * (xpF x a * xpF x b) := by grind
    rw [e]
    exact Int.dvd_mul_of_dvd_left this
  rcases (prime_dvd hP).1 h2 with h | h
  · exact absurd h (not_two hP)
  · exact h
theorem dlU_sol {B : List (List Int)} (hk : ∀ u, Kr p (2 ^ w.length * 2 ^ w.length) B u ↔ ∀ i k g, i < 2 ^ w.length → k < 2 ^ w.length → g < 2 ^ w.length → dvc p w u i k g) (x : List Int) {l : Nat} (hl0 : l < 2 ^ w.length) :
    Kr p (2 ^ w.length * 2 ^ w.length) B (dlU w x l) := by
  refine Kr_comb (fun i => gI x i * wpF w w.length (i &&& l)) (X := fun i => dvU w.length w (i ^^^ l) (dIL i l)) fun i hi => ?_
  have h8 := pw8 hP h3 hw hz
  refine (hk _).2 fun a k g ha hk' hg => dvU_sol hP (by omega) hw hz (xor_lt hi hl0) ?_ ha hk' hg
  exact chk_w hP h3 hw hz (List.all_eq_true.1 (List.all_eq_true.1 chk_dil i (List.mem_range.2 (by omega))) l (List.mem_range.2 (by omega)))
theorem dl_img (x : List Int) {l a : Nat} (hl : l < 2 ^ w.length) (hl0 : l ≠ 0) (ha : a < 2 ^ w.length) :
    sumN (fun b => gI x b * dlU w x l (a * 2 ^ w.length + b)) (2 ^ w.length) = (if a = l then 4 * nnF w x else 0) - 4 * (qF w l * xpF x l * xpF x a) := by
  have h8 := pw8 hP h3 hw hz
  have hl3 : w.length ≤ 3 := by omega
  let f : Nat → Nat → Int := fun b i => gI x b * gI x i * (if a ^^^ b = i ^^^ l then wpF w w.length (maj3 i l b) * dIL i l b else 0)
  have e1 : sumN (fun b => gI x b * dlU w x l (a * 2 ^ w.length + b)) (2 ^ w.length) = sumN (fun b => sumN (fun i => f b i) (2 ^ w.length)) (2 ^ w.length) := by
    refine sumN_congr fun b hb => ?_
    unfold dlU
    rw [← sumN_mulL]
    refine sumN_congr fun i hi => ?_
    rw [dvU_at hP hl3 hw hz hb]
    simp only [f]
    by_cases e : a ^^^ b = i ^^^ l
    · rw [if_pos e, if_pos e, ← wmaj hP hl3 hw hz hi hl hb, Nat.and_comm b]
      grind
    · rw [if_neg e, if_neg e]; simp
  have t1 : ∀ b i, b < 2 ^ w.length → i < 2 ^ w.length → f b i + f i b = (if i = b then (if a = l then 8 * (qF w b * xpF x b * xpF x b) else 0) else 0) - (if i = l then (if b = a then 4 * (qF w l * xpF x l * xpF x a) else 0) else 0) - (if b = l then (if i = a then 4 * (qF w l * xpF x l * xpF x a) else 0) else 0) := by
    intro b i hb hi
    have hc := List.all_eq_true.1 (List.all_eq_true.1 (List.all_eq_true.1 chk_sym i (List.mem_range.2 (by omega))) l (List.mem_range.2 (by omega))) b (List.mem_range.2 (by omega))
    simp only [decide_eq_true_eq] at hc
    rw [← h3] at hc
    have hcond : (a ^^^ i = b ^^^ l) ↔ (a ^^^ b = i ^^^ l) := by
      constructor
      · intro h
        rw [xor_eq_iff] at h ⊢
        rw [h, Nat.xor_assoc, Nat.xor_assoc, Nat.xor_comm b, Nat.xor_comm i, Nat.xor_assoc, Nat.xor_assoc, Nat.xor_comm i b]
      · intro h
        rw [xor_eq_iff] at h ⊢
        rw [h, Nat.xor_assoc, Nat.xor_assoc, Nat.xor_comm b, Nat.xor_comm i, Nat.xor_assoc, Nat.xor_assoc, Nat.xor_comm i b]
    have hmaj : maj3 b l i = maj3 i l b := maj_ext fun t => by cases b.testBit t <;> cases l.testBit t <;> cases i.testBit t <;> rfl
    have e2 : f b i + f i b = gI x b * gI x i * (if a ^^^ b = i ^^^ l then wpF w w.length (maj3 i l b) * (dIL i l b + dIL b l i) else 0) := by
      simp only [f, hcond, hmaj]
      by_cases e : a ^^^ b = i ^^^ l
      · simp only [e, if_true]; grind
      · simp only [e, if_false]; simp
    rw [e2]
    have a1 : (i = b → (a ^^^ b = i ^^^ l ↔ a = l)) := fun e => by
      subst e
      rw [xor_eq_iff, xc3]
    have a2 : (i = l → (a ^^^ b = i ^^^ l ↔ b = a)) := fun e => by
      subst e
      rw [Nat.xor_self, xor_eq_iff, Nat.zero_xor]
      exact eq_comm
    have a3 : (b = l → (a ^^^ b = i ^^^ l ↔ i = a)) := fun e => by
      subst e
      rw [xor_eq_iff, xc4]
      exact eq_comm
    have m1 : i = b → maj3 i l b = b := fun e => by subst e; exact maj_two _ _
    have m2 : i = l → maj3 i l b = l := fun e => by subst e; rw [maj_perm2]; exact maj_two _ _
    have m3 : b = l → maj3 i l b = l := fun e => by subst e; rw [maj_perm1]; exact maj_two _ _
    by_cases z : i = 0 ∨ b = 0
    · rw [hc, if_pos (show i = 0 ∨ l = 0 ∨ b = 0 from by rcases z with z | z; exact Or.inl z; exact Or.inr (Or.inr z))]
      have x1 : xpF x 0 = 0 := rfl
      have lhs : gI x b * gI x i * (if a ^^^ b = i ^^^ l then wpF w w.length (maj3 i l b) * 0 else 0) = 0 := by
        split <;> simp
      rw [lhs]
      by_cases e1 : i = b
      · have hb0 : b = 0 := by rcases z with z | z; exact e1 ▸ z; exact z
        have hi0 : i = 0 := e1.trans hb0
        rw [if_pos e1, if_neg (show ¬ i = l from fun e => hl0 (e ▸ hi0)), if_neg (show ¬ b = l from fun e => hl0 (e ▸ hb0)), hb0, x1]
        simp
      · rw [if_neg e1]
        by_cases e2 : i = l
        · have hb0 : b = 0 := by rcases z with z | z; exact absurd (e2 ▸ z) hl0; exact z
          rw [if_pos e2, if_neg (show ¬ b = l from fun e => hl0 (e ▸ hb0))]
          by_cases e4 : b = a
          · rw [if_pos e4, ← e4, hb0, x1]; simp
          · rw [if_neg e4]; simp
        · rw [if_neg e2]
          by_cases e3 : b = l
          · have hi0 : i = 0 := by rcases z with z | z; exact z; exact absurd (e3 ▸ z) hl0
            rw [if_pos e3]
            by_cases e4 : i = a
            · rw [if_pos e4, ← e4, hi0, x1]; simp
            · rw [if_neg e4]; simp
          · rw [if_neg e3]; simp
    · have hi0 : i ≠ 0 := fun e => z (.inl e)
      have hb0 : b ≠ 0 := fun e => z (.inr e)
      rw [hc, if_neg (show ¬ (i = 0 ∨ l = 0 ∨ b = 0) from by simp [hi0, hb0, hl0])]
      have xi : xpF x i = gI x i := by unfold xpF; rw [if_neg hi0]
      have xb : xpF x b = gI x b := by unfold xpF; rw [if_neg hb0]
      rw [← xi, ← xb]
      exact sym_case (W := wpF w w.length) (eps := epsF w.length) (X := xpF x) a1 a2 a3 m1 m2 m3
  have e2 := sumN_sq2 f (2 ^ w.length)
  have e3 : sumN (fun b => sumN (fun i => f b i + f i b) (2 ^ w.length)) (2 ^ w.length) = 2 * ((if a = l then 4 * nnF w x else 0) - 4 * (qF w l * xpF x l * xpF x a)) := by
    rw [sumN_congr fun b hb => sumN_congr fun i hi => t1 b i hb hi]
    have s1 : ∀ b, b < 2 ^ w.length → sumN (fun i => (if i = b then (if a = l then 8 * (qF w b * xpF x b * xpF x b) else 0) else 0) - (if i = l then (if b = a then 4 * (qF w l * xpF x l * xpF x a) else 0) else 0) - (if b = l then (if i = a then 4 * (qF w l * xpF x l * xpF x a) else 0) else 0)) (2 ^ w.length) =
        (if a = l then 8 * (qF w b * xpF x b * xpF x b) else 0) - (if b = a then 4 * (qF w l * xpF x l * xpF x a) else 0) - (if b = l then 4 * (qF w l * xpF x l * xpF x a) else 0) := by
      intro b hb
      rw [sumN_sub, sumN_sub, sumN_one hb (fun q _ hq => if_neg hq), if_pos rfl, sumN_one hl (fun q _ hq => if_neg hq), if_pos rfl]
      congr 1
      by_cases e : b = l
      · simp only [e, if_true]
        rw [sumN_one ha (fun q _ hq => if_neg hq), if_pos rfl]
      · simp only [e, if_false]
        exact sumN_zero _
    rw [sumN_congr s1, sumN_sub, sumN_sub, sumN_one ha (fun q _ hq => if_neg hq), if_pos rfl, sumN_one hl (fun q _ hq => if_neg hq), if_pos rfl]
    have s2 : sumN (fun b => if a = l then 8 * (qF w b * xpF x b * xpF x b) else 0) (2 ^ w.length) = if a = l then 8 * nnF w x else 0 := by
      by_cases e : a = l
      · simp only [e, if_true]
        unfold nnF
        rw [← sumN_mulL]
      · simp only [e, if_false]
        exact sumN_zero _
    rw [s2]
    split <;> grind
  rw [e1]
  rw [e3] at e2
  omega
end
end Go.Vam

/- Plain law: FnUnits. -/
namespace Go.Vam
open Go Go.RowKit
set_option linter.unusedSimpArgs false
set_option linter.unusedVariables false
set_option linter.unusedSectionVars false

section
variable {p : Int} {w : List Int} (hP : isP p = true) (hl : w.length ≤ 3) (hw : Vec p w.length w)
include hP hl hw
end
end Go.Vam

/- Plain law: FnUnits. -/
namespace Go.Vam
open Go Go.RowKit
set_option linter.unusedSimpArgs false
set_option linter.unusedVariables false
set_option linter.unusedSectionVars false

end Go.Vam

/- Plain law: FnFixingDerivations. -/
namespace Go.Vam
open Go Go.RowKit
set_option linter.unusedSimpArgs false
set_option linter.unusedVariables false
set_option linter.unusedSectionVars false

theorem fix_vals {p : Int} {w x : List Int} (hw : w.length ≤ 1048576) (hxl : x.length ≤ 1048576) (h0 : thC p w [x] [] = 0) :
    ∃ (V B V' W im : List (List Int)) (ld lv lw : Nat → Nat), s_FixingDimension p w x = some ((V'.length : Int), 0) ∧ i_FixingDimension p w x = some ((V'.length : Int), 0) ∧ i_DerivationDimension p w = some ((V.length : Int), 0) ∧
      V'.length + W.length = V.length ∧ Ech p (2 ^ w.length * 2 ^ w.length) V lv ∧ Ech p (2 ^ w.length * 2 ^ w.length) B ld ∧
      (∀ u, Kr p (2 ^ w.length * 2 ^ w.length) B u ↔ KerP p (2 ^ w.length * (2 ^ w.length * 2 ^ w.length)) (2 ^ w.length * 2 ^ w.length) (drvA p w (2 ^ w.length)) u) ∧
      (∀ u, Kr p (2 ^ w.length * 2 ^ w.length) V u ↔ KerP p (kerR p (2 ^ w.length * 2 ^ w.length) B ld (2 ^ w.length * 2 ^ w.length)).length (2 ^ w.length * 2 ^ w.length) (kerR p (2 ^ w.length * 2 ^ w.length) B ld (2 ^ w.length * 2 ^ w.length)) u) ∧
      Mat p V.length (2 ^ w.length) im ∧ (∀ j, j < V.length → ∀ a, a < 2 ^ w.length → p ∣ gI (gR im j) a - rd (2 ^ w.length * 2 ^ w.length) (fxR (2 ^ w.length) x a) (gI (gR V j))) ∧
      Ech p (2 ^ w.length) W lw ∧ ∀ y, Kr p (2 ^ w.length) W y ↔ KerP p V.length (2 ^ w.length) im y := by
  have hsz : szM [x] := ⟨by simp, fun r hr => by simp only [List.mem_singleton] at hr; exact hr ▸ hxl⟩
  have hD0 : dbC p w = 0 := by
    unfold thC at h0
    split at h0
    · assumption
    · exact absurd h0 (by assumption)
  obtain ⟨a1, a2, a3, _⟩ := thC_zero h0
  obtain ⟨hP, hl, hv, _⟩ := isDb_iff a1
  have hp := isP_le hP
  have hx := a3 x (by simp)
  have h8 : 2 ^ w.length ≤ 8 := Nat.pow_le_pow_right (by omega) a2
  have hn0 := two_pos w.length
  have hNN : 2 ^ w.length * 2 ^ w.length ≤ 8 * 8 := Nat.mul_le_mul h8 h8
  have hNNN : 2 ^ w.length * (2 ^ w.length * 2 ^ w.length) ≤ 8 * (8 * 8) := Nat.mul_le_mul h8 hNN
  have hN : w64 (((2 ^ w.length : Nat) : Int) * ((2 ^ w.length : Nat) : Int)) = ((2 ^ w.length * 2 ^ w.length : Nat) : Int) := by
    rw [← Int.natCast_mul, w_in (by omega) (by omega)]
  obtain ⟨V, B, ld, lv, e1, e2, hV, hB, hBk, hVk⟩ := Derivations_two hP hl hv
  have hVl := hV.le
  have hA := drvA_mat hP hl hv (2 ^ w.length) (Nat.le_refl _)
  have hAl := hA.1
  have hE : Mat p (2 ^ w.length * (2 ^ w.length * 2 ^ w.length) + 2 ^ w.length) (2 ^ w.length * 2 ^ w.length) (drvA p w (2 ^ w.length) ++ vecN (2 ^ w.length) (fxR (2 ^ w.length) x)) := hA.append (Mat.mk' fun i _ => fxR_vec (by omega) hx i)
  obtain ⟨V', B', ld', f1, f2, ⟨lv', hV'⟩, hB', hBk', hVk'⟩ := Kernel_two (n := 2 ^ w.length * 2 ^ w.length) hP (by omega) (by omega) (by omega) hE hE fun u => Iff.rfl
  have hVl' := hV'.le
  have hcut : ∀ k, k < V.length → i_rowsIn (gR V k) ((2 ^ w.length : Nat) : Int) = some (cutv (2 ^ w.length) (gR V k)) ∧ Mat p (2 ^ w.length) (2 ^ w.length) (cutv (2 ^ w.length) (gR V k)) := fun k hk => ⟨(cut_two hn0 (by omega) (hV.mat.row hk)).2, cut_mat hn0 (by omega) (hV.mat.row hk)⟩
  have hM : Mat p V.length (2 ^ w.length) (vecN V.length fun k => applyv p (2 ^ w.length) (2 ^ w.length) (cutv (2 ^ w.length) (gR V k)) x) := Mat.mk' fun k _ => applyv_vec (by omega) ..
  have g1 : loop (i_FixingDimension_L0 p w x V) BIG ([], 0) = some (vecN V.length fun k => applyv p (2 ^ w.length) (2 ^ w.length) (cutv (2 ^ w.length) (gR V k)) x) := by
    refine map_loop _ V.length _ (by rw [BIG_val]; omega) (fun k hk out ho => ?_) (fun out ho => ?_)
    · obtain ⟨q1, q2⟩ := hcut k hk
      have ap := i_field_apply_eq (show 0 < p by omega) (show p ≤ 13 by omega) (show 2 ^ w.length ≤ 1048576 by omega) (show 2 ^ w.length ≤ 1048576 by omega) q2 hx
      unfold i_FixingDimension_L0 i_Doubling_field
      simp only [lt_cast hk, if_true]
      rw [idxR hk, some_bind, some_bind, i_Doubling_size_eq hl, some_bind, q1, some_bind, ap, some_bind, chk_bind (by simp only [List.length_cons, List.length_nil]; omega), w_in (by omega) (by omega)]; rfl
    · unfold i_FixingDimension_L0
      simp only [lt_cast_self, if_false]
  have him : ∀ j, j < V.length → ∀ a, a < 2 ^ w.length → p ∣ gI (gR (vecN V.length fun k => applyv p (2 ^ w.length) (2 ^ w.length) (cutv (2 ^ w.length) (gR V k)) x) j) a - rd (2 ^ w.length * 2 ^ w.length) (fxR (2 ^ w.length) x a) (gI (gR V j)) := by
    intro j hj a ha
    rw [gR_vecN _ hj, fxR_rd ha]
    unfold applyv
    rw [gI_vecN _ ha]
    have h2 := Nat.mul_le_mul_right (2 ^ w.length) (show a + 1 ≤ 2 ^ w.length by omega)
    rw [Nat.add_mul] at h2
    have : dotp p (2 ^ w.length) (gR (cutv (2 ^ w.length) (gR V j)) a) x = sumN (fun b => gI x b * gI (gR V j) (a * 2 ^ w.length + b)) (2 ^ w.length) % p := by
      unfold dotp
      congr 1
      refine sumN_congr fun b hb => ?_
      unfold cutv
      rw [gR_vecN _ ha, gI_drop, gI_take (by omega), Int.mul_comm]
    rw [this, ← mod_dvd, emm]
  obtain ⟨W, _, w1, w2, ⟨lw, hW⟩, hWk⟩ := i_basis_any hP (by omega) (by omega) hM
  have hdim : V'.length + W.length = V.length := by
    refine fix_dim (n := 2 ^ w.length) (xr := fxR (2 ^ w.length) x) hP (by omega) (by omega) hB hV hVk hB' hV' hVk' (fun u => ?_) hM him hW hWk
    rw [hBk' u, hBk u, KerP_append hAl]
    refine and_congr_right fun _ => ?_
    unfold KerP
    constructor
    · intro h a ha
      have := h a ha
      rwa [gR_vecN _ ha] at this
    · intro h a ha
      rw [gR_vecN _ ha]
      exact h a ha
  refine ⟨V, B, V', W, _, ld, lv, lw, ?_, ?_, ?_, hdim, hV, hB, hBk, hVk, hM, him, hW, hWk⟩
  · have c1 : s_l14Equations p w = some (drvA p w (2 ^ w.length)) := s_l14Equations_eq hP hl hv
    have c2 := s_fix_loop hp.1 hp.2 hn0 (by omega) hx (E := drvA p w (2 ^ w.length)) (by omega)
    unfold s_FixingDimension
    rw [s_l14Elements_eq hw hsz, some_bind]
    simp only [h0, not_true_eq_false, if_false, s_l11Size_eq hl, some_bind, c1, c2, hN, f2]
  · have w3 : w64 ((V.length : Int) - (W.length : Int)) = (V'.length : Int) := by rw [w_in (by omega) (by omega)]; omega
    unfold i_FixingDimension
    rw [i_checkThree_eq hw hsz (by simp) (fun m hm => by simp at hm), some_bind]
    simp only [h0, not_true_eq_false, if_false, some_bind, e2, g1, i_Doubling_field, w1, w3]
  · unfold i_DerivationDimension i_length_LI
    rw [i_checkThree_eq hw ⟨by simp, by simp⟩ (by simp) (fun m hm => by simp at hm), some_bind]
    have hC : thC p w [] [] = dbC p w := by unfold thC; simp; intro h; exact h.symm
    rw [hC]
    simp only [hD0, not_true_eq_false, if_false, e2, some_bind]

section
variable {p : Int} {w : List Int} (hP : isP p = true) (hl : w.length ≤ 3) (hw : Vec p w.length w) (hz : hasZ w = false)
include hP hl hw hz
theorem rank_unit {V B W im : List (List Int)} {ld lv lw : Nat → Nat} (hV : Ech p (2 ^ w.length * 2 ^ w.length) V lv) (hB : Ech p (2 ^ w.length * 2 ^ w.length) B ld)
    (hBk : ∀ u, Kr p (2 ^ w.length * 2 ^ w.length) B u ↔ KerP p (2 ^ w.length * (2 ^ w.length * 2 ^ w.length)) (2 ^ w.length * 2 ^ w.length) (drvA p w (2 ^ w.length)) u)
    (hVk : ∀ u, Kr p (2 ^ w.length * 2 ^ w.length) V u ↔ KerP p (kerR p (2 ^ w.length * 2 ^ w.length) B ld (2 ^ w.length * 2 ^ w.length)).length (2 ^ w.length * 2 ^ w.length) (kerR p (2 ^ w.length * 2 ^ w.length) B ld (2 ^ w.length * 2 ^ w.length)) u)
    (him : ∀ j, j < V.length → ∀ a, a < 2 ^ w.length → p ∣ gI (gR im j) a - rd (2 ^ w.length * 2 ^ w.length) (fxR (2 ^ w.length) (axis (2 ^ w.length) 0) a) (gI (gR V j)))
    (hW : Ech p (2 ^ w.length) W lw) (hWk : ∀ y, Kr p (2 ^ w.length) W y ↔ KerP p V.length (2 ^ w.length) im y) : W.length = 0 := by
  have hp := isP_le hP
  have h0 := two_pos w.length
  obtain ⟨s1, s2⟩ := Kernel_span hB hV hVk
  rcases Nat.eq_zero_or_pos W.length with h | h
  · exact h
  exfalso
  have hk : Kr p (2 ^ w.length) W (fun q => if q = lw 0 then 1 else 0) := (hWk _).2 fun j hj => by
    unfold rd
    refine sumN_dvd fun a ha => Int.dvd_mul_of_dvd_left (dvd_of_sub (him j hj a ha) ?_)
    rw [fxR_rd ha]
    refine sumN_dvd fun b hb => ?_
    rw [gI_axis h0]
    by_cases e : b = 0
    · rw [if_pos e, e, Int.one_mul, Nat.add_zero]
      exact der_unit hP hl hw hz ((der_iff hP hl hw hz _).1 ((hBk _).1 (s1 j hj))) ha
    · rw [if_neg e, Int.zero_mul]; exact Int.dvd_zero p
  have := hk 0 h
  unfold rd at this
  simp only [] at this
  rw [sumN_one (hW.lt 0 h) (fun q hq hne => by simp [hne]), hW.one 0 h] at this
  simp only [if_true, Int.mul_one] at this
  have := Int.le_of_dvd (by omega) this
  omega
end
section
variable {p : Int} {w : List Int} (hP : isP p = true) (h3 : w.length = 3) (hw : Vec p w.length w) (hz : hasZ w = false)
include hP h3 hw hz
theorem rank_six {x : List Int} {V B W im : List (List Int)} {ld lv lw : Nat → Nat} (hn : ¬ p ∣ nnF w x) (hV : Ech p (2 ^ w.length * 2 ^ w.length) V lv) (hB : Ech p (2 ^ w.length * 2 ^ w.length) B ld)
    (hBk : ∀ u, Kr p (2 ^ w.length * 2 ^ w.length) B u ↔ KerP p (2 ^ w.length * (2 ^ w.length * 2 ^ w.length)) (2 ^ w.length * 2 ^ w.length) (drvA p w (2 ^ w.length)) u)
    (hVk : ∀ u, Kr p (2 ^ w.length * 2 ^ w.length) V u ↔ KerP p (kerR p (2 ^ w.length * 2 ^ w.length) B ld (2 ^ w.length * 2 ^ w.length)).length (2 ^ w.length * 2 ^ w.length) (kerR p (2 ^ w.length * 2 ^ w.length) B ld (2 ^ w.length * 2 ^ w.length)) u)
    (him : ∀ j, j < V.length → ∀ a, a < 2 ^ w.length → p ∣ gI (gR im j) a - rd (2 ^ w.length * 2 ^ w.length) (fxR (2 ^ w.length) x a) (gI (gR V j)))
    (hW : Ech p (2 ^ w.length) W lw) (hWk : ∀ y, Kr p (2 ^ w.length) W y ↔ KerP p V.length (2 ^ w.length) im y) : W.length = 6 := by
  have hp := isP_le hP
  have hl : w.length ≤ 3 := by omega
  have h8 := pw8 hP h3 hw hz
  have h0 := two_pos w.length
  obtain ⟨s1, s2⟩ := Kernel_span hB hV hVk
  have hder : ∀ u, Kr p (2 ^ w.length * 2 ^ w.length) B u ↔ ∀ i k g, i < 2 ^ w.length → k < 2 ^ w.length → g < 2 ^ w.length → dvc p w u i k g := fun u => (hBk u).trans (der_iff hP hl hw hz u)
  obtain ⟨j0, hj0, hj0p, hj0n⟩ : ∃ j0, j0 < 2 ^ w.length ∧ j0 ≠ 0 ∧ ¬ p ∣ xpF x j0 ∧ ¬ p ∣ qF w j0 := by
    refine Classical.byContradiction fun hno => hn ?_
    unfold nnF
    refine sumN_dvd fun b hb => ?_
    by_cases b0 : b = 0
    · subst b0
      have : xpF x 0 = 0 := rfl
      rw [this]; simp
    · refine Classical.byContradiction fun hd => hno ⟨b, hb, b0, fun h => hd (Int.dvd_mul_of_dvd_right h), fun h => hd ?_⟩
      exact Int.dvd_mul_of_dvd_left (Int.dvd_mul_of_dvd_left h)
  obtain ⟨hx0, hq0⟩ := hj0n
  have k0 : Kr p (2 ^ w.length) W (fun q => if q = 0 then 1 else 0) := (hWk _).2 fun j hj => by
    unfold rd
    rw [sumN_one h0 (fun q _ hq => by simp [hq])]
    simp only [if_true, Int.mul_one]
    refine dvd_of_sub (him j hj 0 h0) ?_
    rw [fxR_rd h0]
    exact img_zero hP h3 hw hz ((hder _).1 (s1 j hj))
  have k1 : Kr p (2 ^ w.length) W (fun q => qF w q * xpF x q) := (hWk _).2 fun j hj => by
    have h1 := img_perp hP h3 hw hz (x := x) ((hder _).1 (s1 j hj))
    refine dvd_of_sub ?_ h1
    unfold rd
    rw [← sumN_sub]
    refine sumN_dvd fun a ha => ?_
    have h2 := him j hj a ha
    rw [fxR_rd ha] at h2
    rw [Int.mul_comm (gI (gR im j) a), ← Int.mul_sub]
    exact Int.dvd_mul_of_dvd_right h2
  have hkm := kerR_mat (p := p) (by omega) (2 ^ w.length) W lw (2 ^ w.length)
  have hkl := kerR_len p (2 ^ w.length) W lw (2 ^ w.length)
  obtain ⟨C, _, _, _, ⟨lc, hC⟩, hCk⟩ := i_basis_any hP (by omega) (by omega) hkm
  have hnul := nullity hP (by omega) hW hC hCk
  obtain ⟨c1, c2⟩ := Kernel_span hW hC hCk
  have a1 : 2 ≤ C.length := by
    refine steinitz (p := p) (n := 2 ^ w.length) (X := fun t q => if t = 0 then (if q = 0 then 1 else 0) else qF w q * xpF x q) (Y := fun j q => gI (gR C j) q) (M := fun t j => if t = 0 then (if lc j = 0 then 1 else 0) else qF w (lc j) * xpF x (lc j)) hP (by omega) (fun c hc => ?_) (fun t ht q hq => ?_)
    · have e0 := hc 0 h0
      have e1 := hc j0 hj0
      have x0 : xpF x 0 = 0 := rfl
      simp only [sumN, if_true, Nat.one_ne_zero, if_false, Int.zero_add, x0, Int.mul_zero, Int.add_zero, Int.mul_one, hj0p] at e0 e1
      intro i hi
      have hi2 : i = 0 ∨ i = 1 := by omega
      rcases hi2 with rfl | rfl
      · exact e0
      · rcases (prime_dvd hP).1 e1 with h | h
        · exact h
        · rcases (prime_dvd hP).1 h with h | h
          · exact absurd h hq0
          · exact absurd h hx0
    · have ht2 : t = 0 ∨ t = 1 := by omega
      rcases ht2 with rfl | rfl
      · simp only [if_true]
        exact c2 _ k0 q hq
      · simp only [Nat.one_ne_zero, if_false]
        exact c2 _ k1 q hq
  let lt : Nat → Nat := fun t => if t + 1 < j0 then t + 1 else t + 2
  have hlt : ∀ t, t < 6 → lt t < 2 ^ w.length ∧ lt t ≠ 0 ∧ lt t ≠ j0 := fun t ht => by
    simp only [lt]
    split <;> refine ⟨?_, ?_, ?_⟩ <;> omega
  have hinj : ∀ s t, s < 6 → t < 6 → lt s = lt t → s = t := fun s t hs ht e => by
    simp only [lt] at e
    split at e <;> split at e <;> omega
  have four : ¬ p ∣ 4 := fun h => by
    have : (4 : Int) = 2 * 2 := rfl
    rw [this] at h
    rcases (prime_dvd hP).1 h with h | h <;> exact not_two hP h
  have a2 : 6 ≤ W.length := by
    refine steinitz (p := p) (n := 2 ^ w.length) (X := fun t a => sumN (fun b => gI x b * dlU w x (lt t) (a * 2 ^ w.length + b)) (2 ^ w.length)) (Y := fun j q => gI (gR W j) q) (M := fun t j => sumN (fun b => gI x b * dlU w x (lt t) (lw j * 2 ^ w.length + b)) (2 ^ w.length)) hP (by omega) (fun c hc s hs => ?_) (fun t ht q hq => ?_)
    · have hval : ∀ a, a < 2 ^ w.length → p ∣ sumN (fun t => c t * ((if a = lt t then 4 * nnF w x else 0) - 4 * (qF w (lt t) * xpF x (lt t) * xpF x a))) 6 := fun a ha => by
        have := hc a ha
        rwa [sumN_congr (g := fun t => c t * ((if a = lt t then 4 * nnF w x else 0) - 4 * (qF w (lt t) * xpF x (lt t) * xpF x a))) fun t ht => by simp only []; rw [dl_img hP h3 hw hz x (hlt t ht).1 (hlt t ht).2.1 ha]] at this
      have hspl : ∀ a, sumN (fun t => c t * ((if a = lt t then 4 * nnF w x else 0) - 4 * (qF w (lt t) * xpF x (lt t) * xpF x a))) 6 = sumN (fun t => if a = lt t then c t * (4 * nnF w x) else 0) 6 - 4 * (sumN (fun t => c t * (qF w (lt t) * xpF x (lt t))) 6 * xpF x a) := fun a => by
        rw [← sumN_mulR, ← sumN_mulL, ← sumN_sub]
        refine sumN_congr fun t ht => ?_
        split <;> grind
      have hK : p ∣ sumN (fun t => c t * (qF w (lt t) * xpF x (lt t))) 6 := by
        have := hval j0 hj0
        rw [hspl, sumN_congr (g := fun _ => 0) (fun t ht => if_neg fun e => (hlt t ht).2.2 e.symm), sumN_zero, Int.zero_sub, Int.dvd_neg] at this
        rcases (prime_dvd hP).1 this with h | h
        · exact absurd h four
        · rcases (prime_dvd hP).1 h with h | h
          · exact h
          · exact absurd h hx0
      have := hval (lt s) (hlt s hs).1
      rw [hspl, sumN_one hs (fun t ht hne => if_neg fun e => hne (hinj s t hs ht e).symm), if_pos rfl] at this
      have h2 := Int.dvd_add this (Int.dvd_mul_of_dvd_right (b := 4) (Int.dvd_mul_of_dvd_left (c := xpF x (lt s)) hK))
      rw [Int.sub_add_cancel] at h2
      rcases (prime_dvd hP).1 h2 with h | h
      · exact h
      · rcases (prime_dvd hP).1 h with h | h
        · exact absurd h four
        · exact absurd h hn
    · refine hW.span (u := fun a => sumN (fun b => gI x b * dlU w x (lt t) (a * 2 ^ w.length + b)) (2 ^ w.length)) (fun y hy => ?_) q hq
      have hsol := dlU_sol hP h3 hw hz hder x (hlt t ht).1
      have hex := s2 _ hsol
      have hy' := (hWk y).1 hy
      have e1 : p ∣ sumN (fun a => sumN (fun b => gI x b * dlU w x (lt t) (a * 2 ^ w.length + b)) (2 ^ w.length) * y a) (2 ^ w.length) - sumN (fun j => dlU w x (lt t) (lv j) * rd (2 ^ w.length) (gR im j) y) V.length := by
        have e2 : sumN (fun j => dlU w x (lt t) (lv j) * rd (2 ^ w.length) (gR im j) y) V.length = sumN (fun a => sumN (fun j => dlU w x (lt t) (lv j) * gI (gR im j) a) V.length * y a) (2 ^ w.length) := by
          have : sumN (fun j => dlU w x (lt t) (lv j) * rd (2 ^ w.length) (gR im j) y) V.length = sumN (fun j => sumN (fun a => dlU w x (lt t) (lv j) * gI (gR im j) a * y a) (2 ^ w.length)) V.length := sumN_congr fun j _ => by
            unfold rd
            rw [← sumN_mulL]
            exact sumN_congr fun a _ => (Int.mul_assoc _ _ _).symm
          rw [this, sumN_comm]
          exact sumN_congr fun a _ => sumN_mulR _ _ _
        rw [e2, ← sumN_sub]
        refine sumN_dvd fun a ha => ?_
        rw [← Int.sub_mul]
        refine Int.dvd_mul_of_dvd_left ?_
        have e3 : p ∣ sumN (fun b => gI x b * dlU w x (lt t) (a * 2 ^ w.length + b)) (2 ^ w.length) - sumN (fun b => gI x b * sumN (fun j => dlU w x (lt t) (lv j) * gI (gR V j) (a * 2 ^ w.length + b)) V.length) (2 ^ w.length) := by
          rw [← sumN_sub]
          refine sumN_dvd fun b hb => ?_
          rw [← Int.mul_sub]
          exact Int.dvd_mul_of_dvd_right (hex _ (place_lt ha hb))
        refine dvd_trans_sub e3 ?_
        have e4 : sumN (fun b => gI x b * sumN (fun j => dlU w x (lt t) (lv j) * gI (gR V j) (a * 2 ^ w.length + b)) V.length) (2 ^ w.length) = sumN (fun j => dlU w x (lt t) (lv j) * sumN (fun b => gI x b * gI (gR V j) (a * 2 ^ w.length + b)) (2 ^ w.length)) V.length := by
          have : sumN (fun b => gI x b * sumN (fun j => dlU w x (lt t) (lv j) * gI (gR V j) (a * 2 ^ w.length + b)) V.length) (2 ^ w.length) = sumN (fun b => sumN (fun j => dlU w x (lt t) (lv j) * (gI x b * gI (gR V j) (a * 2 ^ w.length + b))) V.length) (2 ^ w.length) := sumN_congr fun b _ => by
            rw [← sumN_mulL]
            exact sumN_congr fun j _ => by grind
          rw [this, sumN_comm]
          exact sumN_congr fun j _ => sumN_mulL _ _ _
        rw [e4, ← sumN_sub]
        refine sumN_dvd fun j hj => ?_
        rw [← Int.mul_sub]
        have := him j hj a ha
        rw [fxR_rd ha] at this
        exact Int.dvd_mul_of_dvd_right (dvd_sub_symm this)
      refine dvd_of_sub e1 (sumN_dvd fun j hj => Int.dvd_mul_of_dvd_right (hy' j hj))
  omega
end
theorem LawFixingDerivations {c : List Int} (hc : c.length ≤ 9223372036854775807) (hb : ∀ x ∈ c, 0 ≤ x ∧ x ≤ 255) : l_FnFixingDerivations c = some true := by
  unfold l_FnFixingDerivations l_big
  rw [some_bind]
  by_cases hbig : (4096 : Int) < (c.length : Int)
  · rw [ilt_true hbig, if_pos rfl]
  rw [ilt_false hbig]
  simp only [Bool.false_eq_true, if_false]
  obtain ⟨p, w, x, e0, lw, lx⟩ : ∃ (p : Int) (w x : List Int), s_DrawFixingDimension c = some ((p, w), x) ∧ w.length ≤ 5 ∧ x.length ≤ 16 := by
    unfold s_DrawFixingDimension s_DrawDoubleConjugate
    obtain ⟨h0, e0, S0⟩ := from_eq (c := c) (by omega) hb
    obtain ⟨p, w, a2, h2, e2, p0, p1, l2, S2⟩ := draw_any (h := h0) (m := 4) S0 (by omega) (by omega)
    obtain ⟨x, a3, h3, e3, l3, S3⟩ := draw_element (h := h2) S2 p0 p1 l2
    simp only [e0, e2, e3, some_bind]
    exact ⟨p, w, x, rfl, l2, l3⟩
  by_cases h0 : thC p w [x] [] = 0
  rotate_left
  · have hsz : szM [x] := ⟨by simp, fun r hr => by simp only [List.mem_singleton] at hr; rw [hr]; omega⟩
    have f1 : i_FixingDimension p w x = some (0, thC p w [x] []) := by
      unfold i_FixingDimension
      rw [i_checkThree_eq (by omega) hsz (by simp) (fun m hm => by simp at hm), some_bind]
      simp only [h0, not_false_eq_true, if_true]
    have f2 : s_FixingDimension p w x = some (0, thC p w [x] []) := by
      unfold s_FixingDimension
      rw [s_l14Elements_eq (by omega) hsz, some_bind]
      simp only [h0, not_false_eq_true, if_true]
    simp only [e0, f1, f2, some_bind, not_true_eq_false, if_false, ieq_self, Bool.not_true, Bool.false_eq_true, h0, not_false_eq_true, if_true]
  obtain ⟨a1, a2, a3, _⟩ := thC_zero h0
  obtain ⟨hP, hl, hv, hz⟩ := isDb_iff a1
  have hp := isP_le hP
  have hx := a3 x (by simp)
  have hpos := two_pos w.length
  have h16 := two_le hl
  have hax := axis_vec (p := p) (by omega) hpos
  have h0' : thC p w [axis (2 ^ w.length) 0] [] = 0 := by
    unfold thC dbC
    have : elB p (2 ^ w.length) (axis (2 ^ w.length) 0) = true := elB_iff.2 hax
    simp [a1, this, a2]
  obtain ⟨V, B, V', W, im, ld, lv, lw', f1, f2, f3, f4, f5, f6, f7, f8, f9, f10, f11, f12⟩ := fix_vals (p := p) (w := w) (x := x) (by omega) (by omega) h0
  obtain ⟨U, B2, U', W2, im2, ld2, lu, lw2, g1, g2, g3, g4, g5, g6, g7, g8, g9, g10, g11, g12⟩ := fix_vals (p := p) (w := w) (x := axis (2 ^ w.length) 0) (by omega) (by rw [hax.1]; omega) h0'
  have hu0 := rank_unit hP a2 hv hz g5 g6 g7 g8 g10 g11 g12
  have hUV : (U.length : Int) = V.length := by
    rw [f3] at g3
    simpa using g3.symm
  have hunit : i_DoubleUnit p w = some (axis (2 ^ w.length) 0, 0) := by
    unfold i_DoubleUnit
    rw [i_IsDoubling_eq (by omega), a1, some_bind]
    simp only [Bool.true_eq_false, if_false]
    rw [i_element0 hP a2 hv]
    rfl
  have hx' : Vec p (2 ^ w.length) ([0] ++ x.drop 1) := by
    have hxl := hx.1
    refine ⟨by simp; omega, fun k hk => ?_⟩
    cases k with
    | zero => exact ⟨Int.le_refl _, by show (0 : Int) < p; omega⟩
    | succ k =>
      have := hx.2 (k + 1) hk
      have e : gI ([0] ++ x.drop 1) (k + 1) = gI x (k + 1) := by
        unfold gI
        simp [List.getD_eq_getElem?_getD, Nat.add_comm]
      rwa [e]
  have hxp : ∀ k, gI ([0] ++ x.drop 1) k = xpF x k := fun k => by
    cases k with
    | zero => rfl
    | succ k =>
      unfold gI xpF gI
      simp [List.getD_eq_getElem?_getD, Nat.add_comm]
  have hnorm : i_DoubleNorm p w ([0] ++ x.drop 1) = some (nrm p w ([0] ++ x.drop 1), 0) := by
    have e := hx'.1
    unfold i_DoubleNorm
    rw [i_check_one (by omega) (by omega), elC_of a1 hx', some_bind]
    simp only [not_true_eq_false, if_false]
    rw [i_norm_eq hP hl hv hx']
    rfl
  have hxl := hx.1
  have k1 : (1 : Int) ≤ (x.length : Int) := by omega
  have k2 : [0].length + (x.drop 1).length ≤ 1099511627776 := by simp; omega
  have hle : ¬ ((V.length : Int) < (V'.length : Int)) := by omega
  have hU : (U'.length : Int) = (V.length : Int) := by omega
  have hlast : ¬ (w.length : Int) = 3 ∨ nrm p w ([0] ++ x.drop 1) = 0 ∨ (V'.length : Int) = 8 := by
    by_cases h3 : w.length = 3
    · by_cases hn : nrm p w ([0] ++ x.drop 1) = 0
      · exact .inr (.inl hn)
      · refine .inr (.inr ?_)
        have hder := der_dim hP h3 hv hz f6 fun u => (f7 u).trans (der_iff hP a2 hv hz u)
        have h8 := pw8 hP h3 hv hz
        have hnul := nullity hP (by rw [h8]; omega) f6 f5 f8
        have hnn : ¬ p ∣ nnF w x := fun h => hn (by
          unfold nrm
          refine (Int.emod_eq_zero_of_dvd ?_)
          refine dvd_of_sub ?_ h
          unfold nnF
          rw [← sumN_sub]
          refine sumN_dvd fun b hb => ?_
          rw [hxp, ← Int.sub_mul, ← Int.sub_mul]
          exact Int.dvd_mul_of_dvd_left (Int.dvd_mul_of_dvd_left (mod_dvd.1 (dg_mod hP a2 hv hz hb))))
        have h6 := rank_six hP h3 hv hz hnn f5 f6 f7 f8 f10 f11 f12
        omega
    · exact .inl (by omega)
  simp only [e0, f1, f2, f3, g2, hunit, hnorm, some_bind, not_true_eq_false, if_false, ieq_self, Bool.not_true, Bool.false_eq_true, chk_bind k1, chk_bind k2, hle, hU]
  generalize (V'.length : Int) = A at hlast ⊢
  generalize (w.length : Int) = L at hlast ⊢
  generalize nrm p w ([0] ++ x.drop 1) = M at hlast ⊢
  by_cases e1 : L = 3
  · by_cases e2 : p = 3
    · simp [e1, e2]
    · by_cases e3 : M = 0
      · simp [e1, e2, e3]
      · have : A = 8 := by
          rcases hlast with h | h | h
          · exact absurd e1 h
          · exact absurd h e3
          · exact h
        simp [e1, e2, e3, this, ieq_self]
  · simp [e1]
end Go.Vam
