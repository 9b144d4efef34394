import Derived.Test.YtdoimfkonaeceaaPlG1
/- Plain laws: ranks, kernels and how many vectors they have. -/
namespace Go.Vam
open Go Go.RowKit
set_option linter.unusedSimpArgs false
set_option linter.unusedVariables false
set_option linter.unusedSectionVars false

theorem sumN_add (f g : Nat → Int) (n : Nat) : sumN (fun q => f q + g q) n = sumN f n + sumN g n := by
  have := sumN_lin f g 1 n
  simp only [Int.one_mul] at this
  exact this
theorem sumN_mulL (k : Int) (f : Nat → Int) (n : Nat) : sumN (fun q => k * f q) n = k * sumN f n := by
  have := sumN_lin (fun _ => 0) f k n
  simp only [Int.zero_add, sumN_zero] at this
  exact this
theorem sumN_mulR (k : Int) (f : Nat → Int) (n : Nat) : sumN (fun q => f q * k) n = sumN f n * k := by
  rw [Int.mul_comm, ← sumN_mulL]
  exact sumN_congr fun q _ => Int.mul_comm _ _
theorem sumN_comm (f : Nat → Nat → Int) (m : Nat) : ∀ n, sumN (fun i => sumN (fun j => f i j) m) n = sumN (fun j => sumN (fun i => f i j) n) m
  | 0 => by simp only [sumN]; rw [sumN_zero]
  | n + 1 => by
    simp only [sumN]
    rw [sumN_add, sumN_comm f m n]
theorem sumN_dvd {p : Int} {f : Nat → Int} : ∀ {n : Nat}, (∀ k, k < n → p ∣ f k) → p ∣ sumN f n
  | 0, _ => Int.dvd_zero p
  | n + 1, h => by
    simp only [sumN]
    exact Int.dvd_add (sumN_dvd fun k hk => h k (by omega)) (h n (by omega))
theorem sumN_sub (f g : Nat → Int) (n : Nat) : sumN (fun q => f q - g q) n = sumN f n - sumN g n := by
  have := sumN_lin f g (-1) n
  have e : sumN (fun q => f q - g q) n = sumN (fun q => f q + -1 * g q) n := sumN_congr fun q _ => by omega
  rw [e, this]; omega
theorem sumN_const (n : Nat) : sumN (fun _ => (1 : Int)) n = n := by
  induction n with
  | zero => rfl
  | succ n ih => simp only [sumN, ih]; omega
theorem dvd_trans_sub {p a b c : Int} (h1 : p ∣ a - b) (h2 : p ∣ b - c) : p ∣ a - c := by
  have := Int.dvd_add h1 h2
  rwa [show a - b + (b - c) = a - c by omega] at this
theorem dvd_of_sub {p a b : Int} (h1 : p ∣ a - b) (h2 : p ∣ b) : p ∣ a := by
  have := Int.dvd_add h1 h2
  rwa [show a - b + b = a by omega] at this
theorem dvd_sub_symm {p a b : Int} (h : p ∣ a - b) : p ∣ b - a := by
  have := Int.dvd_neg.2 h
  rwa [show -(a - b) = b - a by omega] at this

theorem kerR_get {p : Int} {n k t : Nat} {B : List (List Int)} {ld : Nat → Nat} (ht : t < (freeL n B ld k).length) : gR (kerR p n B ld k) t = freeV p n B ld (freeL n B ld k)[t] := by
  unfold gR kerR
  rw [List.getD_eq_getElem?_getD, List.getElem?_map, List.getElem?_eq_getElem ht]; rfl
section
variable {p : Int} {n : Nat} {B : List (List Int)} {ld : Nat → Nat} (h : Ech p n B ld)
include h
theorem Ech.at_lead (g : Nat → Int) (q : Nat) : sumN (fun j => if ld j = q then g j else 0) B.length = if isLd B.length ld q = true then g (rowOf ld q B.length) else 0 := by
  by_cases hq : isLd B.length ld q = true
  · rw [if_pos hq]
    obtain ⟨a1, a2⟩ := rowOf_spec (isLd_iff.1 hq)
    rw [sumN_one a1 (fun j hj hne => if_neg fun e => hne (h.inj hj a1 (by rw [e, a2]))), if_pos a2]
  · rw [if_neg hq, sumN_congr (g := fun _ => 0) fun j hj => if_neg fun e => hq (isLd_iff.2 ⟨j, hj, e⟩)]
    exact sumN_zero _
/-- A sum over all places: those without a lead, and the leads. -/
theorem Ech.split (g : Nat → Int) : sumN g n = sumN (fun q => if isLd B.length ld q = true then 0 else g q) n + sumN (fun j => g (ld j)) B.length := by
  have e1 : sumN (fun j => g (ld j)) B.length = sumN (fun j => sumN (fun q => if ld j = q then g q else 0) n) B.length :=
    sumN_congr fun j hj => by rw [sumN_one (h.lt j hj) (fun q _ hq => if_neg fun e => hq e.symm), if_pos rfl]
  rw [e1, sumN_comm, ← sumN_add]
  refine sumN_congr fun q hq => ?_
  have e2 : sumN (fun j => if ld j = q then g q else 0) B.length = if isLd B.length ld q = true then g q else 0 := h.at_lead (fun _ => g q) q
  rw [e2]
  split <;> omega
theorem freeF_rd {f : Nat} (hf : isLd B.length ld f = false) (hfn : f < n) (y : Nat → Int) : sumN (fun q => freeF B ld f q * y q) n = y f - sumN (fun j => gI (gR B j) f * y (ld j)) B.length := by
  rw [h.split]
  have e1 : sumN (fun q => if isLd B.length ld q = true then 0 else freeF B ld f q * y q) n = y f := by
    rw [sumN_one hfn (fun q hq hqf => by
      cases e : isLd B.length ld q with
      | true => rfl
      | false => rw [freeF_other e hqf]; simp), hf]
    unfold freeF
    simp
  have e2 : sumN (fun j => freeF B ld f (ld j) * y (ld j)) B.length = - sumN (fun j => gI (gR B j) f * y (ld j)) B.length := by
    have : sumN (fun j => freeF B ld f (ld j) * y (ld j)) B.length = sumN (fun j => -1 * (gI (gR B j) f * y (ld j))) B.length := sumN_congr fun j hj => by
      rw [freeF_lead h hf hj, Int.neg_mul]; omega
    rw [this, sumN_mulL]; omega
  rw [e1, e2]; omega
/-- What is orthogonal to all that the rows send to nothing is a sum of multiples of the rows. -/
theorem Ech.span {u : Nat → Int} (hu : ∀ y, Kr p n B y → p ∣ sumN (fun q => u q * y q) n) : ∀ q, q < n → p ∣ u q - sumN (fun j => u (ld j) * gI (gR B j) q) B.length := by
  intro q hq
  cases e : isLd B.length ld q with
  | true =>
    obtain ⟨i, hi, rfl⟩ := isLd_iff.1 e
    rw [sumN_one hi (fun j hj hne => by rw [h.col i hi j hj hne, Int.mul_zero]), h.one i hi, Int.mul_one, Int.sub_self]
    exact Int.dvd_zero p
  | false =>
    have h1 := hu _ (freeF_ker h e hq)
    have e1 : sumN (fun r => u r * freeF B ld q r) n = sumN (fun r => freeF B ld q r * u r) n := sumN_congr fun r _ => Int.mul_comm _ _
    rw [e1, freeF_rd h e hq] at h1
    have e2 : sumN (fun j => gI (gR B j) q * u (ld j)) B.length = sumN (fun j => u (ld j) * gI (gR B j) q) B.length := sumN_congr fun r _ => Int.mul_comm _ _
    rwa [e2] at h1
theorem Ech.row_lead {u : Nat → Int} {j : Nat} (hj : j < B.length) : rd n (gR B j) u = sumN (fun q => if isLd B.length ld q = true then 0 else gI (gR B j) q * u q) n + u (ld j) := by
  unfold rd
  rw [h.split]
  congr 1
  rw [sumN_one hj (fun i hi hne => by rw [h.col i hi j hj (fun e => hne e.symm), Int.zero_mul]), h.one j hj, Int.one_mul]
/-- What the rows send to nothing is told by the places without a lead. -/
theorem Ech.ker_free {u : Nat → Int} (hu : Kr p n B u) (y : Nat → Int) : p ∣ sumN (fun q => u q * y q) n - sumN (fun q => if isLd B.length ld q = true then 0 else u q * sumN (fun r => freeF B ld q r * y r) n) n := by
  have e1 := h.split fun q => u q * y q
  have e2 : sumN (fun q => if isLd B.length ld q = true then 0 else u q * sumN (fun r => freeF B ld q r * y r) n) n =
      sumN (fun q => if isLd B.length ld q = true then 0 else u q * y q) n - sumN (fun j => y (ld j) * sumN (fun q => if isLd B.length ld q = true then 0 else gI (gR B j) q * u q) n) B.length := by
    have : sumN (fun j => y (ld j) * sumN (fun q => if isLd B.length ld q = true then 0 else gI (gR B j) q * u q) n) B.length = sumN (fun q => sumN (fun j => y (ld j) * (if isLd B.length ld q = true then 0 else gI (gR B j) q * u q)) B.length) n := by
      rw [← sumN_comm]
      exact sumN_congr fun j _ => (sumN_mulL _ _ _).symm
    rw [this, ← sumN_sub]
    refine sumN_congr fun q hq => ?_
    cases e : isLd B.length ld q with
    | true =>
      simp only [if_true, Int.mul_zero]
      rw [sumN_zero]; rfl
    | false =>
      simp only [Bool.false_eq_true, if_false]
      rw [freeF_rd h e hq, Int.mul_sub, ← sumN_mulL]
      congr 1
      exact sumN_congr fun j _ => by grind
  rw [e1, e2]
  have e3 : sumN (fun q => if isLd B.length ld q = true then 0 else u q * y q) n + sumN (fun j => u (ld j) * y (ld j)) B.length - (sumN (fun q => if isLd B.length ld q = true then 0 else u q * y q) n - sumN (fun j => y (ld j) * sumN (fun q => if isLd B.length ld q = true then 0 else gI (gR B j) q * u q) n) B.length) =
      sumN (fun j => y (ld j) * rd n (gR B j) u) B.length := by
    have : sumN (fun j => y (ld j) * rd n (gR B j) u) B.length = sumN (fun j => y (ld j) * sumN (fun q => if isLd B.length ld q = true then 0 else gI (gR B j) q * u q) n + u (ld j) * y (ld j)) B.length := sumN_congr fun j hj => by
      rw [h.row_lead hj, Int.mul_add, Int.mul_comm (y (ld j)) (u (ld j))]
    rw [this, sumN_add]; omega
  rw [e3]
  exact sumN_dvd fun j hj => Int.dvd_mul_of_dvd_right (hu j hj)
theorem freeV_rd {f : Nat} (y : Nat → Int) : rd n (freeV p n B ld f) y % p = sumN (fun q => freeF B ld f q * y q) n % p := by
  unfold rd
  refine sumN_mod fun q hq => ?_
  unfold freeV
  rw [gI_vecN _ hq]
  exact mul_mod_l (emm _ _)
theorem kerR_iff (u : Nat → Int) : KerP p (kerR p n B ld n).length n (kerR p n B ld n) u ↔ ∀ f, f < n → isLd B.length ld f = false → p ∣ sumN (fun q => freeF B ld f q * u q) n := by
  have hmem : ∀ f, f ∈ freeL n B ld n ↔ f < n ∧ isLd B.length ld f = false := fun f => by
    unfold freeL
    rw [List.mem_filter, List.mem_range]
    simp
  constructor
  · intro hk f hf hfr
    obtain ⟨t, ht, e⟩ := List.getElem_of_mem ((hmem f).2 ⟨hf, hfr⟩)
    have hl : t < (kerR p n B ld n).length := by unfold kerR; rw [List.length_map]; exact ht
    have := hk t hl
    rw [kerR_get ht, e, dvd_congr (freeV_rd h u)] at this
    exact this
  · intro hk t ht
    have hl : t < (freeL n B ld n).length := by unfold kerR at ht; rwa [List.length_map] at ht
    rw [kerR_get hl, dvd_congr (freeV_rd h u)]
    obtain ⟨a, b⟩ := (hmem _).1 (List.getElem_mem hl)
    exact hk _ a b
end
/-- The reduced basis of a kernel lies in it and makes it. -/
theorem Kernel_span {p : Int} {n : Nat} {B V : List (List Int)} {ld lv : Nat → Nat} (hB : Ech p n B ld) (hV : Ech p n V lv) (hk : ∀ u, Kr p n V u ↔ KerP p (kerR p n B ld n).length n (kerR p n B ld n) u) :
    (∀ j, j < V.length → Kr p n B (gI (gR V j))) ∧ ∀ u, Kr p n B u → ∀ q, q < n → p ∣ u q - sumN (fun j => u (lv j) * gI (gR V j) q) V.length := by
  constructor
  · intro j hj i hi
    have h1 : Kr p n V (gI (gR B i)) := (hk _).2 ((kerR_iff hB _).2 fun f hf hfr => by
      have := freeF_ker hB hfr hf i hi
      unfold rd at this
      rwa [sumN_congr (g := fun q => freeF B ld f q * gI (gR B i) q) fun q _ => Int.mul_comm _ _] at this)
    have := h1 j hj
    unfold rd at this ⊢
    rwa [sumN_congr (g := fun q => gI (gR B i) q * gI (gR V j) q) fun q _ => Int.mul_comm _ _] at this
  · intro u hu
    refine hV.span fun y hy => ?_
    have h1 := (kerR_iff hB y).1 ((hk y).1 hy)
    refine dvd_of_sub (hB.ker_free hu y) (sumN_dvd fun q hq => ?_)
    cases e : isLd B.length ld q with
    | true => exact Int.dvd_zero p
    | false => exact Int.dvd_mul_of_dvd_right (h1 q hq e)
/-- Numbers that send b rows of a numbers to nothing, not all of them nothing: if b is less than a. -/
theorem more_unknowns {p : Int} {a b : Nat} (hP : isP p = true) (ha : a ≤ 1048000) (hb : b < a) (M : Nat → Nat → Int) : ∃ c : Nat → Int, (∃ i, i < a ∧ ¬ p ∣ c i) ∧ ∀ j, j < b → p ∣ sumN (fun i => c i * M i j) a := by
  have hp := isP_le hP
  have hm : Mat p b a (vecN b fun j => vecN a fun i => M i j % p) := Mat.mk' fun j _ => Vec.mk' fun i _ => mod_num (by omega)
  obtain ⟨B, _, _, hBl, ⟨ld, hB⟩, hk⟩ := i_basis_any hP (by omega) (by omega) hm
  have hf := hB.full_iff (by omega)
  by_cases hex : ∃ u : Nat → Int, (∃ k, k < a ∧ ¬ p ∣ u k) ∧ Kr p a B u
  · obtain ⟨u, hu1, hu2⟩ := hex
    refine ⟨u, hu1, fun j hj => ?_⟩
    have := (hk u).1 hu2 j hj
    rw [gR_vecN _ hj] at this
    have e : rd a (vecN a fun i => M i j % p) u % p = sumN (fun i => u i * M i j) a % p := by
      unfold rd
      refine sumN_mod fun i hi => ?_
      rw [gI_vecN _ hi, mul_mod_l (emm _ _), Int.mul_comm]
    rwa [dvd_congr e] at this
  · have := hf.2 hex
    omega
def Indep (p : Int) (n k : Nat) (X : Nat → Nat → Int) : Prop := ∀ c : Nat → Int, (∀ q, q < n → p ∣ sumN (fun i => c i * X i q) k) → ∀ i, i < k → p ∣ c i
/-- Independent vectors among the sums of multiples of b vectors are at most b. -/
theorem steinitz {p : Int} {n a b : Nat} {X Y : Nat → Nat → Int} {M : Nat → Nat → Int} (hP : isP p = true) (ha : a ≤ 1048000) (hX : Indep p n a X) (hM : ∀ i, i < a → ∀ q, q < n → p ∣ X i q - sumN (fun j => M i j * Y j q) b) : a ≤ b := by
  rcases Nat.lt_or_ge b a with hlt | hge
  · exfalso
    obtain ⟨c, ⟨i, hi, hn⟩, hc⟩ := more_unknowns hP ha hlt M
    refine hn (hX c (fun q hq => ?_) i hi)
    have e1 : p ∣ sumN (fun i => c i * X i q) a - sumN (fun i => c i * sumN (fun j => M i j * Y j q) b) a := by
      rw [← sumN_sub]
      exact sumN_dvd fun k hk => by rw [← Int.mul_sub]; exact Int.dvd_mul_of_dvd_right (hM k hk q hq)
    refine dvd_of_sub e1 ?_
    have e2 : sumN (fun i => c i * sumN (fun j => M i j * Y j q) b) a = sumN (fun j => sumN (fun i => c i * M i j) a * Y j q) b := by
      have : sumN (fun i => c i * sumN (fun j => M i j * Y j q) b) a = sumN (fun i => sumN (fun j => c i * M i j * Y j q) b) a := sumN_congr fun k _ => by
        rw [← sumN_mulL]; exact sumN_congr fun j _ => (Int.mul_assoc _ _ _).symm
      rw [this, sumN_comm]
      exact sumN_congr fun j _ => sumN_mulR _ _ _
    rw [e2]
    exact sumN_dvd fun j hj => Int.dvd_mul_of_dvd_left (hc j hj)
  · exact hge
theorem Ech.indep {p : Int} {n : Nat} {B : List (List Int)} {ld : Nat → Nat} (h : Ech p n B ld) : Indep p n B.length (fun j q => gI (gR B j) q) := by
  intro c hc i hi
  have := hc (ld i) (h.lt i hi)
  have e : sumN (fun j => c j * gI (gR B j) (ld i)) B.length = c i := by
    rw [sumN_one hi (fun j hj hne => by rw [h.col i hi j hj hne, Int.mul_zero]), h.one i hi, Int.mul_one]
  rw [← e]; exact this
/-- Sums over the places without a lead, one after the other. -/
theorem free_sum {n : Nat} {B : List (List Int)} {ld : Nat → Nat} (g : Nat → Int) : ∀ k, sumN (fun q => if isLd B.length ld q = true then 0 else g q) k = sumN (fun t => g ((freeL n B ld k).getD t 0)) (freeL n B ld k).length
  | 0 => rfl
  | k + 1 => by
    have hs : freeL n B ld (k + 1) = if isLd B.length ld k = true then freeL n B ld k else freeL n B ld k ++ [k] := by
      unfold freeL
      rw [List.range_succ, List.filter_append]
      cases e : isLd B.length ld k <;> simp [e]
    simp only [sumN]
    rw [free_sum (n := n) g k, hs]
    cases e : isLd B.length ld k with
    | true => simp only [if_true, Int.add_zero]
    | false =>
      simp only [Bool.false_eq_true, if_false, List.length_append, List.length_singleton, sumN]
      congr 1
      · exact sumN_congr fun t ht => by rw [List.getD_eq_getElem?_getD, List.getD_eq_getElem?_getD, List.getElem?_append_left ht]
      · rw [List.getD_eq_getElem?_getD, List.getElem?_append_right (Nat.le_refl _), Nat.sub_self]; rfl
theorem freeL_len {p : Int} {n : Nat} {B : List (List Int)} {ld : Nat → Nat} (h : Ech p n B ld) : (freeL n B ld n).length + B.length = n := by
  have h1 := h.split fun _ => 1
  rw [free_sum (n := n) (fun _ => 1) n, sumN_const, sumN_const, sumN_const] at h1
  omega
/-- A kernel has as many vectors as there are places without a lead. -/
theorem nullity {p : Int} {n : Nat} {B V : List (List Int)} {ld lv : Nat → Nat} (hP : isP p = true) (hn : n ≤ 1048000) (hB : Ech p n B ld) (hV : Ech p n V lv) (hk : ∀ u, Kr p n V u ↔ KerP p (kerR p n B ld n).length n (kerR p n B ld n) u) : V.length + B.length = n := by
  have hp := isP_le hP
  obtain ⟨k1, k2⟩ := Kernel_span hB hV hk
  have hlen := freeL_len hB
  have hVl := hV.le
  have hmem : ∀ t, t < (freeL n B ld n).length → (freeL n B ld n).getD t 0 < n ∧ isLd B.length ld ((freeL n B ld n).getD t 0) = false := fun t ht => by
    rw [List.getD_eq_getElem?_getD, List.getElem?_eq_getElem ht]
    have hm := List.getElem_mem ht
    have hf : ∀ f, f ∈ freeL n B ld n → f < n ∧ isLd B.length ld f = false := fun f hf => by
      unfold freeL at hf
      rw [List.mem_filter, List.mem_range] at hf
      simpa using hf
    exact hf _ hm
  have hnd : (freeL n B ld n).Nodup := List.Pairwise.filter _ List.nodup_range
  have hinj : ∀ s t, s < (freeL n B ld n).length → t < (freeL n B ld n).length → (freeL n B ld n).getD s 0 = (freeL n B ld n).getD t 0 → s = t := fun s t hs ht e => by
    rw [List.getD_eq_getElem?_getD, List.getElem?_eq_getElem hs, List.getD_eq_getElem?_getD, List.getElem?_eq_getElem ht] at e
    exact nodup_get_inj hnd hs ht (by simpa using e)
  have a1 : (freeL n B ld n).length ≤ V.length := by
    refine steinitz (p := p) (n := n) (X := fun t q => freeF B ld ((freeL n B ld n).getD t 0) q) (Y := fun j q => gI (gR V j) q) (M := fun t j => freeF B ld ((freeL n B ld n).getD t 0) (lv j)) hP (by omega) (fun c hc s hs => ?_) (fun t ht q hq => ?_)
    · obtain ⟨m1, m2⟩ := hmem s hs
      have := hc _ m1
      have e : freeF B ld ((freeL n B ld n).getD s 0) ((freeL n B ld n).getD s 0) = 1 := by unfold freeF; rw [if_pos rfl]
      have e2 : sumN (fun t => c t * freeF B ld ((freeL n B ld n).getD t 0) ((freeL n B ld n).getD s 0)) (freeL n B ld n).length = c s := by
        rw [sumN_one hs (fun t ht hne => by
          rw [freeF_other m2 (fun e => hne (hinj t s ht hs e.symm)), Int.mul_zero]), e, Int.mul_one]
      rw [← e2]; exact this
    · obtain ⟨m1, m2⟩ := hmem t ht
      exact k2 _ (freeF_ker hB m2 m1) q hq
  have a2 : V.length ≤ (freeL n B ld n).length := by
    refine steinitz (p := p) (n := n) (X := fun j q => gI (gR V j) q) (Y := fun t q => freeF B ld ((freeL n B ld n).getD t 0) q) (M := fun j t => gI (gR V j) ((freeL n B ld n).getD t 0)) hP (by omega) hV.indep (fun j hj q hq => ?_)
    have := hB.ker_free (k1 j hj) (fun r => if r = q then 1 else 0)
    have e1 : sumN (fun r => gI (gR V j) r * (if r = q then 1 else 0)) n = gI (gR V j) q := by
      rw [sumN_one hq (fun r _ hr => by rw [if_neg hr, Int.mul_zero]), if_pos rfl, Int.mul_one]
    have e2 : ∀ f, sumN (fun r => freeF B ld f r * (if r = q then 1 else 0)) n = freeF B ld f q := fun f => by
      rw [sumN_one hq (fun r _ hr => by rw [if_neg hr, Int.mul_zero]), if_pos rfl, Int.mul_one]
    rw [e1, sumN_congr (g := fun f => if isLd B.length ld f = true then 0 else gI (gR V j) f * freeF B ld f q) (fun f _ => by rw [e2]), free_sum (n := n)] at this
    exact this
  omega
theorem turn_turn {p : Int} {r c : Nat} {m : List (List Int)} (hm : Mat p r c m) : turnm c r (turnm r c m) = m := by
  refine (extR (f := gR m) (by unfold turnm; rw [vecN_len]) fun i hi => ?_).trans (extR (f := gR m) hm.1 fun i _ => rfl).symm
  have hv := (hm.row hi).1
  rw [extI hv (f := gI (gR m i)) fun k _ => rfl]
  refine extI (by unfold turnm; rw [gR_vecN _ hi, vecN_len]) fun k hk => ?_
  rw [turnm_at hk hi, turnm_at hi hk]
/-- The reduced basis of a table that is turned has not more rows. -/
theorem rank_turn_le {p : Int} {r c : Nat} {m D D' : List (List Int)} {ld ld' : Nat → Nat} (hP : isP p = true) (hr : r ≤ 1048000) (hc : c ≤ 1048000) (hm : Mat p r c m) (hD : Ech p c D ld) (hDk : ∀ u, Kr p c D u ↔ KerP p r c m u) (hD' : Ech p r D' ld') (hDk' : ∀ u, Kr p r D' u ↔ KerP p c r (turnm r c m) u) : D'.length ≤ D.length := by
  have hp := isP_le hP
  have hT := turnm_mat hm
  have hle := hD.le
  have hR : Mat p D.length r (vecN D.length fun l => gR (turnm r c m) (ld l)) := Mat.mk' fun l hl => hT.row (hD.lt l hl)
  obtain ⟨b, _, _, hbl, ⟨lb, hb⟩, hbk⟩ := i_basis_any hP (by omega) (by omega) hR
  have hspan : ∀ i, i < r → ∀ q, q < c → p ∣ gI (gR m i) q - sumN (fun l => gI (gR m i) (ld l) * gI (gR D l) q) D.length := fun i hi => hD.span fun y hy => (hDk y).1 hy i hi
  have : b = D' := hb.unique (by omega) hD' fun u => by
    rw [hbk, hDk']
    constructor
    · intro h q hq
      have e1 : p ∣ rd r (gR (turnm r c m) q) u - sumN (fun i => sumN (fun l => gI (gR m i) (ld l) * gI (gR D l) q) D.length * u i) r := by
        unfold rd
        rw [← sumN_sub]
        exact sumN_dvd fun i hi => by
          rw [turnm_at hi hq, ← Int.sub_mul]
          exact Int.dvd_mul_of_dvd_left (hspan i hi q hq)
      refine dvd_of_sub e1 ?_
      have e2 : sumN (fun i => sumN (fun l => gI (gR m i) (ld l) * gI (gR D l) q) D.length * u i) r = sumN (fun l => gI (gR D l) q * rd r (gR (turnm r c m) (ld l)) u) D.length := by
        have : sumN (fun i => sumN (fun l => gI (gR m i) (ld l) * gI (gR D l) q) D.length * u i) r = sumN (fun i => sumN (fun l => gI (gR m i) (ld l) * gI (gR D l) q * u i) D.length) r := sumN_congr fun i _ => (sumN_mulR _ _ _).symm
        rw [this, sumN_comm]
        refine sumN_congr fun l hl => ?_
        unfold rd
        rw [← sumN_mulL]
        exact sumN_congr fun i hi => by rw [turnm_at hi (hD.lt l hl)]; rw [Int.mul_comm (gI (gR m i) (ld l)), Int.mul_assoc]
      rw [e2]
      exact sumN_dvd fun l hl => Int.dvd_mul_of_dvd_right (by have := h l hl; rwa [gR_vecN _ hl] at this)
    · intro h l hl
      rw [gR_vecN _ hl]
      exact h (ld l) (hD.lt l hl)
  rw [← this]; exact hbl
theorem rank_turn {p : Int} {r c : Nat} {m D D' : List (List Int)} {ld ld' : Nat → Nat} (hP : isP p = true) (hr : r ≤ 1048000) (hc : c ≤ 1048000) (hm : Mat p r c m) (hD : Ech p c D ld) (hDk : ∀ u, Kr p c D u ↔ KerP p r c m u) (hD' : Ech p r D' ld') (hDk' : ∀ u, Kr p r D' u ↔ KerP p c r (turnm r c m) u) : D'.length = D.length := by
  have h1 := rank_turn_le hP hr hc hm hD hDk hD' hDk'
  have h2 := rank_turn_le hP hc hr (turnm_mat hm) hD' hDk' hD (fun u => by rw [turn_turn hm]; exact hDk u)
  omega
end Go.Vam

/- Plain laws: FixingDimension. -/
namespace Go.Vam
open Go Go.RowKit
set_option linter.unusedSimpArgs false
set_option linter.unusedVariables false
set_option linter.unusedSectionVars false

theorem rd_comb {n k : Nat} (a : List Int) (c : Nat → Int) (X : Nat → Nat → Int) : rd n a (fun q => sumN (fun j => c j * X j q) k) = sumN (fun j => c j * rd n a (X j)) k := by
  unfold rd
  have e1 : sumN (fun q => gI a q * sumN (fun j => c j * X j q) k) n = sumN (fun q => sumN (fun j => c j * (gI a q * X j q)) k) n := sumN_congr fun q _ => by
    rw [← sumN_mulL]
    exact sumN_congr fun j _ => by rw [← Int.mul_assoc, ← Int.mul_assoc, Int.mul_comm (gI a q)]
  rw [e1, sumN_comm]
  exact sumN_congr fun j _ => sumN_mulL _ _ _
theorem rd_congr {p : Int} {n : Nat} {a : List Int} {u v : Nat → Int} (h : ∀ q, q < n → p ∣ u q - v q) : p ∣ rd n a u - rd n a v := by
  unfold rd
  rw [← sumN_sub]
  exact sumN_dvd fun q hq => by rw [← Int.mul_sub]; exact Int.dvd_mul_of_dvd_right (h q hq)
/-- What more equations leave: as many fewer as the rank of what they make of the basis. -/
theorem fix_dim {p : Int} {N n : Nat} {B V B' V' W im : List (List Int)} {ld lv ld' lv' lw : Nat → Nat} {xr : Nat → List Int} (hP : isP p = true) (hN : N ≤ 1048000) (hn : n ≤ 1048000)
    (hB : Ech p N B ld) (hV : Ech p N V lv) (hVk : ∀ u, Kr p N V u ↔ KerP p (kerR p N B ld N).length N (kerR p N B ld N) u)
    (hB' : Ech p N B' ld') (hV' : Ech p N V' lv') (hVk' : ∀ u, Kr p N V' u ↔ KerP p (kerR p N B' ld' N).length N (kerR p N B' ld' N) u)
    (hBB : ∀ u, Kr p N B' u ↔ Kr p N B u ∧ ∀ a, a < n → p ∣ rd N (xr a) u)
    (hM : Mat p V.length n im) (him : ∀ j, j < V.length → ∀ a, a < n → p ∣ gI (gR im j) a - rd N (xr a) (gI (gR V j)))
    (hW : Ech p n W lw) (hWk : ∀ y, Kr p n W y ↔ KerP p V.length n im y) : V'.length + W.length = V.length := by
  have hp := isP_le hP
  have hVl := hV.le
  have hVl' := hV'.le
  obtain ⟨s1, s2⟩ := Kernel_span hB hV hVk
  obtain ⟨t1, t2⟩ := Kernel_span hB' hV' hVk'
  obtain ⟨D, _, _, _, ⟨lD, hD⟩, hDk⟩ := i_basis_any hP (show n ≤ 1048576 by omega) (show V.length ≤ 1048576 by omega) (turnm_mat hM)
  have hrank := rank_turn hP (by omega) hn hM hW hWk hD hDk
  have hkm := kerR_mat (p := p) (by omega) V.length D lD V.length
  have hkl := kerR_len p V.length D lD V.length
  obtain ⟨C, _, _, _, ⟨lc, hC⟩, hCk⟩ := i_basis_any hP (by omega) (by omega) hkm
  have hnul := nullity hP (by omega) hD hC hCk
  obtain ⟨c1, c2⟩ := Kernel_span hD hC hCk
  have hCl := hC.le
  -- what D says
  have hDsay : ∀ c : Nat → Int, Kr p V.length D c ↔ ∀ a, a < n → p ∣ sumN (fun j => gI (gR im j) a * c j) V.length := fun c => by
    rw [hDk]
    unfold KerP rd
    constructor
    · intro h a ha
      have := h a ha
      rwa [sumN_congr (g := fun j => gI (gR im j) a * c j) fun j hj => by rw [turnm_at hj ha]] at this
    · intro h a ha
      rw [sumN_congr (g := fun j => gI (gR im j) a * c j) fun j hj => by rw [turnm_at hj ha]]
      exact h a ha
  -- what the images are of sums
  have hLin : ∀ (c : Nat → Int) a, a < n → p ∣ sumN (fun j => gI (gR im j) a * c j) V.length - rd N (xr a) (fun q => sumN (fun j => c j * gI (gR V j) q) V.length) := fun c a ha => by
    rw [rd_comb (X := fun j => gI (gR V j)), ← sumN_sub]
    refine sumN_dvd fun j hj => ?_
    rw [Int.mul_comm (gI (gR im j) a), ← Int.mul_sub]
    exact Int.dvd_mul_of_dvd_right (him j hj a ha)
  have a1 : V'.length ≤ C.length := by
    refine steinitz (p := p) (n := N) (X := fun i q => gI (gR V' i) q) (Y := fun t q => sumN (fun j => gI (gR C t) j * gI (gR V j) q) V.length) (M := fun i t => gI (gR V' i) (lv (lc t))) hP (by omega) hV'.indep (fun i hi q hq => ?_)
    obtain ⟨u1, u2⟩ := (hBB _).1 (t1 i hi)
    have e1 := s2 _ u1
    have hcD : Kr p V.length D (fun j => gI (gR V' i) (lv j)) := (hDsay _).2 fun a ha => by
      refine dvd_of_sub (hLin _ a ha) (dvd_of_sub ?_ (u2 a ha))
      exact dvd_sub_symm (rd_congr fun q hq => e1 q hq)
    have e2 := c2 _ hcD
    refine dvd_trans_sub (e1 q hq) ?_
    have e3 : sumN (fun t => gI (gR V' i) (lv (lc t)) * sumN (fun j => gI (gR C t) j * gI (gR V j) q) V.length) C.length = sumN (fun j => sumN (fun t => gI (gR V' i) (lv (lc t)) * gI (gR C t) j) C.length * gI (gR V j) q) V.length := by
      have : sumN (fun t => gI (gR V' i) (lv (lc t)) * sumN (fun j => gI (gR C t) j * gI (gR V j) q) V.length) C.length = sumN (fun t => sumN (fun j => gI (gR V' i) (lv (lc t)) * gI (gR C t) j * gI (gR V j) q) V.length) C.length := sumN_congr fun t _ => by
        rw [← sumN_mulL]; exact sumN_congr fun j _ => (Int.mul_assoc _ _ _).symm
      rw [this, sumN_comm]
      exact sumN_congr fun j _ => sumN_mulR _ _ _
    rw [e3, ← sumN_sub]
    refine sumN_dvd fun j hj => ?_
    rw [← Int.sub_mul]
    exact Int.dvd_mul_of_dvd_left (e2 j hj)
  have a2 : C.length ≤ V'.length := by
    refine steinitz (p := p) (n := N) (X := fun t q => sumN (fun j => gI (gR C t) j * gI (gR V j) q) V.length) (Y := fun i q => gI (gR V' i) q) (M := fun t i => sumN (fun j => gI (gR C t) j * gI (gR V j) (lv' i)) V.length) hP (by omega) (fun d hd t ht => ?_) (fun t ht q hq => ?_)
    · refine hC.indep d (fun j hj => ?_) t ht
      refine hV.indep (fun j => sumN (fun t => d t * gI (gR C t) j) C.length) (fun q hq => ?_) j hj
      have := hd q hq
      have e : sumN (fun t => d t * sumN (fun j => gI (gR C t) j * gI (gR V j) q) V.length) C.length = sumN (fun j => sumN (fun t => d t * gI (gR C t) j) C.length * gI (gR V j) q) V.length := by
        have : sumN (fun t => d t * sumN (fun j => gI (gR C t) j * gI (gR V j) q) V.length) C.length = sumN (fun t => sumN (fun j => d t * gI (gR C t) j * gI (gR V j) q) V.length) C.length := sumN_congr fun t _ => by
          rw [← sumN_mulL]; exact sumN_congr fun j _ => (Int.mul_assoc _ _ _).symm
        rw [this, sumN_comm]
        exact sumN_congr fun j _ => sumN_mulR _ _ _
      rwa [e] at this
    · refine t2 (fun q => sumN (fun j => gI (gR C t) j * gI (gR V j) q) V.length) ((hBB _).2 ⟨fun i hi => ?_, fun a ha => ?_⟩) q hq
      · rw [rd_comb (X := fun j => gI (gR V j))]
        exact sumN_dvd fun j hj => Int.dvd_mul_of_dvd_right (s1 j hj i hi)
      · have h1 := (hDsay _).1 (c1 t ht) a ha
        exact dvd_of_sub (dvd_sub_symm (hLin _ a ha)) h1
  omega
/-- A window of a sum. -/
theorem win_sum (g : Nat → Int) (a n : Nat) : ∀ M, sumN (fun q => if a ≤ q ∧ q < a + n then g (q - a) else 0) M = sumN g (min n (M - a))
  | 0 => by simp [sumN]
  | M + 1 => by
    simp only [sumN]
    rw [win_sum g a n M]
    by_cases h1 : a ≤ M
    · by_cases h2 : M < a + n
      · rw [if_pos ⟨h1, h2⟩, show min n (M - a) = M - a by omega, show min n (M + 1 - a) = (M - a) + 1 by omega]; rfl
      · rw [if_neg (by omega), show min n (M - a) = n by omega, show min n (M + 1 - a) = n by omega]; omega
    · rw [if_neg (by omega), show min n (M - a) = 0 by omega, show min n (M + 1 - a) = 0 by omega]; rfl
def fxR (n : Nat) (x : List Int) (i : Nat) : List Int := vecN (n * n) fun q => if i * n ≤ q ∧ q < i * n + n then gI x (q - i * n) else 0
theorem fxR_vec {p : Int} {n : Nat} {x : List Int} (hp : 0 < p) (hx : Vec p n x) (i : Nat) : Vec p (n * n) (fxR n x i) := Vec.mk' fun q hq => by
  split
  · exact hx.get (by omega)
  · omega
theorem fxR_rd {n : Nat} {x : List Int} {i : Nat} (hi : i < n) (u : Nat → Int) : rd (n * n) (fxR n x i) u = sumN (fun b => gI x b * u (i * n + b)) n := by
  have h1 := place_lt hi hi
  have h2 := Nat.mul_le_mul_right n (show i + 1 ≤ n by omega)
  rw [Nat.add_mul] at h2
  unfold rd fxR
  rw [sumN_congr (g := fun q => if i * n ≤ q ∧ q < i * n + n then gI x (q - i * n) * u (i * n + (q - i * n)) else 0) fun q hq => by
    rw [gI_vecN _ hq]
    split
    · rename_i h; rw [show i * n + (q - i * n) = q by omega]
    · rw [Int.zero_mul], win_sum (fun b => gI x b * u (i * n + b)), show min n (n * n - i * n) = n by omega]
section
variable {p : Int} {n : Nat} {x : List Int} (hp : 3 ≤ p) (hp2 : p ≤ 13) (hn0 : 0 < n) (hn : n ≤ 16) (hx : Vec p n x)
include hp hp2 hn0 hn hx
theorem s_fix_row {i : Nat} (hi : i < n) (a : List (List Int)) : loop (s_FixingDimension_L1 x (n : Int) (a, (i : Int))) BIG (List.replicate (n * n) 0, 0) = some (fxR n x i) := by
  have hNN : n * n ≤ 16 * 16 := Nat.mul_le_mul hn hn
  have hxl := hx.1
  have h2 := Nat.mul_le_mul_right n (show i + 1 ≤ n by omega)
  rw [Nat.add_mul] at h2
  obtain ⟨b, h1, h3⟩ := loop_inv (step := s_FixingDimension_L1 x (n : Int) (a, (i : Int))) (fun s => ∃ k : Nat, s.2 = (k : Int) ∧ k ≤ n ∧ s.1.length = n * n ∧ ∀ q, q < n * n → gI s.1 q = if i * n ≤ q ∧ q < i * n + k then gI x (q - i * n) else 0) (fun s => n - s.2.toNat) (fun b => b = fxR n x i) (s := (List.replicate (n * n) 0, 0))
    ⟨0, rfl, by omega, by simp, fun q hq => by
      rw [if_neg (by omega)]
      unfold gI
      rw [List.getD_eq_getElem?_getD, List.getElem?_replicate]; simp [hq]⟩ (by rw [BIG_val]; simp only []; omega) (by
      rintro ⟨v, t⟩ ⟨k, rfl, hk, hl, hg⟩
      try simp only [] at hl hg
      unfold s_FixingDimension_L1
      by_cases hkn : k < n
      · refine .inl ?_
        have w1 : w64 (w64 ((i : Int) * (n : Int)) + (k : Int)) = ((i * n + k : Nat) : Int) := by
          have : (i : Int) * (n : Int) = ((i * n : Nat) : Int) := (Int.natCast_mul ..).symm
          have w0 : w64 ((i * n : Nat) : Int) = ((i * n : Nat) : Int) := w_in (by omega) (by omega)
          rw [this, w0, w_in (by omega) (by omega)]; omega
        simp only [lt_cast hkn, if_true, w1, Int.toNat_natCast]
        rw [idxI (by omega), some_bind, idxI (by omega), some_bind, w_in (by omega) (by omega)]
        refine ⟨_, rfl, ⟨k + 1, rfl, by omega, by simp [hl], fun q hq => ?_⟩, by simp only []; omega⟩
        try simp only []
        rw [gI_set (by omega)]
        by_cases hq1 : i * n + k = q
        · rw [if_pos hq1, if_pos (by omega), show q - i * n = k by omega]
        · rw [if_neg hq1, hg q hq]
          by_cases h : i * n ≤ q ∧ q < i * n + k
          · rw [if_pos h, if_pos (by omega)]
          · rw [if_neg h, if_neg (by omega)]
      · have hkk : k = n := by omega
        subst hkk
        refine .inr ⟨v, ?_, extI hl hg⟩
        simp only [lt_cast_self, if_false])
  rw [h1, h3]
theorem s_fix_loop {E : List (List Int)} (hE : E.length ≤ 10000) : loop (s_FixingDimension_L0 x (n : Int)) BIG (E, 0) = some (E ++ vecN n (fxR n x)) := by
  have hNN : n * n ≤ 16 * 16 := Nat.mul_le_mul hn hn
  have hN : w64 ((n : Int) * (n : Int)) = ((n * n : Nat) : Int) := by
    rw [← Int.natCast_mul, w_in (by omega) (by omega)]
  refine app_loop _ n (fxR n x) E (by rw [BIG_val]; omega) (fun k hk o ho => ?_) (fun o ho => ?_)
  · unfold s_FixingDimension_L0
    simp only [lt_cast hk, if_true, hN, Int.toNat_natCast]
    rw [chk_bind (by omega), s_fix_row hp hp2 hn0 hn hx hk, some_bind, chk_bind (by simp only [List.length_cons, List.length_nil]; omega), w_in (by omega) (by omega)]; rfl
  · unfold s_FixingDimension_L0
    simp only [lt_cast_self, if_false]
end
theorem FixingDimension_eq {p : Int} {w x : List Int} (hw : w.length ≤ 1048576) (hxl : x.length ≤ 1048576) : ∃ V C, s_FixingDimension p w x = some (V, C) ∧ i_FixingDimension p w x = some (V, C) := by
  have hsz : szM [x] := ⟨by simp, fun r hr => by simp only [List.mem_singleton] at hr; exact hr ▸ hxl⟩
  unfold s_FixingDimension i_FixingDimension
  rw [s_l14Elements_eq hw hsz, i_checkThree_eq hw hsz (by simp) (fun m hm => by simp at hm), some_bind, some_bind]
  by_cases h0 : thC p w [x] [] = 0
  · obtain ⟨a1, a2, a3, _⟩ := thC_zero h0
    obtain ⟨hP, hl, hv, _⟩ := isDb_iff a1
    have hp := isP_le hP
    have hx := a3 x (by simp)
    have h8 : 2 ^ w.length ≤ 8 := Nat.pow_le_pow_right (by omega) a2
    have hn0 := two_pos w.length
    have hNN : 2 ^ w.length * 2 ^ w.length ≤ 8 * 8 := Nat.mul_le_mul h8 h8
    have hNNN : 2 ^ w.length * (2 ^ w.length * 2 ^ w.length) ≤ 8 * (8 * 8) := Nat.mul_le_mul h8 hNN
    have hN : w64 (((2 ^ w.length : Nat) : Int) * ((2 ^ w.length : Nat) : Int)) = ((2 ^ w.length * 2 ^ w.length : Nat) : Int) := by
      rw [← Int.natCast_mul, w_in (by omega) (by omega)]
    obtain ⟨V, B, ld, lv, e1, e2, hV, hB, hBk, hVk⟩ := Derivations_two hP hl hv
    have hVl := hV.le
    have hA := drvA_mat hP hl hv (2 ^ w.length) (Nat.le_refl _)
    have hAl := hA.1
    have hE : Mat p (2 ^ w.length * (2 ^ w.length * 2 ^ w.length) + 2 ^ w.length) (2 ^ w.length * 2 ^ w.length) (drvA p w (2 ^ w.length) ++ vecN (2 ^ w.length) (fxR (2 ^ w.length) x)) := hA.append (Mat.mk' fun i _ => fxR_vec (by omega) hx i)
    obtain ⟨V', B', ld', f1, f2, ⟨lv', hV'⟩, hB', hBk', hVk'⟩ := Kernel_two (n := 2 ^ w.length * 2 ^ w.length) hP (by omega) (by omega) (by omega) hE hE fun u => Iff.rfl
    have hVl' := hV'.le
    -- the images
    have hcut : ∀ k, k < V.length → i_rowsIn (gR V k) ((2 ^ w.length : Nat) : Int) = some (cutv (2 ^ w.length) (gR V k)) ∧ Mat p (2 ^ w.length) (2 ^ w.length) (cutv (2 ^ w.length) (gR V k)) := fun k hk => ⟨(cut_two hn0 (by omega) (hV.mat.row hk)).2, cut_mat hn0 (by omega) (hV.mat.row hk)⟩
    have hM : Mat p V.length (2 ^ w.length) (vecN V.length fun k => applyv p (2 ^ w.length) (2 ^ w.length) (cutv (2 ^ w.length) (gR V k)) x) := Mat.mk' fun k _ => applyv_vec (by omega) ..
    have g1 : loop (i_FixingDimension_L0 p w x V) BIG ([], 0) = some (vecN V.length fun k => applyv p (2 ^ w.length) (2 ^ w.length) (cutv (2 ^ w.length) (gR V k)) x) := by
      refine map_loop _ V.length _ (by rw [BIG_val]; omega) (fun k hk out ho => ?_) (fun out ho => ?_)
      · obtain ⟨q1, q2⟩ := hcut k hk
        have ap := i_field_apply_eq (show 0 < p by omega) (show p ≤ 13 by omega) (show 2 ^ w.length ≤ 1048576 by omega) (show 2 ^ w.length ≤ 1048576 by omega) q2 hx
        unfold i_FixingDimension_L0 i_Doubling_field
        simp only [lt_cast hk, if_true]
        rw [idxR hk, some_bind, some_bind, i_Doubling_size_eq hl, some_bind, q1, some_bind, ap, some_bind, chk_bind (by simp only [List.length_cons, List.length_nil]; omega), w_in (by omega) (by omega)]; rfl
      · unfold i_FixingDimension_L0
        simp only [lt_cast_self, if_false]
    obtain ⟨W, _, w1, w2, ⟨lw, hW⟩, hWk⟩ := i_basis_any hP (by omega) (by omega) hM
    have hdim : V'.length + W.length = V.length := by
      refine fix_dim (n := 2 ^ w.length) (xr := fxR (2 ^ w.length) x) hP (by omega) (by omega) hB hV hVk hB' hV' hVk' (fun u => ?_) hM (fun j hj a ha => ?_) hW hWk
      · rw [hBk' u, hBk u, KerP_append hAl]
        refine and_congr_right fun _ => ?_
        unfold KerP
        constructor
        · intro h a ha
          have := h a ha
          rwa [gR_vecN _ ha] at this
        · intro h a ha
          rw [gR_vecN _ ha]
          exact h a ha
      · rw [gR_vecN _ hj, fxR_rd ha]
        unfold applyv
        rw [gI_vecN _ ha]
        have h2 := Nat.mul_le_mul_right (2 ^ w.length) (show a + 1 ≤ 2 ^ w.length by omega)
        rw [Nat.add_mul] at h2
        have : dotp p (2 ^ w.length) (gR (cutv (2 ^ w.length) (gR V j)) a) x = sumN (fun b => gI x b * gI (gR V j) (a * 2 ^ w.length + b)) (2 ^ w.length) % p := by
          unfold dotp
          congr 1
          refine sumN_congr fun b hb => ?_
          unfold cutv
          rw [gR_vecN _ ha, gI_drop, gI_take (by omega), Int.mul_comm]
        rw [this, ← mod_dvd, emm]
    have c1 : s_l14Equations p w = some (drvA p w (2 ^ w.length)) := s_l14Equations_eq hP hl hv
    have c2 := s_fix_loop hp.1 hp.2 hn0 (by omega) hx (E := drvA p w (2 ^ w.length)) (by omega)
    have w3 : w64 ((V.length : Int) - (W.length : Int)) = (V'.length : Int) := by rw [w_in (by omega) (by omega)]; omega
    simp only [h0, not_true_eq_false, if_false, s_l11Size_eq hl, some_bind, c1, c2, hN, f2, e2, g1, i_Doubling_field, w1, w3]
    exact ⟨_, _, rfl, rfl⟩
  · simp only [h0, not_false_eq_true, if_true]
    exact ⟨_, _, rfl, rfl⟩
theorem LawFixingDimension {p : Int} {w x : List Int} (hw : lenI w) (hx : lenI x) : l_FnExactFixingDimension p w x = some true := by
  unfold l_FnExactFixingDimension
  by_cases h0 : 1048576 < (x.length : Int)
  · rw [if_pos h0]
  rw [if_neg h0, szDb_eq hw (by omega) (by omega), some_bind]
  by_cases h1 : ((w.length : Nat) : Int) ≤ 1048576
  · have hs : szv w.length 1048576 = 1048576 - ((w.length : Nat) : Int) := by unfold szv; rw [if_pos h1]
    rw [hs, if_neg (by omega)]
    have hw' : w.length ≤ 1048576 := by omega
    have hx' : x.length ≤ 1048576 := by omega
    obtain ⟨V, C, e3, e4⟩ := FixingDimension_eq (p := p) hw' hx'
    have e1 := toI_eq hx'
    have e2 := toDb_eq (p := p) hw'
    have e5 := eqDb_self (p := p) hw'
    have e6 := eqI_self hx'
    simp only [e1, e2, e3, e4, e5, e6, some_bind, Bool.true_eq_false, Bool.false_eq_true, if_false, if_true, ieq_self, Bool.not_true, natneg, not_true_eq_false]
  · have hs : szv w.length 1048576 = -1 := by unfold szv; rw [if_neg h1]
    rw [hs, if_pos (by omega)]
end Go.Vam
