/- Plain laws: arithmetic of rows and tables: products, sums, multiples. -/
import Derived.Test.YtdoimfkonaeceaaPlM
namespace Go.Vam
open Go Go.RowKit
set_option linter.unusedSimpArgs false
set_option linter.unusedVariables false

theorem mul_abs {a b : Int} {A B : Nat} (ha : a.natAbs ≤ A) (hb : b.natAbs ≤ B) : (a * b).natAbs ≤ A * B := by
  rw [Int.natAbs_mul]; exact Nat.mul_le_mul ha hb
theorem tmod_nn {a b : Int} (h : 0 ≤ a) : a.tmod b = a % b := Int.tmod_eq_emod_of_nonneg h
theorem mod_num {a p : Int} (h : 0 < p) : 0 ≤ a % p ∧ a % p < p := ⟨Int.emod_nonneg _ (by omega), Int.emod_lt_of_pos _ h⟩
theorem tmod_bounds (n : Int) {p : Int} (h : 0 < p) : -p < n.tmod p ∧ n.tmod p < p := by
  by_cases hn : 0 ≤ n
  · rw [tmod_nn hn]; have := mod_num (a := n) h; omega
  · have e : n.tmod p = -((-n).tmod p) := by rw [Int.neg_tmod, Int.neg_neg]
    rw [e, tmod_nn (by omega)]
    have := mod_num (a := -n) h; omega
/-- Go's way to a remainder that is not negative. -/
theorem num_mod (n : Int) {p : Int} (h : 0 < p) : (n.tmod p + p).tmod p = n % p := by
  have hb := tmod_bounds n h
  rw [tmod_nn (by omega), Int.add_emod_right]
  by_cases hn : 0 ≤ n
  · rw [tmod_nn hn, Int.emod_emod_of_dvd _ (Int.dvd_refl p)]
  · have e : n.tmod p = n - p * (n.tdiv p) := by have := Int.mul_tdiv_add_tmod n p; omega
    rw [e, Int.sub_mul_emod_self_left]
theorem mod_small {a p : Int} (h0 : 0 ≤ a) (h1 : a < p) : a % p = a := Int.emod_eq_of_lt h0 h1

theorem i_field_num_eq {p n : Int} (hp : 0 < p) (hp2 : p ≤ 1048576) (h1 : -9223372036854775808 ≤ n) (h2 : n ≤ 9223372036854775807) : i_field_num p n = some (n % p) := by
  unfold i_field_num
  have hb := tmod_bounds n hp
  rw [chk_bind (by omega), chk_bind (by omega), w_in (by omega) (by omega), num_mod n hp]

/-! ### Rows -/
/-- The product of rows of n numbers. -/
def dotp (p : Int) (n : Nat) (a b : List Int) : Int := sumN (fun k => gI a k * gI b k) n % p
/-- A row and a multiple of another one. -/
def plusv (p : Int) (n : Nat) (a b : List Int) (k : Int) : List Int := vecN n fun i => (gI a i + k * gI b i) % p
def scalev (p : Int) (n : Nat) (a : List Int) (k : Int) : List Int := vecN n fun i => (gI a i * k) % p

theorem Vec.get {p : Int} {n : Nat} {v : List Int} (h : Vec p n v) {k : Nat} (hk : k < n) : 0 ≤ gI v k ∧ gI v k < p := h.2 k hk
theorem Vec.mk' {p : Int} {n : Nat} {f : Nat → Int} (h : ∀ k, k < n → 0 ≤ f k ∧ f k < p) : Vec p n (vecN n f) := ⟨vecN_len n f, fun k hk => by rw [gI_vecN f hk]; exact h k hk⟩
theorem Mat.row {p : Int} {r c : Nat} {m : List (List Int)} (h : Mat p r c m) {i : Nat} (hi : i < r) : Vec p c (gR m i) := h.2 i hi
theorem Mat.mk' {p : Int} {r c : Nat} {f : Nat → List Int} (h : ∀ i, i < r → Vec p c (f i)) : Mat p r c (vecN r f) := ⟨vecN_len r f, fun i hi => by rw [gR_vecN f hi]; exact h i hi⟩
theorem plusv_vec {p : Int} (hp : 0 < p) (n : Nat) (a b : List Int) (k : Int) : Vec p n (plusv p n a b k) := Vec.mk' fun i _ => mod_num hp
theorem scalev_vec {p : Int} (hp : 0 < p) (n : Nat) (a : List Int) (k : Int) : Vec p n (scalev p n a k) := Vec.mk' fun i _ => mod_num hp
theorem dotp_num {p : Int} (hp : 0 < p) (n : Nat) (a b : List Int) : 0 ≤ dotp p n a b ∧ dotp p n a b < p := mod_num hp

section
variable {p : Int} {n : Nat} {a b : List Int} (hp : 0 < p) (hp2 : p ≤ 13) (hn : n ≤ 1048576)

theorem sum_bound (ha : Vec p n a) (hb : Vec p n b) (hp2 : p ≤ 13) (k : Nat) (hk : k ≤ n) : 0 ≤ sumN (fun k => gI a k * gI b k) k ∧ sumN (fun k => gI a k * gI b k) k ≤ 144 * k :=
  sumN_bound fun j hj => by
    have h1 := ha.get (k := j) (by omega)
    have h2 := hb.get (k := j) (by omega)
    have h3 := mul_abs (a := gI a j) (b := gI b j) (A := 12) (B := 12) (by omega) (by omega)
    have h4 := Int.mul_nonneg h1.1 h2.1
    omega

include hp hp2 hn
theorem s_l01Dot_eq (ha : Vec p n a) (hb : Vec p n b) : s_l01Dot p a b = some (dotp p n a b) := by
  unfold s_l01Dot
  obtain ⟨h1, h2⟩ := fold_loop (s_l01Dot_L0 p a b) n (fun k s => (s + gI a k * gI b k) % p) 0 (fun _ s => 0 ≤ s ∧ s < p) id (by rw [BIG_val]; omega) (by omega) (fun k s hk _ => mod_num hp)
    (fun k s hk hs => by
      unfold s_l01Dot_L0
      have e1 := ha.1; have e2 := hb.1
      have h1 := ha.get hk; have h2 := hb.get hk
      have h3 := mul_abs (a := gI a k) (b := gI b k) (A := 12) (B := 12) (by omega) (by omega)
      have h4 := Int.mul_nonneg h1.1 h2.1
      simp only [show (k : Int) < a.length by omega, if_true, idxI (show k < a.length by omega), idxI (show k < b.length by omega), some_bind]
      rw [chk_bind (by omega), w_in (x := gI a k * gI b k) (by omega) (by omega), w_in (by omega) (by omega), w_in (by omega) (by omega), tmod_nn (by omega)]
      rfl) (fun s hs => by
      unfold s_l01Dot_L0
      have e1 := ha.1
      simp [e1])
  rw [h1, some_bind]
  have key : ∀ k, foldN (fun k s => (s + gI a k * gI b k) % p) 0 k = sumN (fun k => gI a k * gI b k) k % p := by
    intro k
    induction k with
    | zero => simp [foldN, sumN]
    | succ k ih => simp only [foldN, sumN, ih, Int.emod_add_emod]
  simp only [id, key]; rfl
theorem i_field_dot_eq (ha : Vec p n a) (hb : Vec p n b) : i_field_dot p a b = some (dotp p n a b) := by
  unfold i_field_dot
  rw [loop_for (b := sumN (fun k => gI a k * gI b k) n) (fun k => (sumN (fun k => gI a k * gI b k) k, (k : Int))) n (by rw [BIG_val]; omega) (by simp [sumN])]
  · have := sum_bound ha hb hp2 n (Nat.le_refl _)
    rw [some_bind, i_field_num_eq hp (by omega) (by omega) (by omega)]; rfl
  · intro k hk
    unfold i_field_dot_L0
    have e1 := ha.1; have e2 := hb.1
    have h1 := ha.get hk; have h2 := hb.get hk
    have h3 := mul_abs (a := gI a k) (b := gI b k) (A := 12) (B := 12) (by omega) (by omega)
    have h4 := sum_bound ha hb hp2 k (by omega)
    simp only [show (k : Int) < a.length by omega, if_true, idxI (show k < a.length by omega), idxI (show k < b.length by omega), some_bind]
    rw [w_in (x := gI a k * gI b k) (by omega) (by omega), w_in (by omega) (by omega), w_in (by omega) (by omega)]
    rfl
  · unfold i_field_dot_L0
    have e1 := ha.1
    simp [e1]

theorem i_field_plus_eq {k : Int} (hk : k.natAbs ≤ 1000) (ha : Vec p n a) (hb : Vec p n b) : i_field_plus p a b k = some (plusv p n a b k) := by
  unfold i_field_plus
  rw [map_loop _ n (fun i => (gI a i + k * gI b i) % p) (by rw [BIG_val]; omega)]
  · rfl
  · intro i hi out ho
    unfold i_field_plus_L0
    have e1 := ha.1; have e2 := hb.1
    have h1 := ha.get hi; have h2 := hb.get hi
    have h3 := mul_abs (a := k) (b := gI b i) (A := 1000) (B := 12) hk (by omega)
    simp only [show (i : Int) < a.length by omega, if_true, idxI (show i < a.length by omega), idxI (show i < b.length by omega), some_bind]
    rw [w_in (x := k * gI b i) (by omega) (by omega), w_in (x := gI a i + k * gI b i) (by omega) (by omega), i_field_num_eq hp (by omega) (by omega) (by omega), some_bind,
      chk_bind (by simp only [List.length_cons, List.length_nil]; omega), w_in (by omega) (by omega)]
    rfl
  · intro out ho
    unfold i_field_plus_L0
    have e1 := ha.1
    simp [e1]
theorem s_l02Plus_eq {k : Int} (hk : 0 ≤ k) (hk2 : k ≤ 1000) (ha : Vec p n a) (hb : Vec p n b) : s_l02Plus p a b k = some (plusv p n a b k) := by
  unfold s_l02Plus
  rw [map_loop _ n (fun i => (gI a i + k * gI b i) % p) (by rw [BIG_val]; omega)]
  · rfl
  · intro i hi out ho
    unfold s_l02Plus_L0
    have e1 := ha.1; have e2 := hb.1
    have h1 := ha.get hi; have h2 := hb.get hi
    have h3 := mul_abs (a := k) (b := gI b i) (A := 1000) (B := 12) (by omega) (by omega)
    have h4 := Int.mul_nonneg hk h2.1
    simp only [show (i : Int) < a.length by omega, if_true, idxI (show i < a.length by omega), idxI (show i < b.length by omega), some_bind]
    rw [chk_bind (by omega), w_in (x := k * gI b i) (by omega) (by omega), w_in (x := gI a i + k * gI b i) (by omega) (by omega),
      chk_bind (by simp only [List.length_cons, List.length_nil]; omega), w_in (by omega) (by omega), tmod_nn (by omega)]
    rfl
  · intro out ho
    unfold s_l02Plus_L0
    have e1 := ha.1
    simp [e1]
theorem i_field_scaled_eq {k : Int} (hk : k.natAbs ≤ 1000) (ha : Vec p n a) : i_field_scaled p a k = some (scalev p n a k) := by
  unfold i_field_scaled
  rw [map_loop _ n (fun i => (gI a i * k) % p) (by rw [BIG_val]; omega)]
  · rfl
  · intro i hi out ho
    unfold i_field_scaled_L0
    have e1 := ha.1
    have h1 := ha.get hi
    have h3 := mul_abs (a := gI a i) (b := k) (A := 12) (B := 1000) (by omega) hk
    simp only [show (i : Int) < a.length by omega, if_true, idxI (show i < a.length by omega), some_bind]
    rw [w_in (x := gI a i * k) (by omega) (by omega), i_field_num_eq hp (by omega) (by omega) (by omega), some_bind,
      chk_bind (by simp only [List.length_cons, List.length_nil]; omega), w_in (by omega) (by omega)]
    rfl
  · intro out ho
    unfold i_field_scaled_L0
    have e1 := ha.1
    simp [e1]
theorem s_l02Scale_eq {k : Int} (hk : 0 ≤ k) (hk2 : k ≤ 1000) (ha : Vec p n a) : s_l02Scale p a k = some (scalev p n a k) := by
  unfold s_l02Scale
  rw [map_loop _ n (fun i => (gI a i * k) % p) (by rw [BIG_val]; omega)]
  · rfl
  · intro i hi out ho
    unfold s_l02Scale_L0
    have e1 := ha.1
    have h1 := ha.get hi
    have h3 := mul_abs (a := gI a i) (b := k) (A := 12) (B := 1000) (by omega) (by omega)
    have h4 := Int.mul_nonneg h1.1 hk
    simp only [show (i : Int) < a.length by omega, if_true, idxI (show i < a.length by omega), some_bind]
    rw [chk_bind (by omega), w_in (x := gI a i * k) (by omega) (by omega), chk_bind (by simp only [List.length_cons, List.length_nil]; omega), w_in (by omega) (by omega), tmod_nn (by omega)]
    rfl
  · intro out ho
    unfold s_l02Scale_L0
    have e1 := ha.1
    simp [e1]
end

/-! ### Tables -/
def applyv (p : Int) (r c : Nat) (m : List (List Int)) (v : List Int) : List Int := vecN r fun i => dotp p c (gR m i) v
theorem applyv_vec {p : Int} (hp : 0 < p) (r c : Nat) (m : List (List Int)) (v : List Int) : Vec p r (applyv p r c m v) := Vec.mk' fun i _ => dotp_num hp ..
section
variable {p : Int} {r c : Nat} {m : List (List Int)} {v : List Int} (hp : 0 < p) (hp2 : p ≤ 13) (hr : r ≤ 1048576) (hc : c ≤ 1048576)
include hp hp2 hr hc
theorem s_l02Apply_eq (hm : Mat p r c m) (hv : Vec p c v) : s_l02Apply p m v = some (applyv p r c m v) := by
  unfold s_l02Apply
  rw [map_loop _ r (fun i => dotp p c (gR m i) v) (by rw [BIG_val]; omega)]
  · rfl
  · intro i hi out ho
    unfold s_l02Apply_L0
    have e1 := hm.1
    simp only [show (i : Int) < m.length by omega, if_true, idxR (show i < m.length by omega), some_bind]
    rw [s_l01Dot_eq hp hp2 hc (hm.row hi) hv, some_bind, chk_bind (by simp only [List.length_cons, List.length_nil]; omega), w_in (by omega) (by omega)]
    rfl
  · intro out ho
    unfold s_l02Apply_L0
    have e1 := hm.1
    simp [e1]
theorem i_field_apply_eq (hm : Mat p r c m) (hv : Vec p c v) : i_field_apply p m v = some (applyv p r c m v) := by
  unfold i_field_apply
  rw [map_loop _ r (fun i => dotp p c (gR m i) v) (by rw [BIG_val]; omega)]
  · rfl
  · intro i hi out ho
    unfold i_field_apply_L0
    have e1 := hm.1
    simp only [show (i : Int) < m.length by omega, if_true, idxR (show i < m.length by omega), some_bind]
    rw [i_field_dot_eq hp hp2 hc (hm.row hi) hv, some_bind, chk_bind (by simp only [List.length_cons, List.length_nil]; omega), w_in (by omega) (by omega)]
    rfl
  · intro out ho
    unfold i_field_apply_L0
    have e1 := hm.1
    simp [e1]
end

/-! ### The codes ahead -/
theorem any_loop {B : Type} (step : Int → Option (Int ⊕ (Unit ⊕ B))) (n : Nat) (f : Nat → Bool) (r : Nat → B) (hn : n < BIG)
    (hs : ∀ k, k < n → f k = false → step (k : Int) = some (.inl ((k + 1 : Nat) : Int))) (hb : ∀ k, k < n → f k = true → step (k : Int) = some (.inr (.inr (r k)))) (he : step (n : Int) = some (.inr (.inl ()))) :
    ∃ b, loop step BIG 0 = some b ∧ ((b = .inl () ∧ (List.range n).any f = false) ∨ (∃ k, k < n ∧ b = .inr (r k) ∧ f k = true ∧ (List.range n).any f = true ∧ ∀ j, j < k → f j = false)) := by
  refine loop_inv (step := step) (fun s => ∃ k : Nat, k ≤ n ∧ s = (k : Int) ∧ ∀ j, j < k → f j = false) (fun s => n - s.toNat) _ (s := 0) ⟨0, by omega, rfl, fun j hj => by omega⟩ (by show n - 0 < BIG; omega) ?_
  rintro s ⟨k, hk, rfl, ha⟩
  by_cases hkn : k < n
  · cases hf : f k with
    | false =>
      refine .inl ⟨_, hs k hkn hf, ⟨k + 1, by omega, rfl, fun j hj => ?_⟩, by simp only [Int.toNat_natCast]; omega⟩
      rcases Nat.lt_succ_iff_lt_or_eq.1 hj with h | rfl
      · exact ha j h
      · exact hf
    | true => exact .inr ⟨_, hb k hkn hf, .inr ⟨k, hkn, rfl, hf, List.any_eq_true.2 ⟨k, List.mem_range.2 hkn, hf⟩, ha⟩⟩
  · have hkk : k = n := by omega
    subst hkk
    refine .inr ⟨_, he, .inl ⟨rfl, ?_⟩⟩
    rw [List.any_eq_false]
    intro j hj
    rw [ha j (List.mem_range.1 hj)]
    simp
theorem any_range {α : Type} (xs : List α) (g : α → Bool) (z : α) : ((List.range xs.length).any fun k => g (xs.getD k z)) = xs.any g := by
  rw [Bool.eq_iff_iff, List.any_eq_true, List.any_eq_true]
  constructor
  · rintro ⟨k, hk, h⟩
    exact ⟨_, List.getElem_mem (List.mem_range.1 hk), by rwa [getD_get (List.mem_range.1 hk) z]⟩
  · rintro ⟨x, hx, h⟩
    obtain ⟨k, hk, rfl⟩ := List.getElem_of_mem hx
    exact ⟨k, List.mem_range.2 hk, by rwa [← getD_get hk z]⟩
theorem not_all {α : Type} (l : List α) (f : α → Bool) : (!l.all f) = l.any fun x => !f x := by
  induction l with
  | nil => rfl
  | cons x l ih => simp only [List.all_cons, List.any_cons, Bool.not_and, ih]

theorem i_checkMatrices_c1_eq {p : Int} {m : List (List Int)} (hP : isP p = true) (h : szM m) : i_checkMatrices_c1 m p = some (!isMat p m) := by
  unfold i_checkMatrices_c1
  rw [i_field_isMatrix_eq hP h, some_bind]
theorem containsM_eq {p : Int} {c : List (List (List Int))} (hP : isP p = true) (hc : c.length ≤ 1048576) (h : ∀ m ∈ c, szM m) :
    g_slices_ContainsFunc_LLLI_LLI_of_i_checkMatrices_c1 c p = some (!c.all (isMat p)) := by
  unfold g_slices_ContainsFunc_LLLI_LLI_of_i_checkMatrices_c1 g_slices_IndexFunc_LLLI_LLI_of_i_checkMatrices_c1
  have hget : ∀ k, k < c.length → szM (c.getD k []) := fun k hk => by rw [← getD_get hk []]; exact h _ (List.getElem_mem _)
  obtain ⟨b, h1, h2⟩ := any_loop (g_slices_IndexFunc_LLLI_LLI_of_i_checkMatrices_c1_L0 c p) c.length (fun k => !isMat p (c.getD k [])) (fun k => (k : Int)) (by rw [BIG_val]; omega)
    (fun k hk hf => by
      unfold g_slices_IndexFunc_LLLI_LLI_of_i_checkMatrices_c1_L0
      simp only [show (k : Int) < c.length by omega, if_true, idxD hk [], some_bind, i_checkMatrices_c1_eq hP (hget k hk)]
      rw [hf, w_in (by omega) (by omega)]; rfl) (fun k hk hf => by
      unfold g_slices_IndexFunc_LLLI_LLI_of_i_checkMatrices_c1_L0
      simp only [show (k : Int) < c.length by omega, if_true, idxD hk [], some_bind, i_checkMatrices_c1_eq hP (hget k hk)]
      rw [hf]; rfl) (by
      unfold g_slices_IndexFunc_LLLI_LLI_of_i_checkMatrices_c1_L0
      simp)
  rw [h1, some_bind]
  have e : (!c.all (isMat p)) = (List.range c.length).any fun k => !isMat p (c.getD k []) := by
    rw [any_range c (fun m => !isMat p m) [], not_all]
  rw [e]
  rcases h2 with ⟨rfl, h3⟩ | ⟨k, hk, rfl, hf, h3, _⟩
  · rw [h3]; rfl
  · rw [h3]
    simp [ile]
/-- The code of a check for tables. -/
theorem i_checkMatrices_eq {p : Int} {c : List (List (List Int))} (hc : c.length ≤ 1048576) (h : ∀ m ∈ c, szM m) : i_checkMatrices p c = some (if isP p && c.all (isMat p) then 0 else 1) := by
  unfold i_checkMatrices
  rw [i_IsPrime_eq, some_bind]
  cases hP : isP p with
  | false => simp
  | true =>
    simp only [Bool.true_eq_false, if_false]
    rw [containsM_eq hP hc h, some_bind, some_bind]
    cases c.all (isMat p) <;> rfl
theorem checkM1 {p : Int} {m : List (List Int)} (h : szM m) : i_checkMatrices p [m] = some (if isMat p m then 0 else 1) := by
  rw [i_checkMatrices_eq (by simp) (by simpa using h)]
  congr 2
  simp only [List.all_cons, List.all_nil, Bool.and_true]
  cases hm : isMat p m with
  | false => simp
  | true => simp [(isMat_iff.1 hm).1]
theorem checkM2 {p : Int} {a b : List (List Int)} (ha : szM a) (hb : szM b) : i_checkMatrices p [a, b] = some (if isMat p a && isMat p b then 0 else 1) := by
  rw [i_checkMatrices_eq (by simp) (by simpa using ⟨ha, hb⟩)]
  congr 2
  simp only [List.all_cons, List.all_nil, Bool.and_true]
  cases hm : isMat p a with
  | false => simp
  | true => simp [(isMat_iff.1 hm).1]
end Go.Vam
