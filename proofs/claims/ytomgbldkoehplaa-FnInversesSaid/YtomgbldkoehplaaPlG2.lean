import Derived.Test.YtomgbldkoehplaaFnI
import Derived.Test.YtomgbldkoehplaaPlG1
import Derived.Test.YtomgbldkoehplaaFnK
/- Plain laws: inverses of tables. -/
namespace Go.Vam
open Go Go.RowKit
set_option linter.unusedSimpArgs false
set_option linter.unusedVariables false
set_option linter.unusedSectionVars false

/-- The table with the unit behind it. -/
def widem (n : Nat) (a : List (List Int)) : List (List Int) := vecN n fun i => gR a i ++ axis n i
theorem axis_at {n k q : Nat} (hk : k < n) (hq : q < n) : gI (axis n k) q = if q = k then 1 else 0 := by
  rw [← gR_unitm hk, unitm_at hk hq]
/-- A vector of two halves. -/
def twoF (n : Nat) (x y : Nat → Int) : Nat → Int := fun q => if q < n then x q else y (q - n)
theorem rd_two {n : Nat} {v : List Int} (x y : Nat → Int) : rd (n + n) v (twoF n x y) = sumN (fun q => gI v q * x q) n + sumN (fun q => gI v (n + q) * y q) n := by
  unfold rd
  rw [sumN_split]
  congr 1
  · exact sumN_congr fun q hq => by unfold twoF; rw [if_pos hq]
  · exact sumN_congr fun q hq => by unfold twoF; rw [if_neg (by omega), Nat.add_sub_cancel_left]
theorem sumN_delta {n i : Nat} (g : Nat → Int) (hi : i < n) : sumN (fun q => (if q = i then 1 else 0) * g q) n = g i := by
  have : sumN (fun q => (if q = i then 1 else 0) * g q) n = sumN (fun q => if q = i then g i else 0) n := by
    refine sumN_congr fun q hq => ?_
    by_cases e : q = i
    · rw [if_pos e, if_pos e, e, Int.one_mul]
    · rw [if_neg e, if_neg e, Int.zero_mul]
  rw [this, sumN_upd (fun _ => 0) i _ n hi rfl, sumN_zero, Int.zero_add]
theorem sumN_delta_r {n i : Nat} (g : Nat → Int) (hi : i < n) : sumN (fun q => g q * (if q = i then 1 else 0)) n = g i := by
  rw [← sumN_delta g hi]
  exact sumN_congr fun q _ => Int.mul_comm ..
section
variable {p : Int} {n : Nat} {a : List (List Int)} (hp : 1 < p) (hn : n ≤ 1000) (ha : Mat p n n a)
include hp hn ha
theorem widem_mat : Mat p n (n + n) (widem n a) := Mat.mk' fun i hi => (ha.row hi).append (axis_vec hp hi)
theorem widem_rd {i : Nat} (hi : i < n) (x y : Nat → Int) : rd (n + n) (gR (widem n a) i) (twoF n x y) = rd n (gR a i) x + y i := by
  have h1 := (ha.row hi).1
  unfold widem
  rw [gR_vecN _ hi, rd_two]
  congr 1
  · unfold rd
    exact sumN_congr fun q hq => by rw [gI_append, if_pos (by omega)]
  · rw [← sumN_delta y hi]
    exact sumN_congr fun q hq => by rw [gI_append, if_neg (by omega), h1, Nat.add_sub_cancel_left, axis_at hi hq]
theorem widem_ker (x y : Nat → Int) : KerP p n (n + n) (widem n a) (twoF n x y) ↔ ∀ i, i < n → p ∣ rd n (gR a i) x + y i := by
  unfold KerP
  constructor
  · intro h i hi; have := h i hi; rwa [widem_rd hp hn ha hi] at this
  · intro h i hi; rw [widem_rd hp hn ha hi]; exact h i hi
end
/-- The second halves of rows. -/
def backm (n : Nat) (B : List (List Int)) : List (List Int) := vecN n fun j => (gR B j).drop n
section
variable {p : Int} {n : Nat} {a B : List (List Int)} {ld : Nat → Nat} (hP : isP p = true) (hn0 : 1 ≤ n) (hn : n ≤ 1000) (ha : Mat p n n a) (hB : Ech p (n + n) B ld) (hk : ∀ u, Kr p (n + n) B u ↔ KerP p n (n + n) (widem n a) u)
include hP hn0 hn ha hB hk
/-- No vector is sent to nothing: the leads are those of the first half. -/
theorem inv_leads (hle : B.length ≤ n) (hs : ¬ Sg p n n a) : B.length = n ∧ ∀ j, j < n → ld j = j := by
  have hp := isP_le hP
  have hfree : ∀ f, f < n → isLd B.length ld f = true := by
    intro f hf
    cases e : isLd B.length ld f with
    | true => rfl
    | false =>
      exfalso
      obtain ⟨u, u1, u2, u3⟩ := (hB.free_iff (by omega) (by omega : f < n + n)).1 e
      refine hs ⟨u, ⟨f, hf, by rw [u1, Int.dvd_iff_emod_eq_zero, Int.emod_eq_of_lt (by omega) (by omega)]; omega⟩, ?_⟩
      have e2 : KerP p n (n + n) (widem n a) (twoF n u (fun _ => 0)) := by
        intro i hi
        have := (hk u).1 u3 i hi
        have e3 : rd (n + n) (gR (widem n a) i) u = rd (n + n) (gR (widem n a) i) (twoF n u fun _ => 0) := by
          unfold rd
          refine sumN_congr fun q hq => ?_
          unfold twoF
          by_cases h1 : q < n
          · rw [if_pos h1]
          · rw [if_neg h1, u2 q (by omega) hq]
        rwa [e3] at this
      have := (widem_ker (by omega) hn ha u fun _ => 0).1 e2
      intro i hi
      have := this i hi
      rwa [Int.add_zero] at this
  have hinj : ∀ k, k ≤ n → (∀ j, j < k → ∃ i, i < B.length ∧ ld i = j) := fun k hk' j hj => by
    obtain ⟨i, h1, h2⟩ := isLd_iff.1 (hfree j (by omega)); exact ⟨i, h1, h2⟩
  have key := rises_unique (a := ld) (b := fun j => j) (k := B.length) (l := n) hB.srt (fun i j h _ => h) (fun j hj => ?_) (fun j hj => ?_)
  · exact ⟨key.1, fun j hj => key.2 j (by omega)⟩
  · -- every lead lies in the first half
    have hge := hB.ge
    rcases Nat.lt_or_ge (ld j) n with h | h
    · exact ⟨ld j, h, rfl⟩
    · exfalso
      -- n places of the first half are leads of rows ahead of j
      have hall : ∀ f, f < n → ∃ i, i < j ∧ ld i = f := fun f hf => by
        obtain ⟨i, h1, h2⟩ := isLd_iff.1 (hfree f hf)
        refine ⟨i, ?_, h2⟩
        rcases Nat.lt_trichotomy i j with h3 | h3 | h3
        · exact h3
        · subst h3; omega
        · have := hB.srt j i h3 h1; omega
      obtain ⟨i, h1, h2⟩ := hall (n - 1) (by omega)
      -- leads below i are at least their index
      have h3 : ∀ t f, f < n → t ≤ f → ∀ i, i < j → ld i = f → t ≤ i := by
        intro t
        induction t with
        | zero => intros; omega
        | succ t ih =>
          intro f hf htf i hi hif
          obtain ⟨i', h4, h5⟩ := hall (f - 1) (by omega)
          have h6 := ih (f - 1) (by omega) (by omega) i' h4 h5
          rcases Nat.lt_or_ge i' i with h7 | h7
          · omega
          · rcases Nat.lt_or_eq_of_le h7 with h8 | h8
            · have := hB.srt i i' h8 (by omega); omega
            · subst h8; omega
      have := h3 (n - 1) (n - 1) (by omega) (by omega) i h1 h2
      omega
  · obtain ⟨i, h1, h2⟩ := isLd_iff.1 (hfree j hj); exact ⟨i, h1, h2⟩
theorem inv_sing (hl : B.length = n) (hld : ld (n - 1) < n) : ¬ Sg p n n a := by
  have hp := isP_le hP
  have hlj : ∀ j, j < n → ld j = j := by
    have key : ∀ t j, j + t + 1 = n → ld j ≤ j := by
      intro t
      induction t with
      | zero => intro j hj; have : j = n - 1 := by omega
                subst this; omega
      | succ t ih =>
        intro j hj
        have h1 := ih (j + 1) (by omega)
        have h2 := hB.srt j (j + 1) (by omega) (by omega)
        omega
    intro j hj
    have h1 := key (n - 1 - j) j (by omega)
    have h2 := hB.ge j (by omega)
    omega
  rintro ⟨x, ⟨k, hk1, hk2⟩, hx⟩
  have h1 : KerP p n (n + n) (widem n a) (twoF n x fun _ => 0) := (widem_ker (by omega) hn ha x fun _ => 0).2 fun i hi => by rw [Int.add_zero]; exact hx i hi
  have h2 := (hk _).2 h1 k (by omega)
  rw [rd_two] at h2
  have e : sumN (fun q => gI (gR B k) q * x q) n = x k := by
    rw [← sumN_delta x hk1]
    refine sumN_congr fun q hq => ?_
    congr 1
    by_cases e : q = k
    · have := hB.one k (by omega); rw [hlj k hk1] at this; rw [if_pos e, e, this]
    · have := hB.col q (by omega) k (by omega) (fun e' => e e'.symm); rw [hlj q hq] at this; rw [if_neg e, this]
  have e2 : sumN (fun q => gI (gR B k) (n + q) * (0 : Int)) n = 0 := by
    rw [sumN_congr (g := fun _ => 0) fun q _ => Int.mul_zero _, sumN_zero]
  rw [e, e2, Int.add_zero] at h2
  exact hk2 h2
theorem backm_mat (hl : B.length = n) : Mat p n n (backm n B) := Mat.mk' fun j hj => (hB.mat.row (by omega : j < B.length)).drop
theorem backm_at {j q : Nat} (hj : j < n) : gI (gR (backm n B) j) q = gI (gR B j) (n + q) := by
  unfold backm; rw [gR_vecN _ hj, gI_drop]
/-- What a row makes of a vector of two halves. -/
theorem inv_row (hl : B.length = n) (hlj : ∀ j, j < n → ld j = j) {k : Nat} (hk1 : k < n) (x y : Nat → Int) : rd (n + n) (gR B k) (twoF n x y) = x k + sumN (fun q => gI (gR (backm n B) k) q * y q) n := by
  rw [rd_two]
  congr 1
  · rw [← sumN_delta x hk1]
    refine sumN_congr fun q hq => ?_
    congr 1
    by_cases e : q = k
    · have := hB.one k (by omega); rw [hlj k hk1] at this; rw [if_pos e, e, this]
    · have := hB.col q (by omega) k (by omega) (fun e' => e e'.symm); rw [hlj q hq] at this; rw [if_neg e, this]
  · exact sumN_congr fun q hq => by rw [backm_at hP hn0 hn ha hB hk hk1]
theorem inv_right (hl : B.length = n) (hlj : ∀ j, j < n → ld j = j) : timesm p n n n a (backm n B) = unitm n := by
  have hp := isP_le hP
  conv => rhs; rw [← mat_self (unitm_mat (p := p) (by omega) n)]
  unfold timesm
  refine vecN_congr fun i hi => vecN_congr fun k hk1 => ?_
  rw [unitm_at hi hk1]
  -- the vector (-X e_k, e_k)
  have h1 : Kr p (n + n) B (twoF n (fun j => -gI (gR (backm n B) j) k) fun q => if q = k then 1 else 0) := fun j hj => by
    rw [inv_row hP hn0 hn ha hB hk hl hlj (by omega), sumN_delta_r _ hk1]
    rw [show -gI (gR (backm n B) j) k + gI (gR (backm n B) j) k = 0 by omega]
    exact Int.dvd_zero p
  have h2 := (widem_ker (by omega) hn ha _ _).1 ((hk _).1 h1) i hi
  unfold rd at h2
  have e : sumN (fun q => gI (gR a i) q * -gI (gR (backm n B) q) k) n = -sumN (fun j => gI (gR a i) j * gI (gR (backm n B) j) k) n := by
    have := sumN_mulL (-1) (fun j => gI (gR a i) j * gI (gR (backm n B) j) k) n
    rw [show -sumN (fun j => gI (gR a i) j * gI (gR (backm n B) j) k) n = -1 * sumN (fun j => gI (gR a i) j * gI (gR (backm n B) j) k) n by omega, ← this]
    exact sumN_congr fun q _ => by grind
  rw [e] at h2
  have h3 : p ∣ sumN (fun j => gI (gR a i) j * gI (gR (backm n B) j) k) n - (if i = k then 1 else 0) := by
    have := Int.dvd_neg.2 h2
    have e2 : -(-sumN (fun j => gI (gR a i) j * gI (gR (backm n B) j) k) n + if i = k then 1 else 0) = sumN (fun j => gI (gR a i) j * gI (gR (backm n B) j) k) n - (if i = k then 1 else 0) := by omega
    rwa [e2] at this
  rw [← mod_dvd] at h3
  rw [h3]
  have e4 : (if k = i then (1 : Int) else 0) = if i = k then 1 else 0 := by
    by_cases e5 : i = k
    · rw [if_pos e5, if_pos e5.symm]
    · rw [if_neg e5, if_neg fun h => e5 h.symm]
  rw [e4]
  split
  · exact mod_small (by omega) (by omega)
  · exact mod_small (by omega) (by omega)
theorem inv_left (hl : B.length = n) (hlj : ∀ j, j < n → ld j = j) : timesm p n n n (backm n B) a = unitm n := by
  have hp := isP_le hP
  conv => rhs; rw [← mat_self (unitm_mat (p := p) (by omega) n)]
  unfold timesm
  refine vecN_congr fun i hi => vecN_congr fun k hk1 => ?_
  rw [unitm_at hi hk1]
  have h1 : KerP p n (n + n) (widem n a) (twoF n (fun q => if q = k then 1 else 0) fun j => -gI (gR a j) k) := (widem_ker (by omega) hn ha _ _).2 fun j hj => by
    have : rd n (gR a j) (fun q => if q = k then 1 else 0) = gI (gR a j) k := sumN_delta_r _ hk1
    rw [this]
    have e : gI (gR a j) k + -gI (gR a j) k = 0 := by omega
    rw [e]; exact Int.dvd_zero p
  have h2 := (hk _).2 h1 i (by omega)
  rw [inv_row hP hn0 hn ha hB hk hl hlj hi] at h2
  have e : sumN (fun q => gI (gR (backm n B) i) q * -gI (gR a q) k) n = -sumN (fun j => gI (gR (backm n B) i) j * gI (gR a j) k) n := by
    have := sumN_mulL (-1) (fun j => gI (gR (backm n B) i) j * gI (gR a j) k) n
    rw [show -sumN (fun j => gI (gR (backm n B) i) j * gI (gR a j) k) n = -1 * sumN (fun j => gI (gR (backm n B) i) j * gI (gR a j) k) n by omega, ← this]
    exact sumN_congr fun q _ => by grind
  rw [e] at h2
  have h3 : p ∣ sumN (fun j => gI (gR (backm n B) i) j * gI (gR a j) k) n - (if i = k then 1 else 0) := by
    have := Int.dvd_neg.2 h2
    have e2 : -((if i = k then 1 else 0) + -sumN (fun j => gI (gR (backm n B) i) j * gI (gR a j) k) n) = sumN (fun j => gI (gR (backm n B) i) j * gI (gR a j) k) n - (if i = k then 1 else 0) := by omega
    rwa [e2] at this
  rw [← mod_dvd] at h3
  rw [h3]
  have e4 : (if k = i then (1 : Int) else 0) = if i = k then 1 else 0 := by
    by_cases e5 : i = k
    · rw [if_pos e5, if_pos e5.symm]
    · rw [if_neg e5, if_neg fun h => e5 h.symm]
  rw [e4]
  split
  · exact mod_small (by omega) (by omega)
  · exact mod_small (by omega) (by omega)
end

/-! ### The programs -/
theorem concat_two {x y : List Int} (hx : x.length ≤ 1000000) (hy : y.length ≤ 1000000) : g_slices_Concat_LI_I [x, y] = some (x ++ y) := by
  unfold g_slices_Concat_LI_I
  have l0 : loop (g_slices_Concat_LI_I_L0 [x, y]) BIG (0, 0) = some ((x.length + y.length : Nat) : Int) := by
    have key := fold_loop (g_slices_Concat_LI_I_L0 [x, y]) 2 (fun k s => s + ((gR [x, y] k).length : Int)) 0 (fun k s => 0 ≤ s ∧ s ≤ 1000000 * k) (fun s => s) (by rw [BIG_val]; omega) (by omega)
      (fun k s hk hs => by
        have h1 : (gR [x, y] k).length ≤ 1000000 := by
          have : k = 0 ∨ k = 1 := by omega
          rcases this with rfl | rfl
          · exact hx
          · exact hy
        omega) (fun k s hk hs => by
        have h1 : (gR [x, y] k).length ≤ 1000000 := by
          have : k = 0 ∨ k = 1 := by omega
          rcases this with rfl | rfl
          · exact hx
          · exact hy
        unfold g_slices_Concat_LI_I_L0
        have e : w64 (s + ((gR [x, y] k).length : Int)) = s + ((gR [x, y] k).length : Int) := w_in (by omega) (by omega)
        simp only [show ((k : Int) < (([x, y] : List (List Int)).length : Int)) = True from eq_true (by simp; omega), if_true]
        rw [idxR (by simpa using hk), some_bind, e, chk_bind (by omega), w_in (by omega) (by omega)]
        rfl) (fun s hs => by
        unfold g_slices_Concat_LI_I_L0
        simp)
    rw [key.1]
    congr 1
    simp only [foldN]
    show (0 + ((gR [x, y] 0).length : Int)) + ((gR [x, y] 1).length : Int) = _
    have e0 : gR [x, y] 0 = x := rfl
    have e1 : gR [x, y] 1 = y := rfl
    rw [e0, e1]
    omega
  rw [l0, some_bind, chk_bind (by omega)]
  have key := fold_loop (g_slices_Concat_LI_I_L1 [x, y]) 2 (fun k s => s ++ gR [x, y] k) [] (fun k s => s.length ≤ 1000000 * k) (fun s => s) (by rw [BIG_val]; omega) (by simp)
    (fun k s hk hs => by
      have h1 : (gR [x, y] k).length ≤ 1000000 := by
        have : k = 0 ∨ k = 1 := by omega
        rcases this with rfl | rfl
        · exact hx
        · exact hy
      rw [List.length_append]; omega) (fun k s hk hs => by
      have h1 : (gR [x, y] k).length ≤ 1000000 := by
        have : k = 0 ∨ k = 1 := by omega
        rcases this with rfl | rfl
        · exact hx
        · exact hy
      unfold g_slices_Concat_LI_I_L1
      simp only [show ((k : Int) < (([x, y] : List (List Int)).length : Int)) = True from eq_true (by simp; omega), if_true]
      rw [idxR (by simpa using hk), some_bind, chk_bind (by omega), w_in (by omega) (by omega)]
      rfl) (fun s hs => by
      unfold g_slices_Concat_LI_I_L1
      simp)
  rw [key.1, some_bind]
  rfl
section
variable {p : Int} {n : Nat} {a : List (List Int)} (hP : isP p = true) (hn0 : 1 ≤ n) (hn : n ≤ 16) (ha : Mat p n n a)
include hP hn0 hn ha
theorem s_wide_loop : loop (s_l02Inverse_L0 a (unitm n)) BIG ([], 0) = some (widem n a) := by
  have hp := isP_le hP
  have e1 := ha.1
  have e2 := (unitm_mat (p := p) (by omega) n).1
  rw [map_loop _ n (fun i => gR a i ++ axis n i) (by rw [BIG_val]; omega)]
  · rfl
  · intro k hk out ho
    unfold s_l02Inverse_L0
    have h1 := (ha.row hk).1
    have h2 := (axis_vec (p := p) (by omega) hk).1
    simp only [show ((k : Int) < (a.length : Int)) = True from eq_true (by omega), if_true, idxR (show k < a.length by omega), idxR (show k < (unitm n).length by omega), some_bind, gR_unitm hk]
    rw [s_l01Own_eq (by omega), some_bind, chk_bind (by omega), chk_bind (by simp only [List.length_cons, List.length_nil]; omega), w_in (by omega) (by omega)]
    rfl
  · intro out ho
    unfold s_l02Inverse_L0
    simp only [show ((n : Int) < (a.length : Int)) = False from eq_false (by omega), if_false]
theorem i_wide_loop : loop (i_field_inverse_L0 a (unitm n)) BIG ([], 0) = some (widem n a) := by
  have hp := isP_le hP
  have e1 := ha.1
  have e2 := (unitm_mat (p := p) (by omega) n).1
  rw [map_loop _ n (fun i => gR a i ++ axis n i) (by rw [BIG_val]; omega)]
  · rfl
  · intro k hk out ho
    unfold i_field_inverse_L0
    have h1 := (ha.row hk).1
    have h2 := (axis_vec (p := p) (by omega) hk).1
    simp only [show ((k : Int) < ((unitm n).length : Int)) = True from eq_true (by omega), if_true, idxR (show k < a.length by omega), idxR (show k < (unitm n).length by omega), some_bind, gR_unitm hk]
    rw [concat_two (by omega) (by omega), some_bind, chk_bind (by simp only [List.length_cons, List.length_nil]; omega), w_in (by omega) (by omega)]
    rfl
  · intro out ho
    unfold i_field_inverse_L0
    simp only [show ((n : Int) < ((unitm n).length : Int)) = False from eq_false (by omega), if_false]
theorem s_back_loop {B : List (List Int)} (hB : Mat p n (n + n) B) : loop (s_l02Inverse_L1 a B) BIG ([], 0) = some (backm n B) := by
  have e1 := ha.1
  have e2 := hB.1
  rw [map_loop _ n (fun j => (gR B j).drop n) (by rw [BIG_val]; omega)]
  · rfl
  · intro k hk out ho
    unfold s_l02Inverse_L1
    have h1 := (hB.row hk).1
    simp only [show ((k : Int) < (B.length : Int)) = True from eq_true (by omega), if_true, idxR (show k < B.length by omega), some_bind, e1, Int.toNat_natCast]
    rw [chk_bind (by omega), s_l01Own_eq (by rw [List.length_drop]; omega), some_bind, chk_bind (by simp only [List.length_cons, List.length_nil]; omega), w_in (by omega) (by omega)]
    rfl
  · intro out ho
    unfold s_l02Inverse_L1
    simp only [show ((n : Int) < (B.length : Int)) = False from eq_false (by omega), if_false]
theorem i_back_loop {B : List (List Int)} (hB : Mat p n (n + n) B) : loop (i_field_inverse_L1 a B) BIG (B, 0) = some (backm n B) := by
  have e1 := ha.1
  have e2 := hB.1
  obtain ⟨b, h1, h2⟩ := loop_inv (step := i_field_inverse_L1 a B) (fun s => ∃ k : Nat, s.2 = (k : Int) ∧ k ≤ n ∧ s.1.length = n ∧ ∀ j, j < n → gR s.1 j = if j < k then (gR B j).drop n else gR B j) (fun s => n - s.2.toNat) (fun b => b = backm n B) (s := (B, 0))
    ⟨0, rfl, by omega, e2, fun j hj => by rw [if_neg (by omega)]⟩ (by rw [BIG_val]; simp only []; omega) (by
      rintro ⟨m, t⟩ ⟨k, rfl, hk, hl, hg⟩
      simp only [] at hl hg
      unfold i_field_inverse_L1
      by_cases hkn : k < n
      · refine .inl ?_
        have h1 := (hB.row hkn).1
        have h2 : gR m k = gR B k := by rw [hg k hkn, if_neg (by omega)]
        simp only [show ((k : Int) < (B.length : Int)) = True from eq_true (by omega), if_true, idxR (show k < m.length by omega), some_bind, e1, h2, Int.toNat_natCast]
        rw [chk_bind (by omega), clone_eq (by rw [List.length_drop]; omega), some_bind, w_in (by omega) (by omega)]
        refine ⟨_, rfl, ⟨k + 1, rfl, by omega, by simp only [List.length_set]; omega, fun j hj => ?_⟩, by simp only []; omega⟩
        simp only []
        rw [gR_set (by omega)]
        by_cases e : k = j
        · subst e; rw [if_pos rfl, if_pos (by omega)]
        · rw [if_neg e, hg j hj]
          by_cases e3 : j < k
          · rw [if_pos e3, if_pos (by omega)]
          · rw [if_neg e3, if_neg (by omega)]
      · have : k = n := by omega
        subst this
        refine .inr ⟨m, ?_, ?_⟩
        · simp only [show ((k : Int) < (B.length : Int)) = False from eq_false (by omega), if_false]
        · unfold backm
          refine extR hl fun j hj => ?_
          rw [hg j hj, if_pos hj])
  rw [h1, h2]
/-- Both programs' inverse. -/
theorem Inverse_full : ∃ (X : List (List Int)) (ok : Bool), i_field_inverse p a = some (X, ok) ∧ (ok = true ↔ ¬ Sg p n n a) ∧ (ok = true → s_l02Inverse p a = some X ∧ Mat p n n X ∧ timesm p n n n a X = unitm n ∧ timesm p n n n X a = unitm n) ∧ (ok = false → X = []) := by
  have hp := isP_le hP
  have hw := widem_mat (p := p) (n := n) (a := a) (by omega) (by omega) ha
  have e1 := ha.1
  obtain ⟨B, b1, b2, hle, ⟨ld, hB⟩, hk⟩ := i_basis_any hP (by omega) (by omega) hw
  unfold i_field_inverse s_l02Inverse
  rw [e1, i_unit_eq (by omega), s_l02Unit_eq (by omega), some_bind, some_bind, i_wide_loop hP hn0 hn ha, s_wide_loop hP hn0 hn ha, some_bind, some_bind, b1, b2, some_bind, some_bind]
  by_cases hs : Sg p n n a
  · refine ⟨[], false, ?_, ⟨fun h => (by cases h), fun h => absurd hs h⟩, fun h => (by cases h), fun _ => rfl⟩
    by_cases hl : B.length < n
    · rw [if_pos (by omega), some_bind, if_pos rfl]
    · have hBl : B.length = n := by omega
      have hge : n ≤ ld (n - 1) := by
        rcases Nat.lt_or_ge (ld (n - 1)) n with h | h
        · exact absurd hs (inv_sing hP hn0 (by omega) ha hB hk hBl h)
        · exact h
      have w1 : w64 ((n : Int) - 1) = ((n - 1 : Nat) : Int) := by rw [w_in (by omega) (by omega)]; omega
      have hf : i_lead (gR B (n - 1)) = some (ld (n - 1) : Int) := by rw [← s_l12First_lead]; exact hB.first (by omega) (by omega)
      have hc : ile (n : Int) (ld (n - 1) : Int) = true := by simp [ile]; omega
      rw [if_neg (by omega), w1, idxR (by omega), some_bind, hf, some_bind, hc, some_bind, if_pos rfl]
  · obtain ⟨hBl, hlj⟩ := inv_leads hP hn0 (by omega) ha hB hk hle hs
    have hBm : Mat p n (n + n) B := by have := hB.mat; rwa [hBl] at this
    have w1 : w64 ((n : Int) - 1) = ((n - 1 : Nat) : Int) := by rw [w_in (by omega) (by omega)]; omega
    have hf : i_lead (gR B (n - 1)) = some (ld (n - 1) : Int) := by rw [← s_l12First_lead]; exact hB.first (by omega) (by omega)
    have hc : ile (n : Int) (ld (n - 1) : Int) = false := by simp [ile]; rw [hlj (n - 1) (by omega)]; omega
    refine ⟨backm n B, true, ?_, ⟨fun _ => hs, fun _ => rfl⟩, fun _ => ⟨?_, backm_mat hP hn0 (by omega) ha hB hk hBl, inv_right hP hn0 (by omega) ha hB hk hBl hlj, inv_left hP hn0 (by omega) ha hB hk hBl hlj⟩, fun h => (by cases h)⟩
    · rw [if_neg (by omega), w1, idxR (by omega), some_bind, hf, some_bind, hc, some_bind, if_neg (by simp), i_back_loop hP hn0 hn ha hBm, some_bind]
    · rw [s_back_loop hP hn0 hn ha hBm, some_bind]
end
/-- The inverse, and its error. -/
theorem InverseMatrix_full {p : Int} {m : List (List Int)} (h : szM m) : ∃ V C, s_InverseMatrix p m = some (V, C) ∧ i_InverseMatrix p m = some (V, C) ∧ smallM V ∧
    (sqC p m ≠ 0 → C = sqC p m) ∧ (sqC p m = 0 → (C = 0 ∧ ¬ Sg p m.length m.length m ∧ Mat p m.length m.length V ∧ timesm p m.length m.length m.length m V = unitm m.length ∧ timesm p m.length m.length m.length V m = unitm m.length) ∨ (C = 5 ∧ Sg p m.length m.length m)) := by
  unfold s_InverseMatrix i_InverseMatrix
  rw [s_l02Square_eq h, i_checkSquare_eq h, some_bind, some_bind]
  by_cases h0 : sqC p m = 0
  · obtain ⟨hm, hl⟩ := sqC_zero h0
    obtain ⟨h1, h2, h3, hP, h4, h5⟩ := isMat_sz hm
    have h3' : Mat p m.length m.length m := by have := h3; rw [← hl] at this; exact this
    obtain ⟨d, d1, _, d3⟩ := Det_iff hP (r := m.length) (by omega) h3'
    obtain ⟨X, ok, x1, x2, x3, x4⟩ := Inverse_full hP h4 h1 h3'
    rw [h0]
    simp only [if_true, not_true_eq_false, if_false, d1, some_bind, x1]
    cases ok with
    | true =>
      have hs := x2.1 rfl
      have hd : ieq d 0 = false := by simp [ieq]; exact fun e => hs (d3.1 e)
      obtain ⟨y1, y2, y3, y4⟩ := x3 rfl
      simp only [hd, Bool.false_eq_true, if_false, some_bind, not_true_eq_false, y1, Bool.true_eq_false]
      exact ⟨X, 0, rfl, rfl, smallM.of y2 (by omega) (by omega), fun h => absurd rfl h, fun _ => .inl ⟨rfl, hs, y2, y3, y4⟩⟩
    | false =>
      have hs : Sg p m.length m.length m := Classical.byContradiction fun hn => by have := x2.2 hn; cases this
      have hd : ieq d 0 = true := by simp [ieq]; exact d3.2 hs
      simp only [hd, if_true, some_bind]
      exact ⟨[], 5, by simp, rfl, smallM.nil, fun h => absurd rfl h, fun _ => .inr ⟨rfl, hs⟩⟩
  · refine ⟨[], sqC p m, ?_, ?_, smallM.nil, fun _ => rfl, fun h => absurd h h0⟩
    · simp only [h0, if_false, some_bind, Bool.false_eq_true, not_false_eq_true, if_true]
    · simp only [h0, not_false_eq_true, if_true]
end Go.Vam

/- Plain law: FnInverses. -/
namespace Go.Vam
open Go Go.RowKit
set_option linter.unusedSimpArgs false
set_option linter.unusedVariables false
set_option linter.unusedSectionVars false

theorem DrawSquare_eq {c : List Int} (hc : c.length ≤ 4096) (hb : ∀ x ∈ c, 0 ≤ x ∧ x ≤ 255) : ∃ (p : Int) (m : List (List Int)), s_l02DrawSquare c = some (p, m) ∧ -3 ≤ p ∧ p ≤ 17 ∧ tabS m := by
  unfold s_l02DrawSquare
  obtain ⟨h0, e0, S0⟩ := from_eq hc hb
  obtain ⟨n1, a1, h1, e1, l1, u1, S1⟩ := size_eq (h := h0) S0
  obtain ⟨r, a2, h2, e2, r1, r2, S2⟩ := next_eq (h := h1) (n := 24) S1 (by omega) (by omega)
  obtain ⟨x, ex, x1, x2⟩ : ∃ x : Nat, ((if r = 0 then some (w64 ((n1 : Int) + 1)) else some (n1 : Int)) : Option Int) = some (x : Int) ∧ 1 ≤ x ∧ x ≤ 7 := by
    by_cases c0 : r = 0
    · exact ⟨n1 + 1, by rw [if_pos c0, w_in (by omega) (by omega)]; rfl, by omega, by omega⟩
    · exact ⟨n1, by rw [if_neg c0], by omega, by omega⟩
  obtain ⟨p, m, a3, h3, e3, p1, p2, hT, S3⟩ := spoil_eq (h := h2) (r := n1) (k := x) S2 l1 (by omega) x1 x2
  simp only [e0, e1, e2, some_bind, ex, e3]
  exact ⟨p, m, rfl, p1, p2, hT⟩
theorem unit5_eq {n : Nat} (hn : n ≤ 1048576) : l_unit5 (n : Int) = some (unitm n) := by
  unfold l_unit5
  rw [map_loop _ n (fun i => (List.replicate n (0 : Int)).set i 1) (by rw [BIG_val]; omega)]
  · rfl
  · intro i hi out ho
    unfold l_unit5_L0
    simp only [show (i : Int) < n by omega, if_true]
    rw [chk_bind (by omega), some_bind, Int.toNat_natCast, idxI (by simpa using hi), some_bind, chk_bind (by simp only [List.length_cons, List.length_nil]; omega), w_in (by omega) (by omega)]
    rfl
  · intro out ho
    unfold l_unit5_L0
    simp
theorem sqC_ne {p : Int} {m : List (List Int)} (h : sqC p m ≠ 0) : sqC p m = 1 ∨ sqC p m = 2 := by
  unfold sqC at h ⊢
  split
  · split
    · rename_i h1 h2; rw [if_pos h1, if_pos h2] at h; exact absurd rfl h
    · exact .inr rfl
  · exact .inl rfl
theorem LawInverses {c : List Int} (hc : c.length ≤ 9223372036854775807) (hb : ∀ x ∈ c, 0 ≤ x ∧ x ≤ 255) : l_FnInverses c = some true := by
  unfold l_FnInverses l_big
  rw [some_bind]
  by_cases hbig : (4096 : Int) < (c.length : Int)
  · rw [ilt_true hbig, if_pos rfl]
  rw [ilt_false hbig]
  simp only [Bool.false_eq_true, if_false]
  obtain ⟨p, m, e0, p1, p2, hT⟩ := DrawSquare_eq (c := c) (by omega) hb
  unfold s_DrawInverseMatrix
  rw [e0, some_bind, some_bind]
  simp only []
  obtain ⟨V, C, e1, e2, hV, f1, f2⟩ := InverseMatrix_full (p := p) hT.sz
  simp only [e1, e2, some_bind, not_true_eq_false, if_false, likeR_self ⟨hV.1, hV.2.1⟩, Bool.not_true, Bool.false_eq_true]
  by_cases hq : sqC p m = 0
  rotate_left
  · have hC := f1 hq
    rcases sqC_ne hq with h | h
    · rw [h] at hC
      simp only [hC, if_true, some_bind]
    · rw [h] at hC
      rw [hC]
      simp [ieq]
  obtain ⟨hm, hl⟩ := sqC_zero hq
  obtain ⟨h1, h2, h3, hP, h4, h5⟩ := isMat_sz hm
  have hp := isP_le hP
  have h3' : Mat p m.length m.length m := by have := h3; rw [← hl] at this; exact this
  have hC12 : ¬ C = 1 ∧ ieq C 2 = false := by
    rcases f2 hq with ⟨h, _⟩ | ⟨h, _⟩ <;> rw [h] <;> exact ⟨by decide, by simp [ieq]⟩
  obtain ⟨d, d1, d2, _, _, _⟩ := det_ok hP h3' h4 h1
  have hdet : ((!(ieq d 0)) != (ieq C 0)) = false := by
    rcases f2 hq with ⟨h, hs, _⟩ | ⟨h, hs⟩
    · have : ¬ d = 0 := fun e => hs (d2.1 e)
      rw [h]; simp [ieq, this]
    · have : d = 0 := d2.2 hs
      rw [h, this]; simp [ieq]
  obtain ⟨h6, e6, S6⟩ := roll_eq (c := c) 833 (by omega) hb
  obtain ⟨x, a7, h7, e7, x1, x2, S7⟩ := below_eq (h := h6) (n := 20) S6 (by omega) (by omega)
  obtain ⟨y, a8, h8, e8, y1, y2, S8⟩ := below_eq (h := h7) (n := 20) S7 (by omega) (by omega)
  obtain ⟨x, rfl⟩ := Int.eq_ofNat_of_zero_le x1
  obtain ⟨y, rfl⟩ := Int.eq_ofNat_of_zero_le y1
  have wxy : w64 ((x : Int) + (y : Int)) = ((x + y : Nat) : Int) := by rw [w_in (by omega) (by omega)]; omega
  have k1 := i_PowerMatrix_val (k := x) hm hl rfl (by omega)
  have k2 := i_PowerMatrix_val (k := y) hm hl rfl (by omega)
  have k3 := i_PowerMatrix_val (k := x + y) hm hl rfl (by omega)
  have px := powm_mat (p := p) (by omega) m.length m x
  have py := powm_mat (p := p) (by omega) m.length m y
  have pxy := powm_mat (p := p) (by omega) m.length m (x + y)
  have k4 := mul_ok hP px h4 h1 h4 h1 py h4 h1
  rw [powm_add (by omega)] at k4
  have zxy := pxy.sz (by omega) (by omega)
  simp only [hC12.1, hC12.2, if_false, some_bind, Bool.false_eq_true, d1, hdet, not_true_eq_false, e6, e7, e8, Int.ofNat_eq_natCast, wxy, k1, k2, k3, k4, likeR_self zxy, Bool.not_true]
  rcases f2 hq with ⟨h, hs, mV, g1, g2⟩ | ⟨h, hs⟩
  · have k5 := mul_ok hP h3' h4 h1 h4 h1 mV h4 h1
    have k6 := mul_ok hP mV h4 h1 h4 h1 h3' h4 h1
    rw [g1] at k5
    rw [g2] at k6
    have zu := (unitm_mat (p := p) (by omega) m.length).sz (by omega) (by omega)
    rw [h]
    simp only [not_true_eq_false, if_false, k5, k6, some_bind, if_true, unit5_eq (n := m.length) (by omega), likeR_self zu]
  · rw [h]
    simp [ieq]
end Go.Vam
