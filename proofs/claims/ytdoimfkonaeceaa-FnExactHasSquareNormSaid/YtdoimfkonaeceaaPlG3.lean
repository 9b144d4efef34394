import Derived.Test.YtdoimfkonaeceaaPlG2
/- Plain laws: the norms of axes; tables skew for the norm, tables that keep it. -/
namespace Go.Vam
open Go Go.RowKit
set_option linter.unusedSimpArgs false
set_option linter.unusedVariables false
set_option linter.unusedSectionVars false

/-! ### The sign of a product of axes -/
def sgs (j : Nat) : Int := if j = 0 then 1 else -1
/-- The number before a product of axes. -/
def axS : Nat → List Int → Nat → Nat → Int
  | 0, _, _, _ => 1
  | n + 1, w, i, j =>
    if i < 2 ^ n then (if j < 2 ^ n then axS n (w.take n) i j else axS n (w.take n) (j - 2 ^ n) i)
    else (if j < 2 ^ n then sgs j * axS n (w.take n) (i - 2 ^ n) j else gI w n * (sgs (j - 2 ^ n) * axS n (w.take n) (j - 2 ^ n) (i - 2 ^ n)))
theorem plusv_at {p : Int} {n q : Nat} {a b : List Int} {k : Int} (hq : q < n) : gI (plusv p n a b k) q = (gI a q + k * gI b q) % p := by
  unfold plusv; rw [gI_vecN _ hq]
theorem emm (a p : Int) : a % p % p = a % p := Int.emod_emod_of_dvd _ (Int.dvd_refl p)
theorem mul_mod_l {p a b c : Int} (h : a % p = b % p) : (a * c) % p = (b * c) % p := by rw [Int.mul_emod, h, ← Int.mul_emod]
theorem mul_mod_r {p a b c : Int} (h : a % p = b % p) : (c * a) % p = (c * b) % p := by rw [Int.mul_emod, h, ← Int.mul_emod]
theorem starv_at {p : Int} {n q : Nat} {a : List Int} (hq : q < n) : gI (starv p n a) q % p = (gI a q * sgs q) % p := by
  unfold starv
  rw [gI_set (by unfold scalev; simp; omega)]
  unfold sgs
  by_cases h : q = 0
  · subst h; simp
  · rw [if_neg (fun e => h e.symm), if_neg h]
    unfold scalev; rw [gI_vecN _ hq, emm]
theorem mulr_at {p : Int} : ∀ (n : Nat), n ≤ 4 → ∀ (w x y : List Int) (i j : Nat), i < 2 ^ n → j < 2 ^ n → Only (2 ^ n) i x → Only (2 ^ n) j y →
    gI (mulr p n w x y) (i ^^^ j) % p = (gI x i * gI y j * axS n w i j) % p := by
  intro n
  induction n with
  | zero =>
    intro _ w x y i j hi hj hx hy
    have h2 : i = 0 := by simpa using hi
    have h3 : j = 0 := by simpa using hj
    subst h2; subst h3
    unfold mulr axS
    show gI x 0 * gI y 0 % p % p = _
    rw [emm, Int.mul_one]
  | succ n ih =>
    intro hn w x y i j hi hj hx hy
    have hpow : 2 ^ (n + 1) = 2 ^ n + 2 ^ n := by rw [Nat.pow_succ]; omega
    have hX := xor_hi n (by omega)
    have hlt : ∀ a b, a < 2 ^ n → b < 2 ^ n → a ^^^ b < 2 ^ n := fun a b ha hb => xor_lt ha hb
    unfold mulr axS
    rw [hpow] at hi hj hx hy
    have ih' := ih (by omega) (w.take n)
    have iz := mulr_zero (p := p) n (w.take n)
    generalize 2 ^ n = d at hi hj hx hy ih' iz hX hlt ⊢
    have tk : ∀ (u : List Int) s, s < d → Only (d + d) s u → Only d s (u.take d) ∧ Zr d (u.drop d) := fun u s hs hu =>
      ⟨fun q hq hk => by rw [gI_take hq]; exact hu q (by omega) hk, fun q hq => by rw [gI_drop]; exact hu _ (by omega) (by omega)⟩
    have dp : ∀ (u : List Int) s, d ≤ s → Only (d + d) s u → Zr d (u.take d) ∧ Only d (s - d) (u.drop d) := fun u s hs hu =>
      ⟨fun q hq => by rw [gI_take hq]; exact hu q (by omega) (by omega), fun q hq hk => by rw [gI_drop]; exact hu _ (by omega) (by omega)⟩
    rcases Nat.lt_or_ge i d with hid | hid <;> rcases Nat.lt_or_ge j d with hjd | hjd
    · obtain ⟨x1, x2⟩ := tk x i hid hx
      obtain ⟨y1, y2⟩ := tk y j hjd hy
      have hq := hlt i j hid hjd
      have r1 := ih' _ _ i j hid hjd x1 y1
      rw [gI_halves (by omega), if_pos hq, plusv_at hq, iz _ _ (.inr x2) _ hq, Int.mul_zero, Int.add_zero, emm, r1, gI_take hid, gI_take hjd, if_pos hid, if_pos hjd]
    · obtain ⟨x1, x2⟩ := tk x i hid hx
      obtain ⟨y1, y2⟩ := dp y j hjd hy
      have hq := hlt (j - d) i (by omega) hid
      have e : i ^^^ j = d + ((j - d) ^^^ i) := by
        have := (hX i hid (j - d) (by omega)).1
        rw [show d + (j - d) = j by omega] at this
        rw [this, Nat.xor_comm]
      have r1 := ih' _ _ (j - d) i (by omega) hid y2 x1
      rw [e, gI_halves (by omega), if_neg (by omega), show d + ((j - d) ^^^ i) - d = (j - d) ^^^ i by omega, plusv_at hq, iz _ _ (.inl x2) _ hq, Int.mul_zero, Int.add_zero, emm, r1, gI_take hid, gI_drop, show d + (j - d) = j by omega, if_pos hid, if_neg (by omega), Int.mul_comm (gI y j)]
    · obtain ⟨x1, x2⟩ := dp x i hid hx
      obtain ⟨y1, y2⟩ := tk y j hjd hy
      have hq := hlt (i - d) j (by omega) hjd
      have e : i ^^^ j = d + ((i - d) ^^^ j) := by
        have := (hX (i - d) (by omega) j hjd).2.1
        rw [show d + (i - d) = i by omega] at this
        exact this
      have r1 := ih' _ _ (i - d) j (by omega) hjd x2 (Only.star (p := p) y1)
      have r2 := starv_at (p := p) (a := y.take d) hjd
      rw [e, gI_halves (by omega), if_neg (by omega), show d + ((i - d) ^^^ j) - d = (i - d) ^^^ j by omega, plusv_at hq, iz _ _ (.inl y2) _ hq, Int.zero_add, Int.one_mul, emm, r1, gI_drop, show d + (i - d) = i by omega, if_neg (by omega), if_pos hjd]
      rw [mul_mod_l (b := gI x i * (gI (y.take d) j * sgs j)) (mul_mod_r r2), gI_take hjd]
      congr 1
      simp only [Int.mul_assoc]
    · obtain ⟨x1, x2⟩ := dp x i hid hx
      obtain ⟨y1, y2⟩ := dp y j hjd hy
      have hq := hlt (j - d) (i - d) (by omega) (by omega)
      have e : i ^^^ j = (j - d) ^^^ (i - d) := by
        have := (hX (i - d) (by omega) (j - d) (by omega)).2.2
        rw [show d + (i - d) = i by omega, show d + (j - d) = j by omega] at this
        rw [this, Nat.xor_comm]
      have r1 := ih' _ _ (j - d) (i - d) (by omega) (by omega) (Only.star (p := p) y2) x2
      have r2 := starv_at (p := p) (a := y.drop d) (show j - d < d by omega)
      rw [e, gI_halves (by omega), if_pos hq, plusv_at hq, iz _ _ (.inl x1) _ hq, Int.zero_add, emm, mul_mod_r r1, if_neg (by omega), if_neg (by omega)]
      rw [mul_mod_r (c := gI w n) (mul_mod_l (c := axS n (w.take n) (j - d) (i - d)) (mul_mod_l (c := gI (x.drop d) (i - d)) r2)), gI_drop, gI_drop, show d + (j - d) = j by omega, show d + (i - d) = i by omega]
      congr 1
      rw [Int.mul_comm (gI y j * sgs (j - d)), ← Int.mul_assoc (gI x i), Int.mul_assoc (gI x i * gI y j), ← Int.mul_assoc (gI w n), Int.mul_comm (gI w n), Int.mul_assoc (gI x i * gI y j)]

/-- The norms of the axes. -/
def dgv (p : Int) (w : List Int) : Nat → List Int
  | 0 => [1]
  | k + 1 => dgv p w k ++ scalev p (2 ^ k) (dgv p w k) (p - gI w k)
theorem dgv_vec {p : Int} (hp : 1 < p) (w : List Int) : ∀ n, Vec p (2 ^ n) (dgv p w n)
  | 0 => ⟨rfl, fun k hk => by
    have hk0 : k = 0 := by simpa using hk
    subst hk0
    exact ⟨(by decide : (0 : Int) ≤ 1), hp⟩⟩
  | n + 1 => by
    have hpow : 2 ^ (n + 1) = 2 ^ n + 2 ^ n := by rw [Nat.pow_succ]; omega
    rw [hpow]
    exact (dgv_vec hp w n).append (scalev_vec (by omega) ..)
theorem dgv_take {p : Int} (w : List Int) (m : Nat) : ∀ n, n ≤ m → dgv p (w.take m) n = dgv p w n
  | 0, _ => rfl
  | n + 1, h => by
    unfold dgv
    rw [dgv_take w m n (by omega), gI_take (by omega)]
theorem dgv_at {p : Int} (hp : 1 < p) : ∀ (n : Nat) (w : List Int) (k : Nat), k < 2 ^ n → gI (dgv p w n) k % p = (sgs k * axS n w k k) % p := by
  intro n
  induction n with
  | zero =>
    intro w k hk
    have hk0 : k = 0 := by simpa using hk
    subst hk0
    rfl
  | succ n ih =>
    intro w k hk
    have hpow : 2 ^ (n + 1) = 2 ^ n + 2 ^ n := by rw [Nat.pow_succ]; omega
    rw [hpow] at hk
    have hl := (dgv_vec hp w n).1
    have ih' := ih (w.take n)
    rw [dgv_take w n n (Nat.le_refl _)] at ih'
    unfold dgv axS
    rw [gI_append, hl]
    have hpos := two_pos n
    unfold scalev
    generalize 2 ^ n = d at hk hl ih' hpos ⊢
    by_cases h : k < d
    · rw [if_pos h, if_pos h, if_pos h]
      exact ih' k h
    · rw [if_neg h, if_neg h, if_neg h, gI_vecN _ (by omega), emm]
      have hs : sgs k = -1 := by unfold sgs; rw [if_neg (by omega)]
      rw [hs, mul_mod_l (ih' (k - d) (by omega))]
      have e : (p - gI w n) % p = (-1 * gI w n) % p := by
        have : p - gI w n = -1 * gI w n + p := by omega
        rw [this, Int.add_emod_right]
      rw [mul_mod_r e]
      congr 1
      rw [Int.mul_comm (sgs (k - d) * axS n (w.take n) (k - d) (k - d)), Int.mul_assoc]
section
variable {p : Int} {w : List Int} (hP : isP p = true) (hl : w.length ≤ 4) (hw : Vec p w.length w)
include hP hl hw
theorem norm_axis {k : Nat} (hk : k < 2 ^ w.length) : i_Doubling_norm p w (axis (2 ^ w.length) k) = some (gI (dgv p w w.length) k) := by
  have hp := isP_le hP
  have h16 := two_le hl
  have hpos := two_pos w.length
  have hx := axis_vec (p := p) (by omega) hk
  have hs := starv_vec hp.1 hp.2 (by omega) hpos hx
  have hm := mulp_vec hP hl hw hx hs
  have ho : Only (2 ^ w.length) k (axis (2 ^ w.length) k) := fun q hq hqk => by rw [gI_axis hk, if_neg hqk]
  have key := mulr_at (p := p) w.length hl w _ _ k k hk hk ho (Only.star (p := p) ho)
  rw [Nat.xor_self] at key
  have r2 := starv_at (p := p) (a := axis (2 ^ w.length) k) hk
  rw [mul_mod_l (mul_mod_r r2), gI_axis hk, if_pos rfl, Int.one_mul, Int.one_mul, ← dgv_at (by omega) w.length w k hk] at key
  have b1 := hm.get hpos
  have b2 := (dgv_vec (p := p) (by omega) w w.length).get hk
  have e : gI (mulp p w (axis (2 ^ w.length) k) (starv p (2 ^ w.length) (axis (2 ^ w.length) k))) 0 = gI (dgv p w w.length) k := by
    rw [mod_small b2.1 b2.2] at key
    have := mod_small b1.1 b1.2
    unfold mulp at this ⊢
    rw [← this]; exact key
  have e1 := hm.1
  unfold i_Doubling_norm i_Doubling_field
  rw [some_bind, i_field_conjugate_eq hp.1 hp.2 (by omega) hpos hx, some_bind, i_Doubling_times_eq hP hl hw hx hs, some_bind, idxI0 (by omega), some_bind, e]
theorem i_diag_eq : i_Doubling_diagonal p w = some (dgv p w w.length) := by
  have hp := isP_le hP
  have h16 := two_le hl
  have e0 := (unitm_mat (p := p) (by omega) (2 ^ w.length)).1
  unfold i_Doubling_diagonal
  rw [i_Doubling_size_eq hl, some_bind, i_unit_eq (by omega), some_bind, map_loop _ (2 ^ w.length) (fun k => gI (dgv p w w.length) k) (by rw [BIG_val]; omega)]
  · rw [some_bind, ← extI (dgv_vec (p := p) (by omega) w w.length).1 fun k _ => rfl]
  · intro k hk out ho
    unfold i_Doubling_diagonal_L0
    rw [e0, if_pos (by omega), idxR (by omega), some_bind, gR_unitm hk, norm_axis hP hl hw hk, some_bind, chk_bind (by simp only [List.length_cons, List.length_nil]; omega), w_in (by omega) (by omega)]
    rfl
  · intro out ho
    unfold i_Doubling_diagonal_L0
    simp only [e0, lt_cast_self, if_false]
theorem s_diag_eq : s_l11Diagonal p w = some (dgv p w w.length) := by
  have hp := isP_le hP
  unfold s_l11Diagonal
  rw [loop_for (b := dgv p w w.length) (s := ([1], 0)) (fun k => (dgv p w k, (k : Int))) w.length (by rw [BIG_val]; omega) rfl]
  · rfl
  · intro k hk
    unfold s_l11Diagonal_L0
    have hv := dgv_vec (p := p) (by omega) w k
    have h16 := two_le (n := k) (by omega)
    have hc := hw.get hk
    have e1 := hv.1
    have e2 := (scalev_vec (p := p) (by omega) (2 ^ k) (dgv p w k) (p - gI w k)).1
    simp only [lt_cast hk, if_true, idxI hk, some_bind]
    rw [w_in (x := p - gI w k) (by omega) (by omega), s_l11Scale_eq hp.1 hp.2 (by omega) (by omega) (by omega) hv, some_bind, chk_bind (by omega), w_in (by omega) (by omega)]
    rfl
  · unfold s_l11Diagonal_L0
    simp only [lt_cast_self, if_false]
end

/-! ### Skew for the norm -/
section
variable {p : Int} {w : List Int} {m : List (List Int)} (hP : isP p = true) (hl : w.length ≤ 4) (hw : Vec p w.length w) (hm : Mat p (2 ^ w.length) (2 ^ w.length) m)
def sdB (p : Int) (w : List Int) (m : List (List Int)) (i j : Nat) : Bool := decide ((gI (gR m i) j * gI (dgv p w w.length) i + gI (gR m j) i * gI (dgv p w w.length) j) % p = 0)
theorem sdB_comm (p : Int) (w : List Int) (m : List (List Int)) (i j : Nat) : sdB p w m i j = sdB p w m j i := by unfold sdB; rw [Int.add_comm]
include hP hl hw hm
theorem sd_bounds {i j : Nat} (hi : i < 2 ^ w.length) (hj : j < 2 ^ w.length) : (gI (gR m i) j * gI (dgv p w w.length) i).natAbs ≤ 169 := by
  have hp := isP_le hP
  have h1 := (hm.row hi).get hj
  have h2 := (dgv_vec (p := p) (by omega) w w.length).get hi
  exact mul_abs (A := 13) (B := 13) (by omega) (by omega)
theorem s_l15Skew_eq : s_l15Skew p w m = some ((List.range (2 ^ w.length)).all fun i => (List.range (2 ^ w.length)).all (sdB p w m i)) := by
  have hp := isP_le hP
  have h16 := two_le hl
  have e0 := hm.1
  have eD := (dgv_vec (p := p) (by omega) w w.length).1
  rw [← all_tri (sdB_comm p w m)]
  have inner : ∀ i : Nat, i < 2 ^ w.length → loop (s_l15Skew_L1 p m (dgv p w w.length) (i : Int)) BIG 0 = some (if (List.range (i + 1)).all (sdB p w m i) then .inl () else .inr (.inr (.inr false))) := by
    intro i hi
    have core : ∀ j : Nat, j < i + 1 → s_l15Skew_L1 p m (dgv p w w.length) (i : Int) (j : Int) = if sdB p w m i j = true then some (.inl ((j + 1 : Nat) : Int)) else some (.inr (.inr (.inr (.inr false)))) := by
      intro j hj
      have hj' : j < 2 ^ w.length := by omega
      have e1 := (hm.row hi).1
      have e2 := (hm.row hj').1
      have q1 := sd_bounds hP hl hw hm hi hj'
      have q2 := sd_bounds hP hl hw hm hj' hi
      unfold s_l15Skew_L1
      simp only [show ((j : Int) ≤ (i : Int)) = True from eq_true (by omega), if_true, idxR (show i < m.length by omega), idxR (show j < m.length by omega), idxI (show j < (gR m i).length by omega), idxI (show i < (gR m j).length by omega), idxI (show i < (dgv p w w.length).length by omega), idxI (show j < (dgv p w w.length).length by omega), some_bind]
      rw [w_in (x := gI (gR m i) j * gI (dgv p w w.length) i) (by omega) (by omega), w_in (x := gI (gR m j) i * gI (dgv p w w.length) j) (by omega) (by omega), w_in (x := gI (gR m i) j * gI (dgv p w w.length) i + gI (gR m j) i * gI (dgv p w w.length) j) (by omega) (by omega), s_l01Mod_eq (by omega) (by omega) (by omega) (by omega), some_bind, w_in (x := (j : Int) + 1) (by omega) (by omega)]
      unfold sdB
      by_cases h : (gI (gR m i) j * gI (dgv p w w.length) i + gI (gR m j) i * gI (dgv p w w.length) j) % p = 0
      · rw [if_neg (by simp [h]), if_pos (by simp [h])]; rfl
      · rw [if_pos h, if_neg (by simp [h])]
    refine all_loop _ (i + 1) (sdB p w m i) _ (by rw [BIG_val]; omega) ?_ ?_ ?_
    · intro j hj hf
      rw [core j hj, if_pos hf]
    · intro j hj hf
      rw [core j hj, if_neg (by simp [hf])]
    · unfold s_l15Skew_L1
      rw [if_neg (by omega)]
  unfold s_l15Skew
  rw [s_diag_eq hP hl hw, some_bind, all_loop _ (2 ^ w.length) (fun i => (List.range (i + 1)).all (sdB p w m i)) false (by rw [BIG_val]; omega)]
  · rw [some_bind]
    cases (List.range (2 ^ w.length)).all fun i => (List.range (i + 1)).all (sdB p w m i) <;> rfl
  · intro i hi hf
    unfold s_l15Skew_L0
    rw [if_pos (by omega), inner i hi, hf, w_in (by omega) (by omega)]; rfl
  · intro i hi hf
    unfold s_l15Skew_L0
    rw [if_pos (by omega), inner i hi, hf]; rfl
  · unfold s_l15Skew_L0
    rw [e0, if_neg (by omega)]
theorem i_Doubling_isSkew_eq : i_Doubling_isSkew p w m = some ((List.range (2 ^ w.length)).all fun i => (List.range (2 ^ w.length)).all (sdB p w m i)) := by
  have hp := isP_le hP
  have h16 := two_le hl
  have e0 := hm.1
  have eD := (dgv_vec (p := p) (by omega) w w.length).1
  have inner : ∀ i : Nat, i < 2 ^ w.length → loop (i_Doubling_isSkew_L1 p w m (dgv p w w.length) (i : Int)) BIG 0 = some (if (List.range (2 ^ w.length)).all (sdB p w m i) then .inl () else .inr (.inr (.inr false))) := by
    intro i hi
    have core : ∀ j : Nat, j < 2 ^ w.length → i_Doubling_isSkew_L1 p w m (dgv p w w.length) (i : Int) (j : Int) = if sdB p w m i j = true then some (.inl ((j + 1 : Nat) : Int)) else some (.inr (.inr (.inr (.inr false)))) := by
      intro j hj
      have e1 := (hm.row hi).1
      have e2 := (hm.row hj).1
      have q1 := sd_bounds hP hl hw hm hi hj
      have q2 := sd_bounds hP hl hw hm hj hi
      unfold i_Doubling_isSkew_L1 i_Doubling_field
      simp only [show ((j : Int) < (m.length : Int)) = True from eq_true (by omega), if_true, idxR (show i < m.length by omega), idxR (show j < m.length by omega), idxI (show j < (gR m i).length by omega), idxI (show i < (gR m j).length by omega), idxI (show i < (dgv p w w.length).length by omega), idxI (show j < (dgv p w w.length).length by omega), some_bind]
      rw [w_in (x := gI (gR m i) j * gI (dgv p w w.length) i) (by omega) (by omega), w_in (x := gI (gR m j) i * gI (dgv p w w.length) j) (by omega) (by omega), w_in (x := gI (gR m i) j * gI (dgv p w w.length) i + gI (gR m j) i * gI (dgv p w w.length) j) (by omega) (by omega), i_field_num_eq (by omega) (by omega) (by omega) (by omega), some_bind, w_in (x := (j : Int) + 1) (by omega) (by omega)]
      unfold sdB
      by_cases h : (gI (gR m i) j * gI (dgv p w w.length) i + gI (gR m j) i * gI (dgv p w w.length) j) % p = 0
      · rw [if_neg (by simp [h]), if_pos (by simp [h])]; rfl
      · rw [if_pos h, if_neg (by simp [h])]
    refine all_loop _ (2 ^ w.length) (sdB p w m i) _ (by rw [BIG_val]; omega) ?_ ?_ ?_
    · intro j hj hf
      rw [core j hj, if_pos hf]
    · intro j hj hf
      rw [core j hj, if_neg (by simp [hf])]
    · unfold i_Doubling_isSkew_L1
      rw [e0, if_neg (by omega)]
  unfold i_Doubling_isSkew
  rw [i_diag_eq hP hl hw, some_bind, all_loop _ (2 ^ w.length) (fun i => (List.range (2 ^ w.length)).all (sdB p w m i)) false (by rw [BIG_val]; omega)]
  · rw [some_bind]
    cases (List.range (2 ^ w.length)).all fun i => (List.range (2 ^ w.length)).all (sdB p w m i) <;> rfl
  · intro i hi hf
    unfold i_Doubling_isSkew_L0
    rw [if_pos (by omega), inner i hi, hf, w_in (by omega) (by omega)]; rfl
  · intro i hi hf
    unfold i_Doubling_isSkew_L0
    rw [if_pos (by omega), inner i hi, hf]; rfl
  · unfold i_Doubling_isSkew_L0
    rw [e0, if_neg (by omega)]
end
theorem IsSkew_eq {p : Int} {w : List Int} {m : List (List Int)} (hw : w.length ≤ 1048576) (h : szM m) : ∃ V C, s_IsSkew p w m = some (V, C) ∧ i_IsSkew p w m = some (V, C) := by
  have hsm : ∀ x ∈ [m], szM x := fun x hx => by simp only [List.mem_singleton] at hx; exact hx ▸ h
  unfold s_IsSkew i_IsSkew
  rw [s_l14Two_eq hw (by simp) hsm, i_checkThree_eq hw ⟨by simp, by simp⟩ (by simp) hsm, some_bind, some_bind]
  by_cases h0 : thC p w [] [m] = 0
  · obtain ⟨a1, a2, _, a4⟩ := thC_zero h0
    obtain ⟨hP, hl, hv, _⟩ := isDb_iff a1
    have hM := a4 m (by simp)
    simp only [h0, not_true_eq_false, if_false, s_l15Skew_eq hP hl hv hM, i_Doubling_isSkew_eq hP hl hv hM, some_bind]
    exact ⟨_, _, rfl, rfl⟩
  · simp only [h0, not_false_eq_true, if_true]
    exact ⟨_, _, rfl, rfl⟩

/-! ### Keeping the norm -/
section
variable {p : Int} {w : List Int} {m : List (List Int)} (hP : isP p = true) (hl : w.length ≤ 4) (hw : Vec p w.length w) (hm : Mat p (2 ^ w.length) (2 ^ w.length) m)
def knE (p : Int) (w : List Int) (i j : Nat) : Int := if i = j then gI (dgv p w w.length) i else 0
def knB (p : Int) (w : List Int) (m : List (List Int)) (i j : Nat) : Bool := decide (pairp p (2 ^ w.length) (dgv p w w.length) (colv (2 ^ w.length) m i) (colv (2 ^ w.length) m j) = knE p w i j)
theorem knB_comm (p : Int) (w : List Int) (m : List (List Int)) (i j : Nat) : knB p w m i j = knB p w m j i := by
  unfold knB knE
  rw [pairp_comm]
  by_cases h : i = j
  · subst h; rfl
  · rw [if_neg h, if_neg (fun e => h e.symm)]
include hP hl hw
theorem s_l15Pair_eq {x y : List Int} (hx : Vec p (2 ^ w.length) x) (hy : Vec p (2 ^ w.length) y) : s_l15Pair p w x y = some (pairp p (2 ^ w.length) (dgv p w w.length) x y) := by
  have hp := isP_le hP
  have h16 := two_le hl
  have hD := dgv_vec (p := p) (by omega) w w.length
  unfold s_l15Pair
  have e1 := hx.1; have e2 := hy.1; have e3 := hD.1
  generalize 2 ^ w.length = n at hx hy hD h16 e1 e2 e3 ⊢
  rw [s_diag_eq hP hl hw, some_bind]
  generalize dgv p w w.length = D at hD e3 ⊢
  obtain ⟨h1, h2⟩ := fold_loop (s_l15Pair_L0 p x y D) n (fun k s => (s + gI D k * gI x k * gI y k) % p) 0 (fun _ s => 0 ≤ s ∧ s < p) id (by rw [BIG_val]; omega) (by omega) (fun k s hk _ => mod_num (by omega))
    (fun k s hk hs => by
      unfold s_l15Pair_L0
      have h1 := hx.get hk; have h2 := hy.get hk; have h3 := hD.get hk
      have h4 := mul_abs (a := gI D k) (b := gI x k) (A := 13) (B := 13) (by omega) (by omega)
      have h5 := mul_abs (a := gI D k * gI x k) (b := gI y k) (A := 169) (B := 13) (by omega) (by omega)
      simp only [show (k : Int) < x.length by omega, if_true, idxI (show k < x.length by omega), idxI (show k < y.length by omega), idxI (show k < D.length by omega), some_bind]
      rw [w_in (x := gI D k * gI x k) (by omega) (by omega), w_in (x := gI D k * gI x k * gI y k) (by omega) (by omega), w_in (x := s + gI D k * gI x k * gI y k) (by omega) (by omega), s_l01Mod_eq (by omega) (by omega) (by omega) (by omega), some_bind, w_in (by omega) (by omega)]
      rfl) (fun s hs => by
      unfold s_l15Pair_L0
      simp [e1])
  rw [h1, some_bind]
  have key : ∀ k, foldN (fun k s => (s + gI D k * gI x k * gI y k) % p) 0 k = sumN (fun k => gI x k * gI y k * gI D k) k % p := by
    intro k
    induction k with
    | zero => simp [foldN, sumN]
    | succ k ih =>
      simp only [foldN, sumN, ih]
      rw [Int.emod_add_emod, Int.mul_assoc (gI D k), Int.mul_comm (gI D k)]
  simp only [id, key]; rfl
include hm
theorem s_l15Isometry_eq : s_l15Isometry p w m = some ((List.range (2 ^ w.length)).all fun i => (List.range (2 ^ w.length)).all (knB p w m i)) := by
  have hp := isP_le hP
  have h16 := two_le hl
  have e0 := hm.1
  have eD := (dgv_vec (p := p) (by omega) w w.length).1
  rw [← all_tri (knB_comm p w m)]
  have inner : ∀ i : Nat, i < 2 ^ w.length → loop (s_l15Isometry_L1 p w m (dgv p w w.length) (i : Int)) BIG 0 = some (if (List.range (i + 1)).all (knB p w m i) then .inl () else .inr (.inr (.inr false))) := by
    intro i hi
    have core : ∀ j : Nat, j < i + 1 → s_l15Isometry_L1 p w m (dgv p w w.length) (i : Int) (j : Int) = if knB p w m i j = true then some (.inl ((j + 1 : Nat) : Int)) else some (.inr (.inr (.inr (.inr false)))) := by
      intro j hj
      have hj' : j < 2 ^ w.length := by omega
      have ci := colv_vec (by omega) hm hi
      have cj := colv_vec (by omega) hm hj'
      have he : ((if (i : Int) = (j : Int) then (idx (dgv p w w.length) (i : Int)).bind fun v19 => some v19 else some 0) : Option Int) = some (knE p w i j) := by
        unfold knE
        by_cases h : i = j
        · subst h; simp only [if_true, idxI (show i < (dgv p w w.length).length by omega), some_bind]
        · rw [if_neg (by omega), if_neg h]
      unfold s_l15Isometry_L1
      rw [if_pos (by omega), he, some_bind, s_l14Column_eq (by omega) hm hi, some_bind, s_l14Column_eq (by omega) hm hj', some_bind, s_l15Pair_eq hP hl hw ci cj, some_bind, w_in (by omega) (by omega)]
      unfold knB
      by_cases h : pairp p (2 ^ w.length) (dgv p w w.length) (colv (2 ^ w.length) m i) (colv (2 ^ w.length) m j) = knE p w i j
      · rw [if_neg (by simp [h]), if_pos (by simp [h])]; rfl
      · rw [if_pos h, if_neg (by simp [h])]
    refine all_loop _ (i + 1) (knB p w m i) _ (by rw [BIG_val]; omega) ?_ ?_ ?_
    · intro j hj hf
      rw [core j hj, if_pos hf]
    · intro j hj hf
      rw [core j hj, if_neg (by simp [hf])]
    · unfold s_l15Isometry_L1
      rw [if_neg (by omega)]
  unfold s_l15Isometry
  rw [s_diag_eq hP hl hw, some_bind, all_loop _ (2 ^ w.length) (fun i => (List.range (i + 1)).all (knB p w m i)) false (by rw [BIG_val]; omega)]
  · rw [some_bind]
    cases (List.range (2 ^ w.length)).all fun i => (List.range (i + 1)).all (knB p w m i) <;> rfl
  · intro i hi hf
    unfold s_l15Isometry_L0
    rw [if_pos (by omega), inner i hi, hf, w_in (by omega) (by omega)]; rfl
  · intro i hi hf
    unfold s_l15Isometry_L0
    rw [if_pos (by omega), inner i hi, hf]; rfl
  · unfold s_l15Isometry_L0
    rw [e0, if_neg (by omega)]
theorem i_keepsNorm_eq : i_Doubling_keepsNorm p w m = some ((List.range (2 ^ w.length)).all fun i => (List.range (2 ^ w.length)).all (knB p w m i)) := by
  have hp := isP_le hP
  have h16 := two_le hl
  have e0 := hm.1
  have hD := dgv_vec (p := p) (by omega) w w.length
  have eD := hD.1
  have inner : ∀ i : Nat, i < 2 ^ w.length → loop (i_Doubling_keepsNorm_L1 p w m (dgv p w w.length) (i : Int)) BIG 0 = some (if (List.range (2 ^ w.length)).all (knB p w m i) then .inl () else .inr (.inr (.inr false))) := by
    intro i hi
    have core : ∀ j : Nat, j < 2 ^ w.length → i_Doubling_keepsNorm_L1 p w m (dgv p w w.length) (i : Int) (j : Int) = if knB p w m i j = true then some (.inl ((j + 1 : Nat) : Int)) else some (.inr (.inr (.inr (.inr false)))) := by
      intro j hj
      have hf : ∀ k, k < 2 ^ w.length → 0 ≤ gI (gR m k) i * gI (gR m k) j % p * gI (dgv p w w.length) k ∧ gI (gR m k) i * gI (gR m k) j % p * gI (dgv p w w.length) k ≤ 169 := by
        intro k hk
        have h1 := mod_num (a := gI (gR m k) i * gI (gR m k) j) (p := p) (by omega)
        have h2 := hD.get hk
        have h3 := mul_abs (a := gI (gR m k) i * gI (gR m k) j % p) (b := gI (dgv p w w.length) k) (A := 13) (B := 13) (by omega) (by omega)
        have h4 := Int.mul_nonneg h1.1 h2.1
        omega
      have hsb : ∀ k, k ≤ 2 ^ w.length → 0 ≤ sumN (fun k => gI (gR m k) i * gI (gR m k) j % p * gI (dgv p w w.length) k) k ∧ sumN (fun k => gI (gR m k) i * gI (gR m k) j % p * gI (dgv p w w.length) k) k ≤ 169 * k :=
        fun k hk => sumN_bound fun q hq => hf q (by omega)
      have lp : loop (i_Doubling_keepsNorm_L2 p w m (dgv p w w.length) (i : Int) (j : Int)) BIG (0, 0) = some (sumN (fun k => gI (gR m k) i * gI (gR m k) j % p * gI (dgv p w w.length) k) (2 ^ w.length)) := by
        refine loop_for (fun k => (sumN (fun k => gI (gR m k) i * gI (gR m k) j % p * gI (dgv p w w.length) k) k, (k : Int))) (2 ^ w.length) (by rw [BIG_val]; omega) rfl ?_ ?_
        · intro k hk
          unfold i_Doubling_keepsNorm_L2 i_Doubling_field
          have e1 := (hm.row hk).1
          have h1 := (hm.row hk).get hi; have h2 := (hm.row hk).get hj
          have h3 := mul_abs (a := gI (gR m k) i) (b := gI (gR m k) j) (A := 13) (B := 13) (by omega) (by omega)
          have h4 := hf k hk
          have h5 := hsb k (by omega)
          simp only [show ((k : Int) < (m.length : Int)) = True from eq_true (by omega), if_true, idxR (show k < m.length by omega), idxI (show i < (gR m k).length by omega), idxI (show j < (gR m k).length by omega), idxI (show k < (dgv p w w.length).length by omega), some_bind]
          rw [w_in (x := gI (gR m k) i * gI (gR m k) j) (by omega) (by omega), i_field_num_eq (by omega) (by omega) (by omega) (by omega), some_bind, w_in (x := gI (gR m k) i * gI (gR m k) j % p * gI (dgv p w w.length) k) (by omega) (by omega), w_in (by omega) (by omega), w_in (by omega) (by omega)]
          rfl
        · unfold i_Doubling_keepsNorm_L2
          simp only [e0]
          rw [if_neg (by omega)]
      have hs := hsb (2 ^ w.length) (Nat.le_refl _)
      have hpair : sumN (fun k => gI (gR m k) i * gI (gR m k) j % p * gI (dgv p w w.length) k) (2 ^ w.length) % p = pairp p (2 ^ w.length) (dgv p w w.length) (colv (2 ^ w.length) m i) (colv (2 ^ w.length) m j) := by
        unfold pairp
        refine sumN_mod fun k hk => ?_
        unfold colv
        rw [gI_vecN _ hk, gI_vecN _ hk, mul_mod_l (emm _ _)]
      generalize sumN (fun k => gI (gR m k) i * gI (gR m k) j % p * gI (dgv p w w.length) k) (2 ^ w.length) = S at lp hs hpair
      have hE : 0 ≤ knE p w i j ∧ knE p w i j < p := by
        unfold knE
        split
        · exact hD.get hi
        · omega
      have he : ((if (i : Int) = (j : Int) then (idx (dgv p w w.length) (i : Int)).bind fun v31 => some (w64 (S - v31)) else some S) : Option Int) = some (S - knE p w i j) := by
        unfold knE
        by_cases h : i = j
        · have h2 := hD.get hi
          subst h; simp only [if_true, idxI (show i < (dgv p w w.length).length by omega), some_bind]
          rw [w_in (by omega) (by omega)]
        · rw [if_neg (by omega), if_neg h, Int.sub_zero]
      unfold i_Doubling_keepsNorm_L1 i_Doubling_field
      rw [if_pos (by omega), lp, some_bind, he, some_bind, some_bind, i_field_num_eq (by omega) (by omega) (by omega) (by omega), some_bind, w_in (by omega) (by omega)]
      have hiff : (S - knE p w i j) % p = 0 ↔ pairp p (2 ^ w.length) (dgv p w w.length) (colv (2 ^ w.length) m i) (colv (2 ^ w.length) m j) = knE p w i j := by
        rw [← hpair, ← Int.emod_eq_emod_iff_emod_sub_eq_zero, mod_small hE.1 hE.2]
      unfold knB
      by_cases h : (S - knE p w i j) % p = 0
      · rw [if_neg (by simp [h]), if_pos (decide_eq_true (hiff.1 h))]; rfl
      · rw [if_pos h, if_neg (by simp only [decide_eq_true_eq]; exact fun e => h (hiff.2 e))]
    refine all_loop _ (2 ^ w.length) (knB p w m i) _ (by rw [BIG_val]; omega) ?_ ?_ ?_
    · intro j hj hf
      rw [core j hj, if_pos hf]
    · intro j hj hf
      rw [core j hj, if_neg (by simp [hf])]
    · unfold i_Doubling_keepsNorm_L1
      rw [e0, if_neg (by omega)]
  unfold i_Doubling_keepsNorm
  rw [i_diag_eq hP hl hw, some_bind, all_loop _ (2 ^ w.length) (fun i => (List.range (2 ^ w.length)).all (knB p w m i)) false (by rw [BIG_val]; omega)]
  · rw [some_bind]
    cases (List.range (2 ^ w.length)).all fun i => (List.range (2 ^ w.length)).all (knB p w m i) <;> rfl
  · intro i hi hf
    unfold i_Doubling_keepsNorm_L0
    rw [if_pos (by omega), inner i hi, hf, w_in (by omega) (by omega)]; rfl
  · intro i hi hf
    unfold i_Doubling_keepsNorm_L0
    rw [if_pos (by omega), inner i hi, hf]; rfl
  · unfold i_Doubling_keepsNorm_L0
    rw [e0, if_neg (by omega)]
end
theorem KeepsNorm_eq {p : Int} {w : List Int} {m : List (List Int)} (hw : w.length ≤ 1048576) (h : szM m) : ∃ V C, s_KeepsNorm p w m = some (V, C) ∧ i_KeepsNorm p w m = some (V, C) := by
  have hsm : ∀ x ∈ [m], szM x := fun x hx => by simp only [List.mem_singleton] at hx; exact hx ▸ h
  unfold s_KeepsNorm i_KeepsNorm
  rw [s_l14Two_eq hw (by simp) hsm, i_checkThree_eq hw ⟨by simp, by simp⟩ (by simp) hsm, some_bind, some_bind]
  by_cases h0 : thC p w [] [m] = 0
  · obtain ⟨a1, a2, _, a4⟩ := thC_zero h0
    obtain ⟨hP, hl, hv, _⟩ := isDb_iff a1
    have hM := a4 m (by simp)
    simp only [h0, not_true_eq_false, if_false, s_l15Isometry_eq hP hl hv hM, i_keepsNorm_eq hP hl hv hM, some_bind]
    exact ⟨_, _, rfl, rfl⟩
  · simp only [h0, not_false_eq_true, if_true]
    exact ⟨_, _, rfl, rfl⟩
theorem LawIsSkew {p : Int} {w : List Int} {m : List (List Int)} (hw : lenI w) (hm : lenM m) : l_FnExactIsSkew p w m = some true := by
  unfold l_FnExactIsSkew
  rw [szDb_eq hw (by omega) (by omega), some_bind]
  by_cases h1 : ((w.length : Nat) : Int) ≤ 1048576
  · have hs : szv w.length 1048576 = 1048576 - ((w.length : Nat) : Int) := by unfold szv; rw [if_pos h1]
    rw [hs, if_neg (by omega), szM_eq hm (by omega) (by omega), some_bind]
    by_cases h2 : ((m.length + rowsum m : Nat) : Int) ≤ 1048576 - ((w.length : Nat) : Int)
    · have hs2 : szv (m.length + rowsum m) (1048576 - ((w.length : Nat) : Int)) = 1048576 - ((w.length : Nat) : Int) - ((m.length + rowsum m : Nat) : Int) := by unfold szv; rw [if_pos h2]
      rw [hs2, if_neg (by omega)]
      obtain ⟨za, ra⟩ := sz_split (m := m) (by omega) h2
      have hw' : w.length ≤ 1048576 := by omega
      obtain ⟨V, C, e3, e4⟩ := IsSkew_eq (p := p) hw' za
      have e1 := toM_eq za.1 za.2
      have e2 := toDb_eq (p := p) hw'
      have e5 := eqDb_self (p := p) hw'
      have e6 := eqM_self za
      simp only [e1, e2, e3, e4, e5, e6, some_bind, Bool.true_eq_false, Bool.false_eq_true, if_false, if_true, ieq_self, Bool.not_true, natneg, not_true_eq_false, bne_self_eq_false]
    · have hs2 : szv (m.length + rowsum m) (1048576 - ((w.length : Nat) : Int)) = -1 := by unfold szv; rw [if_neg h2]
      rw [hs2, if_pos (by omega)]
  · have hs : szv w.length 1048576 = -1 := by unfold szv; rw [if_neg h1]
    rw [hs, if_pos (by omega)]
theorem LawKeepsNorm {p : Int} {w : List Int} {m : List (List Int)} (hw : lenI w) (hm : lenM m) : l_FnExactKeepsNorm p w m = some true := by
  unfold l_FnExactKeepsNorm
  rw [szDb_eq hw (by omega) (by omega), some_bind]
  by_cases h1 : ((w.length : Nat) : Int) ≤ 1048576
  · have hs : szv w.length 1048576 = 1048576 - ((w.length : Nat) : Int) := by unfold szv; rw [if_pos h1]
    rw [hs, if_neg (by omega), szM_eq hm (by omega) (by omega), some_bind]
    by_cases h2 : ((m.length + rowsum m : Nat) : Int) ≤ 1048576 - ((w.length : Nat) : Int)
    · have hs2 : szv (m.length + rowsum m) (1048576 - ((w.length : Nat) : Int)) = 1048576 - ((w.length : Nat) : Int) - ((m.length + rowsum m : Nat) : Int) := by unfold szv; rw [if_pos h2]
      rw [hs2, if_neg (by omega)]
      obtain ⟨za, ra⟩ := sz_split (m := m) (by omega) h2
      have hw' : w.length ≤ 1048576 := by omega
      obtain ⟨V, C, e3, e4⟩ := KeepsNorm_eq (p := p) hw' za
      have e1 := toM_eq za.1 za.2
      have e2 := toDb_eq (p := p) hw'
      have e5 := eqDb_self (p := p) hw'
      have e6 := eqM_self za
      simp only [e1, e2, e3, e4, e5, e6, some_bind, Bool.true_eq_false, Bool.false_eq_true, if_false, if_true, ieq_self, Bool.not_true, natneg, not_true_eq_false, bne_self_eq_false]
    · have hs2 : szv (m.length + rowsum m) (1048576 - ((w.length : Nat) : Int)) = -1 := by unfold szv; rw [if_neg h2]
      rw [hs2, if_pos (by omega)]
  · have hs : szv w.length 1048576 = -1 := by unfold szv; rw [if_neg h1]
    rw [hs, if_pos (by omega)]
end Go.Vam

/- Plain laws: when a table sends something but nothing to nothing. -/
namespace Go.Vam
open Go Go.RowKit
set_option linter.unusedSimpArgs false
set_option linter.unusedVariables false
set_option linter.unusedSectionVars false

def rd (n : Nat) (a : List Int) (x : Nat → Int) : Int := sumN (fun k => gI a k * x k) n
def KerP (p : Int) (r n : Nat) (m : List (List Int)) (x : Nat → Int) : Prop := ∀ i, i < r → p ∣ rd n (gR m i) x
def Sg (p : Int) (r n : Nat) (m : List (List Int)) : Prop := ∃ x : Nat → Int, (∃ k, k < n ∧ ¬ p ∣ x k) ∧ KerP p r n m x
theorem dvd_congr {p u v : Int} (h : u % p = v % p) : p ∣ u ↔ p ∣ v := by rw [Int.dvd_iff_emod_eq_zero, Int.dvd_iff_emod_eq_zero, h]
theorem sumN_lin (f g : Nat → Int) (k : Int) : ∀ n, sumN (fun q => f q + k * g q) n = sumN f n + k * sumN g n
  | 0 => by simp [sumN]
  | n + 1 => by simp only [sumN, sumN_lin f g k n, Int.mul_add]; omega
theorem sumN_zero : ∀ n, sumN (fun _ => (0 : Int)) n = 0
  | 0 => rfl
  | n + 1 => by simp [sumN, sumN_zero n]
theorem rd_plusv {p : Int} {n : Nat} {a b : List Int} {k : Int} (x : Nat → Int) : rd n (plusv p n a b k) x % p = (rd n a x + k * rd n b x) % p := by
  unfold rd
  rw [← sumN_lin]
  refine sumN_mod fun q hq => ?_
  rw [plusv_at hq, mul_mod_l (emm _ _), Int.add_mul, Int.mul_assoc]
theorem rd_scalev {p : Int} {n : Nat} {a : List Int} {k : Int} (x : Nat → Int) : rd n (scalev p n a k) x % p = (k * rd n a x) % p := by
  unfold rd
  have e : k * sumN (fun q => gI a q * x q) n = sumN (fun _ => 0) n + k * sumN (fun q => gI a q * x q) n := by
    have := sumN_zero n
    omega
  rw [e, ← sumN_lin]
  refine sumN_mod fun q hq => ?_
  unfold scalev
  rw [gI_vecN _ hq, mul_mod_l (emm _ _), Int.zero_add, Int.mul_comm (gI a q), Int.mul_assoc]
theorem prime_dvd {p a b : Int} (hP : isP p = true) : p ∣ a * b ↔ p ∣ a ∨ p ∣ b := by
  have hp := isP_le hP
  rw [Int.dvd_iff_emod_eq_zero, Int.dvd_iff_emod_eq_zero, Int.dvd_iff_emod_eq_zero, Int.mul_emod]
  exact mul_zero_mod hP (mod_num (by omega)) (mod_num (by omega))
theorem num_dvd {p a : Int} (h : 0 ≤ a ∧ a < p) : p ∣ a ↔ a = 0 := by
  rw [Int.dvd_iff_emod_eq_zero, mod_small h.1 h.2]
/-- A sum with one place changed. -/
theorem sumN_upd (f : Nat → Int) (i : Nat) (c : Int) : ∀ n, i < n → f i = 0 → sumN (fun q => if q = i then c else f q) n = sumN f n + c := by
  intro n
  induction n with
  | zero => intro h; omega
  | succ n ih =>
    intro h h0
    simp only [sumN]
    by_cases hi : i < n
    · rw [ih hi h0, if_neg (by omega)]; omega
    · have : n = i := by omega
      subst this
      rw [if_pos rfl, h0, sumN_congr (g := f) fun k hk => if_neg (by omega)]; omega

/-- Places ahead of k: a number on the diagonal, nothing below. -/
def Tri (n k : Nat) (m : List (List Int)) : Prop := ∀ j, j < k → gI (gR m j) j ≠ 0 ∧ ∀ i, j < i → i < n → gI (gR m i) j = 0
theorem tri_stuck {p : Int} {n k : Nat} {m : List (List Int)} (hP : isP p = true) (hm : Mat p n n m) (ht : Tri n k m) (hk : k < n) (h0 : ∀ i, k ≤ i → i < n → gI (gR m i) k = 0) : Sg p n n m := by
  have hp := isP_le hP
  have key : ∀ t, t ≤ k → ∃ x : Nat → Int, x k = 1 ∧ (∀ q, k < q → x q = 0) ∧ (∀ q, q < k - t → x q = 0) ∧ ∀ i, k - t ≤ i → i < k → p ∣ rd n (gR m i) x := by
    intro t
    induction t with
    | zero => intro _; exact ⟨fun q => if q = k then 1 else 0, by simp, fun q hq => if_neg (by omega), fun q hq => if_neg (by omega), fun i h1 h2 => by omega⟩
    | succ t ih =>
      intro htk
      obtain ⟨x, x1, x2, x3, x4⟩ := ih (by omega)
      generalize hi : k - (t + 1) = i at *
      have hik : i < k := by omega
      have hin : i < n := by omega
      obtain ⟨d1, d2⟩ := ht i hik
      have e := (hm.row hin).get hin
      obtain ⟨i1, i2, i3⟩ := inv_facts (a := gI (gR m i) i) hP (by omega) e.2
      have hxi : x i = 0 := x3 i (by omega)
      have hrd : ∀ (c : Int) (j : Nat), j < n → rd n (gR m j) (fun q => if q = i then c else x q) = rd n (gR m j) x + gI (gR m j) i * c := by
        intro c j hj
        unfold rd
        rw [← sumN_upd (fun q => gI (gR m j) q * x q) i (gI (gR m j) i * c) n hin (by rw [hxi, Int.mul_zero])]
        refine sumN_congr fun q _ => ?_
        by_cases h : q = i
        · subst h; simp
        · simp [h]
      refine ⟨fun q => if q = i then -(rd n (gR m i) x) * invp p (gI (gR m i) i) else x q, by simp only []; rw [if_neg (by omega)]; exact x1, fun q hq => by simp only []; rw [if_neg (by omega)]; exact x2 q hq, fun q hq => by simp only []; rw [if_neg (by omega)]; exact x3 q (by omega), fun j hj1 hj2 => ?_⟩
      rw [hrd _ j (by omega)]
      by_cases hji : j = i
      · subst hji
        generalize rd n (gR m j) x = S
        generalize invp p (gI (gR m j) j) = v at i3
        generalize gI (gR m j) j = a at i3
        have e2 : S + a * (-S * v) = S * (1 - a * v) := by rw [Int.mul_sub, Int.mul_one, Int.neg_mul, Int.mul_neg, ← Int.mul_assoc, Int.mul_comm a S, Int.mul_assoc]; omega
        rw [e2]
        refine Int.dvd_mul_of_dvd_right ?_
        have : (1 - a * v) % p = 0 := by rw [Int.sub_emod, i3, Int.emod_eq_of_lt (show (0 : Int) ≤ 1 by omega) (by omega)]; rfl
        exact Int.dvd_of_emod_eq_zero this
      · rw [d2 j (by omega) (by omega), Int.zero_mul, Int.add_zero]
        exact x4 j (by omega) hj2
  obtain ⟨x, x1, x2, x3, x4⟩ := key k (Nat.le_refl _)
  refine ⟨x, ⟨k, hk, ?_⟩, fun i hi => ?_⟩
  · rw [x1, Int.dvd_iff_emod_eq_zero, Int.emod_eq_of_lt (by omega) (by omega)]; omega
  · by_cases hik : i < k
    · exact x4 i (by omega) hik
    · have : rd n (gR m i) x = 0 := by
        unfold rd
        have : ∀ q, q < n → gI (gR m i) q * x q = 0 := by
          intro q hq
          rcases Nat.lt_trichotomy q k with h | h | h
          · rw [(ht q h).2 i (by omega) hi, Int.zero_mul]
          · rw [h, h0 i (by omega) hi, Int.zero_mul]
          · rw [x2 q h, Int.mul_zero]
        rw [sumN_congr (g := fun _ => 0) this]
        exact sumN_zero n
      rw [this]; exact Int.dvd_zero p
/-- A whole triangle: nothing but nothing is sent to nothing. -/
theorem tri_free {p : Int} {n : Nat} {m : List (List Int)} (hP : isP p = true) (hm : Mat p n n m) (ht : Tri n n m) {x : Nat → Int} (hx : KerP p n n m x) : ∀ k, k < n → p ∣ x k := by
  have key : ∀ t, t ≤ n → ∀ q, n - t ≤ q → q < n → p ∣ x q := by
    intro t
    induction t with
    | zero => intro _ q h1 h2; omega
    | succ t ih =>
      intro ht' q h1 h2
      by_cases hq : n - t ≤ q
      · exact ih (by omega) q hq h2
      · have hqe : q = n - (t + 1) := by omega
        have hr := hx q h2
        have hsum : ∀ c, c ≤ n → p ∣ sumN (fun k => if k = q then 0 else gI (gR m q) k * x k) c := by
          intro c
          induction c with
          | zero => intro _; exact Int.dvd_zero p
          | succ c ihc =>
            intro hc
            simp only [sumN]
            refine Int.dvd_add (ihc (by omega)) ?_
            rcases Nat.lt_trichotomy c q with h | h | h
            · rw [if_neg (by omega), (ht c (by omega)).2 q h h2, Int.zero_mul]; exact Int.dvd_zero p
            · rw [if_pos h]; exact Int.dvd_zero p
            · rw [if_neg (by omega)]
              exact Int.dvd_mul_of_dvd_right (ih (by omega) c (by omega) (by omega))
        have e : rd n (gR m q) x = sumN (fun k => if k = q then 0 else gI (gR m q) k * x k) n + gI (gR m q) q * x q := by
          unfold rd
          rw [← sumN_upd (fun k => if k = q then 0 else gI (gR m q) k * x k) q (gI (gR m q) q * x q) n h2 (by simp)]
          refine sumN_congr fun k _ => ?_
          by_cases h : k = q
          · subst h; simp
          · simp [h]
        rw [e] at hr
        have h3 := (Int.dvd_add_right (hsum n (Nat.le_refl _))).1 hr
        rcases (prime_dvd hP).1 h3 with h | h
        · exact absurd ((num_dvd ((hm.row h2).get h2)).1 h) (ht q h2).1
        · exact h
  intro k hk
  exact key n (Nat.le_refl _) k (by omega) hk
end Go.Vam

/- Plain laws (2): a determinant is 0 just where the table sends something to nothing. -/
namespace Go.Vam
open Go Go.RowKit
set_option linter.unusedSimpArgs false
set_option linter.unusedVariables false
set_option linter.unusedSectionVars false

/-- A row less the multiple of R that clears column k. -/
def clp (p : Int) (c k : Nat) (R v : List Int) : List Int := plusv p c v R ((p - gI v k) * invp p (gI R k) % p)
section
variable {p : Int} {r : Nat} (hP : isP p = true) (hr : r ≤ 1048576)
include hP hr
theorem det_clear2 {M m0 : List (List Int)} {R : List Int} {k : Nat} {d0 : Int} (hk : k < r) (hM : Mat p r r M) (hMk : gR M k = R) (hR : gI R k ≠ 0) :
    ∃ x, loop (s_l02Det_L2 p (m0, d0, (k : Int)) (invp p (gI R k))) BIG (M, ((k + 1 : Nat) : Int)) = some x ∧ loop (i_field_determinant_L2 p (m0, d0, (k : Int))) BIG (M, ((k + 1 : Nat) : Int)) = some x ∧
      (Mat p r r x ∧ ∀ j, j < r → gR x j = if k < j then clp p r k R (gR M j) else gR M j) := by
  have hp := isP_le hP
  have hRk := (hMk ▸ hM.row hk : Vec p r R)
  have e4 := hRk.get hk
  have e5 := hRk.1
  obtain ⟨i1, i2, i3⟩ := inv_facts (a := gI R k) hP (by omega) e4.2
  have v2 := i_field_inv_eq (a := gI R k) hP (by omega) e4.2
  unfold clp
  generalize invp p (gI R k) = iv at i1 i2 i3 v2
  refine loop_two (fun s => Mat p r r s.1 ∧ ∃ i : Nat, s.2 = (i : Int) ∧ i ≤ r ∧ k < i ∧ ∀ j, j < r → gR s.1 j = if k < j ∧ j < i then plusv p r (gR M j) R ((p - gI (gR M j) k) * iv % p) else gR M j) (fun s => r - s.2.toNat) _ ⟨hM, k + 1, rfl, by omega, by omega, fun j _ => by rw [if_neg (by omega)]⟩ (by rw [BIG_val]; simp only []; omega) ?_
  rintro ⟨m, t⟩ ⟨hm, i, rfl, hi, hki, hg⟩
  simp only [] at hm hg
  have hmk : gR m k = R := by rw [hg k hk, if_neg (by omega), hMk]
  unfold s_l02Det_L2 i_field_determinant_L2
  have e1 := hm.1
  by_cases hir : i < r
  · have e2 := (hm.row hir).1
    have e3 := (hm.row hir).get hk
    have hgi : gR m i = gR M i := by rw [hg i hir, if_neg (by omega)]
    refine .inl ?_
    have w1 : w64 (p - gI (gR m i) k) = p - gI (gR m i) k := w_in (by omega) (by omega)
    have w2 : w64 (0 - gI (gR m i) k) = 0 - gI (gR m i) k := w_in (by omega) (by omega)
    have q1 := mul_abs (a := p - gI (gR m i) k) (b := iv) (A := 13) (B := 13) (by omega) (by omega)
    have q2 := mul_abs (a := 0 - gI (gR m i) k) (b := iv) (A := 13) (B := 13) (by omega) (by omega)
    have q3 := Int.mul_nonneg (a := p - gI (gR m i) k) (b := iv) (by omega) (by omega)
    have w3 : w64 ((p - gI (gR m i) k) * iv) = (p - gI (gR m i) k) * iv := w_in (by omega) (by omega)
    have w4 : w64 ((0 - gI (gR m i) k) * iv) = (0 - gI (gR m i) k) * iv := w_in (by omega) (by omega)
    have w5 : ((p - gI (gR m i) k) * iv).tmod p = (p - gI (gR m i) k) * iv % p := tmod_nn (by omega)
    have hn := mod_num (a := (p - gI (gR m i) k) * iv) (p := p) (by omega)
    have f1 := s_l02Plus_eq (p := p) (n := r) (a := gR m i) (b := R) (k := (p - gI (gR m i) k) * iv % p) (by omega) (by omega) hr hn.1 (by omega) (hm.row hir) hRk
    have f2 := i_field_plus_eq (p := p) (n := r) (a := gR m i) (b := R) (k := (0 - gI (gR m i) k) * iv) (by omega) (by omega) hr (by omega) (hm.row hir) hRk
    have f3 : plusv p r (gR m i) R ((0 - gI (gR m i) k) * iv) = plusv p r (gR m i) R ((p - gI (gR m i) k) * iv % p) := by
      refine plusv_congr ?_
      rw [Int.emod_emod_of_dvd _ (Int.dvd_refl p)]
      have : (p - gI (gR m i) k) * iv = (0 - gI (gR m i) k) * iv + p * iv := by rw [← Int.add_mul]; congr 1; omega
      rw [this, Int.add_mul_emod_self_left]
    simp only [show (i : Int) < (m.length : Int) by omega, if_true, idxR (show i < m.length by omega), idxR (show k < m.length by omega), idxI (show k < (gR m i).length by omega), some_bind, hmk, idxI (show k < R.length by omega), chk_bind (show ¬ p = 0 by omega), v2, w1, w2, w3, w4, w5, f1, f2, f3, Int.toNat_natCast]
    refine ⟨_, rfl, rfl, ⟨hm.set hir (plusv_vec (by omega) ..), i + 1, ?_, by omega, by omega, fun j hj => ?_⟩, ?_⟩
    · rw [w_in (by omega) (by omega)]; rfl
    · simp only []
      rw [gR_set (by omega)]
      by_cases hij : i = j
      · subst hij
        rw [if_pos rfl, if_pos ⟨hki, by omega⟩, hgi]
      · rw [if_neg hij, hg j hj]
        by_cases h : k < j ∧ j < i
        · rw [if_pos h, if_pos ⟨h.1, by omega⟩]
        · rw [if_neg h, if_neg (by omega)]
    · rw [w_in (by omega) (by omega)]; simp only []; omega
  · refine .inr ?_
    simp only [show ¬ (i : Int) < (m.length : Int) by omega, if_false]
    refine ⟨_, rfl, rfl, hm, fun j hj => ?_⟩
    rw [hg j hj]
    by_cases h : k < j
    · rw [if_pos ⟨h, by omega⟩, if_pos h]
    · rw [if_neg (by omega), if_neg h]
end

section
variable {p : Int} {r k : Nat} {M y : List (List Int)} {R : List Int} (hP : isP p = true) (hk : k < r) (hM : Mat p r r M) (hMk : gR M k = R) (hR : gI R k ≠ 0)
  (hy : ∀ j, j < r → gR y j = if k < j then clp p r k R (gR M j) else gR M j)
include hP hk hM hMk hR hy
theorem clear_ker (x : Nat → Int) : KerP p r r y x ↔ KerP p r r M x := by
  have hyk : gR y k = R := by rw [hy k hk, if_neg (by omega), hMk]
  have hrow : ∀ j, j < r → k < j → rd r (gR y j) x % p = (rd r (gR M j) x + ((p - gI (gR M j) k) * invp p (gI R k) % p) * rd r R x) % p := by
    intro j hj hkj
    rw [hy j hj, if_pos hkj]
    exact rd_plusv x
  constructor
  · intro h j hj
    have hRx : p ∣ rd r R x := by have := h k hk; rwa [hyk] at this
    by_cases hkj : k < j
    · have h1 := (dvd_congr (hrow j hj hkj)).1 (h j hj)
      exact (Int.dvd_add_left (Int.dvd_mul_of_dvd_right hRx)).1 h1
    · have := h j hj; rwa [hy j hj, if_neg hkj] at this
  · intro h j hj
    have hRx : p ∣ rd r R x := by have := h k hk; rwa [hMk] at this
    by_cases hkj : k < j
    · exact (dvd_congr (hrow j hj hkj)).2 (Int.dvd_add (h j hj) (Int.dvd_mul_of_dvd_right hRx))
    · rw [hy j hj, if_neg hkj]; exact h j hj
theorem clear_tri (ht : Tri r k M) : Tri r (k + 1) y := by
  have hp := isP_le hP
  have hRk := (hMk ▸ hM.row hk : Vec p r R)
  have e4 := hRk.get hk
  obtain ⟨i1, i2, i3⟩ := inv_facts (a := gI R k) hP (by omega) e4.2
  intro j hj
  by_cases hjk : j < k
  · obtain ⟨t1, t2⟩ := ht j hjk
    refine ⟨by rw [hy j (by omega), if_neg (by omega)]; exact t1, fun i hi hir => ?_⟩
    rw [hy i hir]
    split
    · unfold clp
      have hRj : gI R j = 0 := by rw [← hMk]; exact t2 k hjk hk
      exact plusv_zero_at (by omega) (t2 i hi hir) hRj
    · exact t2 i hi hir
  · have hjk' : j = k := by omega
    subst hjk'
    refine ⟨by rw [hy j hk, if_neg (by omega), hMk]; exact hR, fun i hi hir => ?_⟩
    rw [hy i hir, if_pos hi]
    unfold clp
    rw [plusv_at hk]
    generalize gI (gR M i) j = e
    generalize gI R j = a at i3
    generalize invp p a = v at i3
    have h1 : (p - e) * v % p * a % p = (p - e) % p := by
      rw [mul_mod_l (emm _ _), Int.mul_assoc, Int.mul_comm v, Int.mul_emod, i3, Int.mul_one, emm]
    rw [Int.add_emod, h1, ← Int.add_emod]
    have : e + (p - e) = p := by omega
    rw [this, Int.emod_self]
end
theorem swap_row {p : Int} {r x k : Nat} {M : List (List Int)} (hM : Mat p r r M) (hx : x < r) (hk : k < r) (i : Nat) : gR ((M.set x (gR M k)).set k (gR M x)) i = if i = k then gR M x else if i = x then gR M k else gR M i := by
  have := hM.1
  rw [gR_set (by rw [List.length_set]; omega), gR_set (by omega)]
  by_cases h : i = k
  · rw [if_pos h.symm, if_pos h]
  · rw [if_neg (fun e => h e.symm), if_neg h]
    by_cases h2 : i = x
    · rw [if_pos h2.symm, if_pos h2]
    · rw [if_neg (fun e => h2 e.symm), if_neg h2]
theorem swap_ker {p : Int} {r x k : Nat} {M : List (List Int)} (hM : Mat p r r M) (hx : x < r) (hk : k < r) (u : Nat → Int) : KerP p r r ((M.set x (gR M k)).set k (gR M x)) u ↔ KerP p r r M u := by
  constructor
  · intro h i hi
    by_cases h1 : i = k
    · have := h x hx
      rw [swap_row hM hx hk] at this
      by_cases h2 : x = k
      · rw [if_pos h2, h2] at this; rw [h1]; exact this
      · rw [if_neg h2, if_pos rfl] at this; rw [h1]; exact this
    · by_cases h2 : i = x
      · have := h k hk
        rw [swap_row hM hx hk, if_pos rfl] at this
        rw [h2]; exact this
      · have := h i hi
        rw [swap_row hM hx hk, if_neg h1, if_neg h2] at this
        exact this
  · intro h i hi
    rw [swap_row hM hx hk]
    split
    · exact h x hx
    · split
      · exact h k hk
      · exact h i hi
theorem swap_tri {p : Int} {r x k : Nat} {M : List (List Int)} (hM : Mat p r r M) (hx : x < r) (hk : k < r) (hkx : k ≤ x) (ht : Tri r k M) : Tri r k ((M.set x (gR M k)).set k (gR M x)) := by
  intro j hj
  obtain ⟨t1, t2⟩ := ht j hj
  refine ⟨by rw [swap_row hM hx hk, if_neg (by omega), if_neg (by omega)]; exact t1, fun i hi hir => ?_⟩
  rw [swap_row hM hx hk]
  split
  · exact t2 x (by omega) hx
  · split
    · exact t2 k hj hk
    · exact t2 i hi hir

theorem find_eq2 {p : Int} {r c : Nat} {m : List (List Int)} (hm : Mat p r c m) {k s : Nat} (hr : r ≤ 1048576) (hk : k < c) (hs : s ≤ r) :
    ∃ b, loop (findStep m (k : Int)) BIG (s : Int) = some b ∧ ∃ x : Nat, b = (x : Int) ∧ s ≤ x ∧ x ≤ r ∧ (x < r → gI (gR m x) k ≠ 0) ∧ ∀ i, s ≤ i → i < x → gI (gR m i) k = 0 := by
  refine loop_inv (fun t => ∃ x : Nat, t = (x : Int) ∧ s ≤ x ∧ x ≤ r ∧ ∀ i, s ≤ i → i < x → gI (gR m i) k = 0) (fun t => r - t.toNat) _ ⟨s, rfl, by omega, hs, fun i h1 h2 => by omega⟩ (by rw [BIG_val]; omega) ?_
  rintro t ⟨x, rfl, h1, h2, h0⟩
  unfold findStep
  have e1 := hm.1
  by_cases hx : x < r
  · have e2 := (hm.row hx).1
    rw [if_pos (by omega), idxR (by omega), some_bind, idxI (by omega), some_bind, some_bind]
    by_cases hz : gI (gR m x) k = 0
    · simp only [hz, ieq_self, if_true]
      refine .inl ⟨_, rfl, ⟨x + 1, ?_, by omega, by omega, fun i i1 i2 => by
        rcases Nat.lt_succ_iff_lt_or_eq.1 i2 with h | h
        · exact h0 i i1 h
        · rw [h]; exact hz⟩, ?_⟩
      · rw [w_in (by omega) (by omega)]; rfl
      · rw [w_in (by omega) (by omega)]; omega
    · have : ieq (gI (gR m x) k) 0 = false := by simp [ieq, hz]
      rw [this]
      exact .inr ⟨_, rfl, x, rfl, h1, h2, fun _ => hz, h0⟩
  · rw [if_neg (by omega), some_bind]
    exact .inr ⟨_, rfl, x, rfl, h1, h2, fun h => absurd h hx, h0⟩

section
variable {p : Int} {r : Nat} (hP : isP p = true) (hr : r ≤ 1048576)
include hP hr
theorem det_two2 {m v1 : List (List Int)} (hm : Mat p r r m) (hv : v1.length = r) :
    ∃ b, loop (s_l02Det_L0 p) BIG (m, 1, 0) = some b ∧ loop (i_field_determinant_L0 p v1) BIG (m, 1, 0) = some b ∧ (match b with | .inl d => d ≠ 0 ∧ ¬ Sg p r r m | .inr d => d = 0 ∧ Sg p r r m) := by
  have hp := isP_le hP
  generalize hM0 : m = M0
  rw [hM0] at hm
  refine loop_two (fun s => Mat p r r s.1 ∧ 0 ≤ s.2.1 ∧ s.2.1 < p ∧ s.2.1 ≠ 0 ∧ (∀ u, KerP p r r s.1 u ↔ KerP p r r M0 u) ∧ ∃ k : Nat, s.2.2 = (k : Int) ∧ k ≤ r ∧ Tri r k s.1) (fun s => r - s.2.2.toNat) _ ⟨hm, (by decide : (0 : Int) ≤ 1), (show (1 : Int) < p by omega), (by decide : (1 : Int) ≠ 0), fun _ => Iff.rfl, 0, rfl, by omega, fun j hj => by omega⟩ (by rw [BIG_val]; simp only []; omega) ?_
  rintro ⟨m, d, t⟩ ⟨hm, hd0, hd1, hdn, hker, k, rfl, hk, htri⟩
  simp only [] at hm hd0 hd1 hdn hker htri
  have e1 := hm.1
  unfold s_l02Det_L0 i_field_determinant_L0
  by_cases hkr : k < r
  · obtain ⟨b, h1, x, rfl, h2, h3, h4, hz⟩ := find_eq2 hm (k := k) (s := k) hr hkr hk
    have l1 : s_l02Det_L1 (m, d, (k : Int)) = findStep m (k : Int) := rfl
    have l2 : i_field_determinant_L1 (m, d, (k : Int)) = findStep m (k : Int) := rfl
    have c1 : (k : Int) < (m.length : Int) := by omega
    have c2 : (k : Int) < (v1.length : Int) := by omega
    by_cases hx : x = r
    · refine .inr ?_
      have hx' : (x : Int) = (m.length : Int) := by omega
      simp only [c1, c2, if_true, l1, l2, h1, some_bind, hx']
      obtain ⟨u, u1, u2⟩ := tri_stuck hP hm htri hkr fun i hi1 hi2 => hz i hi1 (by omega)
      exact ⟨_, rfl, rfl, rfl, u, u1, (hker u).1 u2⟩
    refine .inl ?_
    have hx' : ¬ (x : Int) = (m.length : Int) := by omega
    have hxr : x < r := by omega
    have hne := h4 hxr
    have e3 := (hm.row hxr).1
    have e4 := (hm.row hxr).get hkr
    obtain ⟨i1, i2, i3⟩ := inv_facts (a := gI (gR m x) k) hP (by omega) e4.2
    have f1 := s_l01Inv_eq (a := gI (gR m x) k) hP (by omega) e4.2
    by_cases hxk : x = k
    · have c3 : ¬ (k : Int) < (x : Int) := by omega
      have c4 : (x : Int) = (k : Int) := by omega
      have hM : Mat p r r m := hm
      have hMk : gR m k = gR m x := by rw [hxk]
      have e5 := hM.1
      obtain ⟨y, y1, y2, y3, y4⟩ := det_clear2 (p := p) (r := r) (M := m) (m0 := m) (R := gR m x) (k := k) (d0 := d) hP hr hkr hM hMk hne
      have q := mul_abs (a := d) (b := gI (gR m x) k) (A := 13) (B := 13) (by omega) (by omega)
      have q0 := Int.mul_nonneg (a := d) (b := gI (gR m x) k) (by omega) (by omega)
      have w3 : w64 (d * gI (gR m x) k) = d * gI (gR m x) k := w_in (by omega) (by omega)
      have w4 : (d * gI (gR m x) k).tmod p = d * gI (gR m x) k % p := tmod_nn (by omega)
      have w5 := i_field_num_eq (p := p) (n := d * gI (gR m x) k) (by omega) (by omega) (by omega) (by omega)
      have w6 : w64 ((k : Int) + 1) = ((k + 1 : Nat) : Int) := by rw [w_in (by omega) (by omega)]; rfl
      have hn := mod_num (a := d * gI (gR m x) k) (p := p) (by omega)
      simp only [c1, c2, if_true, l1, l2, h1, some_bind, hx', if_false, c3, not_true_eq_false, show ((x : Int) = (k : Int)) = True from eq_true c4, idxR (show k < m.length by omega), hMk, idxI (show k < (gR m x).length by omega), chk_bind (show ¬ p = 0 by omega), f1, w3, w4, w5, w6, y1, y2]
      exact ⟨_, rfl, rfl, ⟨y3, hn.1, hn.2, (fun e => ((mul_zero_mod hP ⟨hd0, hd1⟩ e4).1 e).elim hdn hne), fun u => (clear_ker hP hkr hM hMk hne y4 u).trans (hker u), k + 1, rfl, by omega, clear_tri hP hkr hM hMk hne y4 htri⟩, by simp only [Int.toNat_natCast]; omega⟩
    · have c3 : (k : Int) < (x : Int) := by omega
      have c4 : ¬ (x : Int) = (k : Int) := by omega
      have g2 : (m.set k (gR m x)).set x (gR m k) = (m.set x (gR m k)).set k (gR m x) := List.set_comm _ _ (fun h => hxk h.symm)
      have hn0 := mod_num (a := p - d) (p := p) (by omega)
      have hdn2 : (p - d) % p ≠ 0 := by
        rw [Int.emod_eq_of_lt (show 0 ≤ p - d by omega) (by omega)]; omega
      have w7 : w64 (p - d) = p - d := w_in (by omega) (by omega)
      have w8 : w64 (0 - d) = 0 - d := w_in (by omega) (by omega)
      have w9 : (p - d).tmod p = (p - d) % p := tmod_nn (by omega)
      have w10 : i_field_num p (0 - d) = some ((p - d) % p) := by
        rw [i_field_num_eq (by omega) (by omega) (by omega) (by omega)]
        have : p - d = 0 - d + p := by omega
        rw [this, Int.add_emod_right]
      have hM : Mat p r r ((m.set x (gR m k)).set k (gR m x)) := (hm.set hxr (hm.row hkr)).set hkr (hm.row hxr)
      have hMk : gR ((m.set x (gR m k)).set k (gR m x)) k = gR m x := by rw [gR_set (by rw [List.length_set]; omega), if_pos rfl]
      have e5 := hM.1
      obtain ⟨y, y1, y2, y3, y4⟩ := det_clear2 (p := p) (r := r) (M := ((m.set x (gR m k)).set k (gR m x))) (m0 := m) (R := gR m x) (k := k) (d0 := d) hP hr hkr hM hMk hne
      have q := mul_abs (a := ((p - d) % p)) (b := gI (gR m x) k) (A := 13) (B := 13) (by omega) (by omega)
      have q0 := Int.mul_nonneg (a := ((p - d) % p)) (b := gI (gR m x) k) (by omega) (by omega)
      have w3 : w64 (((p - d) % p) * gI (gR m x) k) = ((p - d) % p) * gI (gR m x) k := w_in (by omega) (by omega)
      have w4 : (((p - d) % p) * gI (gR m x) k).tmod p = ((p - d) % p) * gI (gR m x) k % p := tmod_nn (by omega)
      have w5 := i_field_num_eq (p := p) (n := ((p - d) % p) * gI (gR m x) k) (by omega) (by omega) (by omega) (by omega)
      have w6 : w64 ((k : Int) + 1) = ((k + 1 : Nat) : Int) := by rw [w_in (by omega) (by omega)]; rfl
      have hn := mod_num (a := ((p - d) % p) * gI (gR m x) k) (p := p) (by omega)
      simp only [c1, c2, if_true, l1, l2, h1, some_bind, hx', if_false, c3, c4, not_false_eq_true, idxR (show x < m.length by omega), idxR (show k < m.length by omega), idxR (show x < (m.set k (gR m x)).length by rw [List.length_set]; omega), idxR (show k < (m.set x (gR m k)).length by rw [List.length_set]; omega), Int.toNat_natCast, g2, w7, w8, w9, w10, idxR (show k < ((m.set x (gR m k)).set k (gR m x)).length by omega), hMk, idxI (show k < (gR m x).length by omega), chk_bind (show ¬ p = 0 by omega), f1, w3, w4, w5, w6, y1, y2]
      exact ⟨_, rfl, rfl, ⟨y3, hn.1, hn.2, (fun e => ((mul_zero_mod hP hn0 e4).1 e).elim hdn2 hne), fun u => ((clear_ker hP hkr hM hMk hne y4 u).trans (swap_ker hm hxr hkr u)).trans (hker u), k + 1, rfl, by omega, clear_tri hP hkr hM hMk hne y4 (swap_tri hm hxr hkr h2 htri)⟩, by simp only [Int.toNat_natCast]; omega⟩
  · refine .inr ?_
    simp only [show ¬ (k : Int) < (m.length : Int) by omega, show ¬ (k : Int) < (v1.length : Int) by omega, if_false]
    refine ⟨_, rfl, rfl, hdn, fun ⟨u, ⟨q, hq1, hq2⟩, hu⟩ => ?_⟩
    have hkk : k = r := by omega
    subst hkk
    exact hq2 (tri_free hP hm htri ((hker u).2 hu) q hq1)
theorem Det_iff {m : List (List Int)} (hm : Mat p r r m) : ∃ d, s_l02Det p m = some d ∧ i_field_determinant p m = some d ∧ (d = 0 ↔ Sg p r r m) := by
  obtain ⟨b, h1, h2, h3⟩ := det_two2 hP hr hm hm.1
  have hz := hm.sz hr hr
  unfold s_l02Det i_field_determinant
  rw [s_l01Own2_eq hz, i_cloneRows_eq hz, some_bind, some_bind, h1, h2, some_bind]
  cases b with
  | inl d => exact ⟨d, rfl, rfl, fun e => absurd e h3.1, fun e => absurd e h3.2⟩
  | inr d => exact ⟨d, rfl, rfl, fun _ => h3.2, fun _ => h3.1⟩
end
end Go.Vam

/- Plain laws: reduced rows, one put to the others at a time. -/
namespace Go.Vam
open Go Go.RowKit
set_option linter.unusedSimpArgs false
set_option linter.unusedVariables false
set_option linter.unusedSectionVars false

theorem s_l12First_lead (v : List Int) : s_l12First v = i_lead v := rfl
/-- Rows with a one of their own, nothing ahead of it, nothing else in its column. -/
structure Ech (p : Int) (n : Nat) (B : List (List Int)) (ld : Nat → Nat) : Prop where
  mat : Mat p B.length n B
  lt : ∀ j, j < B.length → ld j < n
  one : ∀ j, j < B.length → gI (gR B j) (ld j) = 1
  pre : ∀ j, j < B.length → ∀ q, q < ld j → gI (gR B j) q = 0
  col : ∀ j, j < B.length → ∀ i, i < B.length → i ≠ j → gI (gR B i) (ld j) = 0
  srt : ∀ i j, i < j → j < B.length → ld i < ld j
theorem Ech.first {p : Int} {n : Nat} {B : List (List Int)} {ld : Nat → Nat} (h : Ech p n B ld) (hn : n ≤ 1048576) {j : Nat} (hj : j < B.length) : s_l12First (gR B j) = some (ld j : Int) := by
  have e := (h.mat.row hj).1
  obtain ⟨f, f1, _, f3, f4, f5⟩ := first_two (v := gR B j) (q := ld j) (by omega) (by have := h.lt j hj; omega) (by rw [h.one j hj]; omega)
  have : f = ld j := by
    rcases Nat.lt_or_ge f (ld j) with hlt | hge
    · exact absurd (h.pre j hj f hlt) f4
    · omega
  rw [s_l12First_lead, f3, this]
section
variable {p : Int} {n : Nat} {B : List (List Int)} {ld : Nat → Nat} (hp : 3 ≤ p) (hp2 : p ≤ 13) (hn : n ≤ 1048576) (hB : Ech p n B ld) (hBl : B.length ≤ 1048576)
include hp hp2 hn hB hBl
theorem s_l12Rest_eq {x : List Int} (hx : Vec p n x) : ∃ y, s_l12Rest p B x = some y ∧ Vec p n y ∧ (∀ j, j < B.length → gI y (ld j) = 0) ∧ ∀ u, (∀ j, j < B.length → p ∣ rd n (gR B j) u) → (p ∣ rd n y u ↔ p ∣ rd n x u) := by
  unfold s_l12Rest
  have e1 := hx.1
  rw [s_l01Own_eq (by omega), some_bind]
  obtain ⟨y, h1, h2⟩ := loop_inv (step := s_l12Rest_L0 p B) (fun s => Vec p n s.1 ∧ ∃ k : Nat, s.2 = (k : Int) ∧ k ≤ B.length ∧ (∀ j, j < k → gI s.1 (ld j) = 0) ∧ ∀ u, (∀ j, j < B.length → p ∣ rd n (gR B j) u) → (p ∣ rd n s.1 u ↔ p ∣ rd n x u)) (fun s => B.length - s.2.toNat)
    (fun y => Vec p n y ∧ (∀ j, j < B.length → gI y (ld j) = 0) ∧ ∀ u, (∀ j, j < B.length → p ∣ rd n (gR B j) u) → (p ∣ rd n y u ↔ p ∣ rd n x u)) (s := (x, 0)) ⟨hx, 0, rfl, by omega, fun j hj => by omega, fun u _ => Iff.rfl⟩ (by rw [BIG_val]; simp only []; omega) (by
      rintro ⟨v, t⟩ ⟨hv, k, rfl, hk, hz, hu⟩
      simp only [] at hv hz hu
      unfold s_l12Rest_L0
      have e2 := hv.1
      by_cases hkb : k < B.length
      · refine .inl ?_
        have hl := hB.lt k hkb
        have hc := hv.get hl
        simp only [lt_cast hkb, if_true, idxR hkb, some_bind, hB.first hn hkb, idxI (show ld k < v.length by omega)]
        by_cases h0 : gI v (ld k) = 0
        · simp only [h0, not_true_eq_false, if_false, some_bind]
          refine ⟨_, rfl, ⟨hv, k + 1, by rw [w_in (by omega) (by omega)]; rfl, by omega, fun j hj => ?_, hu⟩, ?_⟩
          · rcases Nat.lt_succ_iff_lt_or_eq.1 hj with h | h
            · exact hz j h
            · rw [h]; exact h0
          · rw [w_in (by omega) (by omega)]; simp only []; omega
        · have sc := s_l11Scale_eq hp hp2 hn hc.1 (by omega) (hB.mat.row hkb)
          have mi := s_l11Minus_eq hp hp2 hn hv (scalev_vec (p := p) (by omega) n (gR B k) (gI v (ld k)))
          simp only [h0, not_false_eq_true, if_true, sc, mi, some_bind, plusv_scalev2]
          refine ⟨_, rfl, ⟨plusv_vec (by omega) .., k + 1, by rw [w_in (by omega) (by omega)]; rfl, by omega, fun j hj => ?_, fun u hB' => ?_⟩, ?_⟩
          · rw [plusv_at (hB.lt j (by omega))]
            rcases Nat.lt_succ_iff_lt_or_eq.1 hj with h | h
            · rw [hz j h, hB.col j (by omega) k hkb (by omega), Int.mul_zero, Int.add_zero]; rfl
            · rw [h, hB.one k hkb, Int.mul_one]
              have : gI v (ld k) + gI v (ld k) * -1 = 0 := by omega
              rw [this]; rfl
          · refine Iff.trans ?_ (hu u hB')
            rw [dvd_congr (rd_plusv u)]
            exact Int.dvd_add_left (Int.dvd_mul_of_dvd_right (hB' k hkb))
          · rw [w_in (by omega) (by omega)]; simp only []; omega
      · have hkk : k = B.length := by omega
        subst hkk
        refine .inr ⟨v, ?_, hv, hz, hu⟩
        simp only [lt_cast_self, if_false])
  rw [h1, some_bind]
  exact ⟨y, rfl, h2⟩
end

/-- A row less what it has at f. -/
def lessv (p : Int) (n f : Nat) (R v : List Int) : List Int := plusv p n v R (gI v f * -1)
section
variable {p : Int} {n f : Nat} {B : List (List Int)} {R : List Int} {ld : Nat → Nat} (hp : 3 ≤ p) (hp2 : p ≤ 13) (hn : n ≤ 1048576) (hB : Ech p n B ld) (hBl : B.length ≤ 1048575) (hR : Vec p n R) (hf : f < n)
include hp hp2 hn hB hBl hR hf
theorem put_loop : ∃ o : List (List Int) × Bool, loop (s_l12Put_L0 p B (f : Int) R) BIG ([], false, 0) = some o ∧
    ((o.2 = false ∧ o.1.length = B.length ∧ (∀ j, j < B.length → ¬ f < ld j) ∧ ∀ j, j < B.length → gR o.1 j = lessv p n f R (gR B j)) ∨
     (o.2 = true ∧ o.1.length = B.length + 1 ∧ ∃ pos, pos < B.length ∧ (∀ j, j < pos → ¬ f < ld j) ∧ f < ld pos ∧ ∀ j, j < B.length + 1 → gR o.1 j = if j < pos then lessv p n f R (gR B j) else if j = pos then R else lessv p n f R (gR B (j - 1)))) := by
  have ap : ∀ (o : List (List Int)) (v : List Int) (j : Nat), gR (o ++ [v]) j = if j < o.length then gR o j else if j = o.length then v else [] := by
    intro o v j
    unfold gR
    rw [List.getD_eq_getElem?_getD, List.getElem?_append]
    by_cases h : j < o.length
    · rw [if_pos h, if_pos h, List.getD_eq_getElem?_getD]
    · rw [if_neg h, if_neg h]
      by_cases h2 : j = o.length
      · rw [if_pos h2, h2, Nat.sub_self]; rfl
      · rw [if_neg h2, List.getElem?_eq_none (by simp; omega)]; rfl
  refine loop_inv (step := s_l12Put_L0 p B (f : Int) R) (fun s => ∃ k : Nat, s.2.2 = (k : Int) ∧ k ≤ B.length ∧
      ((s.2.1 = false ∧ s.1.length = k ∧ (∀ j, j < k → ¬ f < ld j) ∧ ∀ j, j < k → gR s.1 j = lessv p n f R (gR B j)) ∨
       (s.2.1 = true ∧ s.1.length = k + 1 ∧ ∃ pos, pos < k ∧ (∀ j, j < pos → ¬ f < ld j) ∧ f < ld pos ∧ ∀ j, j < k + 1 → gR s.1 j = if j < pos then lessv p n f R (gR B j) else if j = pos then R else lessv p n f R (gR B (j - 1))))) (fun s => B.length - s.2.2.toNat) _ (s := ([], false, 0)) ⟨0, rfl, by omega, .inl ⟨rfl, rfl, fun j hj => by omega, fun j hj => by omega⟩⟩ (by rw [BIG_val]; simp only []; omega) ?_
  rintro ⟨o, b, t⟩ ⟨k, rfl, hk, hs⟩
  simp only [] at hs
  unfold s_l12Put_L0
  by_cases hkb : k < B.length
  · refine .inl ?_
    have e1 := (hB.mat.row hkb).1
    have hc := (hB.mat.row hkb).get hf
    have sc := s_l11Scale_eq hp hp2 hn hc.1 (by omega) hR
    have mi := s_l11Minus_eq hp hp2 hn (hB.mat.row hkb) (scalev_vec (p := p) (by omega) n R (gI (gR B k) f))
    have w1 : w64 ((k : Int) + 1) = ((k + 1 : Nat) : Int) := by rw [w_in (by omega) (by omega)]; rfl
    have hol : o.length ≤ k + 1 := by rcases hs with h | h <;> omega
    have ht : (scalev p n R (gI (gR B k) f)).length = n := (scalev_vec (p := p) (by omega) n R (gI (gR B k) f)).1
    simp only [lt_cast hkb, if_true, idxR hkb, some_bind, hB.first hn hkb, idxI (show f < (gR B k).length by omega), sc, mi, plusv_scalev2, w1]
    rcases hs with ⟨rfl, hl, hng, hg⟩ | ⟨rfl, hl, pos, hpos, hng, hpf, hg⟩
    · simp only [if_true, some_bind]
      by_cases hlt : f < ld k
      · rw [ilt_true (Int.ofNat_lt.2 hlt)]
        simp only [if_true]
        rw [chk_bind (by simp only [List.length_cons, List.length_nil]; omega), some_bind, chk_bind (by simp only [List.length_cons, List.length_nil, List.length_append]; omega)]
        refine ⟨_, rfl, ⟨k + 1, rfl, by omega, .inr ⟨rfl, by simp [hl], k, by omega, hng, hlt, fun j hj => ?_⟩⟩, by simp only [Int.toNat_natCast]; omega⟩
        simp only []
        rw [ap, ap, List.length_append, hl, List.length_singleton]
        by_cases h1 : j < k
        · rw [if_pos (by omega), if_pos h1, if_pos h1, hg j h1]
        · by_cases h2 : j = k
          · rw [if_pos (by omega), if_neg h1, if_pos h2, if_neg h1, if_pos h2]
          · rw [if_neg (by omega), if_pos (by omega), if_neg h1, if_neg h2, show j - 1 = k by omega]; rfl
      · rw [ilt_false (fun e => hlt (Int.ofNat_lt.1 e))]
        simp only [Bool.false_eq_true, if_false, some_bind]
        rw [chk_bind (by simp only [List.length_cons, List.length_nil]; omega)]
        refine ⟨_, rfl, ⟨k + 1, rfl, by omega, .inl ⟨rfl, by simp [hl], (fun j hj => (Nat.lt_succ_iff_lt_or_eq.1 hj).elim (hng j) (fun e => e ▸ hlt)), fun j hj => ?_⟩⟩, by simp only [Int.toNat_natCast]; omega⟩
        simp only []
        rw [ap, hl]
        by_cases h1 : j < k
        · rw [if_pos h1, hg j h1]
        · rw [if_neg h1, if_pos (by omega), show j = k by omega]; rfl
    · simp only [Bool.true_eq_false, if_false, some_bind, Bool.false_eq_true]
      rw [chk_bind (by simp only [List.length_cons, List.length_nil]; omega)]
      refine ⟨_, rfl, ⟨k + 1, rfl, by omega, .inr ⟨rfl, by simp [hl], pos, by omega, hng, hpf, fun j hj => ?_⟩⟩, by simp only [Int.toNat_natCast]; omega⟩
      simp only []
      rw [ap, hl]
      by_cases h1 : j < k + 1
      · rw [if_pos h1, hg j h1]
      · rw [if_neg h1, if_pos (by omega), if_neg (by omega), if_neg (by omega), show j - 1 = k by omega]; rfl
  · have hkk : k = B.length := by omega
    subst hkk
    refine .inr ⟨(o, b), ?_, hs⟩
    simp only [lt_cast_self, if_false]
end
end Go.Vam

/- Plain laws: reduced rows in order; they are told by what they send to nothing. -/
namespace Go.Vam
open Go Go.RowKit
set_option linter.unusedSimpArgs false
set_option linter.unusedVariables false
set_option linter.unusedSectionVars false

theorem mod_dvd {p a b : Int} : a % p = b % p ↔ p ∣ a - b := by
  rw [Int.emod_eq_emod_iff_emod_sub_eq_zero, Int.dvd_iff_emod_eq_zero]
theorem num_eq {p a b : Int} (ha : 0 ≤ a ∧ a < p) (hb : 0 ≤ b ∧ b < p) (h : p ∣ a - b) : a = b := by
  have := mod_dvd.2 h
  rwa [mod_small ha.1 ha.2, mod_small hb.1 hb.2] at this
def Kr (p : Int) (n : Nat) (B : List (List Int)) (u : Nat → Int) : Prop := ∀ j, j < B.length → p ∣ rd n (gR B j) u
theorem lessv_at {p : Int} {n f q : Nat} {R v : List Int} (hq : q < n) : gI (lessv p n f R v) q = (gI v q + (gI v f * -1) * gI R q) % p := plusv_at hq
theorem lessv_vec {p : Int} (hp : 0 < p) (n f : Nat) (R v : List Int) : Vec p n (lessv p n f R v) := plusv_vec hp ..
theorem lessv_idle {p : Int} {n f q : Nat} {R v : List Int} (hv : Vec p n v) (hq : q < n) (h : gI R q = 0 ∨ gI v f = 0) : gI (lessv p n f R v) q = gI v q := by
  rw [lessv_at hq]
  have e := hv.get hq
  have : gI v f * -1 * gI R q = 0 := by rcases h with h | h <;> rw [h] <;> simp
  rw [this, Int.add_zero, mod_small e.1 e.2]
/-- Rows with one row more at pos, cleared of what they had at its lead. -/
theorem Ech.put {p : Int} {n f pos : Nat} {B B' : List (List Int)} {R : List Int} {ld : Nat → Nat} (hp : 1 < p) (hB : Ech p n B ld) (hR : Vec p n R) (hf : f < n)
    (hR1 : gI R f = 1) (hRp : ∀ q, q < f → gI R q = 0) (hRl : ∀ j, j < B.length → gI R (ld j) = 0)
    (hpos : pos ≤ B.length) (hlo : ∀ j, j < pos → ld j < f) (hhi : ∀ j, pos ≤ j → j < B.length → f < ld j)
    (hl : B'.length = B.length + 1) (hg : ∀ j, j < B.length + 1 → gR B' j = if j < pos then lessv p n f R (gR B j) else if j = pos then R else lessv p n f R (gR B (j - 1))) :
    Ech p n B' (fun j => if j < pos then ld j else if j = pos then f else ld (j - 1)) ∧ ∀ u, Kr p n B' u ↔ Kr p n B u ∧ p ∣ rd n R u := by
  have hne : ∀ j, j < B.length → ld j ≠ f := by
    intro j hj
    by_cases h : j < pos
    · have := hlo j h; omega
    · have := hhi j (by omega) hj; omega
  have l1 : ∀ j, j < B.length → gI (lessv p n f R (gR B j)) (ld j) = 1 := by
    intro j hj
    rw [lessv_idle (hB.mat.row hj) (hB.lt j hj) (.inl (hRl j hj))]; exact hB.one j hj
  have l2 : ∀ j, j < B.length → ∀ i, i < B.length → i ≠ j → gI (lessv p n f R (gR B i)) (ld j) = 0 := by
    intro j hj i hi hij
    rw [lessv_idle (hB.mat.row hi) (hB.lt j hj) (.inl (hRl j hj))]; exact hB.col j hj i hi hij
  have l3 : ∀ j, j < B.length → ∀ q, q < ld j → gI (lessv p n f R (gR B j)) q = 0 := by
    intro j hj q hq
    have hln := hB.lt j hj
    by_cases h : f < ld j
    · rw [lessv_idle (hB.mat.row hj) (by omega) (.inr (hB.pre j hj f h))]; exact hB.pre j hj q hq
    · rw [lessv_idle (hB.mat.row hj) (by omega) (.inl (hRp q (by omega)))]; exact hB.pre j hj q hq
  have l4 : ∀ j, j < B.length → gI (lessv p n f R (gR B j)) f = 0 := by
    intro j hj
    rw [lessv_at hf, hR1]
    have : gI (gR B j) f + gI (gR B j) f * -1 * 1 = 0 := by omega
    rw [this]; rfl
  have l5 : ∀ j u, p ∣ rd n R u → (p ∣ rd n (lessv p n f R (gR B j)) u ↔ p ∣ rd n (gR B j) u) := by
    intro j u hu
    unfold lessv
    rw [dvd_congr (rd_plusv u)]
    exact Int.dvd_add_left (Int.dvd_mul_of_dvd_right hu)
  constructor
  · constructor
    · refine ⟨by omega, fun j hj => ?_⟩
      show Vec p n (gR B' j)
      rw [hg j (by omega)]
      split
      · exact lessv_vec (by omega) ..
      · split
        · exact hR
        · exact lessv_vec (by omega) ..
    · intro j hj
      try simp only []
      split
      · exact hB.lt j (by omega)
      · split
        · exact hf
        · exact hB.lt (j - 1) (by omega)
    · intro j hj
      try simp only []
      rw [hg j (by omega)]
      by_cases h1 : j < pos
      · simp only [h1, if_true]; exact l1 j (by omega)
      · by_cases h2 : j = pos
        · simp only [h1, h2, if_false, if_true, Nat.lt_irrefl]; exact hR1
        · simp only [h1, h2, if_false]; exact l1 (j - 1) (by omega)
    · intro j hj q hq
      try simp only [] at hq
      rw [hg j (by omega)]
      by_cases h1 : j < pos
      · simp only [h1, if_true] at hq ⊢; exact l3 j (by omega) q hq
      · by_cases h2 : j = pos
        · simp only [h1, h2, if_false, if_true, Nat.lt_irrefl] at hq ⊢; exact hRp q hq
        · simp only [h1, h2, if_false] at hq ⊢; exact l3 (j - 1) (by omega) q hq
    · intro j hj i hi hij
      try simp only []
      rw [hg i (by omega)]
      by_cases h1 : j < pos
      · rw [if_pos h1]
        by_cases g1 : i < pos
        · rw [if_pos g1]; exact l2 j (by omega) i (by omega) hij
        · rw [if_neg g1]
          by_cases g2 : i = pos
          · rw [if_pos g2]; exact hRl j (by omega)
          · rw [if_neg g2]; exact l2 j (by omega) (i - 1) (by omega) (by omega)
      · rw [if_neg h1]
        by_cases h2 : j = pos
        · rw [if_pos h2]
          by_cases g1 : i < pos
          · rw [if_pos g1]; exact l4 i (by omega)
          · rw [if_neg g1, if_neg (by omega)]; exact l4 (i - 1) (by omega)
        · rw [if_neg h2]
          by_cases g1 : i < pos
          · rw [if_pos g1]; exact l2 (j - 1) (by omega) i (by omega) (by omega)
          · rw [if_neg g1]
            by_cases g2 : i = pos
            · rw [if_pos g2]; exact hRl (j - 1) (by omega)
            · rw [if_neg g2]; exact l2 (j - 1) (by omega) (i - 1) (by omega) (by omega)
    · intro i j hij hj
      try simp only []
      by_cases h1 : j < pos
      · rw [if_pos h1, if_pos (by omega)]; exact hB.srt i j hij (by omega)
      · by_cases h2 : j = pos
        · rw [if_neg h1, if_pos h2, if_pos (by omega)]; exact hlo i (by omega)
        · rw [if_neg h1, if_neg h2]
          by_cases g1 : i < pos
          · rw [if_pos g1]; exact hB.srt i (j - 1) (by omega) (by omega)
          · rw [if_neg g1]
            by_cases g2 : i = pos
            · rw [if_pos g2]; exact hhi (j - 1) (by omega) (by omega)
            · rw [if_neg g2]; exact hB.srt (i - 1) (j - 1) (by omega) (by omega)
  · intro u
    constructor
    · intro h
      have hRu : p ∣ rd n R u := by
        have := h pos (by omega)
        rwa [hg pos (by omega), if_neg (by omega), if_pos rfl] at this
      refine ⟨fun j hj => ?_, hRu⟩
      by_cases h1 : j < pos
      · have := h j (by omega)
        rw [hg j (by omega), if_pos h1] at this
        exact (l5 j u hRu).1 this
      · have := h (j + 1) (by omega)
        rw [hg (j + 1) (by omega), if_neg (by omega), if_neg (by omega)] at this
        exact (l5 j u hRu).1 this
    · intro ⟨h, hRu⟩ j hj
      rw [hg j (by omega)]
      split
      · exact (l5 j u hRu).2 (h j (by omega))
      · split
        · exact hRu
        · exact (l5 (j - 1) u hRu).2 (h (j - 1) (by omega))

/-- Leads rise: the j-th stands at j or behind. -/
theorem Ech.ge {p : Int} {n : Nat} {B : List (List Int)} {ld : Nat → Nat} (h : Ech p n B ld) : ∀ j, j < B.length → j ≤ ld j := by
  intro j
  induction j with
  | zero => intro _; omega
  | succ j ih =>
    intro hj
    have h1 := ih (by omega)
    have h2 := h.srt j (j + 1) (by omega) hj
    omega
theorem Ech.le {p : Int} {n : Nat} {B : List (List Int)} {ld : Nat → Nat} (h : Ech p n B ld) : B.length ≤ n := by
  by_cases h0 : B.length = 0
  · omega
  · have h1 := h.ge (B.length - 1) (by omega)
    have h2 := h.lt (B.length - 1) (by omega)
    omega
def isLd (k : Nat) (ld : Nat → Nat) (q : Nat) : Bool := (List.range k).any fun j => decide (ld j = q)
theorem isLd_iff {k : Nat} {ld : Nat → Nat} {q : Nat} : isLd k ld q = true ↔ ∃ j, j < k ∧ ld j = q := by
  unfold isLd
  simp only [List.any_eq_true, List.mem_range, decide_eq_true_eq]
theorem isLd_not {k : Nat} {ld : Nat → Nat} {q : Nat} (h : isLd k ld q = false) {j : Nat} (hj : j < k) : ld j ≠ q := by
  intro e
  have := isLd_iff.2 ⟨j, hj, e⟩
  rw [h] at this; exact Bool.noConfusion this
/-- The row that a lead's place belongs to. -/
def rowOf (ld : Nat → Nat) (q : Nat) : Nat → Nat
  | 0 => 0
  | k + 1 => if ld k = q then k else rowOf ld q k
theorem rowOf_spec {ld : Nat → Nat} {q : Nat} : ∀ {k : Nat}, (∃ j, j < k ∧ ld j = q) → rowOf ld q k < k ∧ ld (rowOf ld q k) = q
  | 0, ⟨j, h, _⟩ => by omega
  | k + 1, ⟨j, h, e⟩ => by
    unfold rowOf
    by_cases hk : ld k = q
    · rw [if_pos hk]; exact ⟨by omega, hk⟩
    · rw [if_neg hk]
      have hj : j < k := by
        rcases Nat.lt_succ_iff_lt_or_eq.1 h with h | h
        · exact h
        · rw [h] at e; exact absurd e hk
      have := rowOf_spec ⟨j, hj, e⟩
      exact ⟨by omega, this.2⟩
theorem Ech.inj {p : Int} {n : Nat} {B : List (List Int)} {ld : Nat → Nat} (h : Ech p n B ld) {i j : Nat} (hi : i < B.length) (hj : j < B.length) (e : ld i = ld j) : i = j := by
  rcases Nat.lt_trichotomy i j with h1 | h1 | h1
  · have := h.srt i j h1 hj; omega
  · exact h1
  · have := h.srt j i h1 hi; omega
/-- What a place f without a lead gives: 1 at f, and at each lead what its row needs. -/
def freeF (B : List (List Int)) (ld : Nat → Nat) (f : Nat) (q : Nat) : Int :=
  if q = f then 1 else if isLd B.length ld q = true then - gI (gR B (rowOf ld q B.length)) f else 0
theorem freeF_lead {p : Int} {n f j : Nat} {B : List (List Int)} {ld : Nat → Nat} (h : Ech p n B ld) (hf : isLd B.length ld f = false) (hj : j < B.length) : freeF B ld f (ld j) = - gI (gR B j) f := by
  unfold freeF
  have e : isLd B.length ld (ld j) = true := isLd_iff.2 ⟨j, hj, rfl⟩
  rw [if_neg (isLd_not hf hj), if_pos e]
  obtain ⟨h1, h2⟩ := rowOf_spec (isLd_iff.1 e)
  rw [h.inj h1 hj h2]
theorem freeF_other {f q : Nat} {B : List (List Int)} {ld : Nat → Nat} (hq : isLd B.length ld q = false) (hne : q ≠ f) : freeF B ld f q = 0 := by
  unfold freeF
  rw [if_neg hne, hq]; rfl
theorem sumN_two {f : Nat → Int} {n i k : Nat} (hi : i < n) (hk : k < n) (hne : i ≠ k) (h : ∀ q, q < n → q ≠ i → q ≠ k → f q = 0) : sumN f n = f i + f k := by
  have e : sumN f n = sumN (fun q => if q = i then f i else if q = i then 0 else f q) n := sumN_congr fun q _ => by
    by_cases h : q = i
    · rw [if_pos h, h]
    · rw [if_neg h, if_neg h]
  have e2 : sumN (fun q => if q = i then 0 else f q) n = f k := by
    rw [sumN_one hk (fun q hq hqk => by
      try simp only []
      by_cases h1 : q = i
      · rw [if_pos h1]
      · rw [if_neg h1]; exact h q hq h1 hqk)]
    rw [if_neg (by omega)]
  have e3 := sumN_upd (fun q => if q = i then 0 else f q) i (f i) n hi (by simp)
  have e4 : sumN f n = sumN (fun q => if q = i then f i else (fun q => if q = i then 0 else f q) q) n := e
  rw [e4, e3, e2]; omega
theorem freeF_ker {p : Int} {n f : Nat} {B : List (List Int)} {ld : Nat → Nat} (h : Ech p n B ld) (hf : isLd B.length ld f = false) (hfn : f < n) : Kr p n B (freeF B ld f) := by
  intro j hj
  have : rd n (gR B j) (freeF B ld f) = 0 := by
    unfold rd
    rw [sumN_two (i := ld j) (k := f) (h.lt j hj) hfn (isLd_not hf hj) (fun q hq h1 h2 => ?_)]
    · rw [freeF_lead h hf hj, h.one j hj]
      have : freeF B ld f f = 1 := by unfold freeF; rw [if_pos rfl]
      rw [this]; omega
    · try simp only []
      cases e : isLd B.length ld q with
      | false => rw [freeF_other e h2, Int.mul_zero]
      | true =>
        obtain ⟨i, hi, he⟩ := isLd_iff.1 e
        rw [← he, h.col i hi j hj (fun e2 => h1 (by rw [← he, e2])), Int.zero_mul]
  rw [this]; exact Int.dvd_zero p
theorem rd_tail {p : Int} {n f : Nat} {v : List Int} {u : Nat → Int} (hf : f < n) (hpre : ∀ q, q < f → gI v q = 0) (h1 : gI v f = 1) (hu : ∀ q, f < q → q < n → u q = 0) : rd n v u = u f := by
  unfold rd
  rw [sumN_one hf (fun q hq hqf => ?_)]
  · rw [h1, Int.one_mul]
  · by_cases h : q < f
    · rw [hpre q h, Int.zero_mul]
    · rw [hu q (by omega) hq, Int.mul_zero]
/-- A place has no lead just where something is sent to nothing that ends there. -/
theorem Ech.free_iff {p : Int} {n f : Nat} {B : List (List Int)} {ld : Nat → Nat} (hp : 1 < p) (h : Ech p n B ld) (hf : f < n) : isLd B.length ld f = false ↔ ∃ u : Nat → Int, u f = 1 ∧ (∀ q, f < q → q < n → u q = 0) ∧ Kr p n B u := by
  constructor
  · intro e
    refine ⟨freeF B ld f, by unfold freeF; rw [if_pos rfl], fun q hq hqn => ?_, freeF_ker h e hf⟩
    cases e2 : isLd B.length ld q with
    | false => exact freeF_other e2 (by omega)
    | true =>
      obtain ⟨i, hi, he⟩ := isLd_iff.1 e2
      rw [← he, freeF_lead h e hi, h.pre i hi f (by omega)]; rfl
  · intro ⟨u, u1, u2, u3⟩
    cases e : isLd B.length ld f with
    | false => rfl
    | true =>
      obtain ⟨i, hi, he⟩ := isLd_iff.1 e
      have h1 := u3 i hi
      subst he
      rw [rd_tail (p := p) hf (h.pre i hi) (h.one i hi) u2, u1, Int.dvd_iff_emod_eq_zero, Int.emod_eq_of_lt (by omega) (by omega)] at h1
      omega
theorem rises_unique {a b : Nat → Nat} {k l : Nat} (ha : ∀ i j, i < j → j < k → a i < a j) (hb : ∀ i j, i < j → j < l → b i < b j) (hab : ∀ j, j < k → ∃ i, i < l ∧ b i = a j) (hba : ∀ j, j < l → ∃ i, i < k ∧ a i = b j) : k = l ∧ ∀ j, j < k → a j = b j := by
  have key : ∀ j, j < k → j < l → a j = b j := by
    intro j
    induction j using Nat.strongRecOn with
    | ind j ih =>
      intro hk hl
      obtain ⟨i, hi, e⟩ := hab j hk
      obtain ⟨i', hi', e'⟩ := hba j hl
      have h1 : j ≤ i := by
        rcases Nat.lt_or_ge i j with h | h
        · have := ih i h (by omega) hi
          have := ha i j h hk
          omega
        · exact h
      have h2 : j ≤ i' := by
        rcases Nat.lt_or_ge i' j with h | h
        · have := ih i' h hi' (by omega)
          have := hb i' j h hl
          omega
        · exact h
      have h3 : b j ≤ b i := by
        rcases Nat.lt_or_ge j i with h | h
        · have := hb j i h hi; omega
        · have : j = i := by omega
          rw [this]; exact Nat.le_refl _
      have h4 : a j ≤ a i' := by
        rcases Nat.lt_or_ge j i' with h | h
        · have := ha j i' h hi'; omega
        · have : j = i' := by omega
          rw [this]; exact Nat.le_refl _
      omega
  have hkl : k = l := by
    rcases Nat.lt_trichotomy k l with h | h | h
    · obtain ⟨i, hi, e⟩ := hba k h
      have := key i hi (by omega)
      have := hb i k hi h
      omega
    · exact h
    · obtain ⟨i, hi, e⟩ := hab l h
      have := key i (by omega) hi
      have := ha i l hi h
      omega
  exact ⟨hkl, fun j hj => key j hj (by omega)⟩
/-- Reduced rows in order are told by what they send to nothing. -/
theorem Ech.unique {p : Int} {n : Nat} {B B' : List (List Int)} {ld ld' : Nat → Nat} (hp : 1 < p) (h : Ech p n B ld) (h' : Ech p n B' ld') (hk : ∀ u, Kr p n B u ↔ Kr p n B' u) : B = B' := by
  have hfr : ∀ f, f < n → isLd B.length ld f = isLd B'.length ld' f := by
    intro f hf
    have h1 := h.free_iff hp hf
    have h2 := h'.free_iff hp hf
    have h3 : isLd B.length ld f = false ↔ isLd B'.length ld' f = false := by
      rw [h1, h2]
      exact ⟨fun ⟨u, a, b, c⟩ => ⟨u, a, b, (hk u).1 c⟩, fun ⟨u, a, b, c⟩ => ⟨u, a, b, (hk u).2 c⟩⟩
    cases e1 : isLd B.length ld f <;> cases e2 : isLd B'.length ld' f <;> simp [e1, e2] at h3 ⊢
  obtain ⟨hl, hld⟩ := rises_unique (a := ld) (b := ld') (k := B.length) (l := B'.length) h.srt h'.srt
    (fun j hj => isLd_iff.1 ((hfr (ld j) (h.lt j hj)) ▸ isLd_iff.2 ⟨j, hj, rfl⟩))
    (fun j hj => isLd_iff.1 ((hfr (ld' j) (h'.lt j hj)).symm ▸ isLd_iff.2 ⟨j, hj, rfl⟩))
  have hrow : ∀ j, j < B.length → gR B j = gR B' j := by
    intro j hj
    have hj' : j < B'.length := by omega
    have a1 := h.mat.row hj
    have a2 := h'.mat.row hj'
    have ext : ∀ q, q < n → gI (gR B j) q = gI (gR B' j) q := by
      intro q hq
      cases e : isLd B.length ld q with
      | true =>
        obtain ⟨i, hi, he⟩ := isLd_iff.1 e
        by_cases hij : i = j
        · subst hij
          rw [← he, h.one i hi, hld i hi, h'.one i hj']
        · rw [← he, h.col i hi j hj (fun e => hij e.symm), hld i hi, h'.col i (by omega) j hj' (fun e => hij e.symm)]
      | false =>
        have hk1 := (hk _).1 (freeF_ker h e hq) j hj'
        have e' : isLd B'.length ld' q = false := by rw [← hfr q hq]; exact e
        have hs : rd n (gR B' j) (freeF B ld q) = gI (gR B' j) q - gI (gR B j) q := by
          unfold rd
          rw [sumN_two (i := ld j) (k := q) (h.lt j hj) hq (isLd_not e hj) (fun r hr h1 h2 => ?_)]
          · rw [freeF_lead h e hj]
            have hqq : freeF B ld q q = 1 := by unfold freeF; rw [if_pos rfl]
            rw [hqq, hld j hj, h'.one j hj']; omega
          · try simp only []
            cases er : isLd B.length ld r with
            | false => rw [freeF_other er h2, Int.mul_zero]
            | true =>
              obtain ⟨i, hi, he⟩ := isLd_iff.1 er
              rw [← he, hld i hi, h'.col i (by omega) j hj' (fun e2 => h1 (by rw [← he, e2])), Int.zero_mul]
        rw [hs] at hk1
        have b1 := a1.get hq
        have b2 := a2.get hq
        exact (num_eq b2 b1 hk1).symm
    rw [extI a1.1 (f := gI (gR B' j)) ext]
    exact (extI a2.1 (f := gI (gR B' j)) (fun q hq => rfl)).symm
  have e1 := extR (m := B) (n := B.length) (f := gR B') rfl hrow
  have e2 := extR (m := B') (n := B.length) (f := gR B') hl.symm (fun k hk => rfl)
  rw [e1]; exact e2.symm
/-- As many rows as places: just where nothing but nothing is sent to nothing. -/
theorem Ech.full_iff {p : Int} {n : Nat} {B : List (List Int)} {ld : Nat → Nat} (hp : 1 < p) (h : Ech p n B ld) : B.length = n ↔ ¬ ∃ u : Nat → Int, (∃ k, k < n ∧ ¬ p ∣ u k) ∧ Kr p n B u := by
  constructor
  · intro hl ⟨u, ⟨k, hk, hn⟩, hu⟩
    have hld : ∀ t j, j + t = n → j < n → ld j = j := by
      intro t
      induction t with
      | zero => intro j h1 h2; omega
      | succ t ih =>
        intro j h1 h2
        have g := h.ge j (by omega)
        by_cases hj : j + 1 < n
        · have := ih (j + 1) (by omega) hj
          have := h.srt j (j + 1) (by omega) (by omega)
          omega
        · have := h.lt j (by omega); omega
    have := hu k (by omega)
    have e : rd n (gR B k) u = u k := by
      unfold rd
      rw [sumN_one hk (fun q hq hqk => ?_)]
      · have := h.one k (by omega)
        rw [hld (n - k) k (by omega) hk] at this
        rw [this, Int.one_mul]
      · have := h.col q (by omega) k (by omega) (fun e => hqk e.symm)
        rw [hld (n - q) q (by omega) hq] at this
        rw [this, Int.zero_mul]
    rw [e] at this
    exact hn this
  · intro hno
    have hle := h.le
    rcases Nat.lt_or_ge B.length n with hlt | hge
    · exfalso
      -- a place without a lead
      have : ∃ f, f < n ∧ isLd B.length ld f = false := by
        by_cases hall : ∀ f, f < n → isLd B.length ld f = true
        · exfalso
          have key : ∀ f, f < n → ∃ j, j < B.length ∧ ld j = f := fun f hf => isLd_iff.1 (hall f hf)
          have hu := rises_unique (a := ld) (b := fun j => j) (k := B.length) (l := n) h.srt (fun i j hij _ => hij) (fun j hj => ⟨ld j, h.lt j hj, rfl⟩) (fun j hj => key j hj)
          omega
        · by_cases hex : ∃ f, f < n ∧ isLd B.length ld f = false
          · exact hex
          · exfalso
            apply hall
            intro f hf
            cases e : isLd B.length ld f with
            | true => rfl
            | false => exact absurd ⟨f, hf, e⟩ hex
      obtain ⟨f, hf, e⟩ := this
      refine hno ⟨freeF B ld f, ⟨f, hf, ?_⟩, freeF_ker h e hf⟩
      unfold freeF
      rw [if_pos rfl, Int.dvd_iff_emod_eq_zero, Int.emod_eq_of_lt (by omega) (by omega)]; omega
    · omega
end Go.Vam

/- Plain laws: both programs' reduced bases are reduced rows in order, and send the same to nothing. -/
namespace Go.Vam
open Go Go.RowKit
set_option linter.unusedSimpArgs false
set_option linter.unusedVariables false
set_option linter.unusedSectionVars false

structure RedK (r c : Nat) (m : List (List Int)) (d k : Nat) (piv : Nat → Nat) : Prop where
  red : Red r c m d piv
  plt : ∀ j, j < d → piv j < k
  pre : ∀ j, j < d → ∀ q, q < piv j → gI (gR m j) q = 0
  srt : ∀ i j, i < j → j < d → piv i < piv j
  low : ∀ i, d ≤ i → i < r → ∀ q, q < k → gI (gR m i) q = 0
theorem RedK.skip {r c d k : Nat} {m : List (List Int)} {piv : Nat → Nat} (h : RedK r c m d k piv) (h0 : ∀ i, d ≤ i → i < r → gI (gR m i) k = 0) : RedK r c m d (k + 1) piv :=
  ⟨h.red, fun j hj => Nat.lt_succ_of_lt (h.plt j hj), h.pre, h.srt, fun i h1 h2 q hq => (Nat.lt_succ_iff_lt_or_eq.1 hq).elim (h.low i h1 h2 q) (fun e => e ▸ h0 i h1 h2)⟩
section
variable {p : Int} {r c k d x : Nat} {m : List (List Int)} {piv : Nat → Nat} {R : List Int} (hP : isP p = true) (hm : Mat p r c m) (hk : k < c) (hd : d < r) (hdx : d ≤ x) (hx : x < r)
  (hne : gI (gR m x) k ≠ 0) (hRe : R = scalev p c (gR m x) (invp p (gI (gR m x) k)))
include hP hm hk hd hdx hx hne hRe
theorem clrm_row (i : Nat) (hi : i < r) : gR (clrm p r c k d R ((m.set x (gR m d)).set d R)) i = if i = d then R else clr p c k R (if i = x then gR m d else gR m i) := by
  have e1 := hm.1
  unfold clrm
  rw [gR_vecN _ hi]
  by_cases hid : i = d
  · rw [if_pos hid, if_pos hid]
  · rw [if_neg hid, if_neg hid, gR_set (by rw [List.length_set]; omega), if_neg (by omega), gR_set (by omega)]
    by_cases hix : i = x
    · rw [if_pos hix.symm, if_pos hix]
    · rw [if_neg (fun e => hix e.symm), if_neg hix]
theorem clrm_ker (u : Nat → Int) : KerP p r c (clrm p r c k d R ((m.set x (gR m d)).set d R)) u ↔ KerP p r c m u := by
  have hp := isP_le hP
  have e4 := (hm.row hx).get hk
  obtain ⟨i1, i2, i3⟩ := inv_facts (a := gI (gR m x) k) hP (by omega) e4.2
  have hR : p ∣ rd c R u ↔ p ∣ rd c (gR m x) u := by
    rw [hRe, dvd_congr (rd_scalev u), prime_dvd hP]
    refine ⟨fun h => h.resolve_left fun h => ?_, .inr⟩
    rw [num_dvd ⟨by omega, i2⟩] at h; omega
  have hC : ∀ v, p ∣ rd c R u → (p ∣ rd c (clr p c k R v) u ↔ p ∣ rd c v u) := by
    intro v hu
    unfold clr
    rw [dvd_congr (rd_plusv u)]
    exact Int.dvd_add_left (Int.dvd_mul_of_dvd_right hu)
  have row := clrm_row hP hm hk hd hdx hx hne hRe
  constructor
  · intro h
    have hRu : p ∣ rd c R u := by
      have := h d hd
      rwa [row d hd, if_pos rfl] at this
    intro i hi
    by_cases hix : i = x
    · rw [hix]; exact hR.1 hRu
    · by_cases hid : i = d
      · have := h x hx
        rw [row x hx, if_neg (by omega), if_pos rfl, hC _ hRu] at this
        rw [hid]; exact this
      · have := h i hi
        rw [row i hi, if_neg hid, if_neg hix, hC _ hRu] at this
        exact this
  · intro h
    have hRu := hR.2 (h x hx)
    intro i hi
    rw [row i hi]
    split
    · exact hRu
    · rw [hC _ hRu]
      split
      · exact h d hd
      · exact h i hi
theorem RedK.step (h : RedK r c m d k piv) : RedK r c (clrm p r c k d R ((m.set x (gR m d)).set d R)) (d + 1) (k + 1) (fun j => if j = d then k else piv j) := by
  have hp := isP_le hP
  have row := clrm_row hP hm hk hd hdx hx hne hRe
  have e4 := (hm.row hx).get hk
  obtain ⟨i1, i2, i3⟩ := inv_facts (a := gI (gR m x) k) hP (by omega) e4.2
  have hR0 : ∀ q, q < k → gI R q = 0 := by
    intro q hq
    rw [hRe]; unfold scalev
    rw [gI_vecN _ (by omega), h.low x hdx hx q hq]; simp
  have hent : ∀ v q, q < k → gI v q = 0 → gI (clr p c k R v) q = 0 := by
    intro v q hq hv
    unfold clr plusv
    rw [gI_vecN _ (by omega), hv, hR0 q hq]; simp
  refine ⟨h.red.step hP hm hk hd hdx hx hne hRe, fun j hj => ?_, fun j hj q hq => ?_, fun i j hij hj => ?_, fun i h1 h2 q hq => ?_⟩
  · try simp only []
    split
    · omega
    · have := h.plt j (by omega); omega
  · try simp only [] at hq
    rw [row j (by omega)]
    by_cases hjd : j = d
    · rw [if_pos hjd] at hq ⊢; exact hR0 q hq
    · rw [if_neg hjd] at hq ⊢
      have h3 := h.plt j (by omega)
      rw [if_neg (by omega)]
      exact hent _ q (by omega) (h.pre j (by omega) q hq)
  · try simp only []
    rw [if_neg (show ¬ i = d by omega)]
    split
    · exact h.plt i (by omega)
    · exact h.srt i j hij (by omega)
  · rw [row i h2, if_neg (by omega)]
    by_cases hqk : q < k
    · refine hent _ q hqk ?_
      split
      · exact h.low d (Nat.le_refl _) hd q hqk
      · exact h.low i (by omega) h2 q hqk
    · have hqe : q = k := by omega
      subst hqe
      have hRk : gI R q = 1 := by rw [hRe]; unfold scalev; rw [gI_vecN _ hk, i3]
      unfold clr plusv
      rw [gI_vecN _ hk, hRk, Int.mul_one]
      generalize gI (if i = x then gR m d else gR m i) q = e
      rw [Int.add_emod, Int.emod_emod_of_dvd _ (Int.dvd_refl p), ← Int.add_emod]
      have : e + (p - e) = p := by omega
      rw [this, Int.emod_self]
end
section
variable {p : Int} {r c : Nat} (hP : isP p = true) (hr0 : 0 < r) (hr : r ≤ 1048576) (hc : c ≤ 1048576)
include hP hr0 hr hc
theorem basis_two2 {m : List (List Int)} (hm : Mat p r c m) :
    ∃ b, loop (s_l02Basis_L0 p) BIG (m, 0, 0) = some b ∧ loop (i_field_basis_L0 p) BIG (m, 0, 0) = some b ∧ (Mat p r c b.1 ∧ (∀ u, KerP p r c b.1 u ↔ KerP p r c m u) ∧ ∃ d k : Nat, b.2 = (d : Int) ∧ d ≤ r ∧ (d < r → k = c) ∧ k ≤ c ∧ ∃ piv, RedK r c b.1 d k piv) := by
  have hp := isP_le hP
  generalize hM0 : m = M0
  rw [hM0] at hm
  refine loop_two' (fun s => Mat p r c s.1 ∧ (∀ u, KerP p r c s.1 u ↔ KerP p r c M0 u) ∧ ∃ d k : Nat, s.2 = ((d : Int), (k : Int)) ∧ d ≤ r ∧ k ≤ c ∧ ∃ piv, RedK r c s.1 d k piv) (fun s => c - s.2.2.toNat) _ ⟨hm, fun _ => Iff.rfl, 0, 0, rfl, by omega, by omega, fun _ => 0, ⟨fun j hj => by omega, fun j hj => by omega, fun j hj => by omega, fun i j _ hj => by omega, fun i _ _ q hq => by omega⟩⟩ (by rw [BIG_val]; simp only []; omega) ?_
  rintro ⟨m, t⟩ ⟨hm, hker, d, k, rfl, hd, hk, piv, hred⟩
  try simp only [] at hm hred hker
  have e1 := hm.1
  have e2 := (hm.row hr0).1
  by_cases hkc : k < c
  · by_cases hdr : d < r
    · refine .inl ?_
      obtain ⟨b, h1, x, rfl, h2, h3, h4, h0⟩ := find_eq2 hm (k := k) (s := d) hr hkc hd
      have l1 : s_l02Basis_L1 (m, (d : Int), (k : Int)) = findStep m (k : Int) := rfl
      have l2 : i_field_basis_L1 (m, (d : Int), (k : Int)) = findStep m (k : Int) := rfl
      unfold s_l02Basis_L0 i_field_basis_L0
      simp only [show (0 : Int) < (m.length : Int) by omega, if_true, idxR0 (show 0 < m.length by omega), some_bind, show (k : Int) < ((gR m 0).length : Int) by omega, ilt_true (show (k : Int) < ((gR m 0).length : Int) by omega), ilt_true (show (d : Int) < (m.length : Int) by omega), l1, l2, h1]
      by_cases hx : x = r
      · have hx' : (x : Int) = (m.length : Int) := by omega
        simp only [hx', if_true, some_bind]
        refine ⟨_, rfl, rfl, ⟨hm, hker, d, k + 1, ?_, hd, by omega, piv, hred.skip fun i hi1 hi2 => h0 i hi1 (by omega)⟩, ?_⟩
        · rw [w_in (by omega) (by omega)]; rfl
        · rw [w_in (by omega) (by omega)]; simp only []; omega
      · have hx' : ¬ (x : Int) = (m.length : Int) := by omega
        have hxr : x < r := by omega
        have hne := h4 hxr
        have e3 := (hm.row hxr).1
        have e4 := (hm.row hxr).get hkc
        have e5 := (hm.row hdr).1
        obtain ⟨i1, i2, i3⟩ := inv_facts (a := gI (gR m x) k) hP (by omega) e4.2
        have f1 := s_l01Inv_eq (a := gI (gR m x) k) hP (by omega) e4.2
        have f2 := i_field_inv_eq (a := gI (gR m x) k) hP (by omega) e4.2
        have f3 := s_l02Scale_eq (p := p) (n := c) (a := gR m x) (k := invp p (gI (gR m x) k)) (by omega) (by omega) hc (by omega) (by omega) (hm.row hxr)
        have f4 := i_field_scaled_eq (p := p) (n := c) (a := gR m x) (k := invp p (gI (gR m x) k)) (by omega) (by omega) hc (by omega) (hm.row hxr)
        have hV := scalev_vec (p := p) (by omega) c (gR m x) (invp p (gI (gR m x) k))
        generalize hVe : scalev p c (gR m x) (invp p (gI (gR m x) k)) = V at f3 f4 hV
        have hrs := hred.step hP hm hkc hdr h2 hxr hne hVe.symm
        have hks := fun u => (clrm_ker hP hm hkc hdr h2 hxr hne hVe.symm u).trans (hker u)
        have g1 : gR ((m.set d (gR m x)).set x (gR m d)) d = gR m x := by
          rw [gR_set (by rw [List.length_set]; omega)]
          split
          · rename_i h; rw [h]
          · rw [gR_set (by omega), if_pos rfl]
        have g2 : ((m.set d (gR m x)).set x (gR m d)).set d V = (m.set x (gR m d)).set d V := by
          by_cases hxd : d = x
          · subst hxd; simp [List.set_set]
          · rw [List.set_comm _ _ hxd, List.set_set]
        have hM := (hm.set hxr (hm.row hdr)).set hdr hV
        have g3 : gR ((m.set x (gR m d)).set d V) d = V := by rw [gR_set (by rw [List.length_set]; omega), if_pos rfl]
        obtain ⟨y1, y2⟩ := basis_clear (p := p) (r := r) (c := c) (l := (m.set d (gR m x)).set x (gR m d)) (d := d) (k := k) hP hr hc hkc hdr m hV (by simp [e1]) hM g3
        simp only [hx', if_false, idxR (show x < m.length by omega), idxR (show d < m.length by omega), some_bind, idxI (show k < (gR m x).length by omega), f1, f2, f3, f4, Int.toNat_natCast,
          idxR (show d < (m.set x (gR m d)).length by rw [List.length_set]; omega), idxR (show x < (m.set d (gR m x)).length by rw [List.length_set]; omega), idxR (show d < ((m.set d (gR m x)).set x (gR m d)).length by rw [List.length_set, List.length_set]; omega), g1, g2, y1, y2]
        refine ⟨_, rfl, rfl, ⟨clrm_mat (by omega) hV, hks, d + 1, k + 1, ?_, by omega, by omega, _, hrs⟩, ?_⟩
        · rw [w_in (by omega) (by omega), w_in (by omega) (by omega)]; rfl
        · rw [w_in (by omega) (by omega), w_in (by omega) (by omega)]; simp only []; omega
    · have hdd : d = r := by omega
      subst hdd
      refine .inr ⟨(m, (d : Int)), fun n hn => basis_idle hr0 hr hc hm n k hk (by simpa using hn), ?_, hm, hker, d, k, rfl, by omega, fun h => by omega, hk, piv, hred⟩
      unfold i_field_basis_L0
      simp only [show (0 : Int) < (m.length : Int) by omega, if_true, idxR0 (show 0 < m.length by omega), some_bind, show (k : Int) < ((gR m 0).length : Int) by omega, ilt_false (show ¬ (d : Int) < (m.length : Int) by omega), Bool.false_eq_true, if_false]
  · refine .inr ⟨(m, (d : Int)), fun n hn => ?_, ?_, hm, hker, d, k, rfl, by omega, fun _ => by omega, hk, piv, hred⟩
    · cases n with
      | zero => omega
      | succ n =>
        rw [loop_succ]
        have : s_l02Basis_L0 p (m, (d : Int), (k : Int)) = some (.inr (m, (d : Int))) := by
          unfold s_l02Basis_L0
          simp only [show (0 : Int) < (m.length : Int) by omega, if_true, idxR0 (show 0 < m.length by omega), some_bind, ilt_false (show ¬ (k : Int) < ((gR m 0).length : Int) by omega), Bool.false_eq_true, if_false]
        rw [this]
    · unfold i_field_basis_L0
      simp only [show (0 : Int) < (m.length : Int) by omega, if_true, idxR0 (show 0 < m.length by omega), some_bind, show ¬ (k : Int) < ((gR m 0).length : Int) by omega, Bool.false_eq_true, if_false]

theorem Basis_full {m : List (List Int)} (hm : Mat p r c m) : ∃ b, s_l02Basis p m = some b ∧ i_field_basis p m = some b ∧ b.length ≤ r ∧ (∃ ld, Ech p c b ld) ∧ ∀ u, Kr p c b u ↔ KerP p r c m u := by
  have hz := hm.sz hr hc
  obtain ⟨b, h1, h2, h3, hk, d, k, h4, h5, h7, h8, piv, h6⟩ := basis_two2 hP hr0 hr hc hm
  have hl := h3.1
  have hg : ∀ i, i < d → gR (b.1.take d) i = gR b.1 i := by
    intro i hi
    unfold gR
    rw [List.getD_eq_getElem?_getD, List.getD_eq_getElem?_getD, List.getElem?_take_of_lt hi]
  have hd : (b.1.take d).length = d := by rw [List.length_take]; omega
  refine ⟨b.1.take d, ?_, ?_, by omega, ⟨piv, ?_⟩, fun u => ?_⟩
  · unfold s_l02Basis
    rw [s_l01Own2_eq hz, some_bind, h1, some_bind, h4, chk_bind (by omega)]; rfl
  · unfold i_field_basis
    rw [i_cloneRows_eq hz, some_bind, h2, some_bind, h4, chk_bind (by omega)]; rfl
  · constructor
    · rw [hd]
      refine ⟨hd, fun i hi => ?_⟩
      rw [hg i hi]
      exact h3.2 i (by omega)
    · rw [hd]; exact fun j hj => (h6.red j hj).1
    · rw [hd]; intro j hj; rw [hg j hj]; exact (h6.red j hj).2.1
    · rw [hd]; intro j hj q hq; rw [hg j hj]; exact h6.pre j hj q hq
    · rw [hd]; intro j hj i hi hij; rw [hg i hi]; exact (h6.red j hj).2.2 i (by omega) hij
    · rw [hd]; exact h6.srt
  · rw [← hk u]
    unfold Kr KerP
    rw [hd]
    constructor
    · intro h i hi
      by_cases hid : i < d
      · have := h i hid; rwa [hg i hid] at this
      · have hkc := h7 (by omega)
        have : rd c (gR b.1 i) u = 0 := by
          unfold rd
          rw [sumN_congr (g := fun _ => 0) (fun q hq => by rw [h6.low i (by omega) hi q (by omega), Int.zero_mul])]
          exact sumN_zero c
        rw [this]; exact Int.dvd_zero p
    · intro h i hi
      rw [hg i hi]; exact h i (by omega)
end
end Go.Vam
