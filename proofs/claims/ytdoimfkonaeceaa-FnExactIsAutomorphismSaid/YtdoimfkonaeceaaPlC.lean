/- Plain laws: the norms of axes; tables skew for the norm, tables that keep it. -/
import Derived.Test.YtdoimfkonaeceaaPlB
namespace Go.Vam
open Go Go.RowKit
set_option linter.unusedSimpArgs false
set_option linter.unusedVariables false
set_option linter.unusedSectionVars false

/-! ### The sign of a product of axes -/
def sgs (j : Nat) : Int := if j = 0 then 1 else -1
/-- The number before a product of axes. -/
def axS : Nat → List Int → Nat → Nat → Int
  | 0, _, _, _ => 1
  | n + 1, w, i, j =>
    if i < 2 ^ n then (if j < 2 ^ n then axS n (w.take n) i j else axS n (w.take n) (j - 2 ^ n) i)
    else (if j < 2 ^ n then sgs j * axS n (w.take n) (i - 2 ^ n) j else gI w n * (sgs (j - 2 ^ n) * axS n (w.take n) (j - 2 ^ n) (i - 2 ^ n)))
theorem plusv_at {p : Int} {n q : Nat} {a b : List Int} {k : Int} (hq : q < n) : gI (plusv p n a b k) q = (gI a q + k * gI b q) % p := by
  unfold plusv; rw [gI_vecN _ hq]
theorem emm (a p : Int) : a % p % p = a % p := Int.emod_emod_of_dvd _ (Int.dvd_refl p)
theorem mul_mod_l {p a b c : Int} (h : a % p = b % p) : (a * c) % p = (b * c) % p := by rw [Int.mul_emod, h, ← Int.mul_emod]
theorem mul_mod_r {p a b c : Int} (h : a % p = b % p) : (c * a) % p = (c * b) % p := by rw [Int.mul_emod, h, ← Int.mul_emod]
theorem starv_at {p : Int} {n q : Nat} {a : List Int} (hq : q < n) : gI (starv p n a) q % p = (gI a q * sgs q) % p := by
  unfold starv
  rw [gI_set (by unfold scalev; simp; omega)]
  unfold sgs
  by_cases h : q = 0
  · subst h; simp
  · rw [if_neg (fun e => h e.symm), if_neg h]
    unfold scalev; rw [gI_vecN _ hq, emm]
theorem mulr_at {p : Int} : ∀ (n : Nat), n ≤ 4 → ∀ (w x y : List Int) (i j : Nat), i < 2 ^ n → j < 2 ^ n → Only (2 ^ n) i x → Only (2 ^ n) j y →
    gI (mulr p n w x y) (i ^^^ j) % p = (gI x i * gI y j * axS n w i j) % p := by
  intro n
  induction n with
  | zero =>
    intro _ w x y i j hi hj hx hy
    have h2 : i = 0 := by simpa using hi
    have h3 : j = 0 := by simpa using hj
    subst h2; subst h3
    unfold mulr axS
    show gI x 0 * gI y 0 % p % p = _
    rw [emm, Int.mul_one]
  | succ n ih =>
    intro hn w x y i j hi hj hx hy
    have hpow : 2 ^ (n + 1) = 2 ^ n + 2 ^ n := by rw [Nat.pow_succ]; omega
    have hX := xor_hi n (by omega)
    have hlt : ∀ a b, a < 2 ^ n → b < 2 ^ n → a ^^^ b < 2 ^ n := fun a b ha hb => xor_lt ha hb
    unfold mulr axS
    rw [hpow] at hi hj hx hy
    have ih' := ih (by omega) (w.take n)
    have iz := mulr_zero (p := p) n (w.take n)
    generalize 2 ^ n = d at hi hj hx hy ih' iz hX hlt ⊢
    have tk : ∀ (u : List Int) s, s < d → Only (d + d) s u → Only d s (u.take d) ∧ Zr d (u.drop d) := fun u s hs hu =>
      ⟨fun q hq hk => by rw [gI_take hq]; exact hu q (by omega) hk, fun q hq => by rw [gI_drop]; exact hu _ (by omega) (by omega)⟩
    have dp : ∀ (u : List Int) s, d ≤ s → Only (d + d) s u → Zr d (u.take d) ∧ Only d (s - d) (u.drop d) := fun u s hs hu =>
      ⟨fun q hq => by rw [gI_take hq]; exact hu q (by omega) (by omega), fun q hq hk => by rw [gI_drop]; exact hu _ (by omega) (by omega)⟩
    rcases Nat.lt_or_ge i d with hid | hid <;> rcases Nat.lt_or_ge j d with hjd | hjd
    · obtain ⟨x1, x2⟩ := tk x i hid hx
      obtain ⟨y1, y2⟩ := tk y j hjd hy
      have hq := hlt i j hid hjd
      have r1 := ih' _ _ i j hid hjd x1 y1
      rw [gI_halves (by omega), if_pos hq, plusv_at hq, iz _ _ (.inr x2) _ hq, Int.mul_zero, Int.add_zero, emm, r1, gI_take hid, gI_take hjd, if_pos hid, if_pos hjd]
    · obtain ⟨x1, x2⟩ := tk x i hid hx
      obtain ⟨y1, y2⟩ := dp y j hjd hy
      have hq := hlt (j - d) i (by omega) hid
      have e : i ^^^ j = d + ((j - d) ^^^ i) := by
        have := (hX i hid (j - d) (by omega)).1
        rw [show d + (j - d) = j by omega] at this
        rw [this, Nat.xor_comm]
      have r1 := ih' _ _ (j - d) i (by omega) hid y2 x1
      rw [e, gI_halves (by omega), if_neg (by omega), show d + ((j - d) ^^^ i) - d = (j - d) ^^^ i by omega, plusv_at hq, iz _ _ (.inl x2) _ hq, Int.mul_zero, Int.add_zero, emm, r1, gI_take hid, gI_drop, show d + (j - d) = j by omega, if_pos hid, if_neg (by omega), Int.mul_comm (gI y j)]
    · obtain ⟨x1, x2⟩ := dp x i hid hx
      obtain ⟨y1, y2⟩ := tk y j hjd hy
      have hq := hlt (i - d) j (by omega) hjd
      have e : i ^^^ j = d + ((i - d) ^^^ j) := by
        have := (hX (i - d) (by omega) j hjd).2.1
        rw [show d + (i - d) = i by omega] at this
        exact this
      have r1 := ih' _ _ (i - d) j (by omega) hjd x2 (Only.star (p := p) y1)
      have r2 := starv_at (p := p) (a := y.take d) hjd
      rw [e, gI_halves (by omega), if_neg (by omega), show d + ((i - d) ^^^ j) - d = (i - d) ^^^ j by omega, plusv_at hq, iz _ _ (.inl y2) _ hq, Int.zero_add, Int.one_mul, emm, r1, gI_drop, show d + (i - d) = i by omega, if_neg (by omega), if_pos hjd]
      rw [mul_mod_l (b := gI x i * (gI (y.take d) j * sgs j)) (mul_mod_r r2), gI_take hjd]
      congr 1
      simp only [Int.mul_assoc]
    · obtain ⟨x1, x2⟩ := dp x i hid hx
      obtain ⟨y1, y2⟩ := dp y j hjd hy
      have hq := hlt (j - d) (i - d) (by omega) (by omega)
      have e : i ^^^ j = (j - d) ^^^ (i - d) := by
        have := (hX (i - d) (by omega) (j - d) (by omega)).2.2
        rw [show d + (i - d) = i by omega, show d + (j - d) = j by omega] at this
        rw [this, Nat.xor_comm]
      have r1 := ih' _ _ (j - d) (i - d) (by omega) (by omega) (Only.star (p := p) y2) x2
      have r2 := starv_at (p := p) (a := y.drop d) (show j - d < d by omega)
      rw [e, gI_halves (by omega), if_pos hq, plusv_at hq, iz _ _ (.inl x1) _ hq, Int.zero_add, emm, mul_mod_r r1, if_neg (by omega), if_neg (by omega)]
      rw [mul_mod_r (c := gI w n) (mul_mod_l (c := axS n (w.take n) (j - d) (i - d)) (mul_mod_l (c := gI (x.drop d) (i - d)) r2)), gI_drop, gI_drop, show d + (j - d) = j by omega, show d + (i - d) = i by omega]
      congr 1
      rw [Int.mul_comm (gI y j * sgs (j - d)), ← Int.mul_assoc (gI x i), Int.mul_assoc (gI x i * gI y j), ← Int.mul_assoc (gI w n), Int.mul_comm (gI w n), Int.mul_assoc (gI x i * gI y j)]

/-- The norms of the axes. -/
def dgv (p : Int) (w : List Int) : Nat → List Int
  | 0 => [1]
  | k + 1 => dgv p w k ++ scalev p (2 ^ k) (dgv p w k) (p - gI w k)
theorem dgv_vec {p : Int} (hp : 1 < p) (w : List Int) : ∀ n, Vec p (2 ^ n) (dgv p w n)
  | 0 => ⟨rfl, fun k hk => by
    have hk0 : k = 0 := by simpa using hk
    subst hk0
    exact ⟨(by decide : (0 : Int) ≤ 1), hp⟩⟩
  | n + 1 => by
    have hpow : 2 ^ (n + 1) = 2 ^ n + 2 ^ n := by rw [Nat.pow_succ]; omega
    rw [hpow]
    exact (dgv_vec hp w n).append (scalev_vec (by omega) ..)
theorem dgv_take {p : Int} (w : List Int) (m : Nat) : ∀ n, n ≤ m → dgv p (w.take m) n = dgv p w n
  | 0, _ => rfl
  | n + 1, h => by
    unfold dgv
    rw [dgv_take w m n (by omega), gI_take (by omega)]
theorem dgv_at {p : Int} (hp : 1 < p) : ∀ (n : Nat) (w : List Int) (k : Nat), k < 2 ^ n → gI (dgv p w n) k % p = (sgs k * axS n w k k) % p := by
  intro n
  induction n with
  | zero =>
    intro w k hk
    have hk0 : k = 0 := by simpa using hk
    subst hk0
    rfl
  | succ n ih =>
    intro w k hk
    have hpow : 2 ^ (n + 1) = 2 ^ n + 2 ^ n := by rw [Nat.pow_succ]; omega
    rw [hpow] at hk
    have hl := (dgv_vec hp w n).1
    have ih' := ih (w.take n)
    rw [dgv_take w n n (Nat.le_refl _)] at ih'
    unfold dgv axS
    rw [gI_append, hl]
    have hpos := two_pos n
    unfold scalev
    generalize 2 ^ n = d at hk hl ih' hpos ⊢
    by_cases h : k < d
    · rw [if_pos h, if_pos h, if_pos h]
      exact ih' k h
    · rw [if_neg h, if_neg h, if_neg h, gI_vecN _ (by omega), emm]
      have hs : sgs k = -1 := by unfold sgs; rw [if_neg (by omega)]
      rw [hs, mul_mod_l (ih' (k - d) (by omega))]
      have e : (p - gI w n) % p = (-1 * gI w n) % p := by
        have : p - gI w n = -1 * gI w n + p := by omega
        rw [this, Int.add_emod_right]
      rw [mul_mod_r e]
      congr 1
      rw [Int.mul_comm (sgs (k - d) * axS n (w.take n) (k - d) (k - d)), Int.mul_assoc]
section
variable {p : Int} {w : List Int} (hP : isP p = true) (hl : w.length ≤ 4) (hw : Vec p w.length w)
include hP hl hw
theorem norm_axis {k : Nat} (hk : k < 2 ^ w.length) : i_Doubling_norm p w (axis (2 ^ w.length) k) = some (gI (dgv p w w.length) k) := by
  have hp := isP_le hP
  have h16 := two_le hl
  have hpos := two_pos w.length
  have hx := axis_vec (p := p) (by omega) hk
  have hs := starv_vec hp.1 hp.2 (by omega) hpos hx
  have hm := mulp_vec hP hl hw hx hs
  have ho : Only (2 ^ w.length) k (axis (2 ^ w.length) k) := fun q hq hqk => by rw [gI_axis hk, if_neg hqk]
  have key := mulr_at (p := p) w.length hl w _ _ k k hk hk ho (Only.star (p := p) ho)
  rw [Nat.xor_self] at key
  have r2 := starv_at (p := p) (a := axis (2 ^ w.length) k) hk
  rw [mul_mod_l (mul_mod_r r2), gI_axis hk, if_pos rfl, Int.one_mul, Int.one_mul, ← dgv_at (by omega) w.length w k hk] at key
  have b1 := hm.get hpos
  have b2 := (dgv_vec (p := p) (by omega) w w.length).get hk
  have e : gI (mulp p w (axis (2 ^ w.length) k) (starv p (2 ^ w.length) (axis (2 ^ w.length) k))) 0 = gI (dgv p w w.length) k := by
    rw [mod_small b2.1 b2.2] at key
    have := mod_small b1.1 b1.2
    unfold mulp at this ⊢
    rw [← this]; exact key
  have e1 := hm.1
  unfold i_Doubling_norm i_Doubling_field
  rw [some_bind, i_field_conjugate_eq hp.1 hp.2 (by omega) hpos hx, some_bind, i_Doubling_times_eq hP hl hw hx hs, some_bind, idxI0 (by omega), some_bind, e]
theorem i_diag_eq : i_Doubling_diagonal p w = some (dgv p w w.length) := by
  have hp := isP_le hP
  have h16 := two_le hl
  have e0 := (unitm_mat (p := p) (by omega) (2 ^ w.length)).1
  unfold i_Doubling_diagonal
  rw [i_Doubling_size_eq hl, some_bind, i_unit_eq (by omega), some_bind, map_loop _ (2 ^ w.length) (fun k => gI (dgv p w w.length) k) (by rw [BIG_val]; omega)]
  · rw [some_bind, ← extI (dgv_vec (p := p) (by omega) w w.length).1 fun k _ => rfl]
  · intro k hk out ho
    unfold i_Doubling_diagonal_L0
    rw [e0, if_pos (by omega), idxR (by omega), some_bind, gR_unitm hk, norm_axis hP hl hw hk, some_bind, chk_bind (by simp only [List.length_cons, List.length_nil]; omega), w_in (by omega) (by omega)]
    rfl
  · intro out ho
    unfold i_Doubling_diagonal_L0
    simp only [e0, lt_cast_self, if_false]
theorem s_diag_eq : s_l11Diagonal p w = some (dgv p w w.length) := by
  have hp := isP_le hP
  unfold s_l11Diagonal
  rw [loop_for (b := dgv p w w.length) (s := ([1], 0)) (fun k => (dgv p w k, (k : Int))) w.length (by rw [BIG_val]; omega) rfl]
  · rfl
  · intro k hk
    unfold s_l11Diagonal_L0
    have hv := dgv_vec (p := p) (by omega) w k
    have h16 := two_le (n := k) (by omega)
    have hc := hw.get hk
    have e1 := hv.1
    have e2 := (scalev_vec (p := p) (by omega) (2 ^ k) (dgv p w k) (p - gI w k)).1
    simp only [lt_cast hk, if_true, idxI hk, some_bind]
    rw [w_in (x := p - gI w k) (by omega) (by omega), s_l11Scale_eq hp.1 hp.2 (by omega) (by omega) (by omega) hv, some_bind, chk_bind (by omega), w_in (by omega) (by omega)]
    rfl
  · unfold s_l11Diagonal_L0
    simp only [lt_cast_self, if_false]
end

/-! ### Skew for the norm -/
section
variable {p : Int} {w : List Int} {m : List (List Int)} (hP : isP p = true) (hl : w.length ≤ 4) (hw : Vec p w.length w) (hm : Mat p (2 ^ w.length) (2 ^ w.length) m)
def sdB (p : Int) (w : List Int) (m : List (List Int)) (i j : Nat) : Bool := decide ((gI (gR m i) j * gI (dgv p w w.length) i + gI (gR m j) i * gI (dgv p w w.length) j) % p = 0)
theorem sdB_comm (p : Int) (w : List Int) (m : List (List Int)) (i j : Nat) : sdB p w m i j = sdB p w m j i := by unfold sdB; rw [Int.add_comm]
include hP hl hw hm
theorem sd_bounds {i j : Nat} (hi : i < 2 ^ w.length) (hj : j < 2 ^ w.length) : (gI (gR m i) j * gI (dgv p w w.length) i).natAbs ≤ 169 := by
  have hp := isP_le hP
  have h1 := (hm.row hi).get hj
  have h2 := (dgv_vec (p := p) (by omega) w w.length).get hi
  exact mul_abs (A := 13) (B := 13) (by omega) (by omega)
theorem s_l15Skew_eq : s_l15Skew p w m = some ((List.range (2 ^ w.length)).all fun i => (List.range (2 ^ w.length)).all (sdB p w m i)) := by
  have hp := isP_le hP
  have h16 := two_le hl
  have e0 := hm.1
  have eD := (dgv_vec (p := p) (by omega) w w.length).1
  rw [← all_tri (sdB_comm p w m)]
  have inner : ∀ i : Nat, i < 2 ^ w.length → loop (s_l15Skew_L1 p m (dgv p w w.length) (i : Int)) BIG 0 = some (if (List.range (i + 1)).all (sdB p w m i) then .inl () else .inr (.inr (.inr false))) := by
    intro i hi
    have core : ∀ j : Nat, j < i + 1 → s_l15Skew_L1 p m (dgv p w w.length) (i : Int) (j : Int) = if sdB p w m i j = true then some (.inl ((j + 1 : Nat) : Int)) else some (.inr (.inr (.inr (.inr false)))) := by
      intro j hj
      have hj' : j < 2 ^ w.length := by omega
      have e1 := (hm.row hi).1
      have e2 := (hm.row hj').1
      have q1 := sd_bounds hP hl hw hm hi hj'
      have q2 := sd_bounds hP hl hw hm hj' hi
      unfold s_l15Skew_L1
      simp only [show ((j : Int) ≤ (i : Int)) = True from eq_true (by omega), if_true, idxR (show i < m.length by omega), idxR (show j < m.length by omega), idxI (show j < (gR m i).length by omega), idxI (show i < (gR m j).length by omega), idxI (show i < (dgv p w w.length).length by omega), idxI (show j < (dgv p w w.length).length by omega), some_bind]
      rw [w_in (x := gI (gR m i) j * gI (dgv p w w.length) i) (by omega) (by omega), w_in (x := gI (gR m j) i * gI (dgv p w w.length) j) (by omega) (by omega), w_in (x := gI (gR m i) j * gI (dgv p w w.length) i + gI (gR m j) i * gI (dgv p w w.length) j) (by omega) (by omega), s_l01Mod_eq (by omega) (by omega) (by omega) (by omega), some_bind, w_in (x := (j : Int) + 1) (by omega) (by omega)]
      unfold sdB
      by_cases h : (gI (gR m i) j * gI (dgv p w w.length) i + gI (gR m j) i * gI (dgv p w w.length) j) % p = 0
      · rw [if_neg (by simp [h]), if_pos (by simp [h])]; rfl
      · rw [if_pos h, if_neg (by simp [h])]
    refine all_loop _ (i + 1) (sdB p w m i) _ (by rw [BIG_val]; omega) ?_ ?_ ?_
    · intro j hj hf
      rw [core j hj, if_pos hf]
    · intro j hj hf
      rw [core j hj, if_neg (by simp [hf])]
    · unfold s_l15Skew_L1
      rw [if_neg (by omega)]
  unfold s_l15Skew
  rw [s_diag_eq hP hl hw, some_bind, all_loop _ (2 ^ w.length) (fun i => (List.range (i + 1)).all (sdB p w m i)) false (by rw [BIG_val]; omega)]
  · rw [some_bind]
    cases (List.range (2 ^ w.length)).all fun i => (List.range (i + 1)).all (sdB p w m i) <;> rfl
  · intro i hi hf
    unfold s_l15Skew_L0
    rw [if_pos (by omega), inner i hi, hf, w_in (by omega) (by omega)]; rfl
  · intro i hi hf
    unfold s_l15Skew_L0
    rw [if_pos (by omega), inner i hi, hf]; rfl
  · unfold s_l15Skew_L0
    rw [e0, if_neg (by omega)]
theorem i_Doubling_isSkew_eq : i_Doubling_isSkew p w m = some ((List.range (2 ^ w.length)).all fun i => (List.range (2 ^ w.length)).all (sdB p w m i)) := by
  have hp := isP_le hP
  have h16 := two_le hl
  have e0 := hm.1
  have eD := (dgv_vec (p := p) (by omega) w w.length).1
  have inner : ∀ i : Nat, i < 2 ^ w.length → loop (i_Doubling_isSkew_L1 p w m (dgv p w w.length) (i : Int)) BIG 0 = some (if (List.range (2 ^ w.length)).all (sdB p w m i) then .inl () else .inr (.inr (.inr false))) := by
    intro i hi
    have core : ∀ j : Nat, j < 2 ^ w.length → i_Doubling_isSkew_L1 p w m (dgv p w w.length) (i : Int) (j : Int) = if sdB p w m i j = true then some (.inl ((j + 1 : Nat) : Int)) else some (.inr (.inr (.inr (.inr false)))) := by
      intro j hj
      have e1 := (hm.row hi).1
      have e2 := (hm.row hj).1
      have q1 := sd_bounds hP hl hw hm hi hj
      have q2 := sd_bounds hP hl hw hm hj hi
      unfold i_Doubling_isSkew_L1 i_Doubling_field
      simp only [show ((j : Int) < (m.length : Int)) = True from eq_true (by omega), if_true, idxR (show i < m.length by omega), idxR (show j < m.length by omega), idxI (show j < (gR m i).length by omega), idxI (show i < (gR m j).length by omega), idxI (show i < (dgv p w w.length).length by omega), idxI (show j < (dgv p w w.length).length by omega), some_bind]
      rw [w_in (x := gI (gR m i) j * gI (dgv p w w.length) i) (by omega) (by omega), w_in (x := gI (gR m j) i * gI (dgv p w w.length) j) (by omega) (by omega), w_in (x := gI (gR m i) j * gI (dgv p w w.length) i + gI (gR m j) i * gI (dgv p w w.length) j) (by omega) (by omega), i_field_num_eq (by omega) (by omega) (by omega) (by omega), some_bind, w_in (x := (j : Int) + 1) (by omega) (by omega)]
      unfold sdB
      by_cases h : (gI (gR m i) j * gI (dgv p w w.length) i + gI (gR m j) i * gI (dgv p w w.length) j) % p = 0
      · rw [if_neg (by simp [h]), if_pos (by simp [h])]; rfl
      · rw [if_pos h, if_neg (by simp [h])]
    refine all_loop _ (2 ^ w.length) (sdB p w m i) _ (by rw [BIG_val]; omega) ?_ ?_ ?_
    · intro j hj hf
      rw [core j hj, if_pos hf]
    · intro j hj hf
      rw [core j hj, if_neg (by simp [hf])]
    · unfold i_Doubling_isSkew_L1
      rw [e0, if_neg (by omega)]
  unfold i_Doubling_isSkew
  rw [i_diag_eq hP hl hw, some_bind, all_loop _ (2 ^ w.length) (fun i => (List.range (2 ^ w.length)).all (sdB p w m i)) false (by rw [BIG_val]; omega)]
  · rw [some_bind]
    cases (List.range (2 ^ w.length)).all fun i => (List.range (2 ^ w.length)).all (sdB p w m i) <;> rfl
  · intro i hi hf
    unfold i_Doubling_isSkew_L0
    rw [if_pos (by omega), inner i hi, hf, w_in (by omega) (by omega)]; rfl
  · intro i hi hf
    unfold i_Doubling_isSkew_L0
    rw [if_pos (by omega), inner i hi, hf]; rfl
  · unfold i_Doubling_isSkew_L0
    rw [e0, if_neg (by omega)]
end
theorem IsSkew_eq {p : Int} {w : List Int} {m : List (List Int)} (hw : w.length ≤ 1048576) (h : szM m) : ∃ V C, s_IsSkew p w m = some (V, C) ∧ i_IsSkew p w m = some (V, C) := by
  have hsm : ∀ x ∈ [m], szM x := fun x hx => by simp only [List.mem_singleton] at hx; exact hx ▸ h
  unfold s_IsSkew i_IsSkew
  rw [s_l14Two_eq hw (by simp) hsm, i_checkThree_eq hw ⟨by simp, by simp⟩ (by simp) hsm, some_bind, some_bind]
  by_cases h0 : thC p w [] [m] = 0
  · obtain ⟨a1, a2, _, a4⟩ := thC_zero h0
    obtain ⟨hP, hl, hv, _⟩ := isDb_iff a1
    have hM := a4 m (by simp)
    simp only [h0, not_true_eq_false, if_false, s_l15Skew_eq hP hl hv hM, i_Doubling_isSkew_eq hP hl hv hM, some_bind]
    exact ⟨_, _, rfl, rfl⟩
  · simp only [h0, not_false_eq_true, if_true]
    exact ⟨_, _, rfl, rfl⟩

/-! ### Keeping the norm -/
section
variable {p : Int} {w : List Int} {m : List (List Int)} (hP : isP p = true) (hl : w.length ≤ 4) (hw : Vec p w.length w) (hm : Mat p (2 ^ w.length) (2 ^ w.length) m)
def knE (p : Int) (w : List Int) (i j : Nat) : Int := if i = j then gI (dgv p w w.length) i else 0
def knB (p : Int) (w : List Int) (m : List (List Int)) (i j : Nat) : Bool := decide (pairp p (2 ^ w.length) (dgv p w w.length) (colv (2 ^ w.length) m i) (colv (2 ^ w.length) m j) = knE p w i j)
theorem knB_comm (p : Int) (w : List Int) (m : List (List Int)) (i j : Nat) : knB p w m i j = knB p w m j i := by
  unfold knB knE
  rw [pairp_comm]
  by_cases h : i = j
  · subst h; rfl
  · rw [if_neg h, if_neg (fun e => h e.symm)]
include hP hl hw
theorem s_l15Pair_eq {x y : List Int} (hx : Vec p (2 ^ w.length) x) (hy : Vec p (2 ^ w.length) y) : s_l15Pair p w x y = some (pairp p (2 ^ w.length) (dgv p w w.length) x y) := by
  have hp := isP_le hP
  have h16 := two_le hl
  have hD := dgv_vec (p := p) (by omega) w w.length
  unfold s_l15Pair
  have e1 := hx.1; have e2 := hy.1; have e3 := hD.1
  generalize 2 ^ w.length = n at hx hy hD h16 e1 e2 e3 ⊢
  rw [s_diag_eq hP hl hw, some_bind]
  generalize dgv p w w.length = D at hD e3 ⊢
  obtain ⟨h1, h2⟩ := fold_loop (s_l15Pair_L0 p x y D) n (fun k s => (s + gI D k * gI x k * gI y k) % p) 0 (fun _ s => 0 ≤ s ∧ s < p) id (by rw [BIG_val]; omega) (by omega) (fun k s hk _ => mod_num (by omega))
    (fun k s hk hs => by
      unfold s_l15Pair_L0
      have h1 := hx.get hk; have h2 := hy.get hk; have h3 := hD.get hk
      have h4 := mul_abs (a := gI D k) (b := gI x k) (A := 13) (B := 13) (by omega) (by omega)
      have h5 := mul_abs (a := gI D k * gI x k) (b := gI y k) (A := 169) (B := 13) (by omega) (by omega)
      simp only [show (k : Int) < x.length by omega, if_true, idxI (show k < x.length by omega), idxI (show k < y.length by omega), idxI (show k < D.length by omega), some_bind]
      rw [w_in (x := gI D k * gI x k) (by omega) (by omega), w_in (x := gI D k * gI x k * gI y k) (by omega) (by omega), w_in (x := s + gI D k * gI x k * gI y k) (by omega) (by omega), s_l01Mod_eq (by omega) (by omega) (by omega) (by omega), some_bind, w_in (by omega) (by omega)]
      rfl) (fun s hs => by
      unfold s_l15Pair_L0
      simp [e1])
  rw [h1, some_bind]
  have key : ∀ k, foldN (fun k s => (s + gI D k * gI x k * gI y k) % p) 0 k = sumN (fun k => gI x k * gI y k * gI D k) k % p := by
    intro k
    induction k with
    | zero => simp [foldN, sumN]
    | succ k ih =>
      simp only [foldN, sumN, ih]
      rw [Int.emod_add_emod, Int.mul_assoc (gI D k), Int.mul_comm (gI D k)]
  simp only [id, key]; rfl
include hm
theorem s_l15Isometry_eq : s_l15Isometry p w m = some ((List.range (2 ^ w.length)).all fun i => (List.range (2 ^ w.length)).all (knB p w m i)) := by
  have hp := isP_le hP
  have h16 := two_le hl
  have e0 := hm.1
  have eD := (dgv_vec (p := p) (by omega) w w.length).1
  rw [← all_tri (knB_comm p w m)]
  have inner : ∀ i : Nat, i < 2 ^ w.length → loop (s_l15Isometry_L1 p w m (dgv p w w.length) (i : Int)) BIG 0 = some (if (List.range (i + 1)).all (knB p w m i) then .inl () else .inr (.inr (.inr false))) := by
    intro i hi
    have core : ∀ j : Nat, j < i + 1 → s_l15Isometry_L1 p w m (dgv p w w.length) (i : Int) (j : Int) = if knB p w m i j = true then some (.inl ((j + 1 : Nat) : Int)) else some (.inr (.inr (.inr (.inr false)))) := by
      intro j hj
      have hj' : j < 2 ^ w.length := by omega
      have ci := colv_vec (by omega) hm hi
      have cj := colv_vec (by omega) hm hj'
      have he : ((if (i : Int) = (j : Int) then (idx (dgv p w w.length) (i : Int)).bind fun v19 => some v19 else some 0) : Option Int) = some (knE p w i j) := by
        unfold knE
        by_cases h : i = j
        · subst h; simp only [if_true, idxI (show i < (dgv p w w.length).length by omega), some_bind]
        · rw [if_neg (by omega), if_neg h]
      unfold s_l15Isometry_L1
      rw [if_pos (by omega), he, some_bind, s_l14Column_eq (by omega) hm hi, some_bind, s_l14Column_eq (by omega) hm hj', some_bind, s_l15Pair_eq hP hl hw ci cj, some_bind, w_in (by omega) (by omega)]
      unfold knB
      by_cases h : pairp p (2 ^ w.length) (dgv p w w.length) (colv (2 ^ w.length) m i) (colv (2 ^ w.length) m j) = knE p w i j
      · rw [if_neg (by simp [h]), if_pos (by simp [h])]; rfl
      · rw [if_pos h, if_neg (by simp [h])]
    refine all_loop _ (i + 1) (knB p w m i) _ (by rw [BIG_val]; omega) ?_ ?_ ?_
    · intro j hj hf
      rw [core j hj, if_pos hf]
    · intro j hj hf
      rw [core j hj, if_neg (by simp [hf])]
    · unfold s_l15Isometry_L1
      rw [if_neg (by omega)]
  unfold s_l15Isometry
  rw [s_diag_eq hP hl hw, some_bind, all_loop _ (2 ^ w.length) (fun i => (List.range (i + 1)).all (knB p w m i)) false (by rw [BIG_val]; omega)]
  · rw [some_bind]
    cases (List.range (2 ^ w.length)).all fun i => (List.range (i + 1)).all (knB p w m i) <;> rfl
  · intro i hi hf
    unfold s_l15Isometry_L0
    rw [if_pos (by omega), inner i hi, hf, w_in (by omega) (by omega)]; rfl
  · intro i hi hf
    unfold s_l15Isometry_L0
    rw [if_pos (by omega), inner i hi, hf]; rfl
  · unfold s_l15Isometry_L0
    rw [e0, if_neg (by omega)]
theorem i_keepsNorm_eq : i_Doubling_keepsNorm p w m = some ((List.range (2 ^ w.length)).all fun i => (List.range (2 ^ w.length)).all (knB p w m i)) := by
  have hp := isP_le hP
  have h16 := two_le hl
  have e0 := hm.1
  have hD := dgv_vec (p := p) (by omega) w w.length
  have eD := hD.1
  have inner : ∀ i : Nat, i < 2 ^ w.length → loop (i_Doubling_keepsNorm_L1 p w m (dgv p w w.length) (i : Int)) BIG 0 = some (if (List.range (2 ^ w.length)).all (knB p w m i) then .inl () else .inr (.inr (.inr false))) := by
    intro i hi
    have core : ∀ j : Nat, j < 2 ^ w.length → i_Doubling_keepsNorm_L1 p w m (dgv p w w.length) (i : Int) (j : Int) = if knB p w m i j = true then some (.inl ((j + 1 : Nat) : Int)) else some (.inr (.inr (.inr (.inr false)))) := by
      intro j hj
      have hf : ∀ k, k < 2 ^ w.length → 0 ≤ gI (gR m k) i * gI (gR m k) j % p * gI (dgv p w w.length) k ∧ gI (gR m k) i * gI (gR m k) j % p * gI (dgv p w w.length) k ≤ 169 := by
        intro k hk
        have h1 := mod_num (a := gI (gR m k) i * gI (gR m k) j) (p := p) (by omega)
        have h2 := hD.get hk
        have h3 := mul_abs (a := gI (gR m k) i * gI (gR m k) j % p) (b := gI (dgv p w w.length) k) (A := 13) (B := 13) (by omega) (by omega)
        have h4 := Int.mul_nonneg h1.1 h2.1
        omega
      have hsb : ∀ k, k ≤ 2 ^ w.length → 0 ≤ sumN (fun k => gI (gR m k) i * gI (gR m k) j % p * gI (dgv p w w.length) k) k ∧ sumN (fun k => gI (gR m k) i * gI (gR m k) j % p * gI (dgv p w w.length) k) k ≤ 169 * k :=
        fun k hk => sumN_bound fun q hq => hf q (by omega)
      have lp : loop (i_Doubling_keepsNorm_L2 p w m (dgv p w w.length) (i : Int) (j : Int)) BIG (0, 0) = some (sumN (fun k => gI (gR m k) i * gI (gR m k) j % p * gI (dgv p w w.length) k) (2 ^ w.length)) := by
        refine loop_for (fun k => (sumN (fun k => gI (gR m k) i * gI (gR m k) j % p * gI (dgv p w w.length) k) k, (k : Int))) (2 ^ w.length) (by rw [BIG_val]; omega) rfl ?_ ?_
        · intro k hk
          unfold i_Doubling_keepsNorm_L2 i_Doubling_field
          have e1 := (hm.row hk).1
          have h1 := (hm.row hk).get hi; have h2 := (hm.row hk).get hj
          have h3 := mul_abs (a := gI (gR m k) i) (b := gI (gR m k) j) (A := 13) (B := 13) (by omega) (by omega)
          have h4 := hf k hk
          have h5 := hsb k (by omega)
          simp only [show ((k : Int) < (m.length : Int)) = True from eq_true (by omega), if_true, idxR (show k < m.length by omega), idxI (show i < (gR m k).length by omega), idxI (show j < (gR m k).length by omega), idxI (show k < (dgv p w w.length).length by omega), some_bind]
          rw [w_in (x := gI (gR m k) i * gI (gR m k) j) (by omega) (by omega), i_field_num_eq (by omega) (by omega) (by omega) (by omega), some_bind, w_in (x := gI (gR m k) i * gI (gR m k) j % p * gI (dgv p w w.length) k) (by omega) (by omega), w_in (by omega) (by omega), w_in (by omega) (by omega)]
          rfl
        · unfold i_Doubling_keepsNorm_L2
          simp only [e0]
          rw [if_neg (by omega)]
      have hs := hsb (2 ^ w.length) (Nat.le_refl _)
      have hpair : sumN (fun k => gI (gR m k) i * gI (gR m k) j % p * gI (dgv p w w.length) k) (2 ^ w.length) % p = pairp p (2 ^ w.length) (dgv p w w.length) (colv (2 ^ w.length) m i) (colv (2 ^ w.length) m j) := by
        unfold pairp
        refine sumN_mod fun k hk => ?_
        unfold colv
        rw [gI_vecN _ hk, gI_vecN _ hk, mul_mod_l (emm _ _)]
      generalize sumN (fun k => gI (gR m k) i * gI (gR m k) j % p * gI (dgv p w w.length) k) (2 ^ w.length) = S at lp hs hpair
      have hE : 0 ≤ knE p w i j ∧ knE p w i j < p := by
        unfold knE
        split
        · exact hD.get hi
        · omega
      have he : ((if (i : Int) = (j : Int) then (idx (dgv p w w.length) (i : Int)).bind fun v31 => some (w64 (S - v31)) else some S) : Option Int) = some (S - knE p w i j) := by
        unfold knE
        by_cases h : i = j
        · have h2 := hD.get hi
          subst h; simp only [if_true, idxI (show i < (dgv p w w.length).length by omega), some_bind]
          rw [w_in (by omega) (by omega)]
        · rw [if_neg (by omega), if_neg h, Int.sub_zero]
      unfold i_Doubling_keepsNorm_L1 i_Doubling_field
      rw [if_pos (by omega), lp, some_bind, he, some_bind, some_bind, i_field_num_eq (by omega) (by omega) (by omega) (by omega), some_bind, w_in (by omega) (by omega)]
      have hiff : (S - knE p w i j) % p = 0 ↔ pairp p (2 ^ w.length) (dgv p w w.length) (colv (2 ^ w.length) m i) (colv (2 ^ w.length) m j) = knE p w i j := by
        rw [← hpair, ← Int.emod_eq_emod_iff_emod_sub_eq_zero, mod_small hE.1 hE.2]
      unfold knB
      by_cases h : (S - knE p w i j) % p = 0
      · rw [if_neg (by simp [h]), if_pos (decide_eq_true (hiff.1 h))]; rfl
      · rw [if_pos h, if_neg (by simp only [decide_eq_true_eq]; exact fun e => h (hiff.2 e))]
    refine all_loop _ (2 ^ w.length) (knB p w m i) _ (by rw [BIG_val]; omega) ?_ ?_ ?_
    · intro j hj hf
      rw [core j hj, if_pos hf]
    · intro j hj hf
      rw [core j hj, if_neg (by simp [hf])]
    · unfold i_Doubling_keepsNorm_L1
      rw [e0, if_neg (by omega)]
  unfold i_Doubling_keepsNorm
  rw [i_diag_eq hP hl hw, some_bind, all_loop _ (2 ^ w.length) (fun i => (List.range (2 ^ w.length)).all (knB p w m i)) false (by rw [BIG_val]; omega)]
  · rw [some_bind]
    cases (List.range (2 ^ w.length)).all fun i => (List.range (2 ^ w.length)).all (knB p w m i) <;> rfl
  · intro i hi hf
    unfold i_Doubling_keepsNorm_L0
    rw [if_pos (by omega), inner i hi, hf, w_in (by omega) (by omega)]; rfl
  · intro i hi hf
    unfold i_Doubling_keepsNorm_L0
    rw [if_pos (by omega), inner i hi, hf]; rfl
  · unfold i_Doubling_keepsNorm_L0
    rw [e0, if_neg (by omega)]
end
theorem KeepsNorm_eq {p : Int} {w : List Int} {m : List (List Int)} (hw : w.length ≤ 1048576) (h : szM m) : ∃ V C, s_KeepsNorm p w m = some (V, C) ∧ i_KeepsNorm p w m = some (V, C) := by
  have hsm : ∀ x ∈ [m], szM x := fun x hx => by simp only [List.mem_singleton] at hx; exact hx ▸ h
  unfold s_KeepsNorm i_KeepsNorm
  rw [s_l14Two_eq hw (by simp) hsm, i_checkThree_eq hw ⟨by simp, by simp⟩ (by simp) hsm, some_bind, some_bind]
  by_cases h0 : thC p w [] [m] = 0
  · obtain ⟨a1, a2, _, a4⟩ := thC_zero h0
    obtain ⟨hP, hl, hv, _⟩ := isDb_iff a1
    have hM := a4 m (by simp)
    simp only [h0, not_true_eq_false, if_false, s_l15Isometry_eq hP hl hv hM, i_keepsNorm_eq hP hl hv hM, some_bind]
    exact ⟨_, _, rfl, rfl⟩
  · simp only [h0, not_false_eq_true, if_true]
    exact ⟨_, _, rfl, rfl⟩
theorem LawIsSkew {p : Int} {w : List Int} {m : List (List Int)} (hw : lenI w) (hm : lenM m) : l_FnExactIsSkew p w m = some true := by
  unfold l_FnExactIsSkew
  rw [szDb_eq hw (by omega) (by omega), some_bind]
  by_cases h1 : ((w.length : Nat) : Int) ≤ 1048576
  · have hs : szv w.length 1048576 = 1048576 - ((w.length : Nat) : Int) := by unfold szv; rw [if_pos h1]
    rw [hs, if_neg (by omega), szM_eq hm (by omega) (by omega), some_bind]
    by_cases h2 : ((m.length + rowsum m : Nat) : Int) ≤ 1048576 - ((w.length : Nat) : Int)
    · have hs2 : szv (m.length + rowsum m) (1048576 - ((w.length : Nat) : Int)) = 1048576 - ((w.length : Nat) : Int) - ((m.length + rowsum m : Nat) : Int) := by unfold szv; rw [if_pos h2]
      rw [hs2, if_neg (by omega)]
      obtain ⟨za, ra⟩ := sz_split (m := m) (by omega) h2
      have hw' : w.length ≤ 1048576 := by omega
      obtain ⟨V, C, e3, e4⟩ := IsSkew_eq (p := p) hw' za
      have e1 := toM_eq za.1 za.2
      have e2 := toDb_eq (p := p) hw'
      have e5 := eqDb_self (p := p) hw'
      have e6 := eqM_self za
      simp only [e1, e2, e3, e4, e5, e6, some_bind, Bool.true_eq_false, Bool.false_eq_true, if_false, if_true, ieq_self, Bool.not_true, natneg, not_true_eq_false, bne_self_eq_false]
    · have hs2 : szv (m.length + rowsum m) (1048576 - ((w.length : Nat) : Int)) = -1 := by unfold szv; rw [if_neg h2]
      rw [hs2, if_pos (by omega)]
  · have hs : szv w.length 1048576 = -1 := by unfold szv; rw [if_neg h1]
    rw [hs, if_pos (by omega)]
theorem LawKeepsNorm {p : Int} {w : List Int} {m : List (List Int)} (hw : lenI w) (hm : lenM m) : l_FnExactKeepsNorm p w m = some true := by
  unfold l_FnExactKeepsNorm
  rw [szDb_eq hw (by omega) (by omega), some_bind]
  by_cases h1 : ((w.length : Nat) : Int) ≤ 1048576
  · have hs : szv w.length 1048576 = 1048576 - ((w.length : Nat) : Int) := by unfold szv; rw [if_pos h1]
    rw [hs, if_neg (by omega), szM_eq hm (by omega) (by omega), some_bind]
    by_cases h2 : ((m.length + rowsum m : Nat) : Int) ≤ 1048576 - ((w.length : Nat) : Int)
    · have hs2 : szv (m.length + rowsum m) (1048576 - ((w.length : Nat) : Int)) = 1048576 - ((w.length : Nat) : Int) - ((m.length + rowsum m : Nat) : Int) := by unfold szv; rw [if_pos h2]
      rw [hs2, if_neg (by omega)]
      obtain ⟨za, ra⟩ := sz_split (m := m) (by omega) h2
      have hw' : w.length ≤ 1048576 := by omega
      obtain ⟨V, C, e3, e4⟩ := KeepsNorm_eq (p := p) hw' za
      have e1 := toM_eq za.1 za.2
      have e2 := toDb_eq (p := p) hw'
      have e5 := eqDb_self (p := p) hw'
      have e6 := eqM_self za
      simp only [e1, e2, e3, e4, e5, e6, some_bind, Bool.true_eq_false, Bool.false_eq_true, if_false, if_true, ieq_self, Bool.not_true, natneg, not_true_eq_false, bne_self_eq_false]
    · have hs2 : szv (m.length + rowsum m) (1048576 - ((w.length : Nat) : Int)) = -1 := by unfold szv; rw [if_neg h2]
      rw [hs2, if_pos (by omega)]
  · have hs : szv w.length 1048576 = -1 := by unfold szv; rw [if_neg h1]
    rw [hs, if_pos (by omega)]
end Go.Vam
