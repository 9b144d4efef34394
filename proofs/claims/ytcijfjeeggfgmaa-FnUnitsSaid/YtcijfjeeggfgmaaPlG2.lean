import Derived.Test.YtcijfjeeggfgmaaPlG1
/- Plain laws: the norm of a product; LoopOfUnits. -/
namespace Go.Vam
open Go Go.RowKit
set_option linter.unusedSimpArgs false
set_option linter.unusedVariables false
set_option linter.unusedSectionVars false

/-! ### The norm of a product -/
theorem wpF_six (w : List Int) : ∀ n, n ≤ 4 → ∀ i, i < 2 ^ n → ∀ j, j < 2 ^ n → ∀ k, k < 2 ^ n →
    wpF w n (i ^^^ k) * (wpF w n (i &&& k) * wpF w n (j &&& (i ^^^ (j ^^^ k)))) = wpF w n (j ^^^ k) * (wpF w n (i &&& (i ^^^ (j ^^^ k))) * wpF w n (j &&& k))
  | 0, _, i, _, j, _, k, _ => rfl
  | n + 1, hn, i, hi, j, hj, k, hk => by
    have hpow : 2 ^ (n + 1) = 2 ^ n + 2 ^ n := by rw [Nat.pow_succ]; omega
    rw [hpow] at hi hj hk
    have ih := wpF_six w n (by omega)
    have hA := and_hi n (by omega)
    have hX := xor_hi n (by omega)
    have hL := and_lt' n (by omega)
    have hlt : ∀ a b, a < 2 ^ n → b < 2 ^ n → a ^^^ b < 2 ^ n := fun a b ha hb => xor_lt ha hb
    unfold wpF
    generalize hd : 2 ^ n = d at hi hj hk ih hA hX hL hlt ⊢
    have hm : ∀ m, m < d → (d + m) % d = m := fun m hm => by rw [Nat.add_mod_left, Nat.mod_eq_of_lt hm]
    have lo : ∀ m, m < d → (if m < d then (1 : Int) else gI w n) * wpF w n (m % d) = wpF w n m := fun m h => by rw [if_pos h, Int.one_mul, Nat.mod_eq_of_lt h]
    have up : ∀ m, m < d → (if d + m < d then (1 : Int) else gI w n) * wpF w n ((d + m) % d) = gI w n * wpF w n m := fun m h => by rw [if_neg (by omega), hm m h]
    have e : ∀ x, x < d + d → ∃ y, y < d ∧ (x = y ∨ x = d + y) := fun x hx => by
      rcases Nat.lt_or_ge x d with h | h
      · exact ⟨x, h, .inl rfl⟩
      · exact ⟨x - d, by omega, .inr (by omega)⟩
    obtain ⟨i', i1, i2⟩ := e i hi
    obtain ⟨j', j1, j2⟩ := e j hj
    obtain ⟨k', k1, k2⟩ := e k hk
    have key := ih i' i1 j' j1 k' k1
    have a1 := hL j' j1 k' k1
    have a2 := hL i' i1 k' k1
    have a3 := hlt j' k' j1 k1
    have a4 := hlt i' k' i1 k1
    have a7 := hlt i' _ i1 a3
    have a8 := hL j' j1 _ a7
    have a9 := hL i' i1 _ a7
    rcases i2 with rfl | rfl <;> rcases j2 with rfl | rfl <;> rcases k2 with rfl | rfl <;>
      simp only [(hX _ j1 _ k1).1, (hX _ j1 _ k1).2.1, (hX _ j1 _ k1).2.2, (hX _ i1 _ k1).1, (hX _ i1 _ k1).2.1, (hX _ i1 _ k1).2.2, (hX _ i1 _ a3).1, (hX _ i1 _ a3).2.1, (hX _ i1 _ a3).2.2,
        (hA _ i1 _ k1).1, (hA _ i1 _ k1).2.1, (hA _ i1 _ k1).2.2, (hA _ j1 _ k1).1, (hA _ j1 _ k1).2.1, (hA _ j1 _ k1).2.2, (hA _ i1 _ a7).1, (hA _ i1 _ a7).2.1, (hA _ i1 _ a7).2.2, (hA _ j1 _ a7).1, (hA _ j1 _ a7).2.1, (hA _ j1 _ a7).2.2,
        lo _ a1, lo _ a2, lo _ a3, lo _ a4, lo _ a8, lo _ a9, up _ a1, up _ a2, up _ a3, up _ a4, up _ a8, up _ a9] <;> grind
def nmB (n i j k : Nat) : Bool := decide (i = j) || decide (sgs (i ^^^ k) * sgF n (i ^^^ k) (i ^^^ k) * (sgF n i k * sgF n j (i ^^^ (j ^^^ k))) + sgs (j ^^^ k) * sgF n (j ^^^ k) (j ^^^ k) * (sgF n i (i ^^^ (j ^^^ k)) * sgF n j k) = 0)
theorem nmB_all : ∀ n, n < 4 → ∀ i, i < 2 ^ n → ∀ j, j < 2 ^ n → ∀ k, k < 2 ^ n → nmB n i j k = true := by decide +kernel
def ndB (n i k : Nat) : Bool := decide (sgs (i ^^^ k) * sgF n (i ^^^ k) (i ^^^ k) * (sgF n i k * sgF n i k) = sgs i * sgF n i i * (sgs k * sgF n k k))
theorem ndB_all : ∀ n, n < 4 → ∀ i, i < 2 ^ n → ∀ k, k < 2 ^ n → ndB n i k = true := by decide +kernel
def dD (n : Nat) (w : List Int) (m : Nat) : Int := sgs m * axS n w m m
theorem dD_split {n : Nat} (hn : n ≤ 4) (w : List Int) {m : Nat} (hm : m < 2 ^ n) : dD n w m = sgs m * sgF n m m * wpF w n m := by
  unfold dD
  rw [axS_split n hn w m m hm hm, Nat.and_self, Int.mul_assoc]
theorem axS_off {n : Nat} (hn : n ≤ 3) (w : List Int) {i j k : Nat} (hi : i < 2 ^ n) (hj : j < 2 ^ n) (hk : k < 2 ^ n) (hij : i ≠ j) :
    dD n w (i ^^^ k) * (axS n w i k * axS n w j (i ^^^ (j ^^^ k))) + dD n w (j ^^^ k) * (axS n w i (i ^^^ (j ^^^ k)) * axS n w j k) = 0 := by
  have hjk := xor_lt hj hk
  have hik := xor_lt hi hk
  have hl := xor_lt hi hjk
  have h1 := nmB_all n (by omega) i hi j hj k hk
  unfold nmB at h1
  simp only [Bool.or_eq_true, decide_eq_true_eq, hij, false_or] at h1
  have h2 := wpF_six w n (by omega) i hi j hj k hk
  rw [dD_split (by omega) w hik, dD_split (by omega) w hjk, axS_split n (by omega) w i k hi hk, axS_split n (by omega) w j _ hj hl, axS_split n (by omega) w i _ hi hl, axS_split n (by omega) w j k hj hk]
  generalize sgF n i k = s1 at h1 ⊢
  generalize sgF n j (i ^^^ (j ^^^ k)) = s2 at h1 ⊢
  generalize sgF n i (i ^^^ (j ^^^ k)) = s3 at h1 ⊢
  generalize sgF n j k = s4 at h1 ⊢
  generalize sgs (i ^^^ k) * sgF n (i ^^^ k) (i ^^^ k) = s5 at h1 ⊢
  generalize sgs (j ^^^ k) * sgF n (j ^^^ k) (j ^^^ k) = s6 at h1 ⊢
  generalize wpF w n (i ^^^ k) = a1 at h2 ⊢
  generalize wpF w n (i &&& k) = a2 at h2 ⊢
  generalize wpF w n (j &&& (i ^^^ (j ^^^ k))) = a3 at h2 ⊢
  generalize wpF w n (j ^^^ k) = a4 at h2 ⊢
  generalize wpF w n (i &&& (i ^^^ (j ^^^ k))) = a5 at h2 ⊢
  generalize wpF w n (j &&& k) = a6 at h2 ⊢
  have h3 : s5 * a1 * (s1 * a2 * (s2 * a3)) + s6 * a4 * (s3 * a5 * (s4 * a6)) = s5 * (s1 * s2) * (a1 * (a2 * a3)) + s6 * (s3 * s4) * (a4 * (a5 * a6)) := by grind
  rw [h3, h2, ← Int.add_mul, h1, Int.zero_mul]
theorem axS_dia {n : Nat} (hn : n ≤ 3) (w : List Int) {i k : Nat} (hi : i < 2 ^ n) (hk : k < 2 ^ n) :
    dD n w (i ^^^ k) * (axS n w i k * axS n w i k) = dD n w i * dD n w k := by
  have hik := xor_lt hi hk
  have h1 := ndB_all n (by omega) i hi k hk
  unfold ndB at h1
  simp only [decide_eq_true_eq] at h1
  have b1 := wpF_self w n (by omega) i hi k hk
  have b2 := wpF_self w n (by omega) k hk i hi
  have b3 := wpF_self w n (by omega) (i ^^^ k) hik i hi
  have hx : (i ^^^ k) ^^^ i = k := by rw [Nat.xor_comm i k, Nat.xor_assoc, Nat.xor_self, Nat.xor_zero]
  rw [hx] at b3
  rw [Nat.and_self] at b1 b2 b3
  rw [Nat.and_comm k i, Nat.xor_comm k i] at b2
  rw [Nat.and_comm (i ^^^ k) i, Nat.and_comm (i ^^^ k) k] at b3
  rw [dD_split (by omega) w hik, dD_split (by omega) w hi, dD_split (by omega) w hk, axS_split n (by omega) w i k hi hk]
  generalize sgF n i k = s1 at h1 ⊢
  generalize sgs (i ^^^ k) * sgF n (i ^^^ k) (i ^^^ k) = s5 at h1 ⊢
  generalize sgs i * sgF n i i = s6 at h1 ⊢
  generalize sgs k * sgF n k k = s7 at h1 ⊢
  rw [← b1, ← b2, ← b3]
  generalize wpF w n (i &&& k) = a1
  generalize wpF w n (i &&& (i ^^^ k)) = a2
  generalize wpF w n (k &&& (i ^^^ k)) = a3
  have e1 : s5 * (a2 * a3) * (s1 * a1 * (s1 * a1)) = s5 * (s1 * s1) * (a1 * a1 * (a2 * a3)) := by grind
  have e2 : s6 * (a1 * a2) * (s7 * (a1 * a3)) = s6 * s7 * (a1 * a1 * (a2 * a3)) := by grind
  rw [e1, e2, h1]
theorem sumN_mul (f g : Nat → Int) (m n : Nat) : sumN f m * sumN g n = sumN (fun i => sumN (fun j => f i * g j) n) m := by
  rw [← sumN_mulR]
  exact sumN_congr fun i _ => (sumN_mulL _ _ _).symm
theorem norm_mul {n : Nat} (hn : n ≤ 3) (w x y : List Int) :
    sumN (fun m => dD n w m * (sumN (fun i => gI x i * gI y (i ^^^ m) * axS n w i (i ^^^ m)) (2 ^ n) * sumN (fun i => gI x i * gI y (i ^^^ m) * axS n w i (i ^^^ m)) (2 ^ n))) (2 ^ n) =
    sumN (fun i => dD n w i * (gI x i * gI x i)) (2 ^ n) * sumN (fun k => dD n w k * (gI y k * gI y k)) (2 ^ n) := by
  have s1 : ∀ m, dD n w m * (sumN (fun i => gI x i * gI y (i ^^^ m) * axS n w i (i ^^^ m)) (2 ^ n) * sumN (fun i => gI x i * gI y (i ^^^ m) * axS n w i (i ^^^ m)) (2 ^ n)) =
      sumN (fun i => sumN (fun j => dD n w m * (gI x i * gI y (i ^^^ m) * axS n w i (i ^^^ m) * (gI x j * gI y (j ^^^ m) * axS n w j (j ^^^ m)))) (2 ^ n)) (2 ^ n) := fun m => by
    rw [sumN_mul, ← sumN_mulL]
    exact sumN_congr fun i _ => (sumN_mulL _ _ _).symm
  rw [sumN_congr fun m _ => s1 m, sumN_comm, sumN_mul]
  refine sumN_congr fun i hi => ?_
  rw [sumN_comm]
  have off : ∀ j, j < 2 ^ n → j ≠ i → sumN (fun m => dD n w m * (gI x i * gI y (i ^^^ m) * axS n w i (i ^^^ m) * (gI x j * gI y (j ^^^ m) * axS n w j (j ^^^ m)))) (2 ^ n) = 0 := by
    intro j hj hji
    have hc := xor_lt hi hj
    rw [← sum_xor0 (fun m => dD n w m * (gI x i * gI y (i ^^^ m) * axS n w i (i ^^^ m) * (gI x j * gI y (j ^^^ m) * axS n w j (j ^^^ m)))) (show n ≤ 4 by omega) hi]
    have e1 : ∀ k, i ^^^ (k ^^^ i) = k := fun k => by rw [Nat.xor_comm k i, ← Nat.xor_assoc, Nat.xor_self, Nat.zero_xor]
    have e2 : ∀ k, j ^^^ (k ^^^ i) = i ^^^ (j ^^^ k) := fun k => by rw [← Nat.xor_assoc, Nat.xor_comm]
    simp only [e1, e2]
    have dbl : sumN (fun k => dD n w (k ^^^ i) * (gI x i * gI y k * axS n w i k * (gI x j * gI y (i ^^^ (j ^^^ k)) * axS n w j (i ^^^ (j ^^^ k))))) (2 ^ n) +
        sumN (fun k => dD n w (k ^^^ i) * (gI x i * gI y k * axS n w i k * (gI x j * gI y (i ^^^ (j ^^^ k)) * axS n w j (i ^^^ (j ^^^ k))))) (2 ^ n) = 0 := by
      conv =>
        lhs; arg 2
        rw [← sum_xor0 (fun k => dD n w (k ^^^ i) * (gI x i * gI y k * axS n w i k * (gI x j * gI y (i ^^^ (j ^^^ k)) * axS n w j (i ^^^ (j ^^^ k))))) (show n ≤ 4 by omega) hc]
      rw [← sumN_add]
      rw [sumN_congr (g := fun _ => 0)]
      · exact sumN_zero _
      intro k hk
      have f1 : k ^^^ (i ^^^ j) = i ^^^ (j ^^^ k) := by rw [Nat.xor_comm, Nat.xor_assoc]
      have f2 : i ^^^ (j ^^^ (i ^^^ (j ^^^ k))) = k := by
        rw [← Nat.xor_assoc j i, Nat.xor_comm j i, Nat.xor_assoc i j, ← Nat.xor_assoc i i, Nat.xor_self, Nat.zero_xor, ← Nat.xor_assoc, Nat.xor_self, Nat.zero_xor]
      have f3 : (i ^^^ (j ^^^ k)) ^^^ i = j ^^^ k := by rw [Nat.xor_comm, ← Nat.xor_assoc, Nat.xor_self, Nat.zero_xor]
      rw [f1, f2, f3, Nat.xor_comm k i]
      have h := axS_off hn w hi hj hk (fun e => hji e.symm)
      have e3 : dD n w (i ^^^ k) * (gI x i * gI y k * axS n w i k * (gI x j * gI y (i ^^^ (j ^^^ k)) * axS n w j (i ^^^ (j ^^^ k)))) + dD n w (j ^^^ k) * (gI x i * gI y (i ^^^ (j ^^^ k)) * axS n w i (i ^^^ (j ^^^ k)) * (gI x j * gI y k * axS n w j k)) =
          gI x i * gI x j * (gI y k * gI y (i ^^^ (j ^^^ k))) * (dD n w (i ^^^ k) * (axS n w i k * axS n w j (i ^^^ (j ^^^ k))) + dD n w (j ^^^ k) * (axS n w i (i ^^^ (j ^^^ k)) * axS n w j k)) := by grind
      rw [e3, h, Int.mul_zero]
    omega
  rw [sumN_one hi off]
  rw [← sum_xor0 (fun m => dD n w m * (gI x i * gI y (i ^^^ m) * axS n w i (i ^^^ m) * (gI x i * gI y (i ^^^ m) * axS n w i (i ^^^ m)))) (show n ≤ 4 by omega) hi]
  refine sumN_congr fun k hk => ?_
  have e1 : i ^^^ (k ^^^ i) = k := by rw [Nat.xor_comm k i, ← Nat.xor_assoc, Nat.xor_self, Nat.zero_xor]
  rw [e1, Nat.xor_comm k i]
  have h := axS_dia hn w hi hk
  have e3 : dD n w (i ^^^ k) * (gI x i * gI y k * axS n w i k * (gI x i * gI y k * axS n w i k)) = gI x i * gI x i * (gI y k * gI y k) * (dD n w (i ^^^ k) * (axS n w i k * axS n w i k)) := by grind
  rw [e3, h]
  grind
theorem nrm_dD {p : Int} (hp : 1 < p) (w x : List Int) : nrm p w x = sumN (fun k => dD w.length w k * (gI x k * gI x k)) (2 ^ w.length) % p := by
  unfold nrm
  refine sumN_mod fun k hk => ?_
  rw [Int.mul_assoc]
  exact mul_mod_l (dgv_at hp w.length w k hk)
theorem nrm_mulp {p : Int} (hp : 1 < p) {w : List Int} (hl : w.length ≤ 3) (x y : List Int) : nrm p w (mulp p w x y) = (nrm p w x * nrm p w y) % p := by
  rw [nrm_dD hp, nrm_dD hp, nrm_dD hp, ← Int.mul_emod, ← norm_mul hl]
  refine sumN_mod fun m hm => ?_
  refine mul_mod_r ?_
  have h := mulr_gen (p := p) w.length (by omega) w x y m hm
  unfold mulp
  rw [Int.mul_emod, h, ← Int.mul_emod]
end Go.Vam

/- Plain law: LoopOfUnits. -/
namespace Go.Vam
open Go Go.RowKit
set_option linter.unusedSimpArgs false
set_option linter.unusedVariables false
set_option linter.unusedSectionVars false

theorem sumN_head (f : Nat → Int) (n : Nat) : sumN f (n + 1) = f 0 + sumN (fun k => f (k + 1)) n := by
  rw [Nat.add_comm n 1, sumN_split]
  simp only [sumN, Int.zero_add]
  congr 1
  exact sumN_congr fun k _ => by rw [Nat.add_comm]
/-- The sum of squares. -/
def sqS (l v : List Int) : Int := sumN (fun k => gI l k * gI v k * gI v k) l.length
theorem mem_lstU {p : Int} (hp : 0 < p) : ∀ (l : List Int) (n : Int) (x y : List Int), y ∈ lstU p l n x ↔ ∃ v, y = x ++ v ∧ Vec p l.length v ∧ (n - sqS l v) % p = 0
  | [], n, x, y => by
    unfold lstU
    constructor
    · intro h
      split at h
      · simp only [List.mem_cons, List.not_mem_nil, or_false] at h
        exact ⟨[], by simpa using h, ⟨rfl, fun k hk => absurd hk (by simp)⟩, by simpa [sqS, sumN] using ‹n % p = 0›⟩
      · cases h
    · rintro ⟨v, rfl, hv, hs⟩
      have : v = [] := List.length_eq_zero_iff.1 hv.1
      subst this
      have hs' : n % p = 0 := by simpa [sqS, sumN] using hs
      rw [if_pos hs']
      simp
  | d :: r, n, x, y => by
    unfold lstU
    rw [List.mem_flatMap]
    constructor
    · rintro ⟨a, ha, h⟩
      obtain ⟨v, rfl, hv, hs⟩ := (mem_lstU hp r _ _ y).1 h
      have haP := List.mem_range.1 ha
      refine ⟨(a : Int) :: v, by simp, ⟨by simp [hv.1], fun k hk => ?_⟩, ?_⟩
      · cases k with
        | zero => show 0 ≤ (a : Int) ∧ (a : Int) < p; omega
        | succ k => exact hv.get (by simpa using hk)
      · have : n - sqS (d :: r) ((a : Int) :: v) = n - d * (a : Int) * (a : Int) - sqS r v := by
          unfold sqS
          rw [List.length_cons, sumN_head]
          show n - (d * (a : Int) * (a : Int) + sumN (fun k => gI r k * gI v k * gI v k) r.length) = _
          omega
        rw [this]
        exact hs
    · rintro ⟨v, rfl, hv, hs⟩
      cases v with
      | nil => simp [Vec] at hv
      | cons a v =>
        have h0 := hv.get (k := 0) (by simp)
        have h0' : 0 ≤ a ∧ a < p := h0
        obtain ⟨b, rfl⟩ : ∃ b : Nat, a = (b : Int) := ⟨a.toNat, by omega⟩
        refine ⟨b, List.mem_range.2 (by omega), (mem_lstU hp r _ _ _).2 ⟨v, by simp, ⟨by simpa using hv.1, fun k hk => hv.get (k := k + 1) (by simpa using hk)⟩, ?_⟩⟩
        have : n - sqS (d :: r) ((b : Int) :: v) = n - d * (b : Int) * (b : Int) - sqS r v := by
          unfold sqS
          rw [List.length_cons, sumN_head]
          show n - (d * (b : Int) * (b : Int) + sumN (fun k => gI r k * gI v k * gI v k) r.length) = _
          omega
        rw [← this]
        exact hs
theorem axS_00 : ∀ (n : Nat) (w : List Int), axS n w 0 0 = 1
  | 0, _ => rfl
  | n + 1, w => by
    unfold axS
    rw [if_pos (two_pos n), if_pos (two_pos n)]
    exact axS_00 n _
section
variable {p : Int} {w : List Int} (hP : isP p = true) (hl : w.length ≤ 3) (hw : Vec p w.length w)
include hP hl hw
theorem nrm_one : nrm p w (axis (2 ^ w.length) 0) = 1 := by
  have hp := isP_le hP
  have h1 := norm_axis hP (by omega) hw (two_pos w.length)
  have h2 := i_norm_eq hP (by omega) hw (axis_vec (p := p) (by omega) (two_pos w.length))
  rw [h1] at h2
  rw [← Option.some.inj h2]
  have h3 := dgv_at (p := p) (by omega) w.length w 0 (two_pos _)
  have h4 := (dgv_vec (p := p) (by omega) w w.length).get (two_pos _)
  rw [axS_00] at h3
  rw [Int.emod_eq_of_lt h4.1 h4.2] at h3
  rw [h3]
  show (1 * 1 : Int) % p = 1
  exact Int.emod_eq_of_lt (by omega) (by omega)
theorem mem_untU {x : List Int} : x ∈ untU p w ↔ Vec p (2 ^ w.length) x ∧ nrm p w x = 1 := by
  have hp := isP_le hP
  have hlen := (dgv_vec (p := p) (by omega) w w.length).1
  have key : x ∈ fndU p w ↔ Vec p (2 ^ w.length) x ∧ nrm p w x = 1 := by
    unfold fndU
    rw [mem_lstU (by omega), hlen]
    have hs : sqS (dgv p w w.length) x % p = nrm p w x := by unfold sqS nrm; rw [hlen]
    constructor
    · rintro ⟨v, rfl, hv, h⟩
      refine ⟨hv, ?_⟩
      rw [← hs]
      have h3 : (sqS (dgv p w w.length) x) % p = 1 % p := by
        have := Int.emod_eq_emod_iff_emod_sub_eq_zero.2 h
        exact this.symm
      rw [h3]
      exact Int.emod_eq_of_lt (by omega) (by omega)
    · rintro ⟨hv, hn⟩
      refine ⟨x, rfl, hv, ?_⟩
      rw [hn] at hs
      refine Int.emod_eq_emod_iff_emod_sub_eq_zero.1 ?_
      rw [hs]
      exact Int.emod_eq_of_lt (by omega) (by omega)
  unfold untU
  rw [List.mem_cons, List.mem_filter, key]
  constructor
  · rintro (rfl | ⟨h, _⟩)
    · exact ⟨axis_vec (by omega) (two_pos _), nrm_one hP hl hw⟩
    · exact h
  · intro h
    by_cases e : x = axis (2 ^ w.length) 0
    · exact .inl e
    · exact .inr ⟨h, by simpa using e⟩
theorem untU_mul {x y : List Int} (hx : x ∈ untU p w) (hy : y ∈ untU p w) : mulp p w x y ∈ untU p w := by
  have hp := isP_le hP
  obtain ⟨x1, x2⟩ := (mem_untU hP hl hw).1 hx
  obtain ⟨y1, y2⟩ := (mem_untU hP hl hw).1 hy
  refine (mem_untU hP hl hw).2 ⟨mulp_vec hP (by omega) hw x1 y1, ?_⟩
  rw [nrm_mulp (by omega) hl, x2, y2]
  exact Int.emod_eq_of_lt (by omega) (by omega)
end
/-- Where an element stands. -/
def fxU (U : List (List Int)) (z : List Int) : Nat := U.findIdx fun y => decide (y = z)
theorem fxU_spec {U : List (List Int)} {z : List Int} (h : z ∈ U) : fxU U z < U.length ∧ gR U (fxU U z) = z ∧ ∀ j, j < fxU U z → gR U j ≠ z := by
  have h1 : fxU U z < U.length := List.findIdx_lt_length_of_exists ⟨z, h, by simp⟩
  refine ⟨h1, ?_, fun j hj => ?_⟩
  · have := List.findIdx_getElem (p := fun y => decide (y = z)) (xs := U) (w := h1)
    rw [← gR_get h1]
    exact of_decide_eq_true this
  · have := List.not_of_lt_findIdx (p := fun y => decide (y = z)) (xs := U) hj
    rw [gR_get (show j < U.length by omega)] at this
    simpa using this
def lpU (p : Int) (w : List Int) (U : List (List Int)) : List (List Int) := vecN U.length fun i => vecN U.length fun j => ((fxU U (mulp p w (gR U i) (gR U j)) : Nat) : Int)
section
variable {p : Int} {w : List Int} {U : List (List Int)} {C : Int} (hP : isP p = true) (hl : w.length ≤ 3) (hw : Vec p w.length w) (hU : U.length ≤ 1000) (hv : ∀ i, i < U.length → Vec p (2 ^ w.length) (gR U i))
  (hc : ∀ i j, i < U.length → j < U.length → mulp p w (gR U i) (gR U j) ∈ U)
include hP hl hw hU hv hc
theorem s_loopU : loop (s_LoopOfUnits_L0 p w (U, C)) BIG ([], 0) = some (lpU p w U) := by
  have h8 : 2 ^ w.length ≤ 16 := two_le (by omega)
  refine map_loop _ U.length _ (by rw [BIG_val]; omega) (fun i hi out ho => ?_) fun out ho => ?_
  · unfold s_LoopOfUnits_L0
    simp only [lt_cast hi, if_true]
    rw [map_loop (s_LoopOfUnits_L1 p w (U, C) (out, (i : Int))) U.length (fun j => ((fxU U (mulp p w (gR U i) (gR U j)) : Nat) : Int)) (by rw [BIG_val]; omega) (fun j hj o2 ho2 => ?_) fun o2 ho2 => ?_]
    · rw [some_bind, chk_bind (by simp; omega), w_in (by omega) (by omega)]
      rfl
    · obtain ⟨f1, f2, f3⟩ := fxU_spec (hc i j hi hj)
      unfold s_LoopOfUnits_L1
      simp only [lt_cast hj, if_true, idxR hi, idxR hj, some_bind]
      rw [s_l11Times_eq hP (by omega) hw (hv i hi) (hv j hj), some_bind]
      rw [loop_for (s := (0 : Int)) (b := ((fxU U (mulp p w (gR U i) (gR U j)) : Nat) : Int)) (fun k => (k : Int)) (fxU U (mulp p w (gR U i) (gR U j))) (by rw [BIG_val]; omega) rfl]
      · rw [some_bind, chk_bind (by simp; omega), w_in (by omega) (by omega)]
        rfl
      · intro k hk
        unfold s_LoopOfUnits_L2
        have := (hv k (by omega)).1
        simp only [idxR (show k < U.length by omega), some_bind]
        rw [s_l01Same_eq (by omega), some_bind, w_in (by omega) (by omega)]
        simp [f3 k hk]
      · unfold s_LoopOfUnits_L2
        have := (hv _ f1).1
        simp only [idxR f1, some_bind]
        rw [s_l01Same_eq (by omega), some_bind, f2]
        simp
    · unfold s_LoopOfUnits_L1
      simp only [lt_cast_self, if_false]
  · unfold s_LoopOfUnits_L0
    simp only [lt_cast_self, if_false]
theorem i_loopU : loop (i_LoopOfUnits_L0 p w (U, C)) BIG ([], 0) = some (lpU p w U) := by
  have h8 : 2 ^ w.length ≤ 16 := two_le (by omega)
  refine map_loop _ U.length _ (by rw [BIG_val]; omega) (fun i hi out ho => ?_) fun out ho => ?_
  · unfold i_LoopOfUnits_L0
    simp only [lt_cast hi, if_true, idxR hi, some_bind]
    rw [map_loop (i_LoopOfUnits_L1 p w (U, C) (gR U i)) U.length (fun j => ((fxU U (mulp p w (gR U i) (gR U j)) : Nat) : Int)) (by rw [BIG_val]; omega) (fun j hj o2 ho2 => ?_) fun o2 ho2 => ?_]
    · rw [some_bind, chk_bind (by simp; omega), w_in (by omega) (by omega)]
      rfl
    · obtain ⟨f1, f2, f3⟩ := fxU_spec (hc i j hi hj)
      unfold i_LoopOfUnits_L1 g_slices_IndexFunc_LLI_LI_of_i_LoopOfUnits_c1
      simp only [lt_cast hj, if_true, idxR hj, some_bind]
      rw [i_Doubling_times_eq hP (by omega) hw (hv i hi) (hv j hj), some_bind]
      rw [loop_for (s := (0 : Int)) (b := (Sum.inr ((fxU U (mulp p w (gR U i) (gR U j)) : Nat) : Int) : Unit ⊕ Int)) (fun k => (k : Int)) (fxU U (mulp p w (gR U i) (gR U j))) (by rw [BIG_val]; omega) rfl]
      · rw [some_bind]
        simp only [some_bind]
        rw [chk_bind (by simp; omega), w_in (by omega) (by omega)]
        rfl
      · intro k hk
        unfold g_slices_IndexFunc_LLI_LI_of_i_LoopOfUnits_c1_L0 i_LoopOfUnits_c1
        have := (hv k (by omega)).1
        simp only [lt_cast (show k < U.length by omega), if_true, idxR (show k < U.length by omega), some_bind]
        rw [slicesEqual_eq (by omega), some_bind, some_bind, w_in (by omega) (by omega)]
        simp [f3 k hk]
      · unfold g_slices_IndexFunc_LLI_LI_of_i_LoopOfUnits_c1_L0 i_LoopOfUnits_c1
        have := (hv _ f1).1
        simp only [lt_cast f1, if_true, idxR f1, some_bind]
        rw [slicesEqual_eq (by omega), some_bind, some_bind, f2]
        simp
    · unfold i_LoopOfUnits_L1
      simp only [lt_cast_self, if_false]
  · unfold i_LoopOfUnits_L0
    simp only [lt_cast_self, if_false]
end
end Go.Vam

/- Plain algebra: the identities of Moufang, products with conjugates. -/
namespace Go.Vam
open Go Go.RowKit
set_option linter.unusedSimpArgs false
set_option linter.unusedVariables false
set_option linter.unusedSectionVars false

/-! ### Digits -/
theorem testBit_high {n m : Nat} (h1 : 2 ^ n ≤ m) (h2 : m < 2 ^ (n + 1)) : m.testBit n = true := by
  rw [Nat.testBit_eq_decide_div_mod_eq]
  have hp := Nat.two_pow_pos n
  have : m / 2 ^ n = 1 := by
    rw [Nat.pow_succ] at h2
    exact Nat.div_eq_of_lt_le (by omega) (by omega)
  rw [this]; rfl
/-- A product of powers of the steps' numbers. -/
def monN (w : List Int) : Nat → (Nat → Nat) → Int
  | 0, _ => 1
  | n + 1, f => gI w n ^ f n * monN w n f
theorem monN_congr {w : List Int} : ∀ {n : Nat} {f g : Nat → Nat}, (∀ t, t < n → f t = g t) → monN w n f = monN w n g
  | 0, _, _, _ => rfl
  | n + 1, f, g, h => by unfold monN; rw [h n (by omega), monN_congr fun t ht => h t (by omega)]
theorem monN_mul (w : List Int) : ∀ (n : Nat) (f g : Nat → Nat), monN w n f * monN w n g = monN w n fun t => f t + g t
  | 0, _, _ => rfl
  | n + 1, f, g => by unfold monN; rw [← monN_mul w n f g, Int.pow_add]; grind
theorem wpF_mon (w : List Int) : ∀ (n m : Nat), m < 2 ^ n → wpF w n m = monN w n fun t => (m.testBit t).toNat
  | 0, _, _ => rfl
  | n + 1, m, hm => by
    unfold wpF monN
    have hp := Nat.two_pow_pos n
    rw [wpF_mon w n (m % 2 ^ n) (Nat.mod_lt _ hp)]
    congr 1
    · by_cases h : m < 2 ^ n
      · simp only [if_pos h, Nat.testBit_lt_two_pow h]; show (1 : Int) = gI w n ^ 0; rw [Int.pow_zero]
      · simp only [if_neg h, testBit_high (show 2 ^ n ≤ m by omega) hm]; show gI w n = gI w n ^ 1; rw [Int.pow_succ, Int.pow_zero, Int.one_mul]
    · exact monN_congr fun t ht => by rw [Nat.testBit_mod_two_pow]; simp [ht]
theorem and_lt {n i j : Nat} (hi : i < 2 ^ n) : i &&& j < 2 ^ n := Nat.lt_of_le_of_lt Nat.and_le_left hi
theorem xc1 (a b : Nat) : a ^^^ (a ^^^ b) = b := by rw [← Nat.xor_assoc, Nat.xor_self, Nat.zero_xor]
theorem xc2 (a b : Nat) : a ^^^ (b ^^^ a) = b := by rw [Nat.xor_comm b a, xc1]
theorem xc3 (a b : Nat) : (a ^^^ b) ^^^ a = b := by rw [Nat.xor_comm, xc1]
theorem xc4 (a b : Nat) : (b ^^^ a) ^^^ a = b := by rw [Nat.xor_assoc, Nat.xor_self, Nat.xor_zero]

/-! ### Products of numbers by axes -/
def pz (n : Nat) (w : List Int) (x y : Nat → Int) (m : Nat) : Int := sumN (fun i => x i * y (i ^^^ m) * axS n w i (i ^^^ m)) (2 ^ n)
theorem pz_mod {p : Int} {n : Nat} (w : List Int) {x x' y y' : Nat → Int} (hx : ∀ i, i < 2 ^ n → x i % p = x' i % p) (hy : ∀ i, i < 2 ^ n → y i % p = y' i % p) {m : Nat} (hm : m < 2 ^ n) :
    pz n w x y m % p = pz n w x' y' m % p := by
  unfold pz
  refine sumN_mod fun i hi => ?_
  rw [mul_mod_l (c := axS n w i (i ^^^ m)) (show (x i * y (i ^^^ m)) % p = (x' i * y' (i ^^^ m)) % p by rw [Int.mul_emod, hx i hi, hy _ (xor_lt hi hm), ← Int.mul_emod])]
theorem mulr_pz {p : Int} {n : Nat} (hn : n ≤ 4) (w x y : List Int) {m : Nat} (hm : m < 2 ^ n) : gI (mulr p n w x y) m % p = pz n w (gI x) (gI y) m % p := mulr_gen n hn w x y m hm
theorem pair_zero {f : Nat → Int} {n c : Nat} (hn : n ≤ 4) (hc : c < 2 ^ n) (h : ∀ i, i < 2 ^ n → f i + f (i ^^^ c) = 0) : sumN f (2 ^ n) = 0 := by
  have h1 : sumN f (2 ^ n) + sumN f (2 ^ n) = 0 := by
    conv => lhs; arg 2; rw [← sum_xor0 f hn hc]
    rw [← sumN_add, sumN_congr (g := fun _ => 0) h]
    exact sumN_zero _
  omega
/-! ### Moufang -/
def moL (n i i' j k : Nat) : Int := sgF n (i ^^^ (j ^^^ k)) i' * (sgF n i (j ^^^ k) * sgF n j k)
def moR (n i i' j k : Nat) : Int := sgF n i j * (sgF n k i' * sgF n (i ^^^ j) (k ^^^ i'))
def moB (n i i' j k : Nat) : Bool := decide (moL n i i' j k + moL n i' i j k = moR n i i' j k + moR n i' i j k)
theorem moB_all : ∀ n, n < 4 → ∀ i, i < 2 ^ n → ∀ i', i' < 2 ^ n → ∀ j, j < 2 ^ n → ∀ k, k < 2 ^ n → moB n i i' j k = true := by decide +kernel
/-- The steps' numbers in both products of Moufang are the same. -/
def mwE (i i' j k t : Nat) : Nat := (((i ^^^ (j ^^^ k)) &&& i').testBit t).toNat + (((i &&& (j ^^^ k)).testBit t).toNat + ((j &&& k).testBit t).toNat)
def mwF (i i' j k t : Nat) : Nat := ((i &&& j).testBit t).toNat + (((k &&& i').testBit t).toNat + (((i ^^^ j) &&& (k ^^^ i')).testBit t).toNat)
theorem mw_eq (i i' j k t : Nat) : mwE i i' j k t = mwF i i' j k t ∧ mwE i' i j k t = mwE i i' j k t ∧ mwF i' i j k t = mwE i i' j k t := by
  unfold mwE mwF
  simp only [Nat.testBit_and, Nat.testBit_xor]
  cases i.testBit t <;> cases i'.testBit t <;> cases j.testBit t <;> cases k.testBit t <;> decide
section
variable {n : Nat} (hn : n ≤ 3) (w : List Int)
include hn
def maL (n : Nat) (w : List Int) (i i' j k : Nat) : Int := axS n w (i ^^^ (j ^^^ k)) i' * (axS n w i (j ^^^ k) * axS n w j k)
def maR (n : Nat) (w : List Int) (i i' j k : Nat) : Int := axS n w i j * (axS n w k i' * axS n w (i ^^^ j) (k ^^^ i'))
theorem maL_eq {i i' j k : Nat} (hi : i < 2 ^ n) (hi' : i' < 2 ^ n) (hj : j < 2 ^ n) (hk : k < 2 ^ n) : maL n w i i' j k = moL n i i' j k * monN w n (mwE i i' j k) := by
  have hjk := xor_lt hj hk
  have h1 := xor_lt hi hjk
  unfold maL moL
  rw [axS_split n (by omega) w _ i' h1 hi', axS_split n (by omega) w i _ hi hjk, axS_split n (by omega) w j k hj hk, wpF_mon w n _ (and_lt h1), wpF_mon w n _ (and_lt hi), wpF_mon w n _ (and_lt hj)]
  have e : monN w n (mwE i i' j k) = monN w n (fun t => (((i ^^^ (j ^^^ k)) &&& i').testBit t).toNat) * (monN w n (fun t => ((i &&& (j ^^^ k)).testBit t).toNat) * monN w n (fun t => ((j &&& k).testBit t).toNat)) := by
    rw [monN_mul, monN_mul]; rfl
  rw [e]
  grind
theorem maR_eq {i i' j k : Nat} (hi : i < 2 ^ n) (hi' : i' < 2 ^ n) (hj : j < 2 ^ n) (hk : k < 2 ^ n) : maR n w i i' j k = moR n i i' j k * monN w n (mwF i i' j k) := by
  have hij := xor_lt hi hj
  have h1 := xor_lt hk hi'
  unfold maR moR
  rw [axS_split n (by omega) w i j hi hj, axS_split n (by omega) w k i' hk hi', axS_split n (by omega) w _ _ hij h1, wpF_mon w n _ (and_lt hi), wpF_mon w n _ (and_lt hk), wpF_mon w n _ (and_lt hij)]
  have e : monN w n (mwF i i' j k) = monN w n (fun t => ((i &&& j).testBit t).toNat) * (monN w n (fun t => ((k &&& i').testBit t).toNat) * monN w n (fun t => (((i ^^^ j) &&& (k ^^^ i')).testBit t).toNat)) := by
    rw [monN_mul, monN_mul]; rfl
  rw [e]
  grind
theorem ma_eq {i i' j k : Nat} (hi : i < 2 ^ n) (hi' : i' < 2 ^ n) (hj : j < 2 ^ n) (hk : k < 2 ^ n) : maL n w i i' j k - maR n w i i' j k + (maL n w i' i j k - maR n w i' i j k) = 0 := by
  have h := moB_all n (by omega) i hi i' hi' j hj k hk
  unfold moB at h
  simp only [decide_eq_true_eq] at h
  rw [maL_eq hn w hi hi' hj hk, maL_eq hn w hi' hi hj hk, maR_eq hn w hi hi' hj hk, maR_eq hn w hi' hi hj hk,
    monN_congr (f := mwF i i' j k) fun t _ => (mw_eq i i' j k t).1.symm, monN_congr (f := mwE i' i j k) fun t _ => (mw_eq i i' j k t).2.1, monN_congr (f := mwF i' i j k) fun t _ => (mw_eq i i' j k t).2.2]
  have e : moL n i i' j k * monN w n (mwE i i' j k) - moR n i i' j k * monN w n (mwE i i' j k) + (moL n i' i j k * monN w n (mwE i i' j k) - moR n i' i j k * monN w n (mwE i i' j k)) = (moL n i i' j k + moL n i' i j k - (moR n i i' j k + moR n i' i j k)) * monN w n (mwE i i' j k) := by grind
  rw [e, h, Int.sub_self, Int.zero_mul]
theorem pz_moufang (x y z : Nat → Int) {m : Nat} (hm : m < 2 ^ n) : pz n w (pz n w x (pz n w y z)) x m = pz n w (pz n w x y) (pz n w z x) m := by
  have hL : pz n w (pz n w x (pz n w y z)) x m = sumN (fun j => sumN (fun k => sumN (fun i => y j * z k * (x i * x ((k ^^^ (i ^^^ j)) ^^^ m)) * maL n w i ((k ^^^ (i ^^^ j)) ^^^ m) j k) (2 ^ n)) (2 ^ n)) (2 ^ n) := by
    have s1 : pz n w (pz n w x (pz n w y z)) x m = sumN (fun a => sumN (fun i => sumN (fun j => x i * (y j * z (j ^^^ (i ^^^ a)) * axS n w j (j ^^^ (i ^^^ a))) * axS n w i (i ^^^ a) * (x (a ^^^ m) * axS n w a (a ^^^ m))) (2 ^ n)) (2 ^ n)) (2 ^ n) := by
      show sumN (fun a => (sumN (fun i => x i * pz n w y z (i ^^^ a) * axS n w i (i ^^^ a)) (2 ^ n)) * x (a ^^^ m) * axS n w a (a ^^^ m)) (2 ^ n) = _
      refine sumN_congr fun a _ => ?_
      rw [Int.mul_assoc, ← sumN_mulR]
      refine sumN_congr fun i _ => ?_
      show x i * sumN (fun j => y j * z (j ^^^ (i ^^^ a)) * axS n w j (j ^^^ (i ^^^ a))) (2 ^ n) * axS n w i (i ^^^ a) * (x (a ^^^ m) * axS n w a (a ^^^ m)) = _
      rw [← sumN_mulL, ← sumN_mulR, ← sumN_mulR]
    rw [s1]
    have s2 : ∀ i j, i < 2 ^ n → j < 2 ^ n → sumN (fun a => x i * (y j * z (j ^^^ (i ^^^ a)) * axS n w j (j ^^^ (i ^^^ a))) * axS n w i (i ^^^ a) * (x (a ^^^ m) * axS n w a (a ^^^ m))) (2 ^ n) =
        sumN (fun k => y j * z k * (x i * x ((k ^^^ (i ^^^ j)) ^^^ m)) * maL n w i ((k ^^^ (i ^^^ j)) ^^^ m) j k) (2 ^ n) := by
      intro i j hi hj
      rw [← sum_xor0 (fun a => x i * (y j * z (j ^^^ (i ^^^ a)) * axS n w j (j ^^^ (i ^^^ a))) * axS n w i (i ^^^ a) * (x (a ^^^ m) * axS n w a (a ^^^ m))) (show n ≤ 4 by omega) (xor_lt hi hj)]
      refine sumN_congr fun k _ => ?_
      have e1 : i ^^^ (k ^^^ (i ^^^ j)) = j ^^^ k := by
        rw [Nat.xor_comm k, Nat.xor_assoc, xc1]
      have e2 : k ^^^ (i ^^^ j) = i ^^^ (j ^^^ k) := by rw [Nat.xor_comm k, Nat.xor_assoc]
      simp only [e1, xc1]
      unfold maL
      rw [e2]
      grind
    have s3 : sumN (fun a => sumN (fun i => sumN (fun j => x i * (y j * z (j ^^^ (i ^^^ a)) * axS n w j (j ^^^ (i ^^^ a))) * axS n w i (i ^^^ a) * (x (a ^^^ m) * axS n w a (a ^^^ m))) (2 ^ n)) (2 ^ n)) (2 ^ n) =
        sumN (fun i => sumN (fun j => sumN (fun a => x i * (y j * z (j ^^^ (i ^^^ a)) * axS n w j (j ^^^ (i ^^^ a))) * axS n w i (i ^^^ a) * (x (a ^^^ m) * axS n w a (a ^^^ m))) (2 ^ n)) (2 ^ n)) (2 ^ n) := by
      rw [sumN_comm]
      exact sumN_congr fun i _ => sumN_comm _ _ _
    rw [s3, sumN_congr fun i hi => sumN_congr fun j hj => s2 i j hi hj, sumN_comm]
    exact sumN_congr fun j _ => sumN_comm _ _ _
  have hR : pz n w (pz n w x y) (pz n w z x) m = sumN (fun j => sumN (fun k => sumN (fun i => y j * z k * (x i * x ((k ^^^ (i ^^^ j)) ^^^ m)) * maR n w i ((k ^^^ (i ^^^ j)) ^^^ m) j k) (2 ^ n)) (2 ^ n)) (2 ^ n) := by
    have s1 : pz n w (pz n w x y) (pz n w z x) m = sumN (fun a => sumN (fun i => sumN (fun k => x i * y (i ^^^ a) * axS n w i (i ^^^ a) * (z k * x (k ^^^ (a ^^^ m)) * axS n w k (k ^^^ (a ^^^ m))) * axS n w a (a ^^^ m)) (2 ^ n)) (2 ^ n)) (2 ^ n) := by
      show sumN (fun a => (sumN (fun i => x i * y (i ^^^ a) * axS n w i (i ^^^ a)) (2 ^ n)) * (sumN (fun k => z k * x (k ^^^ (a ^^^ m)) * axS n w k (k ^^^ (a ^^^ m))) (2 ^ n)) * axS n w a (a ^^^ m)) (2 ^ n) = _
      refine sumN_congr fun a _ => ?_
      rw [sumN_mul, ← sumN_mulR]
      refine sumN_congr fun i _ => ?_
      rw [← sumN_mulR]
    rw [s1]
    have s2 : ∀ i k, i < 2 ^ n → k < 2 ^ n → sumN (fun a => x i * y (i ^^^ a) * axS n w i (i ^^^ a) * (z k * x (k ^^^ (a ^^^ m)) * axS n w k (k ^^^ (a ^^^ m))) * axS n w a (a ^^^ m)) (2 ^ n) =
        sumN (fun j => y j * z k * (x i * x ((k ^^^ (i ^^^ j)) ^^^ m)) * maR n w i ((k ^^^ (i ^^^ j)) ^^^ m) j k) (2 ^ n) := by
      intro i k hi hk
      rw [← sum_xor0 (fun a => x i * y (i ^^^ a) * axS n w i (i ^^^ a) * (z k * x (k ^^^ (a ^^^ m)) * axS n w k (k ^^^ (a ^^^ m))) * axS n w a (a ^^^ m)) (show n ≤ 4 by omega) hi]
      refine sumN_congr fun j _ => ?_
      have e0 : j ^^^ i = i ^^^ j := Nat.xor_comm _ _
      have e2 : k ^^^ ((i ^^^ j) ^^^ m) = (k ^^^ (i ^^^ j)) ^^^ m := (Nat.xor_assoc _ _ _).symm
      have e3 : k ^^^ ((k ^^^ (i ^^^ j)) ^^^ m) = (i ^^^ j) ^^^ m := by rw [← e2, xc1]
      simp only [e0, xc1]
      unfold maR
      rw [e2, e3]
      grind
    have s3 : sumN (fun a => sumN (fun i => sumN (fun k => x i * y (i ^^^ a) * axS n w i (i ^^^ a) * (z k * x (k ^^^ (a ^^^ m)) * axS n w k (k ^^^ (a ^^^ m))) * axS n w a (a ^^^ m)) (2 ^ n)) (2 ^ n)) (2 ^ n) =
        sumN (fun i => sumN (fun k => sumN (fun a => x i * y (i ^^^ a) * axS n w i (i ^^^ a) * (z k * x (k ^^^ (a ^^^ m)) * axS n w k (k ^^^ (a ^^^ m))) * axS n w a (a ^^^ m)) (2 ^ n)) (2 ^ n)) (2 ^ n) := by
      rw [sumN_comm]
      exact sumN_congr fun i _ => sumN_comm _ _ _
    rw [s3, sumN_congr fun i hi => sumN_congr fun k hk => s2 i k hi hk]
    -- i k j to j k i
    rw [sumN_congr fun i _ => sumN_comm (fun k j => y j * z k * (x i * x ((k ^^^ (i ^^^ j)) ^^^ m)) * maR n w i ((k ^^^ (i ^^^ j)) ^^^ m) j k) _ _, sumN_comm]
    exact sumN_congr fun j _ => sumN_comm _ _ _
  rw [hL, hR]
  refine sumN_congr fun j hj => sumN_congr fun k hk => ?_
  have hc : j ^^^ (k ^^^ m) < 2 ^ n := xor_lt hj (xor_lt hk hm)
  have hz := pair_zero (f := fun i => y j * z k * (x i * x ((k ^^^ (i ^^^ j)) ^^^ m)) * (maL n w i ((k ^^^ (i ^^^ j)) ^^^ m) j k - maR n w i ((k ^^^ (i ^^^ j)) ^^^ m) j k)) (show n ≤ 4 by omega) hc fun i hi => by
    have ei : (k ^^^ (i ^^^ j)) ^^^ m = i ^^^ (j ^^^ (k ^^^ m)) := by
      rw [Nat.xor_comm k, Nat.xor_assoc, Nat.xor_assoc]
    have e' : (k ^^^ ((i ^^^ (j ^^^ (k ^^^ m))) ^^^ j)) ^^^ m = i := by
      rw [Nat.xor_comm k, Nat.xor_assoc, Nat.xor_assoc, Nat.xor_assoc]
      have : j ^^^ (k ^^^ m) ^^^ (j ^^^ (k ^^^ m)) = 0 := Nat.xor_self _
      rw [this, Nat.xor_zero]
    have hi' := xor_lt hi hc
    simp only [ei, e']
    have h := ma_eq hn w hi hi' hj hk
    generalize i ^^^ (j ^^^ (k ^^^ m)) = i' at h ⊢
    have e : y j * z k * (x i * x i') * (maL n w i i' j k - maR n w i i' j k) + y j * z k * (x i' * x i) * (maL n w i' i j k - maR n w i' i j k) = y j * z k * (x i * x i') * (maL n w i i' j k - maR n w i i' j k + (maL n w i' i j k - maR n w i' i j k)) := by grind
    rw [e, h, Int.mul_zero]
  have hd : sumN (fun i => y j * z k * (x i * x ((k ^^^ (i ^^^ j)) ^^^ m)) * maL n w i ((k ^^^ (i ^^^ j)) ^^^ m) j k) (2 ^ n) - sumN (fun i => y j * z k * (x i * x ((k ^^^ (i ^^^ j)) ^^^ m)) * maR n w i ((k ^^^ (i ^^^ j)) ^^^ m) j k) (2 ^ n) = 0 := by
    rw [← sumN_sub, ← hz]
    exact sumN_congr fun i _ => by grind
  omega
end
end Go.Vam

/- Plain algebra: what is divided by an element of norm 1. -/
namespace Go.Vam
open Go Go.RowKit
set_option linter.unusedSimpArgs false
set_option linter.unusedVariables false
set_option linter.unusedSectionVars false

def lcB (n a i l : Nat) : Bool := decide (sgs a * (sgF n i l * sgF n a (i ^^^ l)) + sgs i * (sgF n a l * sgF n i (a ^^^ l)) = if a = i then 2 * (sgs a * sgF n a a) else 0)
theorem lcB_all : ∀ n, n < 4 → ∀ a, a < 2 ^ n → ∀ i, i < 2 ^ n → ∀ l, l < 2 ^ n → lcB n a i l = true := by decide +kernel
def rcB (n a i l : Nat) : Bool := decide (sgs a * (sgF n l i * sgF n (l ^^^ i) a) + sgs i * (sgF n l a * sgF n (l ^^^ a) i) = if a = i then 2 * (sgs a * sgF n a a) else 0)
theorem rcB_all : ∀ n, n < 4 → ∀ a, a < 2 ^ n → ∀ i, i < 2 ^ n → ∀ l, l < 2 ^ n → rcB n a i l = true := by decide +kernel
def e2 (u v t : Nat) : Nat := (u.testBit t).toNat + (v.testBit t).toNat
theorem lc_bits (a i l t : Nat) : e2 (i &&& l) (a &&& (i ^^^ l)) t = e2 (a &&& l) (i &&& (a ^^^ l)) t ∧ (a = i → e2 (i &&& l) (a &&& (i ^^^ l)) t = (a.testBit t).toNat) := by
  refine ⟨?_, ?_⟩
  · unfold e2
    simp only [Nat.testBit_and, Nat.testBit_xor]
    cases i.testBit t <;> cases a.testBit t <;> cases l.testBit t <;> decide
  · rintro rfl
    unfold e2
    simp only [Nat.testBit_and, Nat.testBit_xor]
    cases a.testBit t <;> cases l.testBit t <;> decide
theorem rc_bits (a i l t : Nat) : e2 (l &&& i) ((l ^^^ i) &&& a) t = e2 (l &&& a) ((l ^^^ a) &&& i) t ∧ (a = i → e2 (l &&& i) ((l ^^^ i) &&& a) t = (a.testBit t).toNat) := by
  refine ⟨?_, ?_⟩
  · unfold e2
    simp only [Nat.testBit_and, Nat.testBit_xor]
    cases i.testBit t <;> cases a.testBit t <;> cases l.testBit t <;> decide
  · rintro rfl
    unfold e2
    simp only [Nat.testBit_and, Nat.testBit_xor]
    cases a.testBit t <;> cases l.testBit t <;> decide
theorem monN_two {w : List Int} {n u v : Nat} (hn : n ≤ 4) (hu : u < 2 ^ n) (hv : v < 2 ^ n) : wpF w n u * wpF w n v = monN w n (e2 u v) := by
  rw [wpF_mon w n u hu, wpF_mon w n v hv, monN_mul]; rfl
section
variable {n : Nat} (hn : n ≤ 3) (w : List Int)
include hn
theorem axS_lc {a i l : Nat} (ha : a < 2 ^ n) (hi : i < 2 ^ n) (hl : l < 2 ^ n) :
    sgs a * (axS n w i l * axS n w a (i ^^^ l)) + sgs i * (axS n w a l * axS n w i (a ^^^ l)) = if a = i then 2 * dD n w a else 0 := by
  have hil := xor_lt hi hl
  have hal := xor_lt ha hl
  have h := lcB_all n (by omega) a ha i hi l hl
  unfold lcB at h
  simp only [decide_eq_true_eq] at h
  rw [axS_split n (by omega) w i l hi hl, axS_split n (by omega) w a _ ha hil, axS_split n (by omega) w a l ha hl, axS_split n (by omega) w i _ hi hal, dD_split (by omega) w ha]
  have m1 := monN_two (w := w) (by omega : n ≤ 4) (and_lt (j := l) hi) (and_lt (j := i ^^^ l) ha)
  have m2 := monN_two (w := w) (by omega : n ≤ 4) (and_lt (j := l) ha) (and_lt (j := a ^^^ l) hi)
  rw [← monN_congr (f := e2 (i &&& l) (a &&& (i ^^^ l))) fun t _ => (lc_bits a i l t).1] at m2
  generalize sgF n i l = s1 at h ⊢
  generalize sgF n a (i ^^^ l) = s2 at h ⊢
  generalize sgF n a l = s3 at h ⊢
  generalize sgF n i (a ^^^ l) = s4 at h ⊢
  have e : sgs a * (s1 * wpF w n (i &&& l) * (s2 * wpF w n (a &&& (i ^^^ l)))) + sgs i * (s3 * wpF w n (a &&& l) * (s4 * wpF w n (i &&& (a ^^^ l)))) = sgs a * (s1 * s2) * (wpF w n (i &&& l) * wpF w n (a &&& (i ^^^ l))) + sgs i * (s3 * s4) * (wpF w n (a &&& l) * wpF w n (i &&& (a ^^^ l))) := by grind
  rw [e, m1, m2, ← Int.add_mul, h]
  by_cases hai : a = i
  · rw [if_pos hai, if_pos hai, monN_congr fun t _ => (lc_bits a i l t).2 hai, ← wpF_mon w n a ha]
    grind
  · rw [if_neg hai, if_neg hai, Int.zero_mul]
theorem axS_rc {a i l : Nat} (ha : a < 2 ^ n) (hi : i < 2 ^ n) (hl : l < 2 ^ n) :
    sgs a * (axS n w l i * axS n w (l ^^^ i) a) + sgs i * (axS n w l a * axS n w (l ^^^ a) i) = if a = i then 2 * dD n w a else 0 := by
  have hil := xor_lt hl hi
  have hal := xor_lt hl ha
  have h := rcB_all n (by omega) a ha i hi l hl
  unfold rcB at h
  simp only [decide_eq_true_eq] at h
  rw [axS_split n (by omega) w l i hl hi, axS_split n (by omega) w _ a hil ha, axS_split n (by omega) w l a hl ha, axS_split n (by omega) w _ i hal hi, dD_split (by omega) w ha]
  have m1 := monN_two (w := w) (by omega : n ≤ 4) (and_lt (j := i) hl) (and_lt (j := a) hil)
  have m2 := monN_two (w := w) (by omega : n ≤ 4) (and_lt (j := a) hl) (and_lt (j := i) hal)
  rw [← monN_congr (f := e2 (l &&& i) ((l ^^^ i) &&& a)) fun t _ => (rc_bits a i l t).1] at m2
  generalize sgF n l i = s1 at h ⊢
  generalize sgF n (l ^^^ i) a = s2 at h ⊢
  generalize sgF n l a = s3 at h ⊢
  generalize sgF n (l ^^^ a) i = s4 at h ⊢
  have e : sgs a * (s1 * wpF w n (l &&& i) * (s2 * wpF w n ((l ^^^ i) &&& a))) + sgs i * (s3 * wpF w n (l &&& a) * (s4 * wpF w n ((l ^^^ a) &&& i))) = sgs a * (s1 * s2) * (wpF w n (l &&& i) * wpF w n ((l ^^^ i) &&& a)) + sgs i * (s3 * s4) * (wpF w n (l &&& a) * wpF w n ((l ^^^ a) &&& i)) := by grind
  rw [e, m1, m2, ← Int.add_mul, h]
  by_cases hai : a = i
  · rw [if_pos hai, if_pos hai, monN_congr fun t _ => (rc_bits a i l t).2 hai, ← wpF_mon w n a ha]
    grind
  · rw [if_neg hai, if_neg hai, Int.zero_mul]
def nz (n : Nat) (w : List Int) (x : Nat → Int) : Int := sumN (fun i => dD n w i * (x i * x i)) (2 ^ n)
theorem close_l {x y : Nat → Int} {h : Nat → Nat → Int} {m : Nat} (hm : m < 2 ^ n) (hh : ∀ l a, l < 2 ^ n → a < 2 ^ n → h l a + h l (a ^^^ (l ^^^ m)) = if a = a ^^^ (l ^^^ m) then 2 * dD n w a else 0) :
    sumN (fun l => y l * sumN (fun a => x a * x (a ^^^ (l ^^^ m)) * h l a) (2 ^ n)) (2 ^ n) = nz n w x * y m := by
  rw [sumN_one hm]
  · have e : ∀ a, a < 2 ^ n → x a * x (a ^^^ (m ^^^ m)) * h m a = dD n w a * (x a * x a) := by
      intro a ha
      have h1 := hh m a hm ha
      rw [Nat.xor_self, Nat.xor_zero, if_pos rfl] at h1
      rw [Nat.xor_self, Nat.xor_zero]
      have h2 : h m a = dD n w a := by omega
      rw [h2, Int.mul_comm]
    rw [sumN_congr e, Int.mul_comm]
    rfl
  · intro l hl hlm
    have hc : l ^^^ m < 2 ^ n := xor_lt hl hm
    have hne : l ^^^ m ≠ 0 := fun e => hlm (by
      have : l ^^^ (l ^^^ m) = l := by rw [e, Nat.xor_zero]
      rw [xc1] at this
      exact this.symm)
    rw [pair_zero (by omega : n ≤ 4) hc, Int.mul_zero]
    intro a ha
    have h1 := hh l a hl ha
    have hac : a ≠ a ^^^ (l ^^^ m) := fun e => hne (by
      have : a ^^^ (a ^^^ (l ^^^ m)) = a ^^^ a := by rw [← e]
      rw [xc1, Nat.xor_self] at this
      exact this)
    rw [if_neg hac] at h1
    rw [xc4]
    have e : x a * x (a ^^^ (l ^^^ m)) * h l a + x (a ^^^ (l ^^^ m)) * x a * h l (a ^^^ (l ^^^ m)) = x a * x (a ^^^ (l ^^^ m)) * (h l a + h l (a ^^^ (l ^^^ m))) := by grind
    rw [e, h1, Int.mul_zero]
theorem pz_left (x y : Nat → Int) {m : Nat} (hm : m < 2 ^ n) : pz n w (fun i => sgs i * x i) (pz n w x y) m = nz n w x * y m := by
  rw [← close_l hn w (x := x) (y := y) (h := fun l a => sgs a * (axS n w (a ^^^ (l ^^^ m)) l * axS n w a ((a ^^^ (l ^^^ m)) ^^^ l))) hm]
  · have s1 : ∀ a, a < 2 ^ n → sgs a * x a * pz n w x y (a ^^^ m) * axS n w a (a ^^^ m) = sumN (fun l => y l * (x a * x (a ^^^ (l ^^^ m)) * (sgs a * (axS n w (a ^^^ (l ^^^ m)) l * axS n w a ((a ^^^ (l ^^^ m)) ^^^ l))))) (2 ^ n) := by
      intro a ha
      unfold pz
      rw [← sum_xor0 (fun i => x i * y (i ^^^ (a ^^^ m)) * axS n w i (i ^^^ (a ^^^ m))) (show n ≤ 4 by omega) (xor_lt ha hm), ← sumN_mulL, ← sumN_mulR]
      refine sumN_congr fun l _ => ?_
      have f1 : l ^^^ (a ^^^ m) = a ^^^ (l ^^^ m) := by rw [← Nat.xor_assoc, Nat.xor_comm l a, Nat.xor_assoc]
      have f2 : (a ^^^ (l ^^^ m)) ^^^ (a ^^^ m) = l := by rw [← f1, xc4]
      have f3 : (a ^^^ (l ^^^ m)) ^^^ l = a ^^^ m := by rw [← f1, xc3]
      rw [f1, f2, f3]
      grind
    show sumN (fun a => sgs a * x a * pz n w x y (a ^^^ m) * axS n w a (a ^^^ m)) (2 ^ n) = _
    rw [sumN_congr s1, sumN_comm]
    exact sumN_congr fun l _ => sumN_mulL _ _ _
  · intro l a hl ha
    have h := axS_lc hn w ha (xor_lt ha (xor_lt hl hm)) hl
    have f1 : (a ^^^ (l ^^^ m)) ^^^ (l ^^^ m) = a := xc4 _ _
    simp only [f1]
    generalize a ^^^ (l ^^^ m) = i at h ⊢
    exact h
theorem pz_right (x y : Nat → Int) {m : Nat} (hm : m < 2 ^ n) : pz n w (pz n w y x) (fun i => sgs i * x i) m = nz n w x * y m := by
  rw [← close_l hn w (x := x) (y := y) (h := fun l i => sgs (i ^^^ (l ^^^ m)) * (axS n w l i * axS n w (l ^^^ i) (i ^^^ (l ^^^ m)))) hm]
  · have s1 : ∀ b, pz n w y x b * (sgs (b ^^^ m) * x (b ^^^ m)) * axS n w b (b ^^^ m) = sumN (fun l => y l * x (l ^^^ b) * axS n w l (l ^^^ b) * ((sgs (b ^^^ m) * x (b ^^^ m)) * axS n w b (b ^^^ m))) (2 ^ n) := by
      intro b
      unfold pz
      rw [Int.mul_assoc, ← sumN_mulR]
    show sumN (fun b => pz n w y x b * (sgs (b ^^^ m) * x (b ^^^ m)) * axS n w b (b ^^^ m)) (2 ^ n) = _
    rw [sumN_congr fun b _ => s1 b, sumN_comm]
    refine sumN_congr fun l hl => ?_
    rw [← sum_xor0 (fun b => y l * x (l ^^^ b) * axS n w l (l ^^^ b) * ((sgs (b ^^^ m) * x (b ^^^ m)) * axS n w b (b ^^^ m))) (show n ≤ 4 by omega) hl, ← sumN_mulL]
    refine sumN_congr fun i _ => ?_
    have f1 : l ^^^ (i ^^^ l) = i := xc2 _ _
    have f2 : (i ^^^ l) ^^^ m = i ^^^ (l ^^^ m) := Nat.xor_assoc _ _ _
    have f3 : i ^^^ l = l ^^^ i := Nat.xor_comm _ _
    rw [f1, f2, f3]
    grind
  · intro l i hl hi
    have h := axS_rc hn w (xor_lt hi (xor_lt hl hm)) hi hl
    have f1 : (i ^^^ (l ^^^ m)) ^^^ (l ^^^ m) = i := xc4 _ _
    simp only [f1]
    generalize ha : i ^^^ (l ^^^ m) = a at h ⊢
    rw [h]
    by_cases e : a = i
    · rw [if_pos e, if_pos e.symm, e]
    · rw [if_neg e, if_neg fun e' => e e'.symm]
end

/-! ### The same for elements -/
section
variable {p : Int} {w : List Int} (hP : isP p = true) (hl : w.length ≤ 3) (hw : Vec p w.length w)
include hP hl hw
theorem vec_ext {a b : List Int} {n : Nat} (ha : Vec p n a) (hb : Vec p n b) (h : ∀ m, m < n → gI a m % p = gI b m % p) : a = b := by
  rw [extI ha.1 fun k hk => rfl, extI hb.1 fun k hk => rfl]
  refine vecN_congr fun k hk => ?_
  have h1 := ha.get hk
  have h2 := hb.get hk
  have := h k hk
  rwa [Int.emod_eq_of_lt h1.1 h1.2, Int.emod_eq_of_lt h2.1 h2.2] at this
theorem mulp_pz {x y : List Int} {m : Nat} (hm : m < 2 ^ w.length) : gI (mulp p w x y) m % p = pz w.length w (gI x) (gI y) m % p := mulr_pz (by omega) w x y hm
theorem moufang {x y z : List Int} (hx : Vec p (2 ^ w.length) x) (hy : Vec p (2 ^ w.length) y) (hz : Vec p (2 ^ w.length) z) :
    mulp p w (mulp p w x (mulp p w y z)) x = mulp p w (mulp p w x y) (mulp p w z x) := by
  have hv : ∀ {a b : List Int}, Vec p (2 ^ w.length) a → Vec p (2 ^ w.length) b → Vec p (2 ^ w.length) (mulp p w a b) := fun ha hb => mulp_vec hP (by omega) hw ha hb
  refine vec_ext hP hl hw (hv (hv hx (hv hy hz)) hx) (hv (hv hx hy) (hv hz hx)) fun m hm => ?_
  rw [mulp_pz hP hl hw hm, mulp_pz hP hl hw hm]
  rw [pz_mod w (x' := pz w.length w (gI x) (pz w.length w (gI y) (gI z))) (y' := gI x) (fun i hi => by
    rw [mulp_pz hP hl hw hi]; exact pz_mod w (fun _ _ => rfl) (fun j hj => mulp_pz hP hl hw hj) hi) (fun _ _ => rfl) hm]
  rw [pz_mod w (x := gI (mulp p w x y)) (x' := pz w.length w (gI x) (gI y)) (y := gI (mulp p w z x)) (y' := pz w.length w (gI z) (gI x)) (fun i hi => mulp_pz hP hl hw hi) (fun i hi => mulp_pz hP hl hw hi) hm, pz_moufang hl w _ _ _ hm]
theorem star_z {x : List Int} {i : Nat} (hi : i < 2 ^ w.length) : gI (starv p (2 ^ w.length) x) i % p = (sgs i * gI x i) % p := by
  rw [starv_at hi, Int.mul_comm]
theorem mulp_left {x y : List Int} (hx : Vec p (2 ^ w.length) x) (hy : Vec p (2 ^ w.length) y) (h1 : nrm p w x = 1) : mulp p w (starv p (2 ^ w.length) x) (mulp p w x y) = y := by
  have hp := isP_le hP
  have hv : ∀ {a b : List Int}, Vec p (2 ^ w.length) a → Vec p (2 ^ w.length) b → Vec p (2 ^ w.length) (mulp p w a b) := fun ha hb => mulp_vec hP (by omega) hw ha hb
  refine vec_ext hP hl hw (hv (starv_vec hp.1 hp.2 (by have := two_le (n := w.length) (by omega); omega) (two_pos _) hx) (hv hx hy)) hy fun m hm => ?_
  rw [mulp_pz hP hl hw hm, pz_mod w (x' := fun i => sgs i * gI x i) (y' := pz w.length w (gI x) (gI y)) (fun i hi => star_z hP hl hw hi) (fun i hi => mulp_pz hP hl hw hi) hm, pz_left hl w _ _ hm]
  rw [nrm_dD (by omega)] at h1
  rw [Int.mul_emod]
  unfold nz
  rw [h1, Int.one_mul, emm]
theorem mulp_right {x y : List Int} (hx : Vec p (2 ^ w.length) x) (hy : Vec p (2 ^ w.length) y) (h1 : nrm p w x = 1) : mulp p w (mulp p w y x) (starv p (2 ^ w.length) x) = y := by
  have hp := isP_le hP
  have hv : ∀ {a b : List Int}, Vec p (2 ^ w.length) a → Vec p (2 ^ w.length) b → Vec p (2 ^ w.length) (mulp p w a b) := fun ha hb => mulp_vec hP (by omega) hw ha hb
  refine vec_ext hP hl hw (hv (hv hy hx) (starv_vec hp.1 hp.2 (by have := two_le (n := w.length) (by omega); omega) (two_pos _) hx)) hy fun m hm => ?_
  rw [mulp_pz hP hl hw hm, pz_mod w (x' := pz w.length w (gI y) (gI x)) (y' := fun i => sgs i * gI x i) (fun i hi => mulp_pz hP hl hw hi) (fun i hi => star_z hP hl hw hi) hm, pz_right hl w _ _ hm]
  rw [nrm_dD (by omega)] at h1
  rw [Int.mul_emod]
  unfold nz
  rw [h1, Int.one_mul, emm]
end
end Go.Vam

/- Plain law: FnUnits. -/
namespace Go.Vam
open Go Go.RowKit
set_option linter.unusedSimpArgs false
set_option linter.unusedVariables false
set_option linter.unusedSectionVars false

/-! ### The units are told once -/
theorem lstU_nodup {p : Int} (hp : 0 < p) : ∀ (l : List Int) (n : Int) (x : List Int), (lstU p l n x).Nodup
  | [], n, x => by unfold lstU; split <;> simp
  | d :: r, n, x => by
    unfold lstU
    refine List.pairwise_flatMap.2 ⟨fun a _ => lstU_nodup hp r _ _, ?_⟩
    refine List.Pairwise.imp ?_ (List.pairwise_lt_range (n := p.toNat))
    intro a b hab y hy z hz hyz
    obtain ⟨v, rfl, _, _⟩ := (mem_lstU hp r _ _ y).1 hy
    obtain ⟨u, rfl, _, _⟩ := (mem_lstU hp r _ _ z).1 hz
    rw [List.append_assoc, List.append_assoc] at hyz
    have := List.append_cancel_left hyz
    simp only [List.cons_append, List.nil_append, List.cons.injEq] at this
    omega
theorem filter_once {one : List Int} : ∀ {l : List (List Int)}, l.Nodup → one ∈ l → (l.filter fun x => !decide (x = one)).length + 1 = l.length
  | [], _, h => by cases h
  | y :: r, hn, h => by
    obtain ⟨h1, h2⟩ := List.nodup_cons.1 hn
    by_cases e : y = one
    · subst e
      have hf : (r.filter fun x => !decide (x = y)) = r := List.filter_eq_self.2 fun x hx => by
        have : x ≠ y := fun e => h1 (e ▸ hx)
        simpa using this
      rw [List.filter_cons]
      simp only [decide_true, Bool.not_true, Bool.false_eq_true, if_false, hf, List.length_cons]
    · have h3 : one ∈ r := by
        rcases List.mem_cons.1 h with e' | e'
        · exact absurd e'.symm e
        · exact e'
      rw [List.filter_cons]
      simp only [e, decide_false, Bool.not_false, if_true, List.length_cons, filter_once h2 h3]
section
variable {p : Int} {w : List Int} (hP : isP p = true) (hl : w.length ≤ 3) (hw : Vec p w.length w)
include hP hl hw
theorem one_fnd : axis (2 ^ w.length) 0 ∈ fndU p w := by
  have hp := isP_le hP
  have hlen := (dgv_vec (p := p) (by omega) w w.length).1
  have hone := nrm_one hP hl hw
  unfold fndU
  refine (mem_lstU (by omega) _ _ _ _).2 ⟨axis (2 ^ w.length) 0, rfl, by rw [hlen]; exact axis_vec (by omega) (two_pos _), ?_⟩
  refine Int.emod_eq_emod_iff_emod_sub_eq_zero.1 ?_
  have hs : sqS (dgv p w w.length) (axis (2 ^ w.length) 0) % p = nrm p w (axis (2 ^ w.length) 0) := by unfold sqS nrm; rw [hlen]
  rw [hs, hone]
  exact Int.emod_eq_of_lt (by omega) (by omega)
theorem untU_len : ((untU p w).length : Int) = cntU p (dgv p w w.length) 1 := by
  have hp := isP_le hP
  have h1 := filter_once (one := axis (2 ^ w.length) 0) (lstU_nodup (by omega) (dgv p w w.length) 1 []) (one_fnd hP hl hw)
  have h2 := lstU_len (p := p) (dgv p w w.length) 1 []
  unfold untU
  rw [List.length_cons]
  unfold fndU
  omega
theorem untU_nodup : (untU p w).Nodup := by
  have hp := isP_le hP
  unfold untU
  refine List.nodup_cons.2 ⟨fun h => ?_, ?_⟩
  · have := (List.mem_filter.1 h).2
    simp at this
  · exact List.Pairwise.filter _ (lstU_nodup (by omega) (dgv p w w.length) 1 [])
theorem untU_inj {i j : Nat} (hi : i < (untU p w).length) (hj : j < (untU p w).length) (h : gR (untU p w) i = gR (untU p w) j) : i = j := by
  rw [← gR_get hi, ← gR_get hj] at h
  exact (List.getElem_inj (untU_nodup hP hl hw)).1 h
/-! ### Their loop -/
def tU (p : Int) (w : List Int) (i j : Nat) : Nat := fxU (untU p w) (mulp p w (gR (untU p w) i) (gR (untU p w) j))
theorem tU_spec {i j : Nat} (hi : i < (untU p w).length) (hj : j < (untU p w).length) : tU p w i j < (untU p w).length ∧ gR (untU p w) (tU p w i j) = mulp p w (gR (untU p w) i) (gR (untU p w) j) := by
  have hm : ∀ i, i < (untU p w).length → gR (untU p w) i ∈ untU p w := fun i hi => by rw [← gR_get hi]; exact List.getElem_mem _
  have h := fxU_spec (untU_mul hP hl hw (hm i hi) (hm j hj))
  exact ⟨h.1, h.2.1⟩
theorem unt_at {i : Nat} (hi : i < (untU p w).length) : Vec p (2 ^ w.length) (gR (untU p w) i) ∧ nrm p w (gR (untU p w) i) = 1 :=
  (mem_untU hP hl hw).1 (by rw [← gR_get hi]; exact List.getElem_mem _)
theorem lp_at {i j : Nat} (hi : i < (untU p w).length) (hj : j < (untU p w).length) : gI (gR (lpU p w (untU p w)) i) j = ((tU p w i j : Nat) : Int) := by
  unfold lpU tU
  rw [gR_vecN _ hi, gI_vecN _ hj]
theorem mulp_one {x : List Int} (hx : Vec p (2 ^ w.length) x) : mulp p w x (axis (2 ^ w.length) 0) = x := by
  have hp := isP_le hP
  have hpos := two_pos w.length
  refine vec_ext hP hl hw (mulp_vec hP (by omega) hw hx (axis_vec (by omega) hpos)) hx fun m hm => ?_
  rw [mulp_pz hP hl hw hm]
  unfold pz
  rw [sumN_one hm (fun q hq hqm => by
    rw [gI_axis hpos, if_neg (fun e => hqm (by
      have : q ^^^ (q ^^^ m) = q := by rw [e, Nat.xor_zero]
      rw [xc1] at this
      exact this.symm))]
    simp)]
  rw [Nat.xor_self, gI_axis hpos, if_pos rfl, (axS_zero w.length w m hm).2]
  simp
theorem lp_len : (lpU p w (untU p w)).length = (untU p w).length := by unfold lpU; simp
theorem lp_row {i : Nat} (hi : i < (untU p w).length) : (gR (lpU p w (untU p w)) i).length = (untU p w).length := by
  unfold lpU; rw [gR_vecN _ hi]; simp
theorem once_of {n : Nat} {f : Nat → Int} (h1 : ∀ j, j < n → 0 ≤ f j ∧ f j < n) (h2 : ∀ i j, i < n → j < n → f i = f j → i = j) : onceB n f = true := by
  unfold onceB okB
  refine List.all_eq_true.2 fun j hj => ?_
  have hj' := List.mem_range.1 hj
  have := h1 j hj'
  simp only [Bool.and_eq_true, decide_eq_true_eq, Bool.not_eq_true', List.any_eq_false, List.mem_range]
  refine ⟨⟨this.1, by omega⟩, fun k hk e => ?_⟩
  have := h2 k j (by omega) hj' e
  omega
theorem isLp_units (hc : cntU p (dgv p w w.length) 1 ≤ 128) : isLp (lpU p w (untU p w)) = true := by
  have hp := isP_le hP
  have hn := untU_len hP hl hw
  have hpos : 0 < (untU p w).length := by unfold untU; simp
  unfold isLp rowB
  rw [lp_len hP hl hw]
  simp only [Bool.and_eq_true, decide_eq_true_eq, List.all_eq_true, List.mem_range]
  refine ⟨⟨by omega, by omega⟩, fun i hi => lp_row hP hl hw hi, fun i hi => ⟨⟨?_, ?_⟩, ?_, ?_⟩⟩
  · refine once_of hP hl hw (fun j hj => ?_) fun j k hj hk h => ?_
    · rw [lp_at hP hl hw hi hj]
      have := (tU_spec hP hl hw hi hj).1
      omega
    · rw [lp_at hP hl hw hi hj, lp_at hP hl hw hi hk] at h
      have e : mulp p w (gR (untU p w) i) (gR (untU p w) j) = mulp p w (gR (untU p w) i) (gR (untU p w) k) := by
        rw [← (tU_spec hP hl hw hi hj).2, ← (tU_spec hP hl hw hi hk).2, Int.ofNat.inj h]
      have u := unt_at hP hl hw hi
      have e1 := mulp_left hP hl hw u.1 (unt_at hP hl hw hj).1 u.2
      have e2 := mulp_left hP hl hw u.1 (unt_at hP hl hw hk).1 u.2
      exact untU_inj hP hl hw hj hk (by rw [← e1, ← e2, e])
  · refine once_of hP hl hw (fun j hj => ?_) fun j k hj hk h => ?_
    · simp only [lp_at hP hl hw hj hi]
      have := (tU_spec hP hl hw hj hi).1
      omega
    · simp only [lp_at hP hl hw hj hi, lp_at hP hl hw hk hi] at h
      have e : mulp p w (gR (untU p w) j) (gR (untU p w) i) = mulp p w (gR (untU p w) k) (gR (untU p w) i) := by
        rw [← (tU_spec hP hl hw hj hi).2, ← (tU_spec hP hl hw hk hi).2, Int.ofNat.inj h]
      have u := unt_at hP hl hw hi
      have e1 := mulp_right hP hl hw u.1 (unt_at hP hl hw hj).1 u.2
      have e2 := mulp_right hP hl hw u.1 (unt_at hP hl hw hk).1 u.2
      exact untU_inj hP hl hw hj hk (by rw [← e1, ← e2, e])
  · rw [lp_at hP hl hw hpos hi]
    have hs := tU_spec hP hl hw hpos hi
    have h0 : gR (untU p w) 0 = axis (2 ^ w.length) 0 := rfl
    rw [h0, one_mulp hP (by omega) hw (unt_at hP hl hw hi).1] at hs
    rw [untU_inj hP hl hw hs.1 hi hs.2]
  · rw [lp_at hP hl hw hi hpos]
    have hs := tU_spec hP hl hw hi hpos
    have h0 : gR (untU p w) 0 = axis (2 ^ w.length) 0 := rfl
    rw [h0, mulp_one hP hl hw (unt_at hP hl hw hi).1] at hs
    rw [untU_inj hP hl hw hs.1 hi hs.2]
theorem mouf_one (hc : cntU p (dgv p w w.length) 1 ≤ 128) {x y z : Nat} (hx : x < (untU p w).length) (hy : y < (untU p w).length) (hz : z < (untU p w).length) :
    i_IsMoufangLoop_c1 (x : Int) (y : Int) (z : Int) (lpU p w (untU p w)) = some true := by
  have hL := lp_len hP hl hw
  have at' : ∀ i j, i < (untU p w).length → j < (untU p w).length → idx (gR (lpU p w (untU p w)) i) (j : Int) = some ((tU p w i j : Nat) : Int) := fun i j hi hj => by
    rw [idxI (by rw [lp_row hP hl hw hi]; exact hj), lp_at hP hl hw hi hj]
  have row : ∀ i, i < (untU p w).length → idx (lpU p w (untU p w)) (i : Int) = some (gR (lpU p w (untU p w)) i) := fun i hi => idxR (by omega)
  have t1 := tU_spec hP hl hw hy hz
  have t2 := tU_spec hP hl hw hx t1.1
  have t3 := tU_spec hP hl hw t2.1 hx
  have t4 := tU_spec hP hl hw hx hy
  have t5 := tU_spec hP hl hw hz hx
  have t6 := tU_spec hP hl hw t4.1 t5.1
  unfold i_IsMoufangLoop_c1
  rw [row x hx, some_bind, row y hy, some_bind, at' y z hy hz, some_bind, at' x _ hx t1.1, some_bind, row _ t2.1, some_bind, at' _ x t2.1 hx, some_bind, at' x y hx hy, some_bind, row _ t4.1, some_bind, row z hz, some_bind, at' z x hz hx, some_bind, at' _ _ t4.1 t5.1, some_bind]
  have e : tU p w (tU p w x (tU p w y z)) x = tU p w (tU p w x y) (tU p w z x) := by
    refine untU_inj hP hl hw t3.1 t6.1 ?_
    rw [t3.2, t6.2, t2.2, t1.2, t4.2, t5.2]
    exact moufang hP hl hw (unt_at hP hl hw hx).1 (unt_at hP hl hw hy).1 (unt_at hP hl hw hz).1
  rw [e, ieq_self]
theorem check_units (hc : cntU p (dgv p w w.length) 1 ≤ 128) : i_checkLoop (lpU p w (untU p w)) [] = some 0 := by
  have hn := untU_len hP hl hw
  unfold i_checkLoop
  rw [i_IsLoop_eq (by rw [lp_len hP hl hw]; omega), some_bind, isLp_units hP hl hw hc]
  simp only [Bool.true_eq_false, if_false]
  unfold g_slices_ContainsFunc_LI_I_of_i_checkLoop_c1 g_slices_IndexFunc_LI_I_of_i_checkLoop_c1
  rw [loop_for (s := (0 : Int)) (b := (Sum.inl () : Unit ⊕ Int)) (fun k => (k : Int)) 0 (by rw [BIG_val]; omega) rfl (fun k hk => absurd hk (Nat.not_lt_zero _)) (by
    unfold g_slices_IndexFunc_LI_I_of_i_checkLoop_c1_L0
    simp)]
  rfl
theorem moufang_units (hc : cntU p (dgv p w w.length) 1 ≤ 128) : i_IsMoufangLoop (lpU p w (untU p w)) = some (true, 0) := by
  have hn := untU_len hP hl hw
  have hL := lp_len hP hl hw
  have hb : (untU p w).length ≤ 128 := by omega
  unfold i_IsMoufangLoop
  rw [check_units hP hl hw hc, some_bind]
  simp only [not_true_eq_false, if_false]
  unfold i_loopTriples_of_i_IsMoufangLoop_c1 i_length_LI
  rw [some_bind, hL]
  rw [loop_for (s := (0 : Int)) (b := (Sum.inl () : Unit ⊕ Bool)) (fun k => (k : Int)) (untU p w).length (by rw [BIG_val]; omega) rfl]
  · rfl
  · intro x hx
    unfold i_loopTriples_of_i_IsMoufangLoop_c1_L0 i_length_LI
    simp only [lt_cast hx, if_true, some_bind, hL]
    rw [loop_for (s := (0 : Int)) (b := (Sum.inl () : Unit ⊕ (Int ⊕ (Unit ⊕ Bool)))) (fun k => (k : Int)) (untU p w).length (by rw [BIG_val]; omega) rfl]
    · rw [some_bind, w_in (by omega) (by omega)]
      rfl
    · intro y hy
      unfold i_loopTriples_of_i_IsMoufangLoop_c1_L1 i_length_LI
      simp only [lt_cast hy, if_true, some_bind, hL]
      rw [loop_for (s := (0 : Int)) (b := (Sum.inl () : Unit ⊕ (Int ⊕ (Unit ⊕ (Int ⊕ (Unit ⊕ Bool)))))) (fun k => (k : Int)) (untU p w).length (by rw [BIG_val]; omega) rfl]
      · rw [some_bind, w_in (by omega) (by omega)]
        rfl
      · intro z hz
        unfold i_loopTriples_of_i_IsMoufangLoop_c1_L2
        simp only [lt_cast hz, if_true]
        rw [mouf_one hP hl hw hc hx hy hz, some_bind, w_in (by omega) (by omega)]
        simp
      · unfold i_loopTriples_of_i_IsMoufangLoop_c1_L2
        simp only [lt_cast_self, if_false]
    · unfold i_loopTriples_of_i_IsMoufangLoop_c1_L1
      simp only [lt_cast_self, if_false]
  · unfold i_loopTriples_of_i_IsMoufangLoop_c1_L0
    simp only [lt_cast_self, if_false]
end
end Go.Vam

/- Plain law: FnUnits. -/
namespace Go.Vam
open Go Go.RowKit
set_option linter.unusedSimpArgs false
set_option linter.unusedVariables false
set_option linter.unusedSectionVars false

theorem draw_units {c : List Int} (hc : c.length ≤ 4096) (hb : ∀ x ∈ c, 0 ≤ x ∧ x ≤ 255) : ∃ (p : Int) (w : List Int), s_DrawUnitsOf c = some (p, w) ∧ w.length ≤ 5 := by
  unfold s_DrawUnitsOf
  obtain ⟨h0, e0, S0⟩ := from_eq hc hb
  obtain ⟨r1, a1, h1, e1, p1, q1, S1⟩ := next_eq (h := h0) (n := 3) S0 (by omega) (by omega)
  simp only [e0, e1, some_bind]
  by_cases c0 : r1 = 0
  · obtain ⟨p, w, a2, h2, e2, _, _, l2, _⟩ := draw_any (h := h1) (m := 4) S1 (by omega) (by omega)
    simp only [c0, if_true, e2, some_bind]
    exact ⟨p, w, rfl, l2⟩
  simp only [c0, if_false]
  obtain ⟨p, a2, h2, e2, m2, S2⟩ := pick_eq (h := h1) (l := [3, 3, 5]) S1 (by simp) (by simp)
  obtain ⟨k, a3, h3, e3, p3, q3, S3⟩ := next_eq (h := h2) (n := 3) S2 (by omega) (by omega)
  have hp : 3 ≤ p ∧ p ≤ 5 := by
    simp only [List.mem_cons, List.not_mem_nil, or_false] at m2
    omega
  simp only [e2, e3, some_bind]
  obtain ⟨b, g1, v, rfl, g3⟩ := loop_inv (step := s_DrawUnitsOf_L0) (fun s => ∃ (j : Nat) (a' h' : Int) (out : List Int), s = (c, a', h', p, out, (j : Int)) ∧ j + out.length ≤ 3 ∧ Src c a') (fun s => s.2.2.2.2.2.toNat)
    (fun b => ∃ v : List Int, b = (p, v) ∧ v.length ≤ 5) (s := (c, a3, h3, p, [], k)) ⟨k.toNat, a3, h3, [], by rw [show ((k.toNat : Nat) : Int) = k by omega], by simp; omega, S3⟩ (by rw [BIG_val]; simp only []; omega) (by
      rintro s ⟨j, a', h', out, rfl, hj, hS'⟩
      unfold s_DrawUnitsOf_L0
      by_cases hj0 : 0 < j
      · refine .inl ?_
        obtain ⟨r, a4, h4, e4, p4, q4, S4⟩ := next_eq (h := h') (n := p - 1) hS' (by omega) (by omega)
        have w1 : w64 (p - 1) = p - 1 := w_in (by omega) (by omega)
        have w2 : w64 ((j : Int) - 1) = ((j - 1 : Nat) : Int) := by rw [w_in (by omega) (by omega)]; omega
        simp only [show (0 : Int) < (j : Int) from by omega, if_true, w1, e4, some_bind, w2]
        rw [chk_bind (by simp only [List.length_cons, List.length_nil]; omega)]
        exact ⟨_, rfl, ⟨j - 1, a4, h4, _, rfl, by simp; omega, S4⟩, by simp only []; omega⟩
      · have : j = 0 := by omega
        subst this
        refine .inr ⟨(p, out), by simp, out, rfl, by omega⟩)
  rw [g1, some_bind]
  exact ⟨p, v, rfl, g3⟩

def lpV (p : Int) (w : List Int) : List (List Int) := if unC p w = 0 then lpU p w (untU p w) else []
theorem LoopOfUnits_val {p : Int} {w : List Int} (hw : w.length ≤ 1048576) : s_LoopOfUnits p w = some (lpV p w, unC p w) ∧ i_LoopOfUnits p w = some (lpV p w, unC p w) := by
  obtain ⟨h1, h2⟩ := Small_eq (p := p) hw
  unfold s_LoopOfUnits i_LoopOfUnits
  rw [h1, h2, some_bind, some_bind]
  by_cases h0 : unC p w = 0
  · obtain ⟨hD, hl, hcn⟩ := unC_zero h0
    obtain ⟨hP, hl4, hv, _⟩ := isDb_iff hD
    have ev : unV p w = untU p w := by unfold unV; rw [if_pos h0]
    have el : lpV p w = lpU p w (untU p w) := by unfold lpV; rw [if_pos h0]
    have hn := untU_len hP hl hv
    have hm : ∀ i, i < (untU p w).length → gR (untU p w) i ∈ untU p w := fun i hi => by rw [← gR_get hi]; exact List.getElem_mem _
    have hvv : ∀ i, i < (untU p w).length → Vec p (2 ^ w.length) (gR (untU p w) i) := fun i hi => ((mem_untU hP hl hv).1 (hm i hi)).1
    have hcc : ∀ i j, i < (untU p w).length → j < (untU p w).length → mulp p w (gR (untU p w) i) (gR (untU p w) j) ∈ untU p w := fun i j hi hj => untU_mul hP hl hv (hm i hi) (hm j hj)
    simp only [h0, not_true_eq_false, if_false, ev, el]
    rw [s_loopU (C := 0) hP hl hv (by omega) hvv hcc, i_loopU (C := 0) hP hl hv (by omega) hvv hcc]
    exact ⟨rfl, rfl⟩
  · have el : lpV p w = [] := by unfold lpV; rw [if_neg h0]
    simp only [h0, not_false_eq_true, if_true, el]
    exact ⟨trivial, trivial⟩
theorem LawUnits {c : List Int} (hc : c.length ≤ 9223372036854775807) (hb : ∀ x ∈ c, 0 ≤ x ∧ x ≤ 255) : l_FnUnits c = some true := by
  unfold l_FnUnits l_big
  rw [some_bind]
  by_cases hbig : (4096 : Int) < (c.length : Int)
  · rw [ilt_true hbig, if_pos rfl]
  rw [ilt_false hbig]
  simp only [Bool.false_eq_true, if_false]
  obtain ⟨p, w, e0, lw⟩ := draw_units (c := c) (by omega) hb
  obtain ⟨u1, u2⟩ := Small_eq (p := p) (w := w) (by omega)
  obtain ⟨l1, l2⟩ := LoopOfUnits_val (p := p) (w := w) (by omega)
  have hus := unV_small (p := p) (w := w)
  have s1 : s_UnitsOf p w = some (unV p w, unC p w) := by unfold s_UnitsOf; rw [u1]; rfl
  have s2 : i_UnitsOf p w = some (unV p w, unC p w) := by unfold i_UnitsOf; rw [u2]; rfl
  simp only [e0, s1, s2, l1, l2, some_bind, not_true_eq_false, if_false, same9_self (m := unV p w) ⟨hus.1, hus.2.1⟩, Bool.not_true, Bool.false_eq_true]
  by_cases h0 : unC p w = 0
  rotate_left
  · have ev : unV p w = [] := by unfold unV; rw [if_neg h0]
    have el : lpV p w = [] := by unfold lpV; rw [if_neg h0]
    simp [h0, ev, el, ieq]
  obtain ⟨hD, hl, hcn⟩ := unC_zero h0
  obtain ⟨hP, hl4, hv, _⟩ := isDb_iff hD
  have hp := isP_le hP
  have ev : unV p w = untU p w := by unfold unV; rw [if_pos h0]
  have el : lpV p w = lpU p w (untU p w) := by unfold lpV; rw [if_pos h0]
  have hn := untU_len hP hl hv
  have hpos : 0 < (untU p w).length := by unfold untU; simp
  have h16 := two_le hl4
  have hcount : i_CountOfNorm p w 1 = some (((untU p w).length : Int), 0) := by
    unfold i_CountOfNorm i_checkNorm i_Doubling_field
    rw [i_IsDoubling_eq (by omega), hD, some_bind]
    simp only [Bool.true_eq_false, if_false, some_bind]
    rw [i_field_is_eq (by omega) (by omega) (by simp)]
    have hnum : nums p [1] = true := nums_iff.2 fun x hx => by
      simp only [List.mem_cons, List.not_mem_nil, or_false] at hx
      omega
    rw [hnum]
    simp only [some_bind, Bool.true_eq_false, if_false, not_true_eq_false]
    rw [i_normCounts_eq hP hl hv, some_bind, idxR0 (by simp), some_bind]
    have e0 : gR (vecN (2 ^ w.length + 1) fun j => rwU p ((dgv p w w.length).drop j)) 0 = rwU p (dgv p w w.length) := by rw [gR_vecN _ (Nat.succ_pos _)]; rfl
    have e1 : gI (rwU p (dgv p w w.length)) 1 = cntU p (dgv p w w.length) 1 := by unfold rwU; rw [gI_vecN _ (by omega)]; rfl
    have e2 : idx (rwU p (dgv p w w.length)) 1 = some (cntU p (dgv p w w.length) 1) := by
      rw [show (1 : Int) = ((1 : Nat) : Int) from rfl, idxI (by unfold rwU; simp; omega), e1]; rfl
    rw [e0, e2, some_bind, hn]
  have hunit : i_DoubleUnit p w = some (axis (2 ^ w.length) 0, 0) := by
    unfold i_DoubleUnit
    rw [i_IsDoubling_eq (by omega), hD, some_bind]
    simp only [Bool.true_eq_false, if_false]
    rw [i_element0 hP hl hv]
    rfl
  have hmo := moufang_units hP hl hv hcn
  have h00 : gR (untU p w) 0 = axis (2 ^ w.length) 0 := rfl
  have hlp := lp_len hP hl hv
  have hax := likeI_self (v := axis (2 ^ w.length) 0) (by unfold axis; rw [List.length_set, List.length_replicate]; omega)
  obtain ⟨h5, e5, S5⟩ := roll_eq (c := c) 3014 (by omega) hb
  obtain ⟨x, a6, h6, e6, p6, q6, S6⟩ := below_eq (h := h5) (n := ((untU p w).length : Int)) S5 (by omega) (by omega)
  obtain ⟨y, a7, h7, e7, p7, q7, S7⟩ := below_eq (h := h6) (n := ((untU p w).length : Int)) S6 (by omega) (by omega)
  obtain ⟨i, rfl⟩ : ∃ i : Nat, x = (i : Int) := ⟨x.toNat, by omega⟩
  obtain ⟨j, rfl⟩ : ∃ j : Nat, y = (j : Int) := ⟨y.toNat, by omega⟩
  have hi : i < (untU p w).length := by omega
  have hj : j < (untU p w).length := by omega
  have ui := unt_at hP hl hv hi
  have uj := unt_at hP hl hv hj
  have hsp := tU_spec hP hl hv hi hj
  have hnorm : i_DoubleNorm p w (gR (untU p w) i) = some (1, 0) := by
    have e := ui.1.1
    unfold i_DoubleNorm
    rw [i_check_one (by omega) (by omega), elC_of hD ui.1, some_bind]
    simp only [not_true_eq_false, if_false]
    rw [i_norm_eq hP hl4 hv ui.1, ui.2]
    rfl
  have ht := times9_ok hD ui.1 uj.1
  have hlk := likeI_self (v := mulp p w (gR (untU p w) i) (gR (untU p w) j)) (by have := (mulp_vec hP hl4 hv ui.1 uj.1).1; omega)
  have hat : idx (gR (lpU p w (untU p w)) i) (j : Int) = some ((tU p w i j : Nat) : Int) := by
    rw [idxI (by rw [lp_row hP hl hv hi]; exact hj), lp_at hP hl hv hi hj]
  have hlt : ((tU p w i j : Nat) : Int) < ((untU p w).length : Int) := by omega
  have hge : (0 : Int) ≤ ((tU p w i j : Nat) : Int) := by omega
  have hx0 : idx (untU p w) 0 = some (axis (2 ^ w.length) 0) := by rw [idxR0 hpos, h00]
  simp only [h0, ev, el, not_true_eq_false, if_false, hcount, hunit, hmo, some_bind, hlp, hx0, hax, Bool.not_true, Bool.true_eq_false, Bool.false_eq_true, e5, e6, e7, idxR hi, idxR (m := lpU p w (untU p w)) (k := i) (by omega), hnorm, if_true, hat, hge, hlt, idxR hsp.1, idxR hj, hsp.2, ht, hlk]
end Go.Vam
