import Derived.Test.YtijmfifejmgeaaaPlG1
/- Plain laws: what the tests of loops answer: associative, commutative, Moufang. -/
namespace Go.Vam
open Go Go.RowKit
set_option linter.unusedSimpArgs false
set_option linter.unusedVariables false
set_option linter.unusedSectionVars false

def allT (n : Nat) (f : Nat → Nat → Nat → Bool) : Bool := (List.range n).all fun x => (List.range n).all fun y => (List.range n).all fun z => f x y z
theorem allT_iff {n : Nat} {f : Nat → Nat → Nat → Bool} : allT n f = true ↔ ∀ x y z, x < n → y < n → z < n → f x y z = true := by
  unfold allT
  simp only [List.all_eq_true, List.mem_range]
  exact ⟨fun h x y z hx hy hz => h x hx y hy z hz, fun h x hx y hy z hz => h x y z hx hy hz⟩
/-- Moufang's identity at three elements. -/
def moT (a : List (List Int)) (x y z : Nat) : Bool := decide (tN a (tN a x (tN a y z)) x = tN a (tN a x y) (tN a z x))
def comA (a : List (List Int)) : Bool := (List.range a.length).all fun x => (List.range a.length).all fun y => comB a x y
theorem checkLoop_ok {a : List (List Int)} (hL : isLp a = true) : i_checkLoop a [] = some 0 := by
  obtain ⟨hn, h0, hm⟩ := isLp_tab hL
  rw [i_checkLoop_eq (by omega) (by simp), hL]; simp

section
variable {a : List (List Int)} (hn : a.length ≤ 128) (hm : Mat (a.length : Int) a.length a.length a)
include hn hm
theorem i_assoc3 : i_loopTriples_of_i_IsAssociativeLoop_c1 a a = some (allT a.length (asB a)) := by
  have l2 : ∀ x y, x < a.length → y < a.length → loop (i_loopTriples_of_i_IsAssociativeLoop_c1_L2 a (x : Int) (y : Int) (a.length : Int)) BIG 0 = some (if (List.range a.length).all (fun z => asB a x y z) then .inl () else .inr (.inr (.inr (.inr (.inr false))))) := by
    intro x y hx hy
    refine all_loop _ a.length _ _ (by rw [BIG_val]; omega) ?_ ?_ ?_
    · intro z hz hf
      unfold i_loopTriples_of_i_IsAssociativeLoop_c1_L2 i_IsAssociativeLoop_c1
      simp only [lt_cast hz, if_true, (as_eq hn hm hx hy hz).2, some_bind, hf, Bool.true_eq_false, if_false]
      rw [w_in (by omega) (by omega)]; rfl
    · intro z hz hf
      unfold i_loopTriples_of_i_IsAssociativeLoop_c1_L2 i_IsAssociativeLoop_c1
      simp only [lt_cast hz, if_true, (as_eq hn hm hx hy hz).2, some_bind, hf]
    · unfold i_loopTriples_of_i_IsAssociativeLoop_c1_L2
      simp only [lt_cast_self, if_false]
  have l1 : ∀ x, x < a.length → loop (i_loopTriples_of_i_IsAssociativeLoop_c1_L1 a a (x : Int) (a.length : Int)) BIG 0 = some (if (List.range a.length).all (fun y => (List.range a.length).all (fun z => asB a x y z)) then .inl () else .inr (.inr (.inr false))) := by
    intro x hx
    refine all_loop _ a.length _ _ (by rw [BIG_val]; omega) ?_ ?_ ?_
    · intro y hy hf
      unfold i_loopTriples_of_i_IsAssociativeLoop_c1_L1 i_length_LI
      simp only [lt_cast hy, if_true, some_bind, l2 x y hx hy, hf]
      rw [w_in (by omega) (by omega)]; rfl
    · intro y hy hf
      unfold i_loopTriples_of_i_IsAssociativeLoop_c1_L1 i_length_LI
      simp only [lt_cast hy, if_true, some_bind, l2 x y hx hy, hf]
      rfl
    · unfold i_loopTriples_of_i_IsAssociativeLoop_c1_L1
      simp only [lt_cast_self, if_false]
  unfold i_loopTriples_of_i_IsAssociativeLoop_c1 i_length_LI
  rw [some_bind, all_loop (i_loopTriples_of_i_IsAssociativeLoop_c1_L0 a a (a.length : Int)) a.length (fun x => (List.range a.length).all (fun y => (List.range a.length).all (fun z => asB a x y z))) false (by rw [BIG_val]; omega) ?_ ?_ ?_]
  · unfold allT
    cases ((List.range a.length).all fun x => (List.range a.length).all (fun y => (List.range a.length).all (fun z => asB a x y z))) <;> rfl
  · intro x hx hf
    unfold i_loopTriples_of_i_IsAssociativeLoop_c1_L0 i_length_LI
    simp only [lt_cast hx, if_true, some_bind, l1 x hx, hf]
    rw [w_in (by omega) (by omega)]; rfl
  · intro x hx hf
    unfold i_loopTriples_of_i_IsAssociativeLoop_c1_L0 i_length_LI
    simp only [lt_cast hx, if_true, some_bind, l1 x hx, hf]
    rfl
  · unfold i_loopTriples_of_i_IsAssociativeLoop_c1_L0
    simp only [lt_cast_self, if_false]
theorem mo_eq {x y z : Nat} (hx : x < a.length) (hy : y < a.length) (hz : z < a.length) : i_IsMoufangLoop_c1 (x : Int) (y : Int) (z : Int) a = some (moT a x y z) := by
  have h1 := (tN_lt hn hm hy hz).1
  have h2 := (tN_lt hn hm hx h1).1
  have h3 := (tN_lt hn hm hx hy).1
  have h4 := (tN_lt hn hm hz hx).1
  unfold i_IsMoufangLoop_c1
  rw [idxR hx, some_bind, idxR hy, some_bind, idx_t hn hm hy hz, some_bind, idx_t hn hm hx h1, some_bind, idxR h2, some_bind, idx_t hn hm h2 hx, some_bind, idx_t hn hm hx hy, some_bind, idxR h3, some_bind,
    idxR hz, some_bind, idx_t hn hm hz hx, some_bind, idx_t hn hm h3 h4, some_bind, ieq_nat]
  rfl
theorem i_mouf3 : i_loopTriples_of_i_IsMoufangLoop_c1 a a = some (allT a.length (moT a)) := by
  have l2 : ∀ x y, x < a.length → y < a.length → loop (i_loopTriples_of_i_IsMoufangLoop_c1_L2 a (x : Int) (y : Int) (a.length : Int)) BIG 0 = some (if (List.range a.length).all (fun z => moT a x y z) then .inl () else .inr (.inr (.inr (.inr (.inr false))))) := by
    intro x y hx hy
    refine all_loop _ a.length _ _ (by rw [BIG_val]; omega) ?_ ?_ ?_
    · intro z hz hf
      unfold i_loopTriples_of_i_IsMoufangLoop_c1_L2
      simp only [lt_cast hz, if_true, mo_eq hn hm hx hy hz, some_bind, hf, Bool.true_eq_false, if_false]
      rw [w_in (by omega) (by omega)]; rfl
    · intro z hz hf
      unfold i_loopTriples_of_i_IsMoufangLoop_c1_L2
      simp only [lt_cast hz, if_true, mo_eq hn hm hx hy hz, some_bind, hf]
    · unfold i_loopTriples_of_i_IsMoufangLoop_c1_L2
      simp only [lt_cast_self, if_false]
  have l1 : ∀ x, x < a.length → loop (i_loopTriples_of_i_IsMoufangLoop_c1_L1 a a (x : Int) (a.length : Int)) BIG 0 = some (if (List.range a.length).all (fun y => (List.range a.length).all (fun z => moT a x y z)) then .inl () else .inr (.inr (.inr false))) := by
    intro x hx
    refine all_loop _ a.length _ _ (by rw [BIG_val]; omega) ?_ ?_ ?_
    · intro y hy hf
      unfold i_loopTriples_of_i_IsMoufangLoop_c1_L1 i_length_LI
      simp only [lt_cast hy, if_true, some_bind, l2 x y hx hy, hf]
      rw [w_in (by omega) (by omega)]; rfl
    · intro y hy hf
      unfold i_loopTriples_of_i_IsMoufangLoop_c1_L1 i_length_LI
      simp only [lt_cast hy, if_true, some_bind, l2 x y hx hy, hf]
      rfl
    · unfold i_loopTriples_of_i_IsMoufangLoop_c1_L1
      simp only [lt_cast_self, if_false]
  unfold i_loopTriples_of_i_IsMoufangLoop_c1 i_length_LI
  rw [some_bind, all_loop (i_loopTriples_of_i_IsMoufangLoop_c1_L0 a a (a.length : Int)) a.length (fun x => (List.range a.length).all (fun y => (List.range a.length).all (fun z => moT a x y z))) false (by rw [BIG_val]; omega) ?_ ?_ ?_]
  · unfold allT
    cases ((List.range a.length).all fun x => (List.range a.length).all (fun y => (List.range a.length).all (fun z => moT a x y z))) <;> rfl
  · intro x hx hf
    unfold i_loopTriples_of_i_IsMoufangLoop_c1_L0 i_length_LI
    simp only [lt_cast hx, if_true, some_bind, l1 x hx, hf]
    rw [w_in (by omega) (by omega)]; rfl
  · intro x hx hf
    unfold i_loopTriples_of_i_IsMoufangLoop_c1_L0 i_length_LI
    simp only [lt_cast hx, if_true, some_bind, l1 x hx, hf]
    rfl
  · unfold i_loopTriples_of_i_IsMoufangLoop_c1_L0
    simp only [lt_cast_self, if_false]
end
section
variable {a : List (List Int)} (hL : isLp a = true)
include hL
theorem IsAssociativeLoop_val : i_IsAssociativeLoop a = some (allT a.length (asB a), 0) := by
  obtain ⟨hn, h0, hm⟩ := isLp_tab hL
  unfold i_IsAssociativeLoop
  rw [checkLoop_ok hL, some_bind, if_neg (by simp), i_assoc3 hn hm, some_bind]
theorem IsMoufangLoop_val : i_IsMoufangLoop a = some (allT a.length (moT a), 0) := by
  obtain ⟨hn, h0, hm⟩ := isLp_tab hL
  unfold i_IsMoufangLoop
  rw [checkLoop_ok hL, some_bind, if_neg (by simp), i_mouf3 hn hm, some_bind]
theorem IsCommutativeLoop_val : i_IsCommutativeLoop a = some (comA a, 0) := by
  obtain ⟨hn, h0, hm⟩ := isLp_tab hL
  unfold i_IsCommutativeLoop
  rw [checkLoop_ok hL, some_bind, if_neg (by simp), i_transpose_eq h0 (by omega) (by omega) hm, some_bind, i_sameRows_eq (by omega) (fun r hr => by
    obtain ⟨k, hk, rfl⟩ := List.getElem_of_mem hr
    rw [gR_get hk, (hm.row hk).1]; omega), some_bind]
  have e : decide (a = turnm a.length a.length a) = comA a := by
    rw [Bool.eq_iff_iff, decide_eq_true_eq]
    unfold comA comB
    simp only [List.all_eq_true, List.mem_range, decide_eq_true_eq]
    constructor
    · intro h x hx y hy
      unfold tN
      have : gI (gR a x) y = gI (gR (turnm a.length a.length a) x) y := by rw [← h]
      rw [this, turnm_at hy hx]
    · intro h
      refine extR rfl fun i hi => extI (hm.row hi).1 fun j hj => ?_
      rw [(tN_lt hn hm hi hj).2, (tN_lt hn hm hj hi).2, h i hi j hj]
  rw [e]
end
end Go.Vam

/- Plain algebra: loops of signed axes: what their tests answer, by the signs alone. -/
namespace Go.Vam
open Go Go.RowKit
set_option linter.unusedSimpArgs false
set_option linter.unusedVariables false
set_option linter.unusedSectionVars false

/-- The product of signed axes. -/
def tS (f : Nat → Nat → Bool) (i j : Nat) : Nat := 2 * (i / 2 ^^^ j / 2) + (i + j + (f (i / 2) (j / 2)).toNat) % 2
theorem tS_half (f : Nat → Nat → Bool) (i j : Nat) : tS f i j / 2 = i / 2 ^^^ j / 2 := by unfold tS; omega
theorem tS_mod (f : Nat → Nat → Bool) (i j : Nat) : tS f i j % 2 = (i + j + (f (i / 2) (j / 2)).toNat) % 2 := by unfold tS; omega
theorem half_ext {i j : Nat} (h1 : i / 2 = j / 2) (h2 : i % 2 = j % 2) : i = j := by omega

def coB (f : Nat → Nat → Bool) (a b c : Nat) : Bool := (f a b ^^ f (a ^^^ b) c) == (f b c ^^ f a (b ^^^ c))
def mfB (f : Nat → Nat → Bool) (a b c : Nat) : Bool := (f b c ^^ (f a (b ^^^ c) ^^ f (a ^^^ (b ^^^ c)) a)) == (f a b ^^ (f c a ^^ f (a ^^^ b) (c ^^^ a)))
def coA (f : Nat → Nat → Bool) (N : Nat) : Bool := (List.range N).all fun a => (List.range N).all fun b => f a b == f b a
def oneA (f : Nat → Nat → Bool) (N : Nat) : Bool := (List.range N).all fun a => !f 0 a && !f a 0
def spanL (a b : Nat) : List Nat := [0, a, b, a ^^^ b]
def dspB (f : Nat → Nat → Bool) (a b : Nat) : Bool := (spanL a b).all fun c => (spanL a b).all fun d => (spanL a b).all fun e => coB f c d e
def dspA (f : Nat → Nat → Bool) (N : Nat) : Bool := (List.range N).all fun a => (List.range N).all fun b => dspB f a b

theorem bp {a b : Bool} {x : Nat} : (x + a.toNat) % 2 = (x + b.toNat) % 2 ↔ a = b := by cases a <;> cases b <;> simp <;> omega
theorem tS_assoc (f : Nat → Nat → Bool) (x y z : Nat) : decide (tS f (tS f x y) z = tS f x (tS f y z)) = coB f (x / 2) (y / 2) (z / 2) := by
  rw [Bool.eq_iff_iff, decide_eq_true_eq]
  have h1 : tS f (tS f x y) z / 2 = tS f x (tS f y z) / 2 := by simp only [tS_half, Nat.xor_assoc]
  have m1 : tS f (tS f x y) z % 2 = (x + y + z + (f (x / 2) (y / 2) ^^ f (x / 2 ^^^ y / 2) (z / 2)).toNat) % 2 := by
    rw [tS_mod, tS_half]
    have := tS_mod f x y
    cases h1 : f (x / 2) (y / 2) <;> cases h2 : f (x / 2 ^^^ y / 2) (z / 2) <;> rw [h1] at this <;> simp at this ⊢ <;> omega
  have m2 : tS f x (tS f y z) % 2 = (x + y + z + (f (y / 2) (z / 2) ^^ f (x / 2) (y / 2 ^^^ z / 2)).toNat) % 2 := by
    rw [tS_mod, tS_half]
    have := tS_mod f y z
    cases h1 : f (y / 2) (z / 2) <;> cases h2 : f (x / 2) (y / 2 ^^^ z / 2) <;> rw [h1] at this <;> simp at this ⊢ <;> omega
  unfold coB
  rw [beq_iff_eq, ← bp (x := x + y + z), ← m1, ← m2]
  exact ⟨fun h => by rw [h], fun h => half_ext h1 h⟩
theorem tS_mouf (f : Nat → Nat → Bool) (x y z : Nat) : decide (tS f (tS f x (tS f y z)) x = tS f (tS f x y) (tS f z x)) = mfB f (x / 2) (y / 2) (z / 2) := by
  rw [Bool.eq_iff_iff, decide_eq_true_eq]
  have h1 : tS f (tS f x (tS f y z)) x / 2 = tS f (tS f x y) (tS f z x) / 2 := by simp only [tS_half, Nat.xor_assoc]
  have m1 : tS f (tS f x (tS f y z)) x % 2 = (x + y + z + x + (f (y / 2) (z / 2) ^^ (f (x / 2) (y / 2 ^^^ z / 2) ^^ f (x / 2 ^^^ (y / 2 ^^^ z / 2)) (x / 2))).toNat) % 2 := by
    rw [tS_mod, tS_half, tS_half]
    have e1 := tS_mod f y z
    have e2 := tS_mod f x (tS f y z)
    rw [tS_half] at e2
    cases h1 : f (y / 2) (z / 2) <;> cases h2 : f (x / 2) (y / 2 ^^^ z / 2) <;> cases h3 : f (x / 2 ^^^ (y / 2 ^^^ z / 2)) (x / 2) <;> rw [h1] at e1 <;> rw [h2] at e2 <;> simp at e1 e2 ⊢ <;> omega
  have m2 : tS f (tS f x y) (tS f z x) % 2 = (x + y + z + x + (f (x / 2) (y / 2) ^^ (f (z / 2) (x / 2) ^^ f (x / 2 ^^^ y / 2) (z / 2 ^^^ x / 2))).toNat) % 2 := by
    rw [tS_mod, tS_half, tS_half]
    have e1 := tS_mod f x y
    have e2 := tS_mod f z x
    cases h1 : f (x / 2) (y / 2) <;> cases h2 : f (z / 2) (x / 2) <;> cases h3 : f (x / 2 ^^^ y / 2) (z / 2 ^^^ x / 2) <;> rw [h1] at e1 <;> rw [h2] at e2 <;> simp at e1 e2 ⊢ <;> omega
  unfold mfB
  rw [beq_iff_eq, ← bp (x := x + y + z + x), ← m1, ← m2]
  exact ⟨fun h => by rw [h], fun h => half_ext h1 h⟩
theorem tS_comm (f : Nat → Nat → Bool) (x y : Nat) : decide (tS f x y = tS f y x) = (f (x / 2) (y / 2) == f (y / 2) (x / 2)) := by
  rw [Bool.eq_iff_iff, decide_eq_true_eq, beq_iff_eq, ← bp (x := x + y), ← tS_mod]
  have e : (x + y + (f (y / 2) (x / 2)).toNat) % 2 = tS f y x % 2 := by rw [tS_mod]; omega
  rw [e]
  exact ⟨fun h => by rw [h], fun h => half_ext (by rw [tS_half, tS_half, Nat.xor_comm]) h⟩
theorem tS_injR {f : Nat → Nat → Bool} {i j j' : Nat} (h : tS f i j = tS f i j') : j = j' := by
  have h1 : j / 2 = j' / 2 := by
    have : i / 2 ^^^ j / 2 = i / 2 ^^^ j' / 2 := by rw [← tS_half f, ← tS_half f, h]
    have := congrArg (fun x => i / 2 ^^^ x) this
    simpa only [xc1] using this
  have h2 := congrArg (· % 2) h
  simp only [tS_mod, h1] at h2
  omega
theorem tS_injL {f : Nat → Nat → Bool} {i j j' : Nat} (h : tS f j i = tS f j' i) : j = j' := by
  have h1 : j / 2 = j' / 2 := by
    have : j / 2 ^^^ i / 2 = j' / 2 ^^^ i / 2 := by rw [← tS_half f, ← tS_half f, h]
    have := congrArg (fun x => x ^^^ i / 2) this
    simpa only [xc4] using this
  have h2 := congrArg (· % 2) h
  simp only [tS_mod, h1] at h2
  omega
theorem span_xor {a b u v : Nat} (hu : u ∈ spanL a b) (hv : v ∈ spanL a b) : u ^^^ v ∈ spanL a b := by
  unfold spanL at *
  simp only [List.mem_cons, List.not_mem_nil, or_false] at hu hv ⊢
  rcases hu with rfl | rfl | rfl | rfl <;> rcases hv with rfl | rfl | rfl | rfl <;> simp [Nat.xor_self, xc1, xc2, xc3, xc4, Nat.xor_comm] <;> simp [Nat.xor_comm]

theorem once_inj {n : Nat} {f : Nat → Int} (h1 : ∀ j, j < n → 0 ≤ f j ∧ f j < n) (h2 : ∀ i j, i < n → j < n → f i = f j → i = j) : onceB n f = true := by
  unfold onceB okB
  refine List.all_eq_true.2 fun j hj => ?_
  have hj' := List.mem_range.1 hj
  have := h1 j hj'
  simp only [Bool.and_eq_true, decide_eq_true_eq, Bool.not_eq_true', List.any_eq_false, List.mem_range]
  refine ⟨⟨this.1, by omega⟩, fun k hk e => ?_⟩
  have := h2 k j (by omega) hj' e
  omega
/-- A table of products of signed axes. -/
structure Sgn (n : Nat) (f : Nat → Nat → Bool) (a : List (List Int)) : Prop where
  n4 : n ≤ 4
  len : a.length = 2 * 2 ^ n
  row : ∀ i, i < a.length → (gR a i).length = a.length
  val : ∀ i j, i < a.length → j < a.length → gI (gR a i) j = ((tS f i j : Nat) : Int)
  one : oneA f (2 ^ n) = true
theorem allT_half {N : Nat} {g h : Nat → Nat → Nat → Bool} (e : ∀ x y z, x < 2 * N → y < 2 * N → z < 2 * N → g x y z = h (x / 2) (y / 2) (z / 2)) : allT (2 * N) g = allT N h := by
  rw [Bool.eq_iff_iff, allT_iff, allT_iff]
  constructor
  · intro H x y z hx hy hz
    have := H (2 * x) (2 * y) (2 * z) (by omega) (by omega) (by omega)
    rw [e _ _ _ (by omega) (by omega) (by omega)] at this
    simpa using this
  · intro H x y z hx hy hz
    rw [e x y z hx hy hz]
    exact H _ _ _ (by omega) (by omega) (by omega)
section
variable {n : Nat} {f : Nat → Nat → Bool} {a : List (List Int)} (h : Sgn n f a)
include h
theorem Sgn.pw : 2 ^ n ≤ 16 := by
  have := Nat.pow_le_pow_right (show 0 < 2 by omega) h.n4
  omega
theorem Sgn.lt {i j : Nat} (hi : i < a.length) (hj : j < a.length) : tS f i j < a.length := by
  have hl := h.len
  have : i / 2 ^^^ j / 2 < 2 ^ n := xor_lt (by omega) (by omega)
  unfold tS
  omega
theorem Sgn.tN {i j : Nat} (hi : i < a.length) (hj : j < a.length) : Go.Vam.tN a i j = tS f i j := by unfold Go.Vam.tN; rw [h.val i j hi hj]; rfl
theorem Sgn.isLp : isLp a = true := by
  have hp := h.pw
  have hl := h.len
  have h2 := Nat.two_pow_pos n
  unfold Go.Vam.isLp
  simp only [Bool.and_eq_true, decide_eq_true_eq, List.all_eq_true, List.mem_range]
  refine ⟨by omega, fun i hi => h.row i hi, fun i hi => ?_⟩
  have ho : f 0 (i / 2) = false ∧ f (i / 2) 0 = false := by
    have := List.all_eq_true.1 h.one (i / 2) (List.mem_range.2 (by omega))
    simpa using this
  unfold rowB
  simp only [Bool.and_eq_true, decide_eq_true_eq]
  have z0 : 0 < a.length := by omega
  refine ⟨⟨once_inj (fun j hj => ?_) fun j j' hj hj' e => ?_, once_inj (fun j hj => ?_) fun j j' hj hj' e => ?_⟩, ?_, ?_⟩
  · rw [h.val i j hi hj]; have := h.lt hi hj; omega
  · rw [h.val i j hi hj, h.val i j' hi hj'] at e
    exact tS_injR (f := f) (i := i) (by omega)
  · rw [h.val j i hj hi]; have := h.lt hj hi; omega
  · skip
    rw [h.val j i hj hi, h.val j' i hj' hi] at e
    exact tS_injL (f := f) (i := i) (by omega)
  · rw [h.val 0 i z0 hi]
    unfold tS
    simp [ho.1]; omega
  · rw [h.val i 0 hi z0]
    unfold tS
    simp [ho.2]; omega
theorem Sgn.asB {x y z : Nat} (hx : x < a.length) (hy : y < a.length) (hz : z < a.length) : asB a x y z = coB f (x / 2) (y / 2) (z / 2) := by
  unfold Go.Vam.asB
  rw [h.tN hx hy, h.tN hy hz, h.tN (h.lt hx hy) hz, h.tN hx (h.lt hy hz)]
  exact tS_assoc f x y z
theorem Sgn.assoc : allT a.length (Go.Vam.asB a) = allT (2 ^ n) (coB f) := by
  rw [h.len]
  exact allT_half fun x y z hx hy hz => h.asB (by rw [h.len]; exact hx) (by rw [h.len]; exact hy) (by rw [h.len]; exact hz)
theorem Sgn.mouf : allT a.length (moT a) = allT (2 ^ n) (mfB f) := by
  rw [h.len]
  refine allT_half fun x y z hx hy hz => ?_
  rw [← h.len] at hx hy hz
  unfold moT
  rw [h.tN hy hz, h.tN hx (h.lt hy hz), h.tN (h.lt hx (h.lt hy hz)) hx, h.tN hx hy, h.tN hz hx, h.tN (h.lt hx hy) (h.lt hz hx)]
  exact tS_mouf f x y z
theorem Sgn.comm : comA a = coA f (2 ^ n) := by
  have hl := h.len
  unfold comA coA
  rw [Bool.eq_iff_iff]
  simp only [List.all_eq_true, List.mem_range]
  have e : ∀ x y, x < a.length → y < a.length → comB a x y = (f (x / 2) (y / 2) == f (y / 2) (x / 2)) := fun x y hx hy => by
    unfold comB
    rw [h.tN hx hy, h.tN hy hx]
    exact tS_comm f x y
  constructor
  · intro H x hx y hy
    have := H (2 * x) (by omega) (2 * y) (by omega)
    rw [e _ _ (by omega) (by omega)] at this
    simpa using this
  · intro H x hx y hy
    rw [e x y hx hy]
    exact H _ (by omega) _ (by omega)
theorem Sgn.dia (hd : dspA f (2 ^ n) = true) : diaB a = true := by
  have hl := h.len
  unfold diaB
  simp only [List.all_eq_true, List.mem_range]
  intro x hx y hy
  have hy' : y < a.length := by omega
  have key : ∀ u ∈ subN a (· ∈ [x, y]), u < a.length ∧ u / 2 ∈ spanL (x / 2) (y / 2) := by
    intro u hu
    have hk := mkB_iff.1 (List.mem_filter.1 hu).2
    refine hk.least (T := fun u => u < a.length ∧ u / 2 ∈ spanL (x / 2) (y / 2)) ⟨by omega, by simp [spanL]⟩ (fun z hz => ?_) fun u v hu hv => ?_
    · simp only [List.mem_cons, List.not_mem_nil, or_false] at hz
      rcases hz with rfl | rfl
      · exact ⟨hx, by simp [spanL]⟩
      · exact ⟨hy', by simp [spanL]⟩
    · rw [h.tN hu.1 hv.1]
      exact ⟨h.lt hu.1 hv.1, by rw [tS_half]; exact span_xor hu.2 hv.2⟩
  unfold dspA at hd
  simp only [List.all_eq_true, List.mem_range] at hd
  have hs := hd (x / 2) (by omega) (y / 2) (by omega)
  unfold dspB at hs
  simp only [List.all_eq_true] at hs
  unfold allA
  simp only [List.all_eq_true]
  intro u hu v hv w hw
  obtain ⟨u1, u2⟩ := key u hu
  obtain ⟨v1, v2⟩ := key v hv
  obtain ⟨w1, w2⟩ := key w hw
  rw [h.asB u1 v1 w1]
  exact hs _ u2 _ v2 _ w2
end
end Go.Vam

/- Plain law: FnSignedBases. -/
namespace Go.Vam
open Go Go.RowKit
set_option linter.unusedSimpArgs false
set_option linter.unusedVariables false
set_option linter.unusedSectionVars false

/-- Lists of signs. -/
def sgnL : Nat → List (List Int)
  | 0 => [[]]
  | n + 1 => (sgnL n).flatMap fun v => [1 :: v, -1 :: v]
theorem mem_sgnL : ∀ {v : List Int}, (∀ x ∈ v, x = 1 ∨ x = -1) → v ∈ sgnL v.length
  | [], _ => by simp [sgnL]
  | x :: v, h => by
    have ih := mem_sgnL (v := v) fun y hy => h y (by simp [hy])
    simp only [List.length_cons, sgnL, List.mem_flatMap]
    refine ⟨v, ih, ?_⟩
    rcases h x (by simp) with rfl | rfl <;> simp
/-- Whether the product of two axes has the sign turned. -/
def neF (n : Nat) (v : List Int) (x y : Nat) : Bool := !decide (sgF n x y * wpF v n (x &&& y) = 1)
def chkS (n : Nat) (v : List Int) : Bool :=
  oneA (neF n v) (2 ^ n) && ((allT (2 ^ n) (coB (neF n v)) == decide (n ≤ 2)) && ((allT (2 ^ n) (mfB (neF n v)) == decide (n ≤ 3)) && ((coA (neF n v) (2 ^ n) == decide (n ≤ 1)) && (decide (3 < n) || dspA (neF n v) (2 ^ n)))))
theorem chkS_0 : ((List.range 3).all fun n => (sgnL n).all (chkS n)) = true := by decide +kernel
theorem chkS_4 : ((sgnL 4).all (chkS 4)) = true := by decide +kernel
theorem chkS_3 : ((sgnL 3).all (chkS 3)) = true := by decide +kernel
end Go.Vam

/- Plain law: FnSignedBases. -/
namespace Go.Vam
open Go Go.RowKit
set_option linter.unusedSimpArgs false
set_option linter.unusedVariables false
set_option linter.unusedSectionVars false

theorem chkS_all {n : Nat} {v : List Int} (hn : n ≤ 4) (hv : v ∈ sgnL n) : chkS n v = true := by
  by_cases h : n < 3
  · exact List.all_eq_true.1 (List.all_eq_true.1 chkS_0 n (List.mem_range.2 h)) v hv
  · by_cases h3 : n = 3
    · subst h3; exact List.all_eq_true.1 chkS_3 v hv
    · have : n = 4 := by omega
      subst this; exact List.all_eq_true.1 chkS_4 v hv
theorem pm_mul {x y : Int} (hx : x = 1 ∨ x = -1) (hy : y = 1 ∨ y = -1) : x * y = 1 ∨ x * y = -1 := by
  rcases hx with rfl | rfl <;> rcases hy with rfl | rfl <;> simp
theorem sgs_pm (j : Nat) : sgs j = 1 ∨ sgs j = -1 := by unfold sgs; split <;> simp
theorem sgF_pm : ∀ n i j, sgF n i j = 1 ∨ sgF n i j = -1
  | 0, _, _ => .inl rfl
  | n + 1, i, j => by
    unfold sgF
    split <;> split
    · exact sgF_pm n _ _
    · exact sgF_pm n _ _
    · exact pm_mul (sgs_pm _) (sgF_pm n _ _)
    · exact pm_mul (sgs_pm _) (sgF_pm n _ _)
theorem wpF_pm {v : List Int} : ∀ n, (∀ t, t < n → gI v t = 1 ∨ gI v t = -1) → ∀ m, wpF v n m = 1 ∨ wpF v n m = -1
  | 0, _, _ => .inl rfl
  | n + 1, h, m => by
    unfold wpF
    refine pm_mul ?_ (wpF_pm n (fun t ht => h t (by omega)) _)
    split
    · exact .inl rfl
    · exact h n (by omega)
theorem wpF_mod {p : Int} {v w : List Int} : ∀ n, (∀ t, t < n → gI w t % p = gI v t % p) → ∀ m, wpF w n m % p = wpF v n m % p
  | 0, _, _ => rfl
  | n + 1, h, m => by
    unfold wpF
    rw [Int.mul_emod, wpF_mod n (fun t ht => h t (by omega)), Int.mul_emod (if m < 2 ^ n then 1 else gI v n)]
    congr 2
    split
    · rfl
    · rw [h n (by omega)]
/-- The signs of the steps. -/
def sgV (w : List Int) : List Int := w.map fun x => if x = 1 then 1 else -1
theorem sgV_gI {w : List Int} {t : Nat} (h : t < w.length) : gI (sgV w) t = if gI w t = 1 then 1 else -1 := by
  rw [← gI_get (by simpa [sgV] using h), ← gI_get h]; simp [sgV]
section
variable {p : Int} {w : List Int} (hP : isP p = true) (hl : w.length ≤ 4) (hw : Vec p w.length w) (hs : ∀ x ∈ w, x = 1 ∨ x = p - 1)
include hP hl hw hs
theorem prod_sign {x y : Nat} (hx : x < 2 ^ w.length) (hy : y < 2 ^ w.length) : (gI (gR (prodm p w) x) y = 1) ↔ neF w.length (sgV w) x y = false := by
  have hp := isP_le hP
  have e1 : gI (gR (prodm p w) x) y = axS w.length w x y % p := by
    unfold prodm
    rw [gR_vecN _ hx, gI_vecN _ hy]
    exact axm_val hP hl hw hx hy
  rw [e1, axS_split w.length hl w x y hx hy, Int.mul_emod, wpF_mod (v := sgV w) w.length (fun t ht => ?_), ← Int.mul_emod]
  · have h1 := pm_mul (sgF_pm w.length x y) (wpF_pm (v := sgV w) w.length (fun t ht => by rw [sgV_gI ht]; split <;> simp) (x &&& y))
    unfold neF
    rcases h1 with h1 | h1
    · rw [h1, Int.emod_eq_of_lt (by omega) (by omega)]; simp
    · rw [h1]
      have : (-1 : Int) % p = p - 1 := by
        rw [show (-1 : Int) = (p - 1) + p * (-1) by omega, Int.add_mul_emod_self_left, Int.emod_eq_of_lt (by omega) (by omega)]
      rw [this]
      simp only [Bool.not_eq_false', decide_eq_true_eq]
      constructor <;> intro h <;> omega
  · rw [sgV_gI ht]
    rcases hs (gI w t) (by rw [← gI_get ht]; exact List.getElem_mem _) with h | h
    · rw [h]; simp
    · by_cases h1 : gI w t = 1
      · rw [if_pos h1, h1]
      · rw [if_neg h1, h]
        rw [show p - 1 = -1 + p * 1 by omega, Int.add_mul_emod_self_left]
theorem sgm_sgn : Sgn w.length (neF w.length (sgV w)) (sgm (prodm p w) (2 ^ w.length)) := by
  have h16 := two_le hl
  have hlen : (sgm (prodm p w) (2 ^ w.length)).length = 2 * 2 ^ w.length := by unfold sgm; simp
  have hv : sgV w ∈ sgnL w.length := by
    have := mem_sgnL (v := sgV w) fun x hx => by
      obtain ⟨y, _, rfl⟩ := List.mem_map.1 hx
      split <;> simp
    rwa [show (sgV w).length = w.length by simp [sgV]] at this
  have hc := chkS_all hl hv
  unfold chkS at hc
  simp only [Bool.and_eq_true] at hc
  refine ⟨hl, hlen, fun i hi => ?_, fun i j hi hj => ?_, hc.1⟩
  · rw [hlen] at hi ⊢
    unfold sgm; rw [gR_vecN _ hi]; simp
  · rw [hlen] at hi hj
    unfold sgm
    rw [gR_vecN _ hi, gI_vecN _ hj]
    have hx : i / 2 < 2 ^ w.length := by omega
    have hy : j / 2 < 2 ^ w.length := by omega
    have hxy := xor_lt hx hy
    have hp := prod_sign hP hl hw hs hx hy
    unfold sgE tS
    rw [bxor_k _ (by omega) _ (by omega), w_in (x := (i : Int) + (j : Int)) (by omega) (by omega)]
    have em : ((i : Int) + (j : Int)).tmod 2 = (((i + j) % 2 : Nat) : Int) := by
      rw [Int.tmod_eq_emod_of_nonneg (by omega)]; omega
    rw [em, w_in (x := 2 * ((i / 2 ^^^ j / 2 : Nat) : Int)) (by omega) (by omega), w_in (x := 1 - (((i + j) % 2 : Nat) : Int)) (by omega) (by omega)]
    cases hne : neF w.length (sgV w) (i / 2) (j / 2) with
    | false =>
      rw [if_neg (by simpa using hp.2 hne), w_in (by omega) (by omega)]
      simp only [Bool.toNat_false]; omega
    | true =>
      rw [if_pos (fun e => by have := hp.1 e; rw [hne] at this; cases this), w_in (by omega) (by omega)]
      simp only [Bool.toNat_true]; omega
end
theorem SignedBasis_cases {p : Int} {w : List Int} (hw : w.length ≤ 1048576) :
    (∃ C, C ≠ 0 ∧ s_SignedBasis p w = some ([], C) ∧ i_SignedBasis p w = some ([], C)) ∨
    (isP p = true ∧ w.length ≤ 4 ∧ Vec p w.length w ∧ (∀ x ∈ w, x = 1 ∨ x = p - 1) ∧ s_SignedBasis p w = some (sgm (prodm p w) (2 ^ w.length), 0) ∧ i_SignedBasis p w = some (sgm (prodm p w) (2 ^ w.length), 0)) := by
  unfold s_SignedBasis i_SignedBasis
  rw [s_l11Is_eq hw, i_IsDoubling_eq hw, some_bind, some_bind]
  cases hd : isDb p w with
  | false => exact .inl ⟨1, by simp, by simp, by simp⟩
  | true =>
    obtain ⟨hP, hl, hv, _⟩ := isDb_iff hd
    have hp := isP_le hP
    have w1 : w64 (p - 1) = p - 1 := w_in (by omega) (by omega)
    have hT := prodm_mat hP hl hv
    have h16 := two_le hl
    have c1 : g_slices_ContainsFunc_LI_I_of_i_SignedBasis_c1 w p w = some (w.any (noSign p)) := by
      unfold g_slices_ContainsFunc_LI_I_of_i_SignedBasis_c1 g_slices_IndexFunc_LI_I_of_i_SignedBasis_c1
      refine contains_loop w 0 (noSign p) hw _ (fun k hk => ?_) ?_
      · unfold g_slices_IndexFunc_LI_I_of_i_SignedBasis_c1_L0 i_SignedBasis_c1 noSign
        rw [if_pos (by omega), idxI hk, some_bind, w1, w_in (x := (k : Int) + 1) (by omega) (by omega)]
        show _ = if (!(decide (gI w k = 1)) && !(ieq (gI w k) (p - 1))) = true then _ else _
        by_cases h : gI w k = 1
        · simp [h]
        · simp [h]
      · unfold g_slices_IndexFunc_LI_I_of_i_SignedBasis_c1_L0
        simp
    obtain ⟨b, b1, b2⟩ := any_loop (s_SignedBasis_L0 p w) w.length (fun k => noSign p (gI w k)) (fun _ => (([] : List (List Int)), (5 : Int))) (by rw [BIG_val]; omega)
      (fun k hk hf => by
        unfold s_SignedBasis_L0
        unfold noSign at hf
        rw [if_pos (by omega), idxI hk, some_bind, w1, w_in (x := (k : Int) + 1) (by omega) (by omega)]
        by_cases h : gI w k = 1
        · simp [h]
        · simp [h] at hf ⊢
          simp [hf]) (fun k hk hf => by
        unfold s_SignedBasis_L0
        unfold noSign at hf
        rw [if_pos (by omega), idxI hk, some_bind, w1]
        by_cases h : gI w k = 1
        · simp [h] at hf
        · simp [h] at hf ⊢
          simp [hf]) (by
        unfold s_SignedBasis_L0
        simp)
    have e : w.any (noSign p) = (List.range w.length).any fun k => noSign p (gI w k) := (any_range w (noSign p) 0).symm
    simp only [Bool.true_eq_false, if_false, c1, some_bind, b1]
    rcases b2 with ⟨rfl, h3⟩ | ⟨k, hk, rfl, hf, h3, _⟩
    · right
      have hs : ∀ x ∈ w, x = 1 ∨ x = p - 1 := fun x hx => by
        rw [← e] at h3
        have := List.any_eq_false.1 h3 x hx
        unfold noSign ieq at this
        simp at this
        by_cases h : x = 1
        · exact .inl h
        · exact .inr (this h)
      rw [e, h3]
      have s1 := s_signed hl hT
      have s2 := i_signed hl hT
      simp only [Bool.false_eq_true, if_false, s_l11Basis_eq hP hl hv, i_Doubling_products_eq hP hl hv, i_Doubling_size_eq hl, some_bind, s1, s2]
      exact ⟨hP, hl, hv, hs, trivial, trivial⟩
    · rw [e, h3]
      exact .inl ⟨5, by simp, by simp, by simp⟩
theorem draw_signed {c : List Int} (hc : c.length ≤ 4096) (hb : ∀ x ∈ c, 0 ≤ x ∧ x ≤ 255) : ∃ (p : Int) (w : List Int), s_DrawSignedBasis c = some (p, w) ∧ w.length ≤ 5 := by
  unfold s_DrawSignedBasis
  obtain ⟨h0, e0, S0⟩ := from_eq hc hb
  obtain ⟨p, w, a2, h2, e2, p2, q2, l2, S2⟩ := draw_any (h := h0) (m := 4) S0 (by omega) (by omega)
  obtain ⟨r1, a1, h1, e1, p1, q1, S1⟩ := next_eq (h := h2) (n := 4) S2 (by omega) (by omega)
  simp only [e0, e1, e2, some_bind]
  by_cases c0 : 0 < r1
  rotate_left
  · rw [if_neg c0, some_bind]
    exact ⟨p, w, rfl, l2⟩
  rw [if_pos c0]
  obtain ⟨b, g1, v, rfl, g3⟩ := loop_inv (step := s_DrawSignedBasis_L0) (fun s => ∃ (j : Nat) (a' h' : Int) (out : List Int), s = (c, a', h', p, out, (j : Int)) ∧ out.length = w.length ∧ Src c a') (fun s => w.length - s.2.2.2.2.2.toNat)
    (fun b => ∃ v : List Int, b = (p, v) ∧ v.length ≤ 5) (s := (c, a1, h1, p, w, 0)) ⟨0, a1, h1, w, rfl, rfl, S1⟩ (by rw [BIG_val]; show w.length - 0 < _; omega) (by
      rintro s ⟨j, a', h', out, rfl, ho, hS'⟩
      unfold s_DrawSignedBasis_L0
      by_cases hj0 : j < w.length
      · refine .inl ?_
        obtain ⟨x, a4, h4, e4, m4, S4⟩ := pick_eq (h := h') (l := [1, w64 (p - 1)]) hS' (by simp) (by simp)
        simp only [show (j : Int) < (out.length : Int) by omega, if_true, e4, some_bind, idxI (show j < out.length by omega), w_in (x := (j : Int) + 1) (by omega) (by omega)]
        exact ⟨_, rfl, ⟨j + 1, a4, h4, _, rfl, by simpa using ho, S4⟩, by simp only [Int.toNat_natCast]; omega⟩
      · refine .inr ⟨(p, out), by simp only [show ¬ (j : Int) < (out.length : Int) by omega, if_false], out, rfl, by omega⟩)
  rw [g1, some_bind]
  exact ⟨p, v, rfl, g3⟩

theorem LawSignedBases {c : List Int} (hc : c.length ≤ 9223372036854775807) (hb : ∀ x ∈ c, 0 ≤ x ∧ x ≤ 255) : l_FnSignedBases c = some true := by
  unfold l_FnSignedBases l_big
  rw [some_bind]
  by_cases hbig : (4096 : Int) < (c.length : Int)
  · rw [ilt_true hbig, if_pos rfl]
  rw [ilt_false hbig]
  simp only [Bool.false_eq_true, if_false]
  obtain ⟨p, w, e0, lw⟩ := draw_signed (c := c) (by omega) hb
  rcases SignedBasis_cases (p := p) (w := w) (by omega) with ⟨C, hC, s1, s2⟩ | ⟨hP, hl, hv, hs, s1, s2⟩
  · simp only [e0, s1, s2, some_bind, not_true_eq_false, if_false, same9_self (m := []) ⟨by simp, by simp⟩, Bool.not_true, Bool.false_eq_true, hC, not_false_eq_true, if_true]
    rfl
  have hS := sgm_sgn hP hl hv hs
  have hL := hS.isLp
  have h16 := two_le hl
  have hlen := hS.len
  have hsz : szM (sgm (prodm p w) (2 ^ w.length)) := ⟨by omega, fun r hr => by
    obtain ⟨k, hk, rfl⟩ := List.getElem_of_mem hr
    rw [gR_get hk, hS.row k hk]; omega⟩
  have hv' : sgV w ∈ sgnL w.length := by
    have := mem_sgnL (v := sgV w) fun x hx => by
      obtain ⟨y, _, rfl⟩ := List.mem_map.1 hx
      split <;> simp
    rwa [show (sgV w).length = w.length by simp [sgV]] at this
  have hk := chkS_all hl hv'
  unfold chkS at hk
  simp only [Bool.and_eq_true, Bool.or_eq_true, beq_iff_eq] at hk
  obtain ⟨_, k1, k2, k3, k4⟩ := hk
  have q1 : i_IsAssociativeLoop (sgm (prodm p w) (2 ^ w.length)) = some (decide (w.length ≤ 2), 0) := by rw [IsAssociativeLoop_val hL, hS.assoc, k1]
  have q2 : i_IsMoufangLoop (sgm (prodm p w) (2 ^ w.length)) = some (decide (w.length ≤ 3), 0) := by rw [IsMoufangLoop_val hL, hS.mouf, k2]
  have q3 : i_IsCommutativeLoop (sgm (prodm p w) (2 ^ w.length)) = some (decide (w.length ≤ 1), 0) := by rw [IsCommutativeLoop_val hL, hS.comm, k3]
  have q4 : i_IsDiassociativeLoop (sgm (prodm p w) (2 ^ w.length)) = some (diaB (sgm (prodm p w) (2 ^ w.length)), 0) := by
    rw [(IsDiassociativeLoop_eq hsz.1).2, hL, if_neg (by simp), if_neg (by omega)]
  have q5 := i_IsLoop_eq (a := sgm (prodm p w) (2 ^ w.length)) hsz.1
  rw [hL] at q5
  have hwl : IntKind.u64.wrap (w.length : Int) = (w.length : Int) := by
    have : w.length = 0 ∨ w.length = 1 ∨ w.length = 2 ∨ w.length = 3 ∨ w.length = 4 := by omega
    rcases this with h | h | h | h | h <;> rw [h] <;> rfl
  have hsh : ((sgm (prodm p w) (2 ^ w.length)).length : Int) = shl .i64 2 (w.length : Int) := by
    rw [hlen]
    have : w.length = 0 ∨ w.length = 1 ∨ w.length = 2 ∨ w.length = 3 ∨ w.length = 4 := by omega
    rcases this with h | h | h | h | h <;> rw [h] <;> rfl
  have d1 : (decide (w.length ≤ 2) == ile (w.length : Int) 2) = true := by unfold ile; rw [beq_iff_eq, Bool.eq_iff_iff, decide_eq_true_eq, decide_eq_true_eq]; omega
  have d2 : (decide (w.length ≤ 3) == ile (w.length : Int) 3) = true := by unfold ile; rw [beq_iff_eq, Bool.eq_iff_iff, decide_eq_true_eq, decide_eq_true_eq]; omega
  have d3 : (decide (w.length ≤ 1) == ile (w.length : Int) 1) = true := by unfold ile; rw [beq_iff_eq, Bool.eq_iff_iff, decide_eq_true_eq, decide_eq_true_eq]; omega
  simp only [e0, s1, s2, some_bind, not_true_eq_false, if_false, same9_self hsz, Bool.not_true, Bool.false_eq_true, if_true, q1, q2, q3, q4, q5, hwl, hsh, d1, d2, d3]
  rw [chk_bind (by omega)]
  rcases k4 with k4 | k4
  · have h3 : ilt 3 (w.length : Int) = true := by simp at k4; unfold ilt; rw [decide_eq_true_eq]; omega
    rw [h3]
    cases diaB (sgm (prodm p w) (2 ^ w.length)) <;> rfl
  · rw [hS.dia k4]; rfl
end Go.Vam
