/- Plain laws: inverses of numbers, elimination: bases and determinants. -/
import Derived.Test.YtdoimfkonaeceaaPlQ
namespace Go.Vam
open Go Go.RowKit
set_option linter.unusedSimpArgs false
set_option linter.unusedVariables false

/-! ### Inverses -/
theorem inv_nat {P A : Nat} (hP : P = 3 ∨ P = 5 ∨ P = 7 ∨ P = 11 ∨ P = 13) (h0 : 0 < A) (h1 : A < P) :
    A ^ (P - 2) % P < P ∧ 0 < A ^ (P - 2) % P ∧ (A * (A ^ (P - 2) % P)) % P = 1 ∧ ∀ j, j < A ^ (P - 2) % P → (A * j) % P ≠ 1 := by
  have k3 : ∀ a, a < 3 → 0 < a → a ^ (3 - 2) % 3 < 3 ∧ 0 < a ^ (3 - 2) % 3 ∧ (a * (a ^ (3 - 2) % 3)) % 3 = 1 ∧ ∀ j, j < a ^ (3 - 2) % 3 → (a * j) % 3 ≠ 1 := by decide
  have k5 : ∀ a, a < 5 → 0 < a → a ^ (5 - 2) % 5 < 5 ∧ 0 < a ^ (5 - 2) % 5 ∧ (a * (a ^ (5 - 2) % 5)) % 5 = 1 ∧ ∀ j, j < a ^ (5 - 2) % 5 → (a * j) % 5 ≠ 1 := by decide
  have k7 : ∀ a, a < 7 → 0 < a → a ^ (7 - 2) % 7 < 7 ∧ 0 < a ^ (7 - 2) % 7 ∧ (a * (a ^ (7 - 2) % 7)) % 7 = 1 ∧ ∀ j, j < a ^ (7 - 2) % 7 → (a * j) % 7 ≠ 1 := by decide
  have k11 : ∀ a, a < 11 → 0 < a → a ^ (11 - 2) % 11 < 11 ∧ 0 < a ^ (11 - 2) % 11 ∧ (a * (a ^ (11 - 2) % 11)) % 11 = 1 ∧ ∀ j, j < a ^ (11 - 2) % 11 → (a * j) % 11 ≠ 1 := by decide
  have k13 : ∀ a, a < 13 → 0 < a → a ^ (13 - 2) % 13 < 13 ∧ 0 < a ^ (13 - 2) % 13 ∧ (a * (a ^ (13 - 2) % 13)) % 13 = 1 ∧ ∀ j, j < a ^ (13 - 2) % 13 → (a * j) % 13 ≠ 1 := by decide
  rcases hP with rfl | rfl | rfl | rfl | rfl
  · exact k3 A h1 h0
  · exact k5 A h1 h0
  · exact k7 A h1 h0
  · exact k11 A h1 h0
  · exact k13 A h1 h0
def invp (p a : Int) : Int := ((a.toNat ^ (p.toNat - 2) % p.toNat : Nat) : Int)
theorem inv_facts {p a : Int} (hP : isP p = true) (h0 : 0 < a) (h1 : a < p) : 0 < invp p a ∧ invp p a < p ∧ a * invp p a % p = 1 := by
  have hp := isP_cases hP
  obtain ⟨g1, g2, g3, g4⟩ := inv_nat (P := p.toNat) (A := a.toNat) (by omega) (by omega) (by omega)
  unfold invp
  refine ⟨by omega, by omega, ?_⟩
  have ea : a = (a.toNat : Int) := by omega
  have ep : p = (p.toNat : Int) := by omega
  generalize hv : a.toNat ^ (p.toNat - 2) % p.toNat = v at g3
  rw [ea, ep, ← Int.natCast_mul, ← Int.natCast_emod, g3]; rfl
theorem s_l01Inv_eq {p a : Int} (hP : isP p = true) (h0 : 0 < a) (h1 : a < p) : s_l01Inv p a = some (invp p a) := by
  have hp := isP_cases hP
  obtain ⟨g1, g2, g3, g4⟩ := inv_nat (P := p.toNat) (A := a.toNat) (by omega) (by omega) (by omega)
  unfold s_l01Inv invp
  generalize hv : a.toNat ^ (p.toNat - 2) % p.toNat = v at g1 g2 g3 g4
  have ea : a = (a.toNat : Int) := by omega
  have ep : p = (p.toNat : Int) := by omega
  have hm : ∀ j : Nat, j < 14 → (w64 (a * (j : Int))).tmod p = ((a.toNat * j % p.toNat : Nat) : Int) := by
    intro j hj
    have h3 := mul_abs (a := a) (b := (j : Int)) (A := 13) (B := 13) (by omega) (by omega)
    have h4 := Int.mul_nonneg (a := a) (b := (j : Int)) (by omega) (by omega)
    rw [w_in (by omega) (by omega), tmod_nn (by omega)]
    rw [Int.natCast_emod, Int.natCast_mul, ← ea, ← ep]
  rw [loop_for (b := (v : Int)) (s := 1) (fun k => ((k + 1 : Nat) : Int)) (v - 1) (by rw [BIG_val]; omega) rfl]
  · rfl
  · intro k hk
    unfold s_l01Inv_L0
    have := g4 (k + 1) (by omega)
    rw [chk_bind (by omega), hm (k + 1) (by omega), if_pos (by omega), w_in (by omega) (by omega)]
    rfl
  · unfold s_l01Inv_L0
    have e : v - 1 + 1 = v := by omega
    rw [chk_bind (by omega)]
    simp only [e]
    rw [hm v (by omega), g3, if_neg (by simp)]
theorem i_field_inv_eq {p a : Int} (hP : isP p = true) (h0 : 0 < a) (h1 : a < p) : i_field_inv p a = some (invp p a) := by
  have hp := isP_cases hP
  unfold i_field_inv i_field_pow invp
  have ea : a = (a.toNat : Int) := by omega
  have ep : p = (p.toNat : Int) := by omega
  rw [w_in (by omega) (by omega), loop_for (b := ((a.toNat ^ (p.toNat - 2) % p.toNat : Nat) : Int)) (fun k => (((a.toNat ^ k % p.toNat : Nat) : Int), (k : Int))) (p.toNat - 2) (by rw [BIG_val]; omega)]
  · rfl
  · have : 1 % p.toNat = 1 := Nat.mod_eq_of_lt (by omega)
    simp [this]
  · intro k hk
    unfold i_field_pow_L0
    have hl : a.toNat ^ k % p.toNat < p.toNat := Nat.mod_lt _ (by omega)
    have h3 := mul_abs (a := ((a.toNat ^ k % p.toNat : Nat) : Int)) (b := a) (A := 13) (B := 13) (by omega) (by omega)
    simp only []
    rw [if_pos (by omega), w_in (by omega) (by omega), i_field_num_eq (by omega) (by omega) (by omega) (by omega), some_bind, w_in (by omega) (by omega)]
    have : ((a.toNat ^ k % p.toNat : Nat) : Int) * a % p = ((a.toNat ^ (k + 1) % p.toNat : Nat) : Int) := by
      rw [Nat.pow_succ]
      generalize a.toNat ^ k = q
      rw [Int.natCast_emod, Int.natCast_emod, Int.natCast_mul, ← ea, ← ep, Int.mul_emod, Int.emod_emod_of_dvd _ (Int.dvd_refl p), ← Int.mul_emod]
    rw [this]; rfl
  · unfold i_field_pow_L0
    simp only []
    rw [if_neg (by omega)]

/-! ### Rows put into a table -/
theorem gR_set {m : List (List Int)} {i j : Nat} {v : List Int} (hi : i < m.length) : gR (m.set i v) j = if i = j then v else gR m j := by
  unfold gR
  simp only [List.getD_eq_getElem?_getD, List.getElem?_set]
  by_cases h : i = j
  · subst h; simp [hi]
  · simp [h]
theorem Mat.set {p : Int} {r c : Nat} {m : List (List Int)} {i : Nat} {v : List Int} (hm : Mat p r c m) (hi : i < r) (hv : Vec p c v) : Mat p r c (m.set i v) := by
  refine ⟨by rw [List.length_set, hm.1], fun j hj => ?_⟩
  rw [gR_set (by rw [hm.1]; exact hi)]
  split
  · exact hv
  · exact hm.2 j hj
theorem plusv_congr {p : Int} {n : Nat} {a b : List Int} {k l : Int} (h : k % p = l % p) : plusv p n a b k = plusv p n a b l := by
  unfold plusv
  refine vecN_congr fun i _ => ?_
  rw [Int.add_emod, Int.mul_emod, h, ← Int.mul_emod, ← Int.add_emod]
theorem plusv_zero {p : Int} {n : Nat} {a b : List Int} (ha : Vec p n a) : plusv p n a b 0 = a := by
  unfold plusv
  symm
  refine extI ha.1 fun i hi => ?_
  have := ha.get hi
  rw [Int.zero_mul, Int.add_zero, mod_small this.1 this.2]
theorem neg_mod {p e : Int} : (p - e) % p % p = (0 - e) % p := by
  rw [Int.emod_emod_of_dvd _ (Int.dvd_refl p)]
  have : p - e = 0 - e + p := by omega
  rw [this, Int.add_emod_right]

/-! ### The first row with something in a column -/
def findStep (m : List (List Int)) (k : Int) (s : Int) : Option (Int ⊕ Int) :=
  ((if s < (m.length : Int) then
    (idx m s).bind fun v19 =>
    (idx v19 k).bind fun v20 =>
    some (ieq v20 0)
  else
    some false) : Option Bool).bind fun x21 =>
  (if x21 = true then
    some (.inl (w64 (s + 1)))
  else
    some (.inr s))
theorem find_eq {p : Int} {r c : Nat} {m : List (List Int)} (hm : Mat p r c m) {k s : Nat} (hr : r ≤ 1048576) (hk : k < c) (hs : s ≤ r) :
    ∃ b, loop (findStep m (k : Int)) BIG (s : Int) = some b ∧ ∃ x : Nat, b = (x : Int) ∧ s ≤ x ∧ x ≤ r ∧ (x < r → gI (gR m x) k ≠ 0) := by
  refine loop_inv (fun t => ∃ x : Nat, t = (x : Int) ∧ s ≤ x ∧ x ≤ r) (fun t => r - t.toNat) _ ⟨s, rfl, by omega, hs⟩ (by rw [BIG_val]; omega) ?_
  rintro t ⟨x, rfl, h1, h2⟩
  unfold findStep
  have e1 := hm.1
  by_cases hx : x < r
  · have e2 := (hm.row hx).1
    rw [if_pos (by omega), idxR (by omega), some_bind, idxI (by omega), some_bind, some_bind]
    by_cases hz : gI (gR m x) k = 0
    · simp only [hz, ieq_self, if_true]
      refine .inl ⟨_, rfl, ⟨x + 1, ?_, by omega, by omega⟩, ?_⟩
      · rw [w_in (by omega) (by omega)]; rfl
      · rw [w_in (by omega) (by omega)]; omega
    · have : ieq (gI (gR m x) k) 0 = false := by simp [ieq, hz]
      rw [this]
      exact .inr ⟨_, rfl, x, rfl, h1, h2, fun _ => hz⟩
  · rw [if_neg (by omega), some_bind]
    exact .inr ⟨_, rfl, x, rfl, h1, h2, fun h => absurd h hx⟩

/-! ### Bases -/
/-- Two loops that take the same steps; the first one may go on where the second one ends. -/
theorem loop_two' {S B : Type} {f g : S → Option (S ⊕ B)} (I : S → Prop) (μ : S → Nat) (Q : B → Prop) {s : S} (h0 : I s) (hm : μ s < BIG)
    (hr : ∀ s, I s → (∃ s', f s = some (.inl s') ∧ g s = some (.inl s') ∧ I s' ∧ μ s' < μ s) ∨ (∃ b, (∀ n, μ s < n → loop f n s = some b) ∧ g s = some (.inr b) ∧ Q b)) :
    ∃ b, loop f BIG s = some b ∧ loop g BIG s = some b ∧ Q b := by
  have key : ∀ (n : Nat) (s : S), I s → μ s < n → ∃ b, loop f n s = some b ∧ loop g n s = some b ∧ Q b := by
    intro n
    induction n with
    | zero => intro s _ h; omega
    | succ n ih =>
      intro s hI hn
      rcases hr s hI with ⟨s', h1, h2, h3, h4⟩ | ⟨b, h1, h2, h3⟩
      · rw [loop_succ, loop_succ, h1, h2]
        exact ih s' h3 (by omega)
      · rw [h1 _ hn, loop_succ, h2]
        exact ⟨b, rfl, rfl, h3⟩
  exact key BIG s h0 hm

/-- A row less the multiple of R that clears column k. -/
def clr (p : Int) (c k : Nat) (R v : List Int) : List Int := plusv p c v R ((p - gI v k) % p)
def clrm (p : Int) (r c k d : Nat) (R : List Int) (m : List (List Int)) : List (List Int) := vecN r fun j => if j = d then R else clr p c k R (gR m j)
theorem basis_clear {p : Int} {r c : Nat} {M l : List (List Int)} {R : List Int} {d k : Nat} (hP : isP p = true) (hr : r ≤ 1048576) (hc : c ≤ 1048576) (hk : k < c) (hd : d < r) (m0 : List (List Int)) (hR : Vec p c R)
    (hl : l.length = r) (hM : Mat p r c M) (hMd : gR M d = R) :
    loop (s_l02Basis_L2 p (m0, (d : Int), (k : Int)) R) BIG (M, 0) = some (clrm p r c k d R M) ∧ loop (i_field_basis_L2 p (m0, (d : Int), (k : Int)) l R) BIG (M, 0) = some (clrm p r c k d R M) := by
  have hp := isP_le hP
  have key : ∃ x, loop (s_l02Basis_L2 p (m0, (d : Int), (k : Int)) R) BIG (M, 0) = some x ∧ loop (i_field_basis_L2 p (m0, (d : Int), (k : Int)) l R) BIG (M, 0) = some x ∧ x = clrm p r c k d R M := by
    refine loop_two (fun s => Mat p r c s.1 ∧ ∃ i : Nat, s.2 = (i : Int) ∧ i ≤ r ∧ ∀ j, j < r → gR s.1 j = if j < i ∧ j ≠ d then clr p c k R (gR M j) else gR M j) (fun s => r - s.2.toNat) _ ⟨hM, 0, rfl, by omega, fun j _ => by rw [if_neg (by omega)]⟩ (by rw [BIG_val]; simp only []; omega) ?_
    rintro ⟨m, t⟩ ⟨hm, i, rfl, hi, hg⟩
    simp only [] at hm hg
    have hmd : gR m d = R := by rw [hg d hd, if_neg (by simp), hMd]
    unfold s_l02Basis_L2 i_field_basis_L2
    have e1 := hm.1
    simp only [Int.toNat_natCast, List.length_set, hl, e1]
    by_cases hir : i < r
    · have e2 := (hm.row hir).1
      have e3 := (hm.row hir).get hk
      have hgi : gR m i = gR M i := by rw [hg i hir, if_neg (by omega)]
      refine .inl ?_
      have hlt : (i : Int) < (r : Int) := by omega
      by_cases hid : i = d
      · subst hid
        simp only [hlt, if_true, not_true_eq_false, if_false, some_bind, Bool.false_eq_true]
        refine ⟨_, rfl, rfl, ⟨hm, i + 1, ?_, by omega, fun j hj => ?_⟩, ?_⟩
        · rw [w_in (by omega) (by omega)]; rfl
        · rw [hg j hj]
          by_cases h : j < i ∧ j ≠ i
          · rw [if_pos h, if_pos ⟨by omega, h.2⟩]
          · rw [if_neg h, if_neg (by omega)]
        · rw [w_in (by omega) (by omega)]; simp only []; omega
      · have hne : ¬ ((i : Int) = (d : Int)) := by omega
        have w1 : w64 (p - gI (gR m i) k) = p - gI (gR m i) k := w_in (by omega) (by omega)
        have w2 : w64 (0 - gI (gR m i) k) = 0 - gI (gR m i) k := w_in (by omega) (by omega)
        have w3 : (p - gI (gR m i) k).tmod p = (p - gI (gR m i) k) % p := tmod_nn (by omega)
        have hn := mod_num (a := p - gI (gR m i) k) (p := p) (by omega)
        have f1 := s_l02Plus_eq (p := p) (n := c) (a := gR m i) (b := R) (k := (p - gI (gR m i) k) % p) (by omega) (by omega) hc hn.1 (by omega) (hm.row hir) hR
        have f2 := i_field_plus_eq (p := p) (n := c) (a := gR m i) (b := R) (k := 0 - gI (gR m i) k) (by omega) (by omega) hc (by omega) (hm.row hir) hR
        have f3 : plusv p c (gR m i) R (0 - gI (gR m i) k) = plusv p c (gR m i) R ((p - gI (gR m i) k) % p) := plusv_congr neg_mod.symm
        simp only [hlt, if_true, hne, not_false_eq_true, idxR (show i < m.length by omega), idxR (show d < m.length by omega), idxI (show k < (gR m i).length by omega), some_bind, chk_bind (show ¬ p = 0 by omega), w1, w2, w3, hmd, f1, f2, f3]
        have hz : ((if (!ieq (gI (gR m i) k) 0) = true then some (m.set i (plusv p c (gR m i) R ((p - gI (gR m i) k) % p))) else some m) : Option (List (List Int))) = some (m.set i (plusv p c (gR m i) R ((p - gI (gR m i) k) % p))) := by
          by_cases h0 : gI (gR m i) k = 0
          · have : ieq (gI (gR m i) k) 0 = true := by simp [ieq, h0]
            rw [this, h0]
            have e : (p - 0) % p = 0 := by simp
            rw [e, plusv_zero (hm.row hir)]
            simp only [Bool.not_true, Bool.false_eq_true, if_false]
            congr 1
            refine List.ext_getElem (by simp) fun j h1 h2 => ?_
            rw [List.getElem_set]
            split
            · rename_i hj; subst hj; rw [gR_get h1]
            · rfl
          · have : ieq (gI (gR m i) k) 0 = false := by simp [ieq, h0]
            rw [this]
            simp only [Bool.not_false, if_true]
        rw [hz, some_bind]
        refine ⟨_, rfl, rfl, ⟨hm.set hir (plusv_vec (by omega) ..), i + 1, ?_, by omega, fun j hj => ?_⟩, ?_⟩
        · rw [w_in (by omega) (by omega)]; rfl
        · simp only []
          rw [gR_set (by omega)]
          by_cases hij : i = j
          · subst hij
            rw [if_pos rfl, if_pos ⟨by omega, hid⟩, hgi]; rfl
          · rw [if_neg hij, hg j hj]
            by_cases h : j < i ∧ j ≠ d
            · rw [if_pos h, if_pos ⟨by omega, h.2⟩]
            · rw [if_neg h, if_neg (by omega)]
        · rw [w_in (by omega) (by omega)]; simp only []; omega
    · refine .inr ?_
      have hlt : ¬ (i : Int) < (r : Int) := by omega
      simp only [hlt, if_false]
      refine ⟨_, rfl, rfl, ?_⟩
      unfold clrm
      refine extR hm.1 fun j hj => ?_
      rw [hg j hj]
      by_cases h : j = d
      · rw [if_neg (by omega), if_pos h, h, hMd]
      · rw [if_pos ⟨by omega, h⟩, if_neg h]
  obtain ⟨x, h1, h2, rfl⟩ := key
  exact ⟨h1, h2⟩
theorem clrm_mat {p : Int} {r c k d : Nat} {R : List Int} {m : List (List Int)} (hp : 0 < p) (hR : Vec p c R) : Mat p r c (clrm p r c k d R m) := Mat.mk' fun j hj => by
  split
  · exact hR
  · exact plusv_vec hp ..

/-- The rows ahead of d have ones at places of their own. -/
def Red (r c : Nat) (m : List (List Int)) (d : Nat) (piv : Nat → Nat) : Prop :=
  ∀ j, j < d → piv j < c ∧ gI (gR m j) (piv j) = 1 ∧ ∀ i, i < r → i ≠ j → gI (gR m i) (piv j) = 0
theorem Red.step {p : Int} {r c k d x : Nat} {m : List (List Int)} {piv : Nat → Nat} {R : List Int} (hP : isP p = true) (hm : Mat p r c m) (h : Red r c m d piv) (hk : k < c) (hd : d < r) (hdx : d ≤ x) (hx : x < r)
    (hne : gI (gR m x) k ≠ 0) (hRe : R = scalev p c (gR m x) (invp p (gI (gR m x) k))) :
    Red r c (clrm p r c k d R ((m.set x (gR m d)).set d R)) (d + 1) (fun j => if j = d then k else piv j) := by
  have hp := isP_le hP
  have e4 := (hm.row hx).get hk
  obtain ⟨i1, i2, i3⟩ := inv_facts (a := gI (gR m x) k) hP (by omega) e4.2
  have hRk : gI R k = 1 := by rw [hRe]; unfold scalev; rw [gI_vecN _ hk, i3]
  have hR0 : ∀ q, q < c → gI (gR m x) q = 0 → gI R q = 0 := fun q hq h0 => by rw [hRe]; unfold scalev; rw [gI_vecN _ hq, h0]; simp
  have hrow : ∀ i, i < r → i ≠ d → gR ((m.set x (gR m d)).set d R) i = if i = x then gR m d else gR m i := by
    intro i hi hid
    have e1 := hm.1
    rw [gR_set (by rw [List.length_set]; omega), if_neg (by omega), gR_set (by omega)]
    by_cases hix : i = x
    · rw [if_pos hix.symm, if_pos hix]
    · rw [if_neg (fun e => hix e.symm), if_neg hix]
  have hent : ∀ i, i < r → i ≠ d → ∀ q, q < c → gI (gR (clrm p r c k d R ((m.set x (gR m d)).set d R)) i) q = (gI (if i = x then gR m d else gR m i) q + (p - gI (if i = x then gR m d else gR m i) k) % p * gI R q) % p := by
    intro i hi hid q hq
    unfold clrm
    rw [gR_vecN _ hi, if_neg hid, hrow i hi hid]
    unfold clr plusv
    rw [gI_vecN _ hq]
  have hdd : gR (clrm p r c k d R ((m.set x (gR m d)).set d R)) d = R := by
    unfold clrm; rw [gR_vecN _ hd, if_pos rfl]
  intro j hj
  by_cases hjd : j = d
  · subst hjd
    simp only [if_true]
    refine ⟨hk, by rw [hdd]; exact hRk, fun i hi hij => ?_⟩
    rw [hent i hi hij k hk, hRk, Int.mul_one]
    generalize gI (if i = x then gR m j else gR m i) k = e
    rw [Int.add_emod, Int.emod_emod_of_dvd _ (Int.dvd_refl p), ← Int.add_emod]
    have : e + (p - e) = p := by omega
    rw [this, Int.emod_self]
  · have hjd' : j < d := by omega
    obtain ⟨h1, h2, h3⟩ := h j hjd'
    simp only [hjd, if_false]
    have hRq : gI R (piv j) = 0 := hR0 _ h1 (h3 x hx (by omega))
    refine ⟨h1, ?_, fun i hi hij => ?_⟩
    · rw [hent j (by omega) hjd _ h1, if_neg (by omega), h2, hRq, Int.mul_zero]
      exact mod_small (by omega) (by omega)
    · by_cases hid : i = d
      · rw [hid, hdd]; exact hRq
      · rw [hent i hi hid _ h1, hRq, Int.mul_zero]
        have : gI (if i = x then gR m d else gR m i) (piv j) = 0 := by
          split
          · exact h3 d hd (by omega)
          · exact h3 i hi hij
        rw [this]; simp

theorem ilt_true {a b : Int} (h : a < b) : ilt a b = true := by simp [ilt, h]
theorem ilt_false {a b : Int} (h : ¬ a < b) : ilt a b = false := by simp [ilt]; omega
section
variable {p : Int} {r c : Nat} (hP : isP p = true) (hr0 : 0 < r) (hr : r ≤ 1048576) (hc : c ≤ 1048576)
include hP hr0 hr hc
omit hP in
theorem basis_idle {m : List (List Int)} (hm : Mat p r c m) : ∀ (n k : Nat), k ≤ c → c - k < n → loop (s_l02Basis_L0 p) n (m, (r : Int), (k : Int)) = some (m, (r : Int)) := by
  have e1 := hm.1
  have e2 := (hm.row hr0).1
  intro n
  induction n with
  | zero => intro k _ h; omega
  | succ n ih =>
    intro k hk hn
    rw [loop_succ]
    by_cases hkc : k < c
    · have : s_l02Basis_L0 p (m, (r : Int), (k : Int)) = some (.inl (m, (r : Int), ((k + 1 : Nat) : Int))) := by
        unfold s_l02Basis_L0
        obtain ⟨b, h1, x, rfl, h2, h3, h4⟩ := find_eq hm (k := k) (s := r) hr hkc (Nat.le_refl _)
        have hx : x = r := by omega
        subst hx
        have l1 : s_l02Basis_L1 (m, (x : Int), (k : Int)) = findStep m (k : Int) := rfl
        simp only [show (0 : Int) < (m.length : Int) by omega, if_true, idxR0 (show 0 < m.length by omega), some_bind, ilt_true (show (k : Int) < ((gR m 0).length : Int) by omega), l1, h1, e1, show (0 : Int) < (x : Int) by omega]
        rw [w_in (by omega) (by omega)]; rfl
      rw [this]
      exact ih (k + 1) (by omega) (by omega)
    · have : s_l02Basis_L0 p (m, (r : Int), (k : Int)) = some (.inr (m, (r : Int))) := by
        unfold s_l02Basis_L0
        simp only [show (0 : Int) < (m.length : Int) by omega, if_true, idxR0 (show 0 < m.length by omega), some_bind, ilt_false (show ¬ (k : Int) < ((gR m 0).length : Int) by omega), Bool.false_eq_true, if_false]
      rw [this]

theorem basis_two {m : List (List Int)} (hm : Mat p r c m) :
    ∃ b, loop (s_l02Basis_L0 p) BIG (m, 0, 0) = some b ∧ loop (i_field_basis_L0 p) BIG (m, 0, 0) = some b ∧ (Mat p r c b.1 ∧ ∃ d : Nat, b.2 = (d : Int) ∧ d ≤ r ∧ ∃ piv, Red r c b.1 d piv) := by
  have hp := isP_le hP
  refine loop_two' (fun s => Mat p r c s.1 ∧ ∃ d k : Nat, s.2 = ((d : Int), (k : Int)) ∧ d ≤ r ∧ k ≤ c ∧ ∃ piv, Red r c s.1 d piv) (fun s => c - s.2.2.toNat) _ ⟨hm, 0, 0, rfl, by omega, by omega, fun _ => 0, fun j hj => by omega⟩ (by rw [BIG_val]; simp only []; omega) ?_
  rintro ⟨m, t⟩ ⟨hm, d, k, rfl, hd, hk, piv, hred⟩
  simp only [] at hm hred
  have e1 := hm.1
  have e2 := (hm.row hr0).1
  by_cases hkc : k < c
  · by_cases hdr : d < r
    · refine .inl ?_
      obtain ⟨b, h1, x, rfl, h2, h3, h4⟩ := find_eq hm (k := k) (s := d) hr hkc hd
      have l1 : s_l02Basis_L1 (m, (d : Int), (k : Int)) = findStep m (k : Int) := rfl
      have l2 : i_field_basis_L1 (m, (d : Int), (k : Int)) = findStep m (k : Int) := rfl
      unfold s_l02Basis_L0 i_field_basis_L0
      simp only [show (0 : Int) < (m.length : Int) by omega, if_true, idxR0 (show 0 < m.length by omega), some_bind, show (k : Int) < ((gR m 0).length : Int) by omega, ilt_true (show (k : Int) < ((gR m 0).length : Int) by omega), ilt_true (show (d : Int) < (m.length : Int) by omega), l1, l2, h1]
      by_cases hx : x = r
      · have hx' : (x : Int) = (m.length : Int) := by omega
        simp only [hx', if_true, some_bind]
        refine ⟨_, rfl, rfl, ⟨hm, d, k + 1, ?_, hd, by omega, piv, hred⟩, ?_⟩
        · rw [w_in (by omega) (by omega)]; rfl
        · rw [w_in (by omega) (by omega)]; simp only []; omega
      · have hx' : ¬ (x : Int) = (m.length : Int) := by omega
        have hxr : x < r := by omega
        have hne := h4 hxr
        have e3 := (hm.row hxr).1
        have e4 := (hm.row hxr).get hkc
        have e5 := (hm.row hdr).1
        obtain ⟨i1, i2, i3⟩ := inv_facts (a := gI (gR m x) k) hP (by omega) e4.2
        have f1 := s_l01Inv_eq (a := gI (gR m x) k) hP (by omega) e4.2
        have f2 := i_field_inv_eq (a := gI (gR m x) k) hP (by omega) e4.2
        have f3 := s_l02Scale_eq (p := p) (n := c) (a := gR m x) (k := invp p (gI (gR m x) k)) (by omega) (by omega) hc (by omega) (by omega) (hm.row hxr)
        have f4 := i_field_scaled_eq (p := p) (n := c) (a := gR m x) (k := invp p (gI (gR m x) k)) (by omega) (by omega) hc (by omega) (hm.row hxr)
        have hV := scalev_vec (p := p) (by omega) c (gR m x) (invp p (gI (gR m x) k))
        generalize hVe : scalev p c (gR m x) (invp p (gI (gR m x) k)) = V at f3 f4 hV
        have hrs := hred.step hP hm hkc hdr h2 hxr hne hVe.symm
        have g1 : gR ((m.set d (gR m x)).set x (gR m d)) d = gR m x := by
          rw [gR_set (by rw [List.length_set]; omega)]
          split
          · rename_i h; rw [h]
          · rw [gR_set (by omega), if_pos rfl]
        have g2 : ((m.set d (gR m x)).set x (gR m d)).set d V = (m.set x (gR m d)).set d V := by
          by_cases hxd : d = x
          · subst hxd; simp [List.set_set]
          · rw [List.set_comm _ _ hxd, List.set_set]
        have hM := (hm.set hxr (hm.row hdr)).set hdr hV
        have g3 : gR ((m.set x (gR m d)).set d V) d = V := by rw [gR_set (by rw [List.length_set]; omega), if_pos rfl]
        obtain ⟨y1, y2⟩ := basis_clear (p := p) (r := r) (c := c) (l := (m.set d (gR m x)).set x (gR m d)) (d := d) (k := k) hP hr hc hkc hdr m hV (by simp [e1]) hM g3
        simp only [hx', if_false, idxR (show x < m.length by omega), idxR (show d < m.length by omega), some_bind, idxI (show k < (gR m x).length by omega), f1, f2, f3, f4, Int.toNat_natCast,
          idxR (show d < (m.set x (gR m d)).length by rw [List.length_set]; omega), idxR (show x < (m.set d (gR m x)).length by rw [List.length_set]; omega), idxR (show d < ((m.set d (gR m x)).set x (gR m d)).length by rw [List.length_set, List.length_set]; omega), g1, g2, y1, y2]
        refine ⟨_, rfl, rfl, ⟨clrm_mat (by omega) hV, d + 1, k + 1, ?_, by omega, by omega, _, hrs⟩, ?_⟩
        · rw [w_in (by omega) (by omega), w_in (by omega) (by omega)]; rfl
        · rw [w_in (by omega) (by omega), w_in (by omega) (by omega)]; simp only []; omega
    · have hdd : d = r := by omega
      subst hdd
      refine .inr ⟨(m, (d : Int)), fun n hn => basis_idle hr0 hr hc hm n k hk (by simpa using hn), ?_, hm, d, rfl, by omega, piv, hred⟩
      unfold i_field_basis_L0
      simp only [show (0 : Int) < (m.length : Int) by omega, if_true, idxR0 (show 0 < m.length by omega), some_bind, show (k : Int) < ((gR m 0).length : Int) by omega, ilt_false (show ¬ (d : Int) < (m.length : Int) by omega), Bool.false_eq_true, if_false]
  · refine .inr ⟨(m, (d : Int)), fun n hn => ?_, ?_, hm, d, rfl, by omega, piv, hred⟩
    · cases n with
      | zero => omega
      | succ n =>
        rw [loop_succ]
        have : s_l02Basis_L0 p (m, (d : Int), (k : Int)) = some (.inr (m, (d : Int))) := by
          unfold s_l02Basis_L0
          simp only [show (0 : Int) < (m.length : Int) by omega, if_true, idxR0 (show 0 < m.length by omega), some_bind, ilt_false (show ¬ (k : Int) < ((gR m 0).length : Int) by omega), Bool.false_eq_true, if_false]
        rw [this]
    · unfold i_field_basis_L0
      simp only [show (0 : Int) < (m.length : Int) by omega, if_true, idxR0 (show 0 < m.length by omega), some_bind, show ¬ (k : Int) < ((gR m 0).length : Int) by omega, Bool.false_eq_true, if_false]

theorem Basis_eq {m : List (List Int)} (hm : Mat p r c m) : ∃ b, s_l02Basis p m = some b ∧ i_field_basis p m = some b ∧ ∃ d : Nat, d ≤ r ∧ Mat p d c b ∧ ∃ piv, Red d c b d piv := by
  have hz := hm.sz hr hc
  obtain ⟨b, h1, h2, h3, d, h4, h5, piv, h6⟩ := basis_two hP hr0 hr hc hm
  have hg : ∀ i, i < d → gR (b.1.take d) i = gR b.1 i := by
    intro i hi
    unfold gR
    rw [List.getD_eq_getElem?_getD, List.getD_eq_getElem?_getD, List.getElem?_take_of_lt hi]
  refine ⟨b.1.take d, ?_, ?_, d, h5, ?_, piv, fun j hj => ?_⟩
  · unfold s_l02Basis
    have := h3.1
    rw [s_l01Own2_eq hz, some_bind, h1, some_bind, h4, chk_bind (by omega)]; rfl
  · unfold i_field_basis
    have := h3.1
    rw [i_cloneRows_eq hz, some_bind, h2, some_bind, h4, chk_bind (by omega)]; rfl
  · have := h3.1
    refine ⟨by rw [List.length_take]; omega, fun i hi => ?_⟩
    rw [hg i hi]
    exact h3.2 i (by omega)
  · obtain ⟨g1, g2, g3⟩ := h6 j hj
    refine ⟨g1, by rw [hg j hj]; exact g2, fun i hi hij => ?_⟩
    rw [hg i hi]; exact g3 i (by omega) hij
end

theorem RankOf_eq {p : Int} {m : List (List Int)} (h : szM m) : ∃ V C, s_RankOf p m = some (V, C) ∧ i_RankOf p m = some (V, C) := by
  unfold s_RankOf i_RankOf s_l02Rank i_length_LI
  rw [s_l02Is_eq h, checkM1 h, some_bind, some_bind]
  cases hm : isMat p m with
  | false => exact ⟨0, 1, by simp, by simp⟩
  | true =>
    obtain ⟨h1, h2, h3, hP, h4, h5⟩ := isMat_sz hm
    obtain ⟨b, e1, e2, d, hd, hb, _⟩ := Basis_eq hP (r := m.length) (c := wid m) (by omega) (by omega) (by omega) h3
    simp only [Bool.true_eq_false, if_false, if_true, not_true_eq_false, e1, e2, some_bind]
    exact ⟨_, _, rfl, rfl⟩
theorem LawRank {p : Int} {m : List (List Int)} (hm : lenM m) : l_FnExactRankOf p m = some true := by
  unfold l_FnExactRankOf
  rw [szM_eq hm (by omega) (by omega), some_bind]
  by_cases h1 : ((m.length + rowsum m : Nat) : Int) ≤ 1048576
  · have hs : szv (m.length + rowsum m) 1048576 = 1048576 - ((m.length + rowsum m : Nat) : Int) := by unfold szv; rw [if_pos h1]
    rw [hs, if_neg (by omega)]
    obtain ⟨za, ra⟩ := sz_split (m := m) (by omega) h1
    obtain ⟨V, C, e3, e4⟩ := RankOf_eq (p := p) za
    have e1 := toM_eq za.1 za.2
    have e6 := eqM_self za
    simp only [e1, e3, e4, e6, some_bind, Bool.true_eq_false, Bool.false_eq_true, if_false, if_true, ieq_self, Bool.not_true, natneg, not_true_eq_false]
  · have hs : szv (m.length + rowsum m) 1048576 = -1 := by unfold szv; rw [if_neg h1]
    rw [hs, if_pos (by omega)]
end Go.Vam
