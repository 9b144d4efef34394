import Derived.Test.YtdoimfkonaeceaaPlG0
/- Plain laws: inverses of numbers, elimination: bases and determinants. -/
namespace Go.Vam
open Go Go.RowKit
set_option linter.unusedSimpArgs false
set_option linter.unusedVariables false

/-! ### Inverses -/
theorem inv_nat {P A : Nat} (hP : P = 3 ∨ P = 5 ∨ P = 7 ∨ P = 11 ∨ P = 13) (h0 : 0 < A) (h1 : A < P) :
    A ^ (P - 2) % P < P ∧ 0 < A ^ (P - 2) % P ∧ (A * (A ^ (P - 2) % P)) % P = 1 ∧ ∀ j, j < A ^ (P - 2) % P → (A * j) % P ≠ 1 := by
  have k3 : ∀ a, a < 3 → 0 < a → a ^ (3 - 2) % 3 < 3 ∧ 0 < a ^ (3 - 2) % 3 ∧ (a * (a ^ (3 - 2) % 3)) % 3 = 1 ∧ ∀ j, j < a ^ (3 - 2) % 3 → (a * j) % 3 ≠ 1 := by decide
  have k5 : ∀ a, a < 5 → 0 < a → a ^ (5 - 2) % 5 < 5 ∧ 0 < a ^ (5 - 2) % 5 ∧ (a * (a ^ (5 - 2) % 5)) % 5 = 1 ∧ ∀ j, j < a ^ (5 - 2) % 5 → (a * j) % 5 ≠ 1 := by decide
  have k7 : ∀ a, a < 7 → 0 < a → a ^ (7 - 2) % 7 < 7 ∧ 0 < a ^ (7 - 2) % 7 ∧ (a * (a ^ (7 - 2) % 7)) % 7 = 1 ∧ ∀ j, j < a ^ (7 - 2) % 7 → (a * j) % 7 ≠ 1 := by decide
  have k11 : ∀ a, a < 11 → 0 < a → a ^ (11 - 2) % 11 < 11 ∧ 0 < a ^ (11 - 2) % 11 ∧ (a * (a ^ (11 - 2) % 11)) % 11 = 1 ∧ ∀ j, j < a ^ (11 - 2) % 11 → (a * j) % 11 ≠ 1 := by decide
  have k13 : ∀ a, a < 13 → 0 < a → a ^ (13 - 2) % 13 < 13 ∧ 0 < a ^ (13 - 2) % 13 ∧ (a * (a ^ (13 - 2) % 13)) % 13 = 1 ∧ ∀ j, j < a ^ (13 - 2) % 13 → (a * j) % 13 ≠ 1 := by decide
  rcases hP with rfl | rfl | rfl | rfl | rfl
  · exact k3 A h1 h0
  · exact k5 A h1 h0
  · exact k7 A h1 h0
  · exact k11 A h1 h0
  · exact k13 A h1 h0
def invp (p a : Int) : Int := ((a.toNat ^ (p.toNat - 2) % p.toNat : Nat) : Int)
theorem inv_facts {p a : Int} (hP : isP p = true) (h0 : 0 < a) (h1 : a < p) : 0 < invp p a ∧ invp p a < p ∧ a * invp p a % p = 1 := by
  have hp := isP_cases hP
  obtain ⟨g1, g2, g3, g4⟩ := inv_nat (P := p.toNat) (A := a.toNat) (by omega) (by omega) (by omega)
  unfold invp
  refine ⟨by omega, by omega, ?_⟩
  have ea : a = (a.toNat : Int) := by omega
  have ep : p = (p.toNat : Int) := by omega
  generalize hv : a.toNat ^ (p.toNat - 2) % p.toNat = v at g3
  rw [ea, ep, ← Int.natCast_mul, ← Int.natCast_emod, g3]; rfl
theorem s_l01Inv_eq {p a : Int} (hP : isP p = true) (h0 : 0 < a) (h1 : a < p) : s_l01Inv p a = some (invp p a) := by
  have hp := isP_cases hP
  obtain ⟨g1, g2, g3, g4⟩ := inv_nat (P := p.toNat) (A := a.toNat) (by omega) (by omega) (by omega)
  unfold s_l01Inv invp
  generalize hv : a.toNat ^ (p.toNat - 2) % p.toNat = v at g1 g2 g3 g4
  have ea : a = (a.toNat : Int) := by omega
  have ep : p = (p.toNat : Int) := by omega
  have hm : ∀ j : Nat, j < 14 → (w64 (a * (j : Int))).tmod p = ((a.toNat * j % p.toNat : Nat) : Int) := by
    intro j hj
    have h3 := mul_abs (a := a) (b := (j : Int)) (A := 13) (B := 13) (by omega) (by omega)
    have h4 := Int.mul_nonneg (a := a) (b := (j : Int)) (by omega) (by omega)
    rw [w_in (by omega) (by omega), tmod_nn (by omega)]
    rw [Int.natCast_emod, Int.natCast_mul, ← ea, ← ep]
  rw [loop_for (b := (v : Int)) (s := 1) (fun k => ((k + 1 : Nat) : Int)) (v - 1) (by rw [BIG_val]; omega) rfl]
  · rfl
  · intro k hk
    unfold s_l01Inv_L0
    have := g4 (k + 1) (by omega)
    rw [chk_bind (by omega), hm (k + 1) (by omega), if_pos (by omega), w_in (by omega) (by omega)]
    rfl
  · unfold s_l01Inv_L0
    have e : v - 1 + 1 = v := by omega
    rw [chk_bind (by omega)]
    simp only [e]
    rw [hm v (by omega), g3, if_neg (by simp)]
theorem i_field_inv_eq {p a : Int} (hP : isP p = true) (h0 : 0 < a) (h1 : a < p) : i_field_inv p a = some (invp p a) := by
  have hp := isP_cases hP
  unfold i_field_inv i_field_pow invp
  have ea : a = (a.toNat : Int) := by omega
  have ep : p = (p.toNat : Int) := by omega
  rw [w_in (by omega) (by omega), loop_for (b := ((a.toNat ^ (p.toNat - 2) % p.toNat : Nat) : Int)) (fun k => (((a.toNat ^ k % p.toNat : Nat) : Int), (k : Int))) (p.toNat - 2) (by rw [BIG_val]; omega)]
  · rfl
  · have : 1 % p.toNat = 1 := Nat.mod_eq_of_lt (by omega)
    simp [this]
  · intro k hk
    unfold i_field_pow_L0
    have hl : a.toNat ^ k % p.toNat < p.toNat := Nat.mod_lt _ (by omega)
    have h3 := mul_abs (a := ((a.toNat ^ k % p.toNat : Nat) : Int)) (b := a) (A := 13) (B := 13) (by omega) (by omega)
    simp only []
    rw [if_pos (by omega), w_in (by omega) (by omega), i_field_num_eq (by omega) (by omega) (by omega) (by omega), some_bind, w_in (by omega) (by omega)]
    have : ((a.toNat ^ k % p.toNat : Nat) : Int) * a % p = ((a.toNat ^ (k + 1) % p.toNat : Nat) : Int) := by
      rw [Nat.pow_succ]
      generalize a.toNat ^ k = q
      rw [Int.natCast_emod, Int.natCast_emod, Int.natCast_mul, ← ea, ← ep, Int.mul_emod, Int.emod_emod_of_dvd _ (Int.dvd_refl p), ← Int.mul_emod]
    rw [this]; rfl
  · unfold i_field_pow_L0
    simp only []
    rw [if_neg (by omega)]

/-! ### Rows put into a table -/
theorem gR_set {m : List (List Int)} {i j : Nat} {v : List Int} (hi : i < m.length) : gR (m.set i v) j = if i = j then v else gR m j := by
  unfold gR
  simp only [List.getD_eq_getElem?_getD, List.getElem?_set]
  by_cases h : i = j
  · subst h; simp [hi]
  · simp [h]
theorem Mat.set {p : Int} {r c : Nat} {m : List (List Int)} {i : Nat} {v : List Int} (hm : Mat p r c m) (hi : i < r) (hv : Vec p c v) : Mat p r c (m.set i v) := by
  refine ⟨by rw [List.length_set, hm.1], fun j hj => ?_⟩
  rw [gR_set (by rw [hm.1]; exact hi)]
  split
  · exact hv
  · exact hm.2 j hj
theorem plusv_congr {p : Int} {n : Nat} {a b : List Int} {k l : Int} (h : k % p = l % p) : plusv p n a b k = plusv p n a b l := by
  unfold plusv
  refine vecN_congr fun i _ => ?_
  rw [Int.add_emod, Int.mul_emod, h, ← Int.mul_emod, ← Int.add_emod]
theorem plusv_zero {p : Int} {n : Nat} {a b : List Int} (ha : Vec p n a) : plusv p n a b 0 = a := by
  unfold plusv
  symm
  refine extI ha.1 fun i hi => ?_
  have := ha.get hi
  rw [Int.zero_mul, Int.add_zero, mod_small this.1 this.2]
theorem neg_mod {p e : Int} : (p - e) % p % p = (0 - e) % p := by
  rw [Int.emod_emod_of_dvd _ (Int.dvd_refl p)]
  have : p - e = 0 - e + p := by omega
  rw [this, Int.add_emod_right]

/-! ### The first row with something in a column -/
def findStep (m : List (List Int)) (k : Int) (s : Int) : Option (Int ⊕ Int) :=
  ((if s < (m.length : Int) then
    (idx m s).bind fun v19 =>
    (idx v19 k).bind fun v20 =>
    some (ieq v20 0)
  else
    some false) : Option Bool).bind fun x21 =>
  (if x21 = true then
    some (.inl (w64 (s + 1)))
  else
    some (.inr s))
theorem find_eq {p : Int} {r c : Nat} {m : List (List Int)} (hm : Mat p r c m) {k s : Nat} (hr : r ≤ 1048576) (hk : k < c) (hs : s ≤ r) :
    ∃ b, loop (findStep m (k : Int)) BIG (s : Int) = some b ∧ ∃ x : Nat, b = (x : Int) ∧ s ≤ x ∧ x ≤ r ∧ (x < r → gI (gR m x) k ≠ 0) := by
  refine loop_inv (fun t => ∃ x : Nat, t = (x : Int) ∧ s ≤ x ∧ x ≤ r) (fun t => r - t.toNat) _ ⟨s, rfl, by omega, hs⟩ (by rw [BIG_val]; omega) ?_
  rintro t ⟨x, rfl, h1, h2⟩
  unfold findStep
  have e1 := hm.1
  by_cases hx : x < r
  · have e2 := (hm.row hx).1
    rw [if_pos (by omega), idxR (by omega), some_bind, idxI (by omega), some_bind, some_bind]
    by_cases hz : gI (gR m x) k = 0
    · simp only [hz, ieq_self, if_true]
      refine .inl ⟨_, rfl, ⟨x + 1, ?_, by omega, by omega⟩, ?_⟩
      · rw [w_in (by omega) (by omega)]; rfl
      · rw [w_in (by omega) (by omega)]; omega
    · have : ieq (gI (gR m x) k) 0 = false := by simp [ieq, hz]
      rw [this]
      exact .inr ⟨_, rfl, x, rfl, h1, h2, fun _ => hz⟩
  · rw [if_neg (by omega), some_bind]
    exact .inr ⟨_, rfl, x, rfl, h1, h2, fun h => absurd h hx⟩

/-! ### Bases -/
/-- Two loops that take the same steps; the first one may go on where the second one ends. -/
theorem loop_two' {S B : Type} {f g : S → Option (S ⊕ B)} (I : S → Prop) (μ : S → Nat) (Q : B → Prop) {s : S} (h0 : I s) (hm : μ s < BIG)
    (hr : ∀ s, I s → (∃ s', f s = some (.inl s') ∧ g s = some (.inl s') ∧ I s' ∧ μ s' < μ s) ∨ (∃ b, (∀ n, μ s < n → loop f n s = some b) ∧ g s = some (.inr b) ∧ Q b)) :
    ∃ b, loop f BIG s = some b ∧ loop g BIG s = some b ∧ Q b := by
  have key : ∀ (n : Nat) (s : S), I s → μ s < n → ∃ b, loop f n s = some b ∧ loop g n s = some b ∧ Q b := by
    intro n
    induction n with
    | zero => intro s _ h; omega
    | succ n ih =>
      intro s hI hn
      rcases hr s hI with ⟨s', h1, h2, h3, h4⟩ | ⟨b, h1, h2, h3⟩
      · rw [loop_succ, loop_succ, h1, h2]
        exact ih s' h3 (by omega)
      · rw [h1 _ hn, loop_succ, h2]
        exact ⟨b, rfl, rfl, h3⟩
  exact key BIG s h0 hm

/-- A row less the multiple of R that clears column k. -/
def clr (p : Int) (c k : Nat) (R v : List Int) : List Int := plusv p c v R ((p - gI v k) % p)
def clrm (p : Int) (r c k d : Nat) (R : List Int) (m : List (List Int)) : List (List Int) := vecN r fun j => if j = d then R else clr p c k R (gR m j)
theorem basis_clear {p : Int} {r c : Nat} {M l : List (List Int)} {R : List Int} {d k : Nat} (hP : isP p = true) (hr : r ≤ 1048576) (hc : c ≤ 1048576) (hk : k < c) (hd : d < r) (m0 : List (List Int)) (hR : Vec p c R)
    (hl : l.length = r) (hM : Mat p r c M) (hMd : gR M d = R) :
    loop (s_l02Basis_L2 p (m0, (d : Int), (k : Int)) R) BIG (M, 0) = some (clrm p r c k d R M) ∧ loop (i_field_basis_L2 p (m0, (d : Int), (k : Int)) l R) BIG (M, 0) = some (clrm p r c k d R M) := by
  have hp := isP_le hP
  have key : ∃ x, loop (s_l02Basis_L2 p (m0, (d : Int), (k : Int)) R) BIG (M, 0) = some x ∧ loop (i_field_basis_L2 p (m0, (d : Int), (k : Int)) l R) BIG (M, 0) = some x ∧ x = clrm p r c k d R M := by
    refine loop_two (fun s => Mat p r c s.1 ∧ ∃ i : Nat, s.2 = (i : Int) ∧ i ≤ r ∧ ∀ j, j < r → gR s.1 j = if j < i ∧ j ≠ d then clr p c k R (gR M j) else gR M j) (fun s => r - s.2.toNat) _ ⟨hM, 0, rfl, by omega, fun j _ => by rw [if_neg (by omega)]⟩ (by rw [BIG_val]; simp only []; omega) ?_
    rintro ⟨m, t⟩ ⟨hm, i, rfl, hi, hg⟩
    simp only [] at hm hg
    have hmd : gR m d = R := by rw [hg d hd, if_neg (by simp), hMd]
    unfold s_l02Basis_L2 i_field_basis_L2
    have e1 := hm.1
    simp only [Int.toNat_natCast, List.length_set, hl, e1]
    by_cases hir : i < r
    · have e2 := (hm.row hir).1
      have e3 := (hm.row hir).get hk
      have hgi : gR m i = gR M i := by rw [hg i hir, if_neg (by omega)]
      refine .inl ?_
      have hlt : (i : Int) < (r : Int) := by omega
      by_cases hid : i = d
      · subst hid
        simp only [hlt, if_true, not_true_eq_false, if_false, some_bind, Bool.false_eq_true]
        refine ⟨_, rfl, rfl, ⟨hm, i + 1, ?_, by omega, fun j hj => ?_⟩, ?_⟩
        · rw [w_in (by omega) (by omega)]; rfl
        · rw [hg j hj]
          by_cases h : j < i ∧ j ≠ i
          · rw [if_pos h, if_pos ⟨by omega, h.2⟩]
          · rw [if_neg h, if_neg (by omega)]
        · rw [w_in (by omega) (by omega)]; simp only []; omega
      · have hne : ¬ ((i : Int) = (d : Int)) := by omega
        have w1 : w64 (p - gI (gR m i) k) = p - gI (gR m i) k := w_in (by omega) (by omega)
        have w2 : w64 (0 - gI (gR m i) k) = 0 - gI (gR m i) k := w_in (by omega) (by omega)
        have w3 : (p - gI (gR m i) k).tmod p = (p - gI (gR m i) k) % p := tmod_nn (by omega)
        have hn := mod_num (a := p - gI (gR m i) k) (p := p) (by omega)
        have f1 := s_l02Plus_eq (p := p) (n := c) (a := gR m i) (b := R) (k := (p - gI (gR m i) k) % p) (by omega) (by omega) hc hn.1 (by omega) (hm.row hir) hR
        have f2 := i_field_plus_eq (p := p) (n := c) (a := gR m i) (b := R) (k := 0 - gI (gR m i) k) (by omega) (by omega) hc (by omega) (hm.row hir) hR
        have f3 : plusv p c (gR m i) R (0 - gI (gR m i) k) = plusv p c (gR m i) R ((p - gI (gR m i) k) % p) := plusv_congr neg_mod.symm
        simp only [hlt, if_true, hne, not_false_eq_true, idxR (show i < m.length by omega), idxR (show d < m.length by omega), idxI (show k < (gR m i).length by omega), some_bind, chk_bind (show ¬ p = 0 by omega), w1, w2, w3, hmd, f1, f2, f3]
        have hz : ((if (!ieq (gI (gR m i) k) 0) = true then some (m.set i (plusv p c (gR m i) R ((p - gI (gR m i) k) % p))) else some m) : Option (List (List Int))) = some (m.set i (plusv p c (gR m i) R ((p - gI (gR m i) k) % p))) := by
          by_cases h0 : gI (gR m i) k = 0
          · have : ieq (gI (gR m i) k) 0 = true := by simp [ieq, h0]
            rw [this, h0]
            have e : (p - 0) % p = 0 := by simp
            rw [e, plusv_zero (hm.row hir)]
            simp only [Bool.not_true, Bool.false_eq_true, if_false]
            congr 1
            refine List.ext_getElem (by simp) fun j h1 h2 => ?_
            rw [List.getElem_set]
            split
            · rename_i hj; subst hj; rw [gR_get h1]
            · rfl
          · have : ieq (gI (gR m i) k) 0 = false := by simp [ieq, h0]
            rw [this]
            simp only [Bool.not_false, if_true]
        rw [hz, some_bind]
        refine ⟨_, rfl, rfl, ⟨hm.set hir (plusv_vec (by omega) ..), i + 1, ?_, by omega, fun j hj => ?_⟩, ?_⟩
        · rw [w_in (by omega) (by omega)]; rfl
        · simp only []
          rw [gR_set (by omega)]
          by_cases hij : i = j
          · subst hij
            rw [if_pos rfl, if_pos ⟨by omega, hid⟩, hgi]; rfl
          · rw [if_neg hij, hg j hj]
            by_cases h : j < i ∧ j ≠ d
            · rw [if_pos h, if_pos ⟨by omega, h.2⟩]
            · rw [if_neg h, if_neg (by omega)]
        · rw [w_in (by omega) (by omega)]; simp only []; omega
    · refine .inr ?_
      have hlt : ¬ (i : Int) < (r : Int) := by omega
      simp only [hlt, if_false]
      refine ⟨_, rfl, rfl, ?_⟩
      unfold clrm
      refine extR hm.1 fun j hj => ?_
      rw [hg j hj]
      by_cases h : j = d
      · rw [if_neg (by omega), if_pos h, h, hMd]
      · rw [if_pos ⟨by omega, h⟩, if_neg h]
  obtain ⟨x, h1, h2, rfl⟩ := key
  exact ⟨h1, h2⟩
theorem clrm_mat {p : Int} {r c k d : Nat} {R : List Int} {m : List (List Int)} (hp : 0 < p) (hR : Vec p c R) : Mat p r c (clrm p r c k d R m) := Mat.mk' fun j hj => by
  split
  · exact hR
  · exact plusv_vec hp ..

/-- The rows ahead of d have ones at places of their own. -/
def Red (r c : Nat) (m : List (List Int)) (d : Nat) (piv : Nat → Nat) : Prop :=
  ∀ j, j < d → piv j < c ∧ gI (gR m j) (piv j) = 1 ∧ ∀ i, i < r → i ≠ j → gI (gR m i) (piv j) = 0
theorem Red.step {p : Int} {r c k d x : Nat} {m : List (List Int)} {piv : Nat → Nat} {R : List Int} (hP : isP p = true) (hm : Mat p r c m) (h : Red r c m d piv) (hk : k < c) (hd : d < r) (hdx : d ≤ x) (hx : x < r)
    (hne : gI (gR m x) k ≠ 0) (hRe : R = scalev p c (gR m x) (invp p (gI (gR m x) k))) :
    Red r c (clrm p r c k d R ((m.set x (gR m d)).set d R)) (d + 1) (fun j => if j = d then k else piv j) := by
  have hp := isP_le hP
  have e4 := (hm.row hx).get hk
  obtain ⟨i1, i2, i3⟩ := inv_facts (a := gI (gR m x) k) hP (by omega) e4.2
  have hRk : gI R k = 1 := by rw [hRe]; unfold scalev; rw [gI_vecN _ hk, i3]
  have hR0 : ∀ q, q < c → gI (gR m x) q = 0 → gI R q = 0 := fun q hq h0 => by rw [hRe]; unfold scalev; rw [gI_vecN _ hq, h0]; simp
  have hrow : ∀ i, i < r → i ≠ d → gR ((m.set x (gR m d)).set d R) i = if i = x then gR m d else gR m i := by
    intro i hi hid
    have e1 := hm.1
    rw [gR_set (by rw [List.length_set]; omega), if_neg (by omega), gR_set (by omega)]
    by_cases hix : i = x
    · rw [if_pos hix.symm, if_pos hix]
    · rw [if_neg (fun e => hix e.symm), if_neg hix]
  have hent : ∀ i, i < r → i ≠ d → ∀ q, q < c → gI (gR (clrm p r c k d R ((m.set x (gR m d)).set d R)) i) q = (gI (if i = x then gR m d else gR m i) q + (p - gI (if i = x then gR m d else gR m i) k) % p * gI R q) % p := by
    intro i hi hid q hq
    unfold clrm
    rw [gR_vecN _ hi, if_neg hid, hrow i hi hid]
    unfold clr plusv
    rw [gI_vecN _ hq]
  have hdd : gR (clrm p r c k d R ((m.set x (gR m d)).set d R)) d = R := by
    unfold clrm; rw [gR_vecN _ hd, if_pos rfl]
  intro j hj
  by_cases hjd : j = d
  · subst hjd
    simp only [if_true]
    refine ⟨hk, by rw [hdd]; exact hRk, fun i hi hij => ?_⟩
    rw [hent i hi hij k hk, hRk, Int.mul_one]
    generalize gI (if i = x then gR m j else gR m i) k = e
    rw [Int.add_emod, Int.emod_emod_of_dvd _ (Int.dvd_refl p), ← Int.add_emod]
    have : e + (p - e) = p := by omega
    rw [this, Int.emod_self]
  · have hjd' : j < d := by omega
    obtain ⟨h1, h2, h3⟩ := h j hjd'
    simp only [hjd, if_false]
    have hRq : gI R (piv j) = 0 := hR0 _ h1 (h3 x hx (by omega))
    refine ⟨h1, ?_, fun i hi hij => ?_⟩
    · rw [hent j (by omega) hjd _ h1, if_neg (by omega), h2, hRq, Int.mul_zero]
      exact mod_small (by omega) (by omega)
    · by_cases hid : i = d
      · rw [hid, hdd]; exact hRq
      · rw [hent i hi hid _ h1, hRq, Int.mul_zero]
        have : gI (if i = x then gR m d else gR m i) (piv j) = 0 := by
          split
          · exact h3 d hd (by omega)
          · exact h3 i hi hij
        rw [this]; simp

theorem ilt_true {a b : Int} (h : a < b) : ilt a b = true := by simp [ilt, h]
theorem ilt_false {a b : Int} (h : ¬ a < b) : ilt a b = false := by simp [ilt]; omega
section
variable {p : Int} {r c : Nat} (hP : isP p = true) (hr0 : 0 < r) (hr : r ≤ 1048576) (hc : c ≤ 1048576)
include hP hr0 hr hc
omit hP in
theorem basis_idle {m : List (List Int)} (hm : Mat p r c m) : ∀ (n k : Nat), k ≤ c → c - k < n → loop (s_l02Basis_L0 p) n (m, (r : Int), (k : Int)) = some (m, (r : Int)) := by
  have e1 := hm.1
  have e2 := (hm.row hr0).1
  intro n
  induction n with
  | zero => intro k _ h; omega
  | succ n ih =>
    intro k hk hn
    rw [loop_succ]
    by_cases hkc : k < c
    · have : s_l02Basis_L0 p (m, (r : Int), (k : Int)) = some (.inl (m, (r : Int), ((k + 1 : Nat) : Int))) := by
        unfold s_l02Basis_L0
        obtain ⟨b, h1, x, rfl, h2, h3, h4⟩ := find_eq hm (k := k) (s := r) hr hkc (Nat.le_refl _)
        have hx : x = r := by omega
        subst hx
        have l1 : s_l02Basis_L1 (m, (x : Int), (k : Int)) = findStep m (k : Int) := rfl
        simp only [show (0 : Int) < (m.length : Int) by omega, if_true, idxR0 (show 0 < m.length by omega), some_bind, ilt_true (show (k : Int) < ((gR m 0).length : Int) by omega), l1, h1, e1, show (0 : Int) < (x : Int) by omega]
        rw [w_in (by omega) (by omega)]; rfl
      rw [this]
      exact ih (k + 1) (by omega) (by omega)
    · have : s_l02Basis_L0 p (m, (r : Int), (k : Int)) = some (.inr (m, (r : Int))) := by
        unfold s_l02Basis_L0
        simp only [show (0 : Int) < (m.length : Int) by omega, if_true, idxR0 (show 0 < m.length by omega), some_bind, ilt_false (show ¬ (k : Int) < ((gR m 0).length : Int) by omega), Bool.false_eq_true, if_false]
      rw [this]

theorem basis_two {m : List (List Int)} (hm : Mat p r c m) :
    ∃ b, loop (s_l02Basis_L0 p) BIG (m, 0, 0) = some b ∧ loop (i_field_basis_L0 p) BIG (m, 0, 0) = some b ∧ (Mat p r c b.1 ∧ ∃ d : Nat, b.2 = (d : Int) ∧ d ≤ r ∧ ∃ piv, Red r c b.1 d piv) := by
  have hp := isP_le hP
  refine loop_two' (fun s => Mat p r c s.1 ∧ ∃ d k : Nat, s.2 = ((d : Int), (k : Int)) ∧ d ≤ r ∧ k ≤ c ∧ ∃ piv, Red r c s.1 d piv) (fun s => c - s.2.2.toNat) _ ⟨hm, 0, 0, rfl, by omega, by omega, fun _ => 0, fun j hj => by omega⟩ (by rw [BIG_val]; simp only []; omega) ?_
  rintro ⟨m, t⟩ ⟨hm, d, k, rfl, hd, hk, piv, hred⟩
  simp only [] at hm hred
  have e1 := hm.1
  have e2 := (hm.row hr0).1
  by_cases hkc : k < c
  · by_cases hdr : d < r
    · refine .inl ?_
      obtain ⟨b, h1, x, rfl, h2, h3, h4⟩ := find_eq hm (k := k) (s := d) hr hkc hd
      have l1 : s_l02Basis_L1 (m, (d : Int), (k : Int)) = findStep m (k : Int) := rfl
      have l2 : i_field_basis_L1 (m, (d : Int), (k : Int)) = findStep m (k : Int) := rfl
      unfold s_l02Basis_L0 i_field_basis_L0
      simp only [show (0 : Int) < (m.length : Int) by omega, if_true, idxR0 (show 0 < m.length by omega), some_bind, show (k : Int) < ((gR m 0).length : Int) by omega, ilt_true (show (k : Int) < ((gR m 0).length : Int) by omega), ilt_true (show (d : Int) < (m.length : Int) by omega), l1, l2, h1]
      by_cases hx : x = r
      · have hx' : (x : Int) = (m.length : Int) := by omega
        simp only [hx', if_true, some_bind]
        refine ⟨_, rfl, rfl, ⟨hm, d, k + 1, ?_, hd, by omega, piv, hred⟩, ?_⟩
        · rw [w_in (by omega) (by omega)]; rfl
        · rw [w_in (by omega) (by omega)]; simp only []; omega
      · have hx' : ¬ (x : Int) = (m.length : Int) := by omega
        have hxr : x < r := by omega
        have hne := h4 hxr
        have e3 := (hm.row hxr).1
        have e4 := (hm.row hxr).get hkc
        have e5 := (hm.row hdr).1
        obtain ⟨i1, i2, i3⟩ := inv_facts (a := gI (gR m x) k) hP (by omega) e4.2
        have f1 := s_l01Inv_eq (a := gI (gR m x) k) hP (by omega) e4.2
        have f2 := i_field_inv_eq (a := gI (gR m x) k) hP (by omega) e4.2
        have f3 := s_l02Scale_eq (p := p) (n := c) (a := gR m x) (k := invp p (gI (gR m x) k)) (by omega) (by omega) hc (by omega) (by omega) (hm.row hxr)
        have f4 := i_field_scaled_eq (p := p) (n := c) (a := gR m x) (k := invp p (gI (gR m x) k)) (by omega) (by omega) hc (by omega) (hm.row hxr)
        have hV := scalev_vec (p := p) (by omega) c (gR m x) (invp p (gI (gR m x) k))
        generalize hVe : scalev p c (gR m x) (invp p (gI (gR m x) k)) = V at f3 f4 hV
        have hrs := hred.step hP hm hkc hdr h2 hxr hne hVe.symm
        have g1 : gR ((m.set d (gR m x)).set x (gR m d)) d = gR m x := by
          rw [gR_set (by rw [List.length_set]; omega)]
          split
          · rename_i h; rw [h]
          · rw [gR_set (by omega), if_pos rfl]
        have g2 : ((m.set d (gR m x)).set x (gR m d)).set d V = (m.set x (gR m d)).set d V := by
          by_cases hxd : d = x
          · subst hxd; simp [List.set_set]
          · rw [List.set_comm _ _ hxd, List.set_set]
        have hM := (hm.set hxr (hm.row hdr)).set hdr hV
        have g3 : gR ((m.set x (gR m d)).set d V) d = V := by rw [gR_set (by rw [List.length_set]; omega), if_pos rfl]
        obtain ⟨y1, y2⟩ := basis_clear (p := p) (r := r) (c := c) (l := (m.set d (gR m x)).set x (gR m d)) (d := d) (k := k) hP hr hc hkc hdr m hV (by simp [e1]) hM g3
        simp only [hx', if_false, idxR (show x < m.length by omega), idxR (show d < m.length by omega), some_bind, idxI (show k < (gR m x).length by omega), f1, f2, f3, f4, Int.toNat_natCast,
          idxR (show d < (m.set x (gR m d)).length by rw [List.length_set]; omega), idxR (show x < (m.set d (gR m x)).length by rw [List.length_set]; omega), idxR (show d < ((m.set d (gR m x)).set x (gR m d)).length by rw [List.length_set, List.length_set]; omega), g1, g2, y1, y2]
        refine ⟨_, rfl, rfl, ⟨clrm_mat (by omega) hV, d + 1, k + 1, ?_, by omega, by omega, _, hrs⟩, ?_⟩
        · rw [w_in (by omega) (by omega), w_in (by omega) (by omega)]; rfl
        · rw [w_in (by omega) (by omega), w_in (by omega) (by omega)]; simp only []; omega
    · have hdd : d = r := by omega
      subst hdd
      refine .inr ⟨(m, (d : Int)), fun n hn => basis_idle hr0 hr hc hm n k hk (by simpa using hn), ?_, hm, d, rfl, by omega, piv, hred⟩
      unfold i_field_basis_L0
      simp only [show (0 : Int) < (m.length : Int) by omega, if_true, idxR0 (show 0 < m.length by omega), some_bind, show (k : Int) < ((gR m 0).length : Int) by omega, ilt_false (show ¬ (d : Int) < (m.length : Int) by omega), Bool.false_eq_true, if_false]
  · refine .inr ⟨(m, (d : Int)), fun n hn => ?_, ?_, hm, d, rfl, by omega, piv, hred⟩
    · cases n with
      | zero => omega
      | succ n =>
        rw [loop_succ]
        have : s_l02Basis_L0 p (m, (d : Int), (k : Int)) = some (.inr (m, (d : Int))) := by
          unfold s_l02Basis_L0
          simp only [show (0 : Int) < (m.length : Int) by omega, if_true, idxR0 (show 0 < m.length by omega), some_bind, ilt_false (show ¬ (k : Int) < ((gR m 0).length : Int) by omega), Bool.false_eq_true, if_false]
        rw [this]
    · unfold i_field_basis_L0
      simp only [show (0 : Int) < (m.length : Int) by omega, if_true, idxR0 (show 0 < m.length by omega), some_bind, show ¬ (k : Int) < ((gR m 0).length : Int) by omega, Bool.false_eq_true, if_false]

theorem Basis_eq {m : List (List Int)} (hm : Mat p r c m) : ∃ b, s_l02Basis p m = some b ∧ i_field_basis p m = some b ∧ ∃ d : Nat, d ≤ r ∧ Mat p d c b ∧ ∃ piv, Red d c b d piv := by
  have hz := hm.sz hr hc
  obtain ⟨b, h1, h2, h3, d, h4, h5, piv, h6⟩ := basis_two hP hr0 hr hc hm
  have hg : ∀ i, i < d → gR (b.1.take d) i = gR b.1 i := by
    intro i hi
    unfold gR
    rw [List.getD_eq_getElem?_getD, List.getD_eq_getElem?_getD, List.getElem?_take_of_lt hi]
  refine ⟨b.1.take d, ?_, ?_, d, h5, ?_, piv, fun j hj => ?_⟩
  · unfold s_l02Basis
    have := h3.1
    rw [s_l01Own2_eq hz, some_bind, h1, some_bind, h4, chk_bind (by omega)]; rfl
  · unfold i_field_basis
    have := h3.1
    rw [i_cloneRows_eq hz, some_bind, h2, some_bind, h4, chk_bind (by omega)]; rfl
  · have := h3.1
    refine ⟨by rw [List.length_take]; omega, fun i hi => ?_⟩
    rw [hg i hi]
    exact h3.2 i (by omega)
  · obtain ⟨g1, g2, g3⟩ := h6 j hj
    refine ⟨g1, by rw [hg j hj]; exact g2, fun i hi hij => ?_⟩
    rw [hg i hi]; exact g3 i (by omega) hij
end

theorem RankOf_eq {p : Int} {m : List (List Int)} (h : szM m) : ∃ V C, s_RankOf p m = some (V, C) ∧ i_RankOf p m = some (V, C) := by
  unfold s_RankOf i_RankOf s_l02Rank i_length_LI
  rw [s_l02Is_eq h, checkM1 h, some_bind, some_bind]
  cases hm : isMat p m with
  | false => exact ⟨0, 1, by simp, by simp⟩
  | true =>
    obtain ⟨h1, h2, h3, hP, h4, h5⟩ := isMat_sz hm
    obtain ⟨b, e1, e2, d, hd, hb, _⟩ := Basis_eq hP (r := m.length) (c := wid m) (by omega) (by omega) (by omega) h3
    simp only [Bool.true_eq_false, if_false, if_true, not_true_eq_false, e1, e2, some_bind]
    exact ⟨_, _, rfl, rfl⟩
theorem LawRank {p : Int} {m : List (List Int)} (hm : lenM m) : l_FnExactRankOf p m = some true := by
  unfold l_FnExactRankOf
  rw [szM_eq hm (by omega) (by omega), some_bind]
  by_cases h1 : ((m.length + rowsum m : Nat) : Int) ≤ 1048576
  · have hs : szv (m.length + rowsum m) 1048576 = 1048576 - ((m.length + rowsum m : Nat) : Int) := by unfold szv; rw [if_pos h1]
    rw [hs, if_neg (by omega)]
    obtain ⟨za, ra⟩ := sz_split (m := m) (by omega) h1
    obtain ⟨V, C, e3, e4⟩ := RankOf_eq (p := p) za
    have e1 := toM_eq za.1 za.2
    have e6 := eqM_self za
    simp only [e1, e3, e4, e6, some_bind, Bool.true_eq_false, Bool.false_eq_true, if_false, if_true, ieq_self, Bool.not_true, natneg, not_true_eq_false]
  · have hs : szv (m.length + rowsum m) 1048576 = -1 := by unfold szv; rw [if_neg h1]
    rw [hs, if_pos (by omega)]
end Go.Vam

/- Plain laws: determinants. -/
namespace Go.Vam
open Go Go.RowKit
set_option linter.unusedSimpArgs false
set_option linter.unusedVariables false
set_option linter.unusedSectionVars false

section
variable {p : Int} {r : Nat} (hP : isP p = true) (hr : r ≤ 1048576)
include hP hr
theorem det_clear {m m0 : List (List Int)} {R : List Int} {k : Nat} {d0 : Int} (hk : k < r) (hm : Mat p r r m) (hmk : gR m k = R) (hR : gI R k ≠ 0) :
    ∃ x, loop (s_l02Det_L2 p (m0, d0, (k : Int)) (invp p (gI R k))) BIG (m, ((k + 1 : Nat) : Int)) = some x ∧ loop (i_field_determinant_L2 p (m0, d0, (k : Int))) BIG (m, ((k + 1 : Nat) : Int)) = some x ∧ Mat p r r x := by
  have hp := isP_le hP
  have hRk := (hmk ▸ hm.row hk : Vec p r R)
  have e4 := hRk.get hk
  have e5 := hRk.1
  obtain ⟨i1, i2, i3⟩ := inv_facts (a := gI R k) hP (by omega) e4.2
  have v2 := i_field_inv_eq (a := gI R k) hP (by omega) e4.2
  generalize invp p (gI R k) = iv at i1 i2 i3 v2
  refine loop_two (fun s => Mat p r r s.1 ∧ gR s.1 k = R ∧ ∃ i : Nat, s.2 = (i : Int) ∧ i ≤ r ∧ k < i) (fun s => r - s.2.toNat) (Mat p r r) ⟨hm, hmk, k + 1, rfl, by omega, by omega⟩ (by rw [BIG_val]; simp only []; omega) ?_
  rintro ⟨m, t⟩ ⟨hm, hmk, i, rfl, hi, hki⟩
  simp only [] at hm hmk
  unfold s_l02Det_L2 i_field_determinant_L2
  have e1 := hm.1
  by_cases hir : i < r
  · have e2 := (hm.row hir).1
    have e3 := (hm.row hir).get hk
    refine .inl ?_
    have w1 : w64 (p - gI (gR m i) k) = p - gI (gR m i) k := w_in (by omega) (by omega)
    have w2 : w64 (0 - gI (gR m i) k) = 0 - gI (gR m i) k := w_in (by omega) (by omega)
    have q1 := mul_abs (a := p - gI (gR m i) k) (b := iv) (A := 13) (B := 13) (by omega) (by omega)
    have q2 := mul_abs (a := 0 - gI (gR m i) k) (b := iv) (A := 13) (B := 13) (by omega) (by omega)
    have q3 := Int.mul_nonneg (a := p - gI (gR m i) k) (b := iv) (by omega) (by omega)
    have w3 : w64 ((p - gI (gR m i) k) * iv) = (p - gI (gR m i) k) * iv := w_in (by omega) (by omega)
    have w4 : w64 ((0 - gI (gR m i) k) * iv) = (0 - gI (gR m i) k) * iv := w_in (by omega) (by omega)
    have w5 : ((p - gI (gR m i) k) * iv).tmod p = (p - gI (gR m i) k) * iv % p := tmod_nn (by omega)
    have hn := mod_num (a := (p - gI (gR m i) k) * iv) (p := p) (by omega)
    have f1 := s_l02Plus_eq (p := p) (n := r) (a := gR m i) (b := R) (k := (p - gI (gR m i) k) * iv % p) (by omega) (by omega) hr hn.1 (by omega) (hm.row hir) hRk
    have f2 := i_field_plus_eq (p := p) (n := r) (a := gR m i) (b := R) (k := (0 - gI (gR m i) k) * iv) (by omega) (by omega) hr (by omega) (hm.row hir) hRk
    have f3 : plusv p r (gR m i) R ((0 - gI (gR m i) k) * iv) = plusv p r (gR m i) R ((p - gI (gR m i) k) * iv % p) := by
      refine plusv_congr ?_
      rw [Int.emod_emod_of_dvd _ (Int.dvd_refl p)]
      have : (p - gI (gR m i) k) * iv = (0 - gI (gR m i) k) * iv + p * iv := by rw [← Int.add_mul]; congr 1; omega
      rw [this, Int.add_mul_emod_self_left]
    simp only [show (i : Int) < (m.length : Int) by omega, if_true, idxR (show i < m.length by omega), idxR (show k < m.length by omega), idxI (show k < (gR m i).length by omega), some_bind, hmk, idxI (show k < R.length by omega), chk_bind (show ¬ p = 0 by omega), v2, w1, w2, w3, w4, w5, f1, f2, f3, Int.toNat_natCast]
    refine ⟨_, rfl, rfl, ⟨hm.set hir (plusv_vec (by omega) ..), ?_, i + 1, ?_, by omega, by omega⟩, ?_⟩
    · rw [gR_set (by omega), if_neg (by omega)]; exact hmk
    · rw [w_in (by omega) (by omega)]; rfl
    · rw [w_in (by omega) (by omega)]; simp only []; omega
  · refine .inr ?_
    simp only [show ¬ (i : Int) < (m.length : Int) by omega, if_false]
    exact ⟨_, rfl, rfl, hm⟩

theorem det_two {m v1 : List (List Int)} (hm : Mat p r r m) (hv : v1.length = r) :
    ∃ b, loop (s_l02Det_L0 p) BIG (m, 1, 0) = some b ∧ loop (i_field_determinant_L0 p v1) BIG (m, 1, 0) = some b ∧ True := by
  have hp := isP_le hP
  refine loop_two (fun s => Mat p r r s.1 ∧ 0 ≤ s.2.1 ∧ s.2.1 < p ∧ ∃ k : Nat, s.2.2 = (k : Int) ∧ k ≤ r) (fun s => r - s.2.2.toNat) _ ⟨hm, (by decide : (0 : Int) ≤ 1), (show (1 : Int) < p by omega), 0, rfl, by omega⟩ (by rw [BIG_val]; simp only []; omega) ?_
  rintro ⟨m, d, t⟩ ⟨hm, hd0, hd1, k, rfl, hk⟩
  simp only [] at hm hd0 hd1
  have e1 := hm.1
  unfold s_l02Det_L0 i_field_determinant_L0
  by_cases hkr : k < r
  · obtain ⟨b, h1, x, rfl, h2, h3, h4⟩ := find_eq hm (k := k) (s := k) hr hkr hk
    have l1 : s_l02Det_L1 (m, d, (k : Int)) = findStep m (k : Int) := rfl
    have l2 : i_field_determinant_L1 (m, d, (k : Int)) = findStep m (k : Int) := rfl
    have c1 : (k : Int) < (m.length : Int) := by omega
    have c2 : (k : Int) < (v1.length : Int) := by omega
    by_cases hx : x = r
    · refine .inr ?_
      have hx' : (x : Int) = (m.length : Int) := by omega
      simp only [c1, c2, if_true, l1, l2, h1, some_bind, hx']
      exact ⟨_, rfl, rfl, trivial⟩
    refine .inl ?_
    have hx' : ¬ (x : Int) = (m.length : Int) := by omega
    have hxr : x < r := by omega
    have hne := h4 hxr
    have e3 := (hm.row hxr).1
    have e4 := (hm.row hxr).get hkr
    obtain ⟨i1, i2, i3⟩ := inv_facts (a := gI (gR m x) k) hP (by omega) e4.2
    have f1 := s_l01Inv_eq (a := gI (gR m x) k) hP (by omega) e4.2
    by_cases hxk : x = k
    · have c3 : ¬ (k : Int) < (x : Int) := by omega
      have c4 : (x : Int) = (k : Int) := by omega
      have hM : Mat p r r m := hm
      have hMk : gR m k = gR m x := by rw [hxk]
      have e5 := hM.1
      obtain ⟨y, y1, y2, y3⟩ := det_clear (p := p) (r := r) (m := m) (m0 := m) (R := gR m x) (k := k) (d0 := d) hP hr hkr hM hMk hne
      have q := mul_abs (a := d) (b := gI (gR m x) k) (A := 13) (B := 13) (by omega) (by omega)
      have q0 := Int.mul_nonneg (a := d) (b := gI (gR m x) k) (by omega) (by omega)
      have w3 : w64 (d * gI (gR m x) k) = d * gI (gR m x) k := w_in (by omega) (by omega)
      have w4 : (d * gI (gR m x) k).tmod p = d * gI (gR m x) k % p := tmod_nn (by omega)
      have w5 := i_field_num_eq (p := p) (n := d * gI (gR m x) k) (by omega) (by omega) (by omega) (by omega)
      have w6 : w64 ((k : Int) + 1) = ((k + 1 : Nat) : Int) := by rw [w_in (by omega) (by omega)]; rfl
      have hn := mod_num (a := d * gI (gR m x) k) (p := p) (by omega)
      simp only [c1, c2, if_true, l1, l2, h1, some_bind, hx', if_false, c3, not_true_eq_false, show ((x : Int) = (k : Int)) = True from eq_true c4, idxR (show k < m.length by omega), hMk, idxI (show k < (gR m x).length by omega), chk_bind (show ¬ p = 0 by omega), f1, w3, w4, w5, w6, y1, y2]
      exact ⟨_, rfl, rfl, ⟨y3, hn.1, hn.2, k + 1, rfl, by omega⟩, by simp only [Int.toNat_natCast]; omega⟩
    · have c3 : (k : Int) < (x : Int) := by omega
      have c4 : ¬ (x : Int) = (k : Int) := by omega
      have g2 : (m.set k (gR m x)).set x (gR m k) = (m.set x (gR m k)).set k (gR m x) := List.set_comm _ _ (fun h => hxk h.symm)
      have hn0 := mod_num (a := p - d) (p := p) (by omega)
      have w7 : w64 (p - d) = p - d := w_in (by omega) (by omega)
      have w8 : w64 (0 - d) = 0 - d := w_in (by omega) (by omega)
      have w9 : (p - d).tmod p = (p - d) % p := tmod_nn (by omega)
      have w10 : i_field_num p (0 - d) = some ((p - d) % p) := by
        rw [i_field_num_eq (by omega) (by omega) (by omega) (by omega)]
        have : p - d = 0 - d + p := by omega
        rw [this, Int.add_emod_right]
      have hM : Mat p r r ((m.set x (gR m k)).set k (gR m x)) := (hm.set hxr (hm.row hkr)).set hkr (hm.row hxr)
      have hMk : gR ((m.set x (gR m k)).set k (gR m x)) k = gR m x := by rw [gR_set (by rw [List.length_set]; omega), if_pos rfl]
      have e5 := hM.1
      obtain ⟨y, y1, y2, y3⟩ := det_clear (p := p) (r := r) (m := ((m.set x (gR m k)).set k (gR m x))) (m0 := m) (R := gR m x) (k := k) (d0 := d) hP hr hkr hM hMk hne
      have q := mul_abs (a := ((p - d) % p)) (b := gI (gR m x) k) (A := 13) (B := 13) (by omega) (by omega)
      have q0 := Int.mul_nonneg (a := ((p - d) % p)) (b := gI (gR m x) k) (by omega) (by omega)
      have w3 : w64 (((p - d) % p) * gI (gR m x) k) = ((p - d) % p) * gI (gR m x) k := w_in (by omega) (by omega)
      have w4 : (((p - d) % p) * gI (gR m x) k).tmod p = ((p - d) % p) * gI (gR m x) k % p := tmod_nn (by omega)
      have w5 := i_field_num_eq (p := p) (n := ((p - d) % p) * gI (gR m x) k) (by omega) (by omega) (by omega) (by omega)
      have w6 : w64 ((k : Int) + 1) = ((k + 1 : Nat) : Int) := by rw [w_in (by omega) (by omega)]; rfl
      have hn := mod_num (a := ((p - d) % p) * gI (gR m x) k) (p := p) (by omega)
      simp only [c1, c2, if_true, l1, l2, h1, some_bind, hx', if_false, c3, c4, not_false_eq_true, idxR (show x < m.length by omega), idxR (show k < m.length by omega), idxR (show x < (m.set k (gR m x)).length by rw [List.length_set]; omega), idxR (show k < (m.set x (gR m k)).length by rw [List.length_set]; omega), Int.toNat_natCast, g2, w7, w8, w9, w10, idxR (show k < ((m.set x (gR m k)).set k (gR m x)).length by omega), hMk, idxI (show k < (gR m x).length by omega), chk_bind (show ¬ p = 0 by omega), f1, w3, w4, w5, w6, y1, y2]
      exact ⟨_, rfl, rfl, ⟨y3, hn.1, hn.2, k + 1, rfl, by omega⟩, by simp only [Int.toNat_natCast]; omega⟩
  · refine .inr ?_
    simp only [show ¬ (k : Int) < (m.length : Int) by omega, show ¬ (k : Int) < (v1.length : Int) by omega, if_false]
    exact ⟨_, rfl, rfl, trivial⟩
theorem Det_eq {m : List (List Int)} (hm : Mat p r r m) : ∃ d, s_l02Det p m = some d ∧ i_field_determinant p m = some d := by
  obtain ⟨b, h1, h2, _⟩ := det_two hP hr hm hm.1
  have hz := hm.sz hr hr
  unfold s_l02Det i_field_determinant
  rw [s_l01Own2_eq hz, i_cloneRows_eq hz, some_bind, some_bind, h1, h2, some_bind]
  cases b with
  | inl d => exact ⟨d, rfl, rfl⟩
  | inr d => exact ⟨d, rfl, rfl⟩
end

theorem Determinant_eq {p : Int} {m : List (List Int)} (h : szM m) : ∃ V C, s_Determinant p m = some (V, C) ∧ i_Determinant p m = some (V, C) := by
  unfold s_Determinant i_Determinant
  rw [s_l02Square_eq h, i_checkSquare_eq h, some_bind, some_bind]
  by_cases h0 : sqC p m = 0
  · obtain ⟨hm, hl⟩ := sqC_zero h0
    obtain ⟨h1, h2, h3, hP, h4, h5⟩ := isMat_sz hm
    obtain ⟨d, e1, e2⟩ := Det_eq hP (r := m.length) (by omega) (by have := h3; rw [← hl] at this; exact this)
    simp only [h0, not_true_eq_false, if_false, e1, e2, some_bind]
    exact ⟨_, _, rfl, rfl⟩
  · simp only [h0, not_false_eq_true, if_true]
    exact ⟨_, _, rfl, rfl⟩
theorem LawDet {p : Int} {m : List (List Int)} (hm : lenM m) : l_FnExactDeterminant p m = some true := by
  unfold l_FnExactDeterminant
  rw [szM_eq hm (by omega) (by omega), some_bind]
  by_cases h1 : ((m.length + rowsum m : Nat) : Int) ≤ 1048576
  · have hs : szv (m.length + rowsum m) 1048576 = 1048576 - ((m.length + rowsum m : Nat) : Int) := by unfold szv; rw [if_pos h1]
    rw [hs, if_neg (by omega)]
    obtain ⟨za, ra⟩ := sz_split (m := m) (by omega) h1
    obtain ⟨V, C, e3, e4⟩ := Determinant_eq (p := p) za
    have e1 := toM_eq za.1 za.2
    have e6 := eqM_self za
    simp only [e1, e3, e4, e6, some_bind, Bool.true_eq_false, Bool.false_eq_true, if_false, if_true, ieq_self, Bool.not_true, natneg, not_true_eq_false]
  · have hs : szv (m.length + rowsum m) 1048576 = -1 := by unfold szv; rw [if_neg h1]
    rw [hs, if_pos (by omega)]
end Go.Vam

/- Plain laws: spaces: frames, skew tables, isometries. -/
namespace Go.Vam
open Go Go.RowKit
set_option linter.unusedSimpArgs false
set_option linter.unusedVariables false
set_option linter.unusedSectionVars false

/-! ### Helpers of the laws -/
theorem szSp_eq {p : Int} {w : List Int} {left : Int} (hl : lenI w) (h0 : 0 ≤ left) (h1 : left ≤ 1048576) : l_szSpace p w left = some (szv w.length left) := by
  unfold l_szSpace
  rw [szI_eq hl h0 h1, some_bind]
  unfold szv
  split
  · rw [if_neg (by omega)]
  · rw [if_pos (by omega)]
theorem toSp_eq {p : Int} {w : List Int} (h : w.length ≤ 1048576) : l_toSpace p w = some (p, w) := by
  unfold l_toSpace; rw [toI_eq h, some_bind]
theorem eqSp_self {p : Int} {w : List Int} (h : w.length ≤ 1048576) : l_eqSpace p w p w = some true := by
  unfold l_eqSpace; rw [if_neg (by simp), eqI_self h, some_bind, if_neg (by simp)]

/-! ### Spaces -/
def isSp (p : Int) (w : List Int) : Bool := isP p && (decide (1 ≤ (w.length : Int)) && decide ((w.length : Int) ≤ 6)) && nums p w
def hasZ (w : List Int) : Bool := w.any fun x => decide ((0 : Int) = x)
theorem isSp_iff {p : Int} {w : List Int} (h : isSp p w = true) : isP p = true ∧ 1 ≤ w.length ∧ w.length ≤ 6 ∧ Vec p w.length w := by
  simp only [isSp, Bool.and_eq_true, decide_eq_true_eq] at h
  exact ⟨h.1.1, by omega, by omega, Vec.of h.2⟩
theorem s_l03Is_eq {p : Int} {w : List Int} (hw : w.length ≤ 1048576) : s_l03Is p w = some (isSp p w) := by
  unfold s_l03Is isSp
  rw [s_l01Prime_eq, some_bind]
  cases hP : isP p with
  | false => simp
  | true =>
    have hp := isP_le hP
    simp only [if_true, s_l01In_eq, some_bind, Bool.true_and]
    cases (decide (1 ≤ (w.length : Int)) && decide ((w.length : Int) ≤ 6)) with
    | false => simp
    | true => simp only [if_true, Bool.true_and, s_l01Numbers_eq (show 0 ≤ p by omega) (show p ≤ 1048576 by omega) hw, some_bind]
theorem i_IsSpace_eq {p : Int} {w : List Int} (hw : w.length ≤ 1048576) : i_IsSpace p w = some (isSp p w) := by
  unfold i_IsSpace isSp i_length_I i_Space_field
  rw [i_IsPrime_eq, some_bind]
  cases hP : isP p with
  | false => simp
  | true =>
    have hp := isP_le hP
    simp only [if_true, i_inRange_eq, some_bind, Bool.true_and]
    cases (decide (1 ≤ (w.length : Int)) && decide ((w.length : Int) ≤ 6)) with
    | false => simp
    | true => simp only [if_true, Bool.true_and, i_field_is_eq (show 0 ≤ p by omega) (show p ≤ 1048576 by omega) hw, some_bind]
theorem contains_eq {xs : List Int} {a : Int} (h : xs.length ≤ 1048576) : g_slices_Contains_LI_I xs a = some (xs.any fun x => decide (a = x)) := by
  unfold g_slices_Contains_LI_I g_slices_Index_LI_I
  obtain ⟨b, h1, h2⟩ := any_loop (g_slices_Index_LI_I_L0 xs a) xs.length (fun k => decide (a = gI xs k)) (fun k => (k : Int)) (by rw [BIG_val]; omega)
    (fun k hk hf => by
      unfold g_slices_Index_LI_I_L0
      have : ¬ a = gI xs k := by simpa using hf
      simp only [show (k : Int) < (xs.length : Int) by omega, if_true, idxI hk, some_bind, this, if_false]
      rw [w_in (by omega) (by omega)]; rfl) (fun k hk hf => by
      unfold g_slices_Index_LI_I_L0
      have : a = gI xs k := by simpa using hf
      simp only [show (k : Int) < (xs.length : Int) by omega, if_true, idxI hk, some_bind, ← this]) (by
      unfold g_slices_Index_LI_I_L0
      simp)
  have e : (xs.any fun x => decide (a = x)) = (List.range xs.length).any fun k => decide (a = gI xs k) := (any_range xs (fun x => decide (a = x)) 0).symm
  rw [e, h1]
  rcases h2 with ⟨rfl, h3⟩ | ⟨k, hk, rfl, hf, h3, _⟩
  · rw [h3]; simp [ile]
  · rw [h3]; simp [ile]
theorem i_Space_regular_eq {p : Int} {w : List Int} (h : w.length ≤ 1048576) : i_Space_regular p w = some (!hasZ w) := by
  unfold i_Space_regular hasZ
  rw [contains_eq h, some_bind]
theorem mul_zero_mod {p a b : Int} (hP : isP p = true) (ha : 0 ≤ a ∧ a < p) (hb : 0 ≤ b ∧ b < p) : a * b % p = 0 ↔ a = 0 ∨ b = 0 := by
  constructor
  · intro h
    have key : ∀ P, P = 3 ∨ P = 5 ∨ P = 7 ∨ P = 11 ∨ P = 13 → ∀ A, A < P → ∀ B, B < P → (A * B) % P = 0 → A = 0 ∨ B = 0 := by
      intro P hP
      rcases hP with rfl | rfl | rfl | rfl | rfl <;> decide
    have hp := isP_cases hP
    have e1 : a = (a.toNat : Int) := by omega
    have e2 : b = (b.toNat : Int) := by omega
    have e3 : p = (p.toNat : Int) := by omega
    have := key p.toNat (by omega) a.toNat (by omega) b.toNat (by omega) (by
      rw [e1, e2, e3, ← Int.natCast_mul, ← Int.natCast_emod] at h
      exact_mod_cast h)
    omega
  · rintro (rfl | rfl) <;> simp
theorem s_l03Disc_eq {p : Int} {w : List Int} (hP : isP p = true) (hw : Vec p w.length w) (h : w.length ≤ 1048576) : ∃ d, s_l03Disc p w = some d ∧ (d = 0 ↔ hasZ w = true) := by
  have hp := isP_le hP
  unfold s_l03Disc
  obtain ⟨h1, h2⟩ := fold_loop (s_l03Disc_L0 p w) w.length (fun k s => (s * gI w k) % p) 1 (fun k s => 0 ≤ s ∧ s < p ∧ (s = 0 ↔ ∃ j, j < k ∧ gI w j = 0)) id (by rw [BIG_val]; omega)
    ⟨by omega, by omega, fun h => by omega, fun ⟨j, hj, _⟩ => by omega⟩
    (fun k s hk hs => by
      have := mod_num (a := s * gI w k) (p := p) (by omega)
      refine ⟨this.1, this.2, ?_⟩
      rw [mul_zero_mod hP ⟨hs.1, hs.2.1⟩ (hw.get hk), hs.2.2]
      constructor
      · rintro (⟨j, hj, hz⟩ | hz)
        · exact ⟨j, by omega, hz⟩
        · exact ⟨k, by omega, hz⟩
      · rintro ⟨j, hj, hz⟩
        rcases Nat.lt_succ_iff_lt_or_eq.1 hj with h | rfl
        · exact .inl ⟨j, h, hz⟩
        · exact .inr hz)
    (fun k s hk hs => by
      unfold s_l03Disc_L0
      have h1 := hw.get hk
      have h3 := mul_abs (a := s) (b := gI w k) (A := 13) (B := 13) (by omega) (by omega)
      have h4 := Int.mul_nonneg hs.1 h1.1
      simp only [show (k : Int) < w.length by omega, if_true, idxI hk, some_bind]
      rw [chk_bind (by omega), w_in (x := s * gI w k) (by omega) (by omega), w_in (by omega) (by omega), tmod_nn (by omega)]
      rfl) (fun s hs => by
      unfold s_l03Disc_L0
      simp)
  rw [h1, some_bind]
  refine ⟨_, rfl, ?_⟩
  simp only [id]
  rw [h2.2.2]
  unfold hasZ
  rw [List.any_eq_true]
  constructor
  · rintro ⟨j, hj, hz⟩
    exact ⟨w[j], List.getElem_mem hj, by rw [gI_get hj, hz]; rfl⟩
  · rintro ⟨x, hx, hz⟩
    obtain ⟨j, hj, rfl⟩ := List.getElem_of_mem hx
    refine ⟨j, hj, ?_⟩
    rw [gI_get hj] at hz
    exact (of_decide_eq_true hz).symm

/-! ### Frames -/
def fr (p : Int) (w : List Int) (m : List (List Int)) : Bool := isMat p m && (decide (m.length = w.length) && decide (wid m = w.length))
theorem fr_iff {p : Int} {w : List Int} {m : List (List Int)} (h : fr p w m = true) : isMat p m = true ∧ m.length = w.length ∧ Mat p w.length w.length m := by
  simp only [fr, Bool.and_eq_true, decide_eq_true_eq] at h
  obtain ⟨h1, h2, h3, hP, h4, h5⟩ := isMat_sz h.1
  refine ⟨h.1, h.2.1, ?_⟩
  rw [h.2.1, h.2.2] at h3
  exact h3
def shC (p : Int) (w : List Int) (m : List (List Int)) : Int := if isSp p w then (if fr p w m then (if hasZ w then 5 else 0) else 2) else 1
theorem shC_zero {p : Int} {w : List Int} {m : List (List Int)} (h : shC p w m = 0) : isSp p w = true ∧ fr p w m = true ∧ hasZ w = false := by
  unfold shC at h
  split at h
  · split at h
    · split at h
      · omega
      · exact ⟨by assumption, by assumption, by simpa using ‹¬ hasZ w = true›⟩
    · omega
  · omega
theorem s_l10Shape_eq {p : Int} {w : List Int} {m : List (List Int)} (hw : w.length ≤ 1048576) (h : szM m) : s_l10Shape p w m = some (shC p w m) := by
  unfold s_l10Shape shC fr
  rw [s_l03Is_eq hw, some_bind]
  cases hs : isSp p w with
  | false => simp
  | true =>
    obtain ⟨hP, g1, g2, g3⟩ := isSp_iff hs
    obtain ⟨d, d1, d2⟩ := s_l03Disc_eq hP g3 hw
    simp only [Bool.true_eq_false, if_false, if_true, s_l02Is_eq h, some_bind]
    cases hm : isMat p m with
    | false => simp
    | true =>
      obtain ⟨h1, h2, h3, _, h4, h5⟩ := isMat_sz hm
      have hwd : (gR m 0).length = wid m := rfl
      simp only [Bool.true_eq_false, if_false, Bool.true_and]
      by_cases hl : m.length = w.length
      · simp only [hl, not_true_eq_false, if_false, idxR0 (show 0 < m.length by omega), some_bind, hwd, decide_true, Bool.true_and]
        by_cases hl2 : wid m = w.length
        · have : ieq ((w.length : Nat) : Int) (w.length : Int) = true := ieq_self _
          simp only [hl2, this, Bool.not_true, Bool.false_eq_true, if_false, decide_true, if_true, d1, some_bind]
          cases hz : hasZ w with
          | false =>
            have : ¬ d = 0 := fun e => by rw [d2.1 e] at hz; cases hz
            simp [this]
          | true => simp [d2.2 hz]
        · have : ieq ((wid m : Nat) : Int) (w.length : Int) = false := by simp [ieq]; omega
          simp [hl2, this]
      · simp only [show ((m.length : Int) = (w.length : Int)) = False from eq_false (by omega), not_false_eq_true, if_true, some_bind]
        simp [hl]
theorem i_Space_isFrame_eq {p : Int} {w : List Int} {m : List (List Int)} (hP : isP p = true) (h : szM m) : i_Space_isFrame p w m = some (fr p w m) := by
  unfold i_Space_isFrame fr i_Space_field i_Space_dim
  simp only [some_bind, i_field_isMatrix_eq hP h]
  cases hm : isMat p m with
  | false => simp
  | true =>
    obtain ⟨h1, h2, h3, _, h4, h5⟩ := isMat_sz hm
    have hwd : (gR m 0).length = wid m := rfl
    simp only [if_true, Bool.true_and]
    by_cases hl : m.length = w.length
    · simp only [hl, if_true, idxR0 (show 0 < m.length by omega), some_bind, hwd, decide_true, Bool.true_and]
      simp [ieq]
    · simp only [show ((m.length : Int) = (w.length : Int)) = False from eq_false (by omega), if_false, some_bind]
      simp [hl]
theorem i_checkFrame_eq {p : Int} {w : List Int} {m : List (List Int)} (hw : w.length ≤ 1048576) (h : szM m) : i_checkFrame p w m = some (shC p w m) := by
  unfold i_checkFrame shC
  rw [i_IsSpace_eq hw, some_bind]
  cases hs : isSp p w with
  | false => simp
  | true =>
    obtain ⟨hP, g1, g2, g3⟩ := isSp_iff hs
    simp only [Bool.true_eq_false, if_false, if_true, i_Space_isFrame_eq hP h, i_Space_regular_eq hw, some_bind]
    cases fr p w m <;> cases hasZ w <;> simp

/-! ### Skew tables -/
def skB (p : Int) (w : List Int) (m : List (List Int)) (i j : Nat) : Bool := decide ((gI (gR m j) i * gI w j + gI (gR m i) j * gI w i) % p = 0)
def skA (p : Int) (w : List Int) (m : List (List Int)) : Bool := (List.range w.length).all fun i => (List.range w.length).all (skB p w m i)
section
variable {p : Int} {w : List Int} {m : List (List Int)} (hP : isP p = true) (hn : w.length ≤ 1048576) (hw : Vec p w.length w) (hm : Mat p w.length w.length m)
include hP hn hw hm
theorem sk_bounds {i j : Nat} (hi : i < w.length) (hj : j < w.length) : (gI (gR m j) i * gI w j).natAbs ≤ 169 ∧ 0 ≤ gI (gR m j) i * gI w j := by
  have hp := isP_le hP
  have h1 := (hm.row hj).get hi
  have h2 := hw.get hj
  exact ⟨mul_abs (A := 13) (B := 13) (by omega) (by omega), Int.mul_nonneg h1.1 h2.1⟩
theorem s_l10Skew_eq : s_l10Skew p w m = some (skA p w m) := by
  have hp := isP_le hP
  have e1 := hm.1
  have inner : ∀ i, i < w.length → loop (s_l10Skew_L1 p w m (i : Int)) BIG 0 = some (if (List.range w.length).all (skB p w m i) then .inl () else .inr (.inr (.inr false))) := by
    intro i hi
    have e3 := (hm.row hi).1
    have core : ∀ j, j < w.length → s_l10Skew_L1 p w m (i : Int) (j : Int) = if ¬ (gI (gR m j) i * gI w j + gI (gR m i) j * gI w i) % p = 0 then some (.inr (.inr (.inr (.inr false)))) else some (.inl ((j + 1 : Nat) : Int)) := by
      intro j hj
      have e2 := (hm.row hj).1
      obtain ⟨b1, b2⟩ := sk_bounds hP hn hw hm hi hj
      obtain ⟨b3, b4⟩ := sk_bounds hP hn hw hm hj hi
      unfold s_l10Skew_L1
      simp only [show (j : Int) < (m.length : Int) by omega, if_true, idxR (show j < m.length by omega), idxR (show i < m.length by omega), idxI (show i < (gR m j).length by omega), idxI (show j < (gR m i).length by omega), idxI hi, idxI hj, some_bind]
      rw [chk_bind (by omega), w_in (x := gI (gR m j) i * gI w j) (by omega) (by omega), w_in (x := gI (gR m i) j * gI w i) (by omega) (by omega), w_in (x := gI (gR m j) i * gI w j + gI (gR m i) j * gI w i) (by omega) (by omega), w_in (x := (j : Int) + 1) (by omega) (by omega), tmod_nn (by omega)]
      rfl
    refine all_loop _ w.length (skB p w m i) _ (by rw [BIG_val]; omega) ?_ ?_ ?_
    · intro j hj hf
      have := of_decide_eq_true hf
      rw [core j hj, if_neg (by simp [this])]
    · intro j hj hf
      have := of_decide_eq_false hf
      rw [core j hj, if_pos this]
    · unfold s_l10Skew_L1
      simp [e1]
  unfold s_l10Skew
  rw [all_loop _ w.length (fun i => (List.range w.length).all (skB p w m i)) false (by rw [BIG_val]; omega)]
  · rw [some_bind]
    unfold skA
    cases (List.range w.length).all fun i => (List.range w.length).all (skB p w m i) <;> rfl
  · intro i hi hf
    unfold s_l10Skew_L0
    rw [if_pos (by omega), inner i hi, hf, w_in (by omega) (by omega)]; rfl
  · intro i hi hf
    unfold s_l10Skew_L0
    rw [if_pos (by omega), inner i hi, hf]; rfl
  · unfold s_l10Skew_L0
    simp [e1]
theorem i_Space_isSkew_eq : i_Space_isSkew p w m = some (skA p w m) := by
  have hp := isP_le hP
  have e1 := hm.1
  have inner : ∀ i, i < w.length → loop (i_Space_isSkew_L1 p w m (i : Int)) BIG 0 = some (if (List.range w.length).all (skB p w m i) then .inl () else .inr (.inr (.inr false))) := by
    intro i hi
    have e3 := (hm.row hi).1
    have core : ∀ j, j < w.length → i_Space_isSkew_L1 p w m (i : Int) (j : Int) = if ¬ (gI (gR m j) i * gI w j + gI (gR m i) j * gI w i) % p = 0 then some (.inr (.inr (.inr (.inr false)))) else some (.inl ((j + 1 : Nat) : Int)) := by
      intro j hj
      have e2 := (hm.row hj).1
      obtain ⟨b1, b2⟩ := sk_bounds hP hn hw hm hi hj
      obtain ⟨b3, b4⟩ := sk_bounds hP hn hw hm hj hi
      unfold i_Space_isSkew_L1 i_Space_field
      simp only [show (j : Int) < (m.length : Int) by omega, if_true, idxR (show j < m.length by omega), idxR (show i < m.length by omega), idxI (show i < (gR m j).length by omega), idxI (show j < (gR m i).length by omega), idxI hi, idxI hj, some_bind]
      rw [Int.mul_comm (gI w j), Int.mul_comm (gI w i), w_in (x := gI (gR m j) i * gI w j) (by omega) (by omega), w_in (x := gI (gR m i) j * gI w i) (by omega) (by omega), w_in (x := gI (gR m j) i * gI w j + gI (gR m i) j * gI w i) (by omega) (by omega), i_field_num_eq (by omega) (by omega) (by omega) (by omega), some_bind, w_in (x := (j : Int) + 1) (by omega) (by omega)]
      rfl
    refine all_loop _ w.length (skB p w m i) _ (by rw [BIG_val]; omega) ?_ ?_ ?_
    · intro j hj hf
      have := of_decide_eq_true hf
      rw [core j hj, if_neg (by simp [this])]
    · intro j hj hf
      have := of_decide_eq_false hf
      rw [core j hj, if_pos this]
    · unfold i_Space_isSkew_L1
      simp [e1]
  unfold i_Space_isSkew
  rw [all_loop _ w.length (fun i => (List.range w.length).all (skB p w m i)) false (by rw [BIG_val]; omega)]
  · rw [some_bind]
    unfold skA
    cases (List.range w.length).all fun i => (List.range w.length).all (skB p w m i) <;> rfl
  · intro i hi hf
    unfold i_Space_isSkew_L0
    rw [if_pos (by omega), inner i hi, hf, w_in (by omega) (by omega)]; rfl
  · intro i hi hf
    unfold i_Space_isSkew_L0
    rw [if_pos (by omega), inner i hi, hf]; rfl
  · unfold i_Space_isSkew_L0
    simp [e1]
end
theorem IsSkewMatrix_eq {p : Int} {w : List Int} {m : List (List Int)} (hw : w.length ≤ 1048576) (h : szM m) : ∃ V C, s_IsSkewMatrix p w m = some (V, C) ∧ i_IsSkewMatrix p w m = some (V, C) := by
  unfold s_IsSkewMatrix i_IsSkewMatrix
  rw [s_l10Shape_eq hw h, i_checkFrame_eq hw h, some_bind, some_bind]
  by_cases h0 : shC p w m = 0
  · obtain ⟨a1, a2, a3⟩ := shC_zero h0
    obtain ⟨hP, g1, g2, g3⟩ := isSp_iff a1
    obtain ⟨b1, b2, b3⟩ := fr_iff a2
    simp only [h0, not_true_eq_false, if_false, s_l10Skew_eq hP hw g3 b3, i_Space_isSkew_eq hP hw g3 b3, some_bind]
    exact ⟨_, _, rfl, rfl⟩
  · simp only [h0, not_false_eq_true, if_true]
    exact ⟨_, _, rfl, rfl⟩
theorem LawIsSkewMatrix {p : Int} {w : List Int} {m : List (List Int)} (hw : lenI w) (hm : lenM m) : l_FnExactIsSkewMatrix p w m = some true := by
  unfold l_FnExactIsSkewMatrix
  rw [szSp_eq hw (by omega) (by omega), some_bind]
  by_cases h1 : ((w.length : Nat) : Int) ≤ 1048576
  · have hs : szv w.length 1048576 = 1048576 - ((w.length : Nat) : Int) := by unfold szv; rw [if_pos h1]
    rw [hs, if_neg (by omega), szM_eq hm (by omega) (by omega), some_bind]
    by_cases h2 : ((m.length + rowsum m : Nat) : Int) ≤ 1048576 - ((w.length : Nat) : Int)
    · have hs2 : szv (m.length + rowsum m) (1048576 - ((w.length : Nat) : Int)) = 1048576 - ((w.length : Nat) : Int) - ((m.length + rowsum m : Nat) : Int) := by unfold szv; rw [if_pos h2]
      rw [hs2, if_neg (by omega)]
      obtain ⟨za, ra⟩ := sz_split (m := m) (by omega) h2
      have hw' : w.length ≤ 1048576 := by omega
      obtain ⟨V, C, e3, e4⟩ := IsSkewMatrix_eq (p := p) hw' za
      have e1 := toM_eq za.1 za.2
      have e2 := toSp_eq (p := p) hw'
      have e5 := eqSp_self (p := p) hw'
      have e6 := eqM_self za
      simp only [e1, e2, e3, e4, e5, e6, some_bind, Bool.true_eq_false, Bool.false_eq_true, if_false, if_true, ieq_self, Bool.not_true, natneg, not_true_eq_false, bne_self_eq_false]
    · have hs2 : szv (m.length + rowsum m) (1048576 - ((w.length : Nat) : Int)) = -1 := by unfold szv; rw [if_neg h2]
      rw [hs2, if_pos (by omega)]
  · have hs : szv w.length 1048576 = -1 := by unfold szv; rw [if_neg h1]
    rw [hs, if_pos (by omega)]
end Go.Vam

/- Plain laws: the bivector of a skew table. -/
namespace Go.Vam
open Go Go.RowKit
set_option linter.unusedSimpArgs false
set_option linter.unusedVariables false
set_option linter.unusedSectionVars false

theorem shl_k : ∀ k : Nat, k < 8 → shl .i64 1 (k : Int) = ((2 ^ k : Nat) : Int) := by decide
theorem wrap_k : ∀ k : Nat, k < 8 → IntKind.u64.wrap (k : Int) = (k : Int) := by decide
theorem bor_k : ∀ i : Nat, i < 6 → ∀ j : Nat, j < 6 → i < j → bor .i64 (((2 ^ i : Nat)) : Int) (((2 ^ j : Nat)) : Int) = ((2 ^ i + 2 ^ j : Nat) : Int) := by decide
theorem pow_k : ∀ n : Nat, n < 7 → ∀ i : Nat, i < n → ∀ j : Nat, j < n → i < j → 2 ^ i + 2 ^ j < 2 ^ n := by decide
theorem pow_le : ∀ n : Nat, n < 8 → 2 ^ n ≤ 128 := by decide
theorem hasZ_ne {w : List Int} (h : hasZ w = false) {k : Nat} (hk : k < w.length) : gI w k ≠ 0 := by
  intro h0
  have : hasZ w = true := by
    unfold hasZ
    rw [List.any_eq_true]
    exact ⟨w[k], List.getElem_mem hk, by rw [gI_get hk, h0]; rfl⟩
  rw [h] at this; cases this

section
variable {p : Int} {w : List Int} {m : List (List Int)} (hP : isP p = true) (hn : w.length ≤ 6) (hw : Vec p w.length w) (hz : hasZ w = false) (hm : Mat p w.length w.length m)
include hP hn hw hz hm
theorem biv_inner {i : Nat} (hi : i < w.length) {x : List Int} (y : List Int) (hx : x.length = 2 ^ w.length) :
    ∃ z, loop (s_BivectorOfMatrix_L1 p w m (y, (i : Int))) BIG (x, ((i + 1 : Nat) : Int)) = some z ∧ loop (i_BivectorOfMatrix_L1 p w m (y, (i : Int))) BIG (x, ((i + 1 : Nat) : Int)) = some z ∧ z.length = 2 ^ w.length := by
  have hp := isP_le hP
  have e1 := hm.1
  have e2 := (hm.row hi).1
  refine loop_two (fun s => s.1.length = 2 ^ w.length ∧ ∃ j : Nat, s.2 = (j : Int) ∧ i < j ∧ j ≤ w.length) (fun s => w.length - s.2.toNat) _ ⟨hx, i + 1, rfl, by omega, by omega⟩ (by rw [BIG_val]; simp only []; omega) ?_
  rintro ⟨x, t⟩ ⟨hx, j, rfl, hij, hj⟩
  simp only [] at hx
  unfold s_BivectorOfMatrix_L1 i_BivectorOfMatrix_L1 i_Space_field
  by_cases hjn : j < w.length
  · refine .inl ?_
    have h1 := (hm.row hi).get hjn
    have h2 := hw.get hjn
    have h3 := hasZ_ne hz hjn
    obtain ⟨i1, i2, i3⟩ := inv_facts (a := gI w j) hP (by omega) h2.2
    have f1 := s_l01Inv_eq (a := gI w j) hP (by omega) h2.2
    have f2 := i_field_inv_eq (a := gI w j) hP (by omega) h2.2
    have q := mul_abs (a := gI (gR m i) j) (b := invp p (gI w j)) (A := 13) (B := 13) (by omega) (by omega)
    have q0 := Int.mul_nonneg (a := gI (gR m i) j) (b := invp p (gI w j)) (by omega) (by omega)
    have w1 : w64 (gI (gR m i) j * invp p (gI w j)) = gI (gR m i) j * invp p (gI w j) := w_in (by omega) (by omega)
    have w2 : (gI (gR m i) j * invp p (gI w j)).tmod p = gI (gR m i) j * invp p (gI w j) % p := tmod_nn q0
    have w3 := i_field_num_eq (p := p) (n := gI (gR m i) j * invp p (gI w j)) (by omega) (by omega) (by omega) (by omega)
    have w4 : w64 ((j : Int) + 1) = ((j + 1 : Nat) : Int) := by rw [w_in (by omega) (by omega)]; rfl
    have a1 := shl_k i (by omega)
    have a2 := shl_k j (by omega)
    have a3 := wrap_k i (by omega)
    have a4 := wrap_k j (by omega)
    have a5 := bor_k i (by omega) j (by omega) hij
    have a6 := pow_k w.length (by omega) i hi j hjn hij
    have a7 := pow_le w.length (by omega)
    have a80 : ∀ A B : Nat, A + B < 1000 → w64 ((A : Int) + (B : Int)) = ((A + B : Nat) : Int) := fun A B h => by rw [w_in (by omega) (by omega)]; rfl
    have a8 := a80 (2 ^ i) (2 ^ j) (Nat.lt_of_lt_of_le a6 (Nat.le_trans a7 (by decide)))
    simp only [show (j : Int) < (m.length : Int) by omega, if_true, a1, a2, a3, a4, a5, a8, chk_bind (show (0 : Int) ≤ (i : Int) by omega), chk_bind (show (0 : Int) ≤ (j : Int) by omega), idxR (show i < m.length by omega), idxI (show j < (gR m i).length by omega), idxI hjn, some_bind, f1, f2,
      chk_bind (show ¬ p = 0 by omega), w1, w2, w3, w4, idxI (show 2 ^ i + 2 ^ j < x.length by omega), Int.toNat_natCast]
    exact ⟨_, rfl, rfl, ⟨by simp only [List.length_set]; exact hx, j + 1, rfl, by omega, by omega⟩, by simp only [Int.toNat_natCast]; omega⟩
  · refine .inr ?_
    simp only [show ¬ (j : Int) < (m.length : Int) by omega, if_false]
    exact ⟨_, rfl, rfl, hx⟩
theorem biv_outer {x : List Int} (hx : x.length = 2 ^ w.length) :
    ∃ z, loop (s_BivectorOfMatrix_L0 p w m) BIG (x, 0) = some z ∧ loop (i_BivectorOfMatrix_L0 p w m) BIG (x, 0) = some z ∧ z.length = 2 ^ w.length := by
  have e1 := hm.1
  refine loop_two (fun s => s.1.length = 2 ^ w.length ∧ ∃ j : Nat, s.2 = (j : Int) ∧ j ≤ w.length) (fun s => w.length - s.2.toNat) _ ⟨hx, 0, rfl, by omega⟩ (by rw [BIG_val]; simp only []; omega) ?_
  rintro ⟨x, t⟩ ⟨hx, i, rfl, hi⟩
  simp only [] at hx
  unfold s_BivectorOfMatrix_L0 i_BivectorOfMatrix_L0
  by_cases hin : i < w.length
  · refine .inl ?_
    obtain ⟨z, z1, z2, z3⟩ := biv_inner hP hn hw hz hm hin x hx
    have w4 : w64 ((i : Int) + 1) = ((i + 1 : Nat) : Int) := by rw [w_in (by omega) (by omega)]; rfl
    simp only [show (i : Int) < (m.length : Int) by omega, if_true, w4, z1, z2, some_bind]
    exact ⟨_, rfl, rfl, ⟨z3, i + 1, rfl, by omega⟩, by simp only [Int.toNat_natCast]; omega⟩
  · refine .inr ?_
    simp only [show ¬ (i : Int) < (m.length : Int) by omega, if_false]
    exact ⟨_, rfl, rfl, hx⟩
end
theorem BivectorOfMatrix_eq {p : Int} {w : List Int} {m : List (List Int)} (hw : w.length ≤ 1048576) (h : szM m) : ∃ V C, s_BivectorOfMatrix p w m = some (V, C) ∧ i_BivectorOfMatrix p w m = some (V, C) ∧ V.length ≤ 128 := by
  unfold s_BivectorOfMatrix i_BivectorOfMatrix s_l04Zero s_l04Size i_Space_nothing i_Space_dim
  rw [s_l10Shape_eq hw h, i_checkFrame_eq hw h, some_bind, some_bind]
  by_cases h0 : shC p w m = 0
  · obtain ⟨a1, a2, a3⟩ := shC_zero h0
    obtain ⟨hP, g1, g2, g3⟩ := isSp_iff a1
    obtain ⟨b1, b2, b3⟩ := fr_iff a2
    simp only [h0, not_true_eq_false, if_false, if_true, s_l10Skew_eq hP hw g3 b3, i_Space_isSkew_eq hP hw g3 b3, some_bind]
    cases skA p w m with
    | false => exact ⟨[], 5, by simp, by simp, by simp⟩
    | true =>
      have c1 := shl_k w.length (by omega)
      have c2 := wrap_k w.length (by omega)
      have c3 := pow_le w.length (by omega)
      obtain ⟨z, z1, z2, z3⟩ := biv_outer hP g2 g3 a3 b3 (x := List.replicate (2 ^ w.length) 0) (by simp)
      simp only [Bool.not_true, Bool.false_eq_true, if_false, some_bind, not_true_eq_false, c1, c2, chk_bind (show (0 : Int) ≤ (w.length : Int) by omega), chk_bind (show (0 : Int) ≤ ((2 ^ w.length : Nat) : Int) ∧ ((2 ^ w.length : Nat) : Int) ≤ 1099511627776 by omega), Int.toNat_natCast, z1, z2, Bool.true_eq_false]
      exact ⟨_, _, rfl, rfl, by omega⟩
  · simp only [h0, not_false_eq_true, if_true, if_false, some_bind, Bool.false_eq_true]
    exact ⟨_, _, rfl, rfl, by simp⟩
theorem markSp_1 {p : Int} {w : List Int} (h : w.length ≤ 1048576) : l_markSpace p w 1 = some (((1 + w.length : Nat) : Int)) := by
  unfold l_markSpace; rw [markI_1 h, some_bind]
theorem LawBivectorOfMatrix {p : Int} {w : List Int} {m : List (List Int)} (hw : lenI w) (hm : lenM m) : l_FnExactBivectorOfMatrix p w m = some true := by
  unfold l_FnExactBivectorOfMatrix
  rw [szSp_eq hw (by omega) (by omega), some_bind]
  by_cases h1 : ((w.length : Nat) : Int) ≤ 1048576
  · have hs : szv w.length 1048576 = 1048576 - ((w.length : Nat) : Int) := by unfold szv; rw [if_pos h1]
    rw [hs, if_neg (by omega), szM_eq hm (by omega) (by omega), some_bind]
    by_cases h2 : ((m.length + rowsum m : Nat) : Int) ≤ 1048576 - ((w.length : Nat) : Int)
    · have hs2 : szv (m.length + rowsum m) (1048576 - ((w.length : Nat) : Int)) = 1048576 - ((w.length : Nat) : Int) - ((m.length + rowsum m : Nat) : Int) := by unfold szv; rw [if_pos h2]
      rw [hs2, if_neg (by omega)]
      obtain ⟨za, ra⟩ := sz_split (m := m) (by omega) h2
      have hw' : w.length ≤ 1048576 := by omega
      obtain ⟨V, C, e3, e4, hV⟩ := BivectorOfMatrix_eq (p := p) hw' za
      have e1 := toM_eq za.1 za.2
      have e2 := toSp_eq (p := p) hw'
      have e5 := eqSp_self (p := p) hw'
      have e6 := eqM_self za
      have e7 := eqI_self (v := V) (by omega)
      have e8 := markSp_1 (p := p) hw'
      have e9 : l_markInt64SS m ((1 + w.length : Nat) : Int) = some (((1 + w.length + rowsum m : Nat) : Int), mrkM (1 + w.length) m) := markM_eq (by have := za.1; omega) (by omega)
      have e10 := markI_1 (xs := V) (by omega)
      have e11 := heldI_1 (xs := V) (by omega)
      simp only [e1, e2, e3, e4, e5, e6, e7, e8, e9, e10, e11, some_bind, Bool.true_eq_false, Bool.false_eq_true, if_false, if_true, ieq_self, Bool.not_true, natneg, not_true_eq_false, bne_self_eq_false]
    · have hs2 : szv (m.length + rowsum m) (1048576 - ((w.length : Nat) : Int)) = -1 := by unfold szv; rw [if_neg h2]
      rw [hs2, if_pos (by omega)]
  · have hs : szv w.length 1048576 = -1 := by unfold szv; rw [if_neg h1]
    rw [hs, if_pos (by omega)]
end Go.Vam

/- Plain laws: doublings: their elements, tables and products. -/
namespace Go.Vam
open Go Go.RowKit
set_option linter.unusedSimpArgs false
set_option linter.unusedVariables false
set_option linter.unusedSectionVars false

theorem szDb_eq {p : Int} {w : List Int} {left : Int} (hl : lenI w) (h0 : 0 ≤ left) (h1 : left ≤ 1048576) : l_szDoubling p w left = some (szv w.length left) := by
  unfold l_szDoubling
  rw [szI_eq hl h0 h1, some_bind]
  unfold szv
  split
  · rw [if_neg (by omega)]
  · rw [if_pos (by omega)]
theorem toDb_eq {p : Int} {w : List Int} (h : w.length ≤ 1048576) : l_toDoubling p w = some (p, w) := by
  unfold l_toDoubling; rw [toI_eq h, some_bind]
theorem eqDb_self {p : Int} {w : List Int} (h : w.length ≤ 1048576) : l_eqDoubling p w p w = some true := by
  unfold l_eqDoubling; rw [if_neg (by simp), eqI_self h, some_bind, if_neg (by simp)]
theorem markDb_1 {p : Int} {w : List Int} (h : w.length ≤ 1048576) : l_markDoubling p w 1 = some (((1 + w.length : Nat) : Int)) := by
  unfold l_markDoubling; rw [markI_1 h, some_bind]

theorem s_l01Mod_eq {p n : Int} (hp : 0 < p) (hp2 : p ≤ 1048576) (h1 : -9223372036854775808 ≤ n) (h2 : n ≤ 9223372036854775807) : s_l01Mod p n = some (n % p) := by
  unfold s_l01Mod
  have hb := tmod_bounds n hp
  rw [chk_bind (by omega), chk_bind (by omega), w_in (by omega) (by omega), num_mod n hp]

/-! ### Doublings -/
def isDb (p : Int) (w : List Int) : Bool := isP p && (decide (w.length ≤ 4) && (nums p w && !hasZ w))
theorem isDb_iff {p : Int} {w : List Int} (h : isDb p w = true) : isP p = true ∧ w.length ≤ 4 ∧ Vec p w.length w ∧ hasZ w = false := by
  simp only [isDb, Bool.and_eq_true, decide_eq_true_eq, Bool.not_eq_true'] at h
  exact ⟨h.1, h.2.1, Vec.of h.2.2.1, h.2.2.2⟩
theorem hasZ_iff (w : List Int) : hasZ w = true ↔ (0 : Int) ∈ w := by
  unfold hasZ
  rw [List.any_eq_true]
  constructor
  · rintro ⟨x, hx, h⟩
    have : (0 : Int) = x := of_decide_eq_true h
    rw [this]; exact hx
  · intro h; exact ⟨0, h, rfl⟩
theorem s_l11Is_eq {p : Int} {w : List Int} (hw : w.length ≤ 1048576) : s_l11Is p w = some (isDb p w) := by
  unfold s_l11Is isDb
  rw [s_l01Prime_eq, some_bind]
  cases hP : isP p with
  | false => simp
  | true =>
    have hp := isP_le hP
    simp only [Bool.true_eq_false, if_false, some_bind, Bool.true_and]
    by_cases hl : w.length ≤ 4
    · rw [ilt_false (by omega), if_neg (by simp), all_loop _ w.length (fun k => decide (1 ≤ gI w k) && decide (gI w k ≤ p - 1)) false (by rw [BIG_val]; omega)]
      · rw [some_bind]
        have e : ((List.range w.length).all fun k => decide (1 ≤ gI w k) && decide (gI w k ≤ p - 1)) = (nums p w && !hasZ w) := by
          rw [all_rangeI w (fun x => decide (1 ≤ x) && decide (x ≤ p - 1)), Bool.eq_iff_iff]
          simp only [List.all_eq_true, Bool.and_eq_true, decide_eq_true_eq, nums_iff, Bool.not_eq_true']
          constructor
          · intro h
            refine ⟨fun x hx => ⟨by have := h x hx; omega, by have := h x hx; omega⟩, ?_⟩
            rw [Bool.eq_false_iff]
            intro hz
            have := h 0 ((hasZ_iff w).1 hz)
            omega
          · rintro ⟨h1, h2⟩ x hx
            have hx0 : x ≠ 0 := fun e => by
              rw [Bool.eq_false_iff] at h2
              exact h2 ((hasZ_iff w).2 (e ▸ hx))
            have := h1 x hx
            omega
        rw [e]
        simp only [hl, decide_true, Bool.true_and]
        cases (nums p w && !hasZ w) <;> rfl
      · intro k hk hf
        unfold s_l11Is_L0
        simp only [show (k : Int) < w.length by omega, if_true, idxI hk, some_bind, s_l01In_eq]
        rw [w_in (by omega) (by omega), w_in (by omega) (by omega), hf]; rfl
      · intro k hk hf
        unfold s_l11Is_L0
        simp only [show (k : Int) < w.length by omega, if_true, idxI hk, some_bind, s_l01In_eq]
        rw [w_in (by omega) (by omega), hf]; rfl
      · unfold s_l11Is_L0
        simp
    · rw [ilt_true (by omega), if_pos rfl]
      simp [hl]
theorem i_IsDoubling_eq {p : Int} {w : List Int} (hw : w.length ≤ 1048576) : i_IsDoubling p w = some (isDb p w) := by
  unfold i_IsDoubling isDb i_Doubling_field
  rw [i_IsPrime_eq, some_bind]
  cases hP : isP p with
  | false => simp
  | true =>
    have hp := isP_le hP
    simp only [if_true, Bool.true_and]
    by_cases hl : w.length ≤ 4
    · simp only [show ((w.length : Int) ≤ 4) = True from eq_true (by omega), if_true, some_bind, i_field_is_eq (show 0 ≤ p by omega) (show p ≤ 1048576 by omega) hw, contains_eq hw, hl, decide_true, Bool.true_and]
      unfold hasZ
      cases nums p w <;> simp
    · simp only [show ((w.length : Int) ≤ 4) = False from eq_false (by omega), if_false, some_bind, hl, decide_false, Bool.false_and]
def dbC (p : Int) (w : List Int) : Int := if isDb p w then (if 3 < w.length then 3 else 0) else 1
theorem dbC_zero {p : Int} {w : List Int} (h : dbC p w = 0) : isDb p w = true ∧ w.length ≤ 3 := by
  unfold dbC at h
  split at h
  · split at h
    · omega
    · exact ⟨by assumption, by omega⟩
  · omega
theorem s_l14Code_eq {p : Int} {w : List Int} (hw : w.length ≤ 1048576) : s_l14Code p w = some (dbC p w) := by
  unfold s_l14Code dbC
  rw [s_l11Is_eq hw, some_bind]
  cases isDb p w with
  | false => simp
  | true =>
    by_cases h : 3 < w.length
    · simp only [Bool.true_eq_false, if_false, show ((3 : Int) < (w.length : Int)) = True from eq_true (by omega), if_true, h]
    · simp only [Bool.true_eq_false, if_false, show ((3 : Int) < (w.length : Int)) = False from eq_false (by omega), if_true, h]
theorem s_l11Size_eq {p : Int} {w : List Int} (h : w.length ≤ 4) : s_l11Size p w = some ((2 ^ w.length : Nat) : Int) := by
  unfold s_l11Size
  rw [wrap_k _ (by omega), chk_bind (by omega), shl_k _ (by omega)]
theorem i_Doubling_size_eq {p : Int} {w : List Int} (h : w.length ≤ 4) : i_Doubling_size p w = some ((2 ^ w.length : Nat) : Int) := by
  unfold i_Doubling_size
  rw [chk_bind (by omega), shl_k _ (by omega)]
theorem ieq_nat (a b : Nat) : ieq (a : Int) (b : Int) = decide (a = b) := by
  simp only [ieq]
  exact decide_eq_decide.2 ⟨Int.ofNat.inj, congrArg _⟩
theorem two_pos (n : Nat) : 0 < 2 ^ n := Nat.pow_pos (by decide)

/-! ### Elements, tables -/
def elB (p : Int) (n : Nat) (x : List Int) : Bool := nums p x && decide (x.length = n)
theorem elB_iff {p : Int} {n : Nat} {x : List Int} : elB p n x = true ↔ Vec p n x := by
  simp only [elB, Bool.and_eq_true, decide_eq_true_eq]
  constructor
  · rintro ⟨h1, rfl⟩; exact Vec.of h1
  · intro h; exact ⟨h.nums, h.1⟩
section
variable {p : Int} {w : List Int} (hP : isP p = true) (hl : w.length ≤ 4)
include hP hl
theorem s_l11Element_eq {x : List Int} (hx : x.length ≤ 1048576) : s_l11Element p w x = some (elB p (2 ^ w.length) x) := by
  have hp := isP_le hP
  unfold s_l11Element elB
  rw [all_loop _ x.length (fun k => isNum p (gI x k)) false (by rw [BIG_val]; omega)]
  · rw [some_bind, all_rangeI x (isNum p), s_l11Size_eq hl]
    unfold nums
    cases x.all (isNum p) with
    | false => simp
    | true =>
      show some (ieq (x.length : Int) ((2 ^ w.length : Nat) : Int)) = some (true && decide (x.length = 2 ^ w.length))
      rw [ieq_nat, Bool.true_and]
  · intro k hk hf
    unfold s_l11Element_L0
    simp only [show (k : Int) < x.length by omega, if_true, idxI hk, some_bind, s_l01In_eq]
    rw [w_in (by omega) (by omega), w_in (by omega) (by omega)]
    unfold isNum at hf
    simp [hf]
  · intro k hk hf
    unfold s_l11Element_L0
    simp only [show (k : Int) < x.length by omega, if_true, idxI hk, some_bind, s_l01In_eq]
    rw [w_in (by omega) (by omega)]
    unfold isNum at hf
    simp [hf]
  · unfold s_l11Element_L0
    simp
theorem i_checkElements_c1_eq {x : List Int} (hx : x.length ≤ 1048576) : i_checkElements_c1 x p w = some (!elB p (2 ^ w.length) x) := by
  have hp := isP_le hP
  unfold i_checkElements_c1 elB i_Doubling_field
  rw [i_Doubling_size_eq hl, some_bind]
  by_cases h : x.length = 2 ^ w.length
  · simp only [show ((x.length : Int) = ((2 ^ w.length : Nat) : Int)) = True from eq_true (by rw [h]), not_true_eq_false, if_false, some_bind, i_field_is_eq (show 0 ≤ p by omega) (show p ≤ 1048576 by omega) hx, h, decide_true, Bool.and_true]
  · simp only [show ((x.length : Int) = ((2 ^ w.length : Nat) : Int)) = False from eq_false (fun e => h (Int.ofNat.inj e)), not_false_eq_true, if_true, some_bind, h, decide_false, Bool.and_false, Bool.not_false]
def dmB (p : Int) (n : Nat) (m : List (List Int)) : Bool := m.all (elB p n) && decide (m.length = n)
omit hP hl in
theorem dmB_iff {p : Int} {n : Nat} {m : List (List Int)} : dmB p n m = true ↔ Mat p n n m := by
  simp only [dmB, Bool.and_eq_true, decide_eq_true_eq, List.all_eq_true]
  constructor
  · rintro ⟨h1, h2⟩
    exact ⟨h2, fun i hi => by rw [← gR_get (by omega)]; exact elB_iff.1 (h1 _ (List.getElem_mem _))⟩
  · rintro ⟨h1, h2⟩
    refine ⟨fun x hx => ?_, h1⟩
    obtain ⟨k, hk, rfl⟩ := List.getElem_of_mem hx
    rw [gR_get hk]
    exact elB_iff.2 (h2 k (by omega))
theorem s_l14Matrix_eq {m : List (List Int)} (hm : szM m) : s_l14Matrix p w m = some (dmB p (2 ^ w.length) m) := by
  unfold s_l14Matrix dmB
  have := hm.1
  rw [all_loop _ m.length (fun k => elB p (2 ^ w.length) (gR m k)) false (by rw [BIG_val]; omega)]
  · rw [some_bind, all_rangeR m (elB p (2 ^ w.length)), s_l11Size_eq hl]
    cases m.all (elB p (2 ^ w.length)) with
    | false => simp
    | true =>
      show some (ieq (m.length : Int) ((2 ^ w.length : Nat) : Int)) = some (true && decide (m.length = 2 ^ w.length))
      rw [ieq_nat, Bool.true_and]
  · intro k hk hf
    unfold s_l14Matrix_L0
    simp only [show (k : Int) < m.length by omega, if_true, idxR hk, some_bind, s_l11Element_eq hP hl (hm.row hk)]
    rw [w_in (by omega) (by omega), hf]; rfl
  · intro k hk hf
    unfold s_l14Matrix_L0
    simp only [show (k : Int) < m.length by omega, if_true, idxR hk, some_bind, s_l11Element_eq hP hl (hm.row hk)]
    rw [hf]; rfl
  · unfold s_l14Matrix_L0
    simp
theorem i_Doubling_isMatrix_eq {m : List (List Int)} (hm : szM m) : i_Doubling_isMatrix p w m = some (dmB p (2 ^ w.length) m) := by
  have h16 : 2 ^ w.length ≤ 16 := by
    have : ∀ n, n ≤ 4 → 2 ^ n ≤ 16 := by decide
    exact this _ hl
  have hpos := two_pos w.length
  unfold i_Doubling_isMatrix i_Doubling_field
  rw [some_bind, i_field_isMatrix_eq hP hm, some_bind, i_Doubling_size_eq hl]
  generalize 2 ^ w.length = n at h16 hpos
  cases hM : isMat p m with
  | false =>
    have : dmB p n m = false := by
      rw [Bool.eq_false_iff]
      intro h
      have hm' := dmB_iff.1 h
      have h1 := hm'.1
      have h2 : wid m = n := (hm'.row (i := 0) hpos).1
      have : isMat p m = true := isMat_iff.2 ⟨hP, by omega, by omega, by omega, by omega, by rw [h1, h2]; exact hm'⟩
      rw [hM] at this; cases this
    rw [this]; simp
  | true =>
    obtain ⟨h1, h2, h3, _, h4, h5⟩ := isMat_sz hM
    simp only [if_true, some_bind]
    by_cases ha : m.length = n
    · simp only [show ((m.length : Int) = (n : Int)) = True from eq_true (by omega), if_true, idxR0 (show 0 < m.length by omega), some_bind]
      by_cases hb : wid m = n
      · have hb' : (gR m 0).length = n := hb
        have : dmB p n m = true := dmB_iff.2 (by rw [ha, hb] at h3; exact h3)
        rw [this, hb', ieq_self]
      · have : dmB p n m = false := by
          rw [Bool.eq_false_iff]
          intro h
          exact hb ((dmB_iff.1 h).row (i := 0) hpos).1
        rw [this]
        have : ieq ((gR m 0).length : Int) (n : Int) = false := by
          simp only [ieq, decide_eq_false_iff_not]
          intro e
          exact hb (Int.ofNat.inj e)
        rw [this]
    · have : dmB p n m = false := by simp [dmB, ha]
      rw [this]
      simp only [show ((m.length : Int) = (n : Int)) = False from eq_false (by omega), if_false, some_bind]
end

/-- A test of every part of a list, as a search for one that fails. -/
theorem contains_loop {α : Type} (c : List α) (z : α) (f : α → Bool) (hc : c.length ≤ 1048576) (step : Int → Option (Int ⊕ (Unit ⊕ Int)))
    (hs : ∀ k (hk : k < c.length), step (k : Int) = if f (c.getD k z) = true then some (.inr (.inr (k : Int))) else some (.inl ((k + 1 : Nat) : Int))) (he : step (c.length : Int) = some (.inr (.inl ()))) :
    ((loop step BIG 0).bind fun x2 => (match x2 with | .inl _ => some (-1) | .inr t => some t : Option Int)).bind (fun v1 => some (ile 0 v1)) = some (c.any f) := by
  obtain ⟨b, h1, h2⟩ := any_loop step c.length (fun k => f (c.getD k z)) (fun k => (k : Int)) (by rw [BIG_val]; omega)
    (fun k hk hf => by rw [hs k hk, if_neg (by rw [hf]; simp)]) (fun k hk hf => by rw [hs k hk, if_pos hf]) he
  have e : c.any f = (List.range c.length).any fun k => f (c.getD k z) := (any_range c f z).symm
  rw [e, h1]
  rcases h2 with ⟨rfl, h3⟩ | ⟨k, hk, rfl, hf, h3, _⟩
  · rw [h3]; simp [ile]
  · rw [h3]; simp [ile]
section
variable {p : Int} {w : List Int} (hw : w.length ≤ 1048576)
include hw
theorem containsEl_eq {c : List (List Int)} (hP : isP p = true) (hl : w.length ≤ 4) (hc : szM c) : g_slices_ContainsFunc_LLI_LI_of_i_checkElements_c1 c p w = some (!c.all (elB p (2 ^ w.length))) := by
  unfold g_slices_ContainsFunc_LLI_LI_of_i_checkElements_c1 g_slices_IndexFunc_LLI_LI_of_i_checkElements_c1
  rw [not_all]
  refine contains_loop c [] (fun x => !elB p (2 ^ w.length) x) hc.1 _ (fun k hk => ?_) ?_
  · unfold g_slices_IndexFunc_LLI_LI_of_i_checkElements_c1_L0
    have := hc.1
    rw [if_pos (by omega), idxR hk, some_bind, i_checkElements_c1_eq hP hl (hc.row hk), some_bind, w_in (by omega) (by omega)]
    rfl
  · unfold g_slices_IndexFunc_LLI_LI_of_i_checkElements_c1_L0
    simp
theorem containsDm_eq {c : List (List (List Int))} (hP : isP p = true) (hl : w.length ≤ 4) (hc : c.length ≤ 1048576) (h : ∀ m ∈ c, szM m) : g_slices_ContainsFunc_LLLI_LLI_of_i_checkThree_c1 c p w = some (!c.all (dmB p (2 ^ w.length))) := by
  unfold g_slices_ContainsFunc_LLLI_LLI_of_i_checkThree_c1 g_slices_IndexFunc_LLLI_LLI_of_i_checkThree_c1
  rw [not_all]
  refine contains_loop c [] (fun x => !dmB p (2 ^ w.length) x) hc _ (fun k hk => ?_) ?_
  · unfold g_slices_IndexFunc_LLLI_LLI_of_i_checkThree_c1_L0 i_checkThree_c1
    have hz : szM (c.getD k []) := by rw [← getD_get hk []]; exact h _ (List.getElem_mem _)
    rw [if_pos (by omega), idxD hk [], some_bind, i_Doubling_isMatrix_eq hP hl hz, some_bind, some_bind, w_in (by omega) (by omega)]
    rfl
  · unfold g_slices_IndexFunc_LLLI_LLI_of_i_checkThree_c1_L0
    simp
/-- The code ahead: the doubling, its elements, its tables. -/
def thC (p : Int) (w : List Int) (es : List (List Int)) (ms : List (List (List Int))) : Int :=
  if dbC p w = 0 then (if es.all (elB p (2 ^ w.length)) && ms.all (dmB p (2 ^ w.length)) then 0 else 2) else dbC p w
omit hw in
theorem thC_zero {es : List (List Int)} {ms : List (List (List Int))} (h : thC p w es ms = 0) : isDb p w = true ∧ w.length ≤ 3 ∧ (∀ x ∈ es, Vec p (2 ^ w.length) x) ∧ (∀ m ∈ ms, Mat p (2 ^ w.length) (2 ^ w.length) m) := by
  unfold thC at h
  split at h
  · rename_i h0
    obtain ⟨a1, a2⟩ := dbC_zero h0
    split at h
    · rename_i h1
      simp only [Bool.and_eq_true, List.all_eq_true] at h1
      exact ⟨a1, a2, fun x hx => elB_iff.1 (h1.1 x hx), fun m hm => dmB_iff.1 (h1.2 m hm)⟩
    · omega
  · contradiction
theorem i_checkElements_eq {c : List (List Int)} (hc : szM c) : i_checkElements p w c = some (if isDb p w then (if c.all (elB p (2 ^ w.length)) then 0 else 2) else 1) := by
  unfold i_checkElements
  rw [i_IsDoubling_eq hw, some_bind]
  cases hd : isDb p w with
  | false => simp
  | true =>
    obtain ⟨hP, hl, _, _⟩ := isDb_iff hd
    simp only [Bool.true_eq_false, if_false, if_true, containsEl_eq hw hP hl hc, some_bind]
    cases c.all (elB p (2 ^ w.length)) <;> simp
theorem i_checkThree_eq {es : List (List Int)} {ms : List (List (List Int))} (he : szM es) (hms : ms.length ≤ 1048576) (hm : ∀ m ∈ ms, szM m) : i_checkThree p w es ms = some (thC p w es ms) := by
  unfold i_checkThree thC dbC
  rw [i_IsDoubling_eq hw, some_bind, i_checkElements_eq hw he]
  cases hd : isDb p w with
  | false => simp
  | true =>
    obtain ⟨hP, hl, _, _⟩ := isDb_iff hd
    by_cases h3 : 3 < w.length
    · simp [show ((3 : Int) < (w.length : Int)) from by omega, h3]
    · simp only [Bool.true_eq_false, if_false, if_true, show ((3 : Int) < (w.length : Int)) = False from eq_false (by omega), h3, some_bind, containsDm_eq hw hP hl hms hm]
      cases es.all (elB p (2 ^ w.length)) with
      | false => simp
      | true => cases ms.all (dmB p (2 ^ w.length)) <;> simp
theorem s_l14Two_eq {ms : List (List (List Int))} (hms : ms.length ≤ 1048576) (hm : ∀ m ∈ ms, szM m) : s_l14Two p w ms = some (thC p w [] ms) := by
  unfold s_l14Two thC
  rw [s_l14Code_eq hw, some_bind]
  by_cases h0 : dbC p w = 0
  · obtain ⟨a1, a2⟩ := dbC_zero h0
    obtain ⟨hP, hl, _, _⟩ := isDb_iff a1
    have hget : ∀ k, k < ms.length → szM (ms.getD k []) := fun k hk => by rw [← getD_get hk []]; exact hm _ (List.getElem_mem _)
    simp only [h0, not_true_eq_false, if_false, if_true, List.all_nil, Bool.true_and]
    rw [all_loop _ ms.length (fun k => dmB p (2 ^ w.length) (ms.getD k [])) 2 (by rw [BIG_val]; omega)]
    · rw [some_bind, all_range ms (dmB p (2 ^ w.length)) []]
      cases ms.all (dmB p (2 ^ w.length)) <;> rfl
    · intro k hk hf
      unfold s_l14Two_L0
      rw [if_pos (by omega), idxD hk [], some_bind, s_l14Matrix_eq hP hl (hget k hk), some_bind, hf, w_in (by omega) (by omega)]; rfl
    · intro k hk hf
      unfold s_l14Two_L0
      rw [if_pos (by omega), idxD hk [], some_bind, s_l14Matrix_eq hP hl (hget k hk), some_bind, hf]; rfl
    · unfold s_l14Two_L0
      simp
  · simp [h0]
theorem s_l11Code_eq {c : List (List Int)} (hc : szM c) : s_l11Code p w c = some (if isDb p w then (if c.all (elB p (2 ^ w.length)) then 0 else 2) else 1) := by
  unfold s_l11Code
  rw [s_l11Is_eq hw, some_bind]
  have hcl := hc.1
  cases hd : isDb p w with
  | false => simp
  | true =>
    obtain ⟨hP, hl, _, _⟩ := isDb_iff hd
    simp only [Bool.true_eq_false, if_false, if_true]
    rw [all_loop _ c.length (fun k => elB p (2 ^ w.length) (gR c k)) 2 (by rw [BIG_val]; omega)]
    · rw [some_bind, all_rangeR c (elB p (2 ^ w.length))]
      cases c.all (elB p (2 ^ w.length)) <;> rfl
    · intro k hk hf
      unfold s_l11Code_L0
      rw [if_pos (by omega), idxR hk, some_bind, s_l11Element_eq hP hl (hc.row hk), some_bind, hf, w_in (by omega) (by omega)]; rfl
    · intro k hk hf
      unfold s_l11Code_L0
      rw [if_pos (by omega), idxR hk, some_bind, s_l11Element_eq hP hl (hc.row hk), some_bind, hf]; rfl
    · unfold s_l11Code_L0
      simp
theorem s_l14Elements_eq {c : List (List Int)} (hc : szM c) : s_l14Elements p w c = some (thC p w c []) := by
  unfold s_l14Elements thC
  rw [s_l14Code_eq hw, some_bind]
  by_cases h0 : dbC p w = 0
  · obtain ⟨a1, a2⟩ := dbC_zero h0
    simp only [h0, not_true_eq_false, if_false, if_true, List.all_nil, Bool.and_true, s_l11Code_eq hw hc, a1, some_bind]
  · simp [h0]
end

/-! ### A table's image -/
section
variable {p : Int} {n : Nat} {m : List (List Int)} {v : List Int} (hp : 0 < p) (hp2 : p ≤ 13) (hn : n ≤ 1048576) (hm : Mat p n n m) (hv : Vec p n v)
include hp hp2 hn hm hv
theorem s_l14Apply_eq : s_l14Apply p m v = some (applyv p n n m v) := by
  unfold s_l14Apply
  have e1 := hm.1
  have e2 := hv.1
  rw [map_loop _ n (fun i => dotp p n (gR m i) v) (by rw [BIG_val]; omega)]
  · rfl
  · intro i hi out ho
    unfold s_l14Apply_L0
    have e3 := (hm.row hi).1
    have key : loop (s_l14Apply_L1 m v (out, (i : Int))) BIG (0, 0) = some (sumN (fun k => gI (gR m i) k * gI v k) n) := by
      refine loop_for (fun k => (sumN (fun k => gI (gR m i) k * gI v k) k, (k : Int))) n (by rw [BIG_val]; omega) rfl ?_ ?_
      · intro k hk
        unfold s_l14Apply_L1
        have h1 := (hm.row hi).get hk; have h2 := hv.get hk
        have h3 := mul_abs (a := gI (gR m i) k) (b := gI v k) (A := 12) (B := 12) (by omega) (by omega)
        have h4 := sum_bound (hm.row hi) hv hp2 k (by omega)
        simp only [show (k : Int) < v.length by omega, if_true, idxR (show i < m.length by omega), idxI (show k < (gR m i).length by omega), idxI (show k < v.length by omega), some_bind]
        rw [w_in (x := gI (gR m i) k * gI v k) (by omega) (by omega), w_in (by omega) (by omega), w_in (by omega) (by omega)]
        rfl
      · unfold s_l14Apply_L1
        simp [e2]
    have hb := sum_bound (hm.row hi) hv hp2 n (Nat.le_refl _)
    simp only [show (i : Int) < m.length by omega, if_true, key, some_bind]
    rw [s_l01Mod_eq hp (by omega) (by omega) (by omega), some_bind, chk_bind (by simp only [List.length_cons, List.length_nil]; omega), w_in (by omega) (by omega)]
    rfl
  · intro out ho
    unfold s_l14Apply_L0
    simp [e1]
end
theorem two_le {n : Nat} (h : n ≤ 4) : 2 ^ n ≤ 16 := by
  have : ∀ n, n ≤ 4 → 2 ^ n ≤ 16 := by decide
  exact this _ h
theorem MatrixImage_eq {p : Int} {w : List Int} {m : List (List Int)} {v : List Int} (hw : w.length ≤ 1048576) (h : szM m) (hv : v.length ≤ 1048576) :
    ∃ V C, s_MatrixImage p w m v = some (V, C) ∧ i_MatrixImage p w m v = some (V, C) ∧ V.length ≤ 16 := by
  have hsm : ∀ x ∈ [m], szM x := fun x hx => by simp only [List.mem_singleton] at hx; exact hx ▸ h
  have hsv : szM [v] := ⟨by simp, fun x hx => by simp only [List.mem_singleton] at hx; exact hx ▸ hv⟩
  unfold s_MatrixImage i_MatrixImage i_Doubling_field
  rw [s_l14Two_eq hw (by simp) hsm, i_checkThree_eq hw hsv (by simp) hsm, some_bind, some_bind, s_l11Code_eq hw hsv]
  unfold thC
  by_cases h0 : dbC p w = 0
  · obtain ⟨a1, a2⟩ := dbC_zero h0
    obtain ⟨hP, hl, _, _⟩ := isDb_iff a1
    have hp := isP_le hP
    have h16 := two_le hl
    simp only [h0, if_true, List.all_nil, Bool.true_and, List.all_cons, Bool.and_true, a1]
    cases hm : dmB p (2 ^ w.length) m with
    | false => exact ⟨[], 2, by simp, by simp, by simp⟩
    | true =>
      cases he : elB p (2 ^ w.length) v with
      | false => exact ⟨[], 2, by simp, by simp, by simp⟩
      | true =>
        have hM := dmB_iff.1 hm
        have hV := elB_iff.1 he
        simp only [if_true, some_bind, not_true_eq_false, if_false, Bool.and_self, s_l14Apply_eq (show 0 < p by omega) (show p ≤ 13 by omega) (show 2 ^ w.length ≤ 1048576 by omega) hM hV, i_field_apply_eq (show 0 < p by omega) (show p ≤ 13 by omega) (show 2 ^ w.length ≤ 1048576 by omega) (show 2 ^ w.length ≤ 1048576 by omega) hM hV]
        exact ⟨_, _, rfl, rfl, by unfold applyv; simp only [vecN_len]; exact h16⟩
  · simp only [h0, if_false, some_bind, not_false_eq_true, if_true]
    exact ⟨_, _, rfl, rfl, by simp⟩
theorem LawMatrixImage {p : Int} {w : List Int} {m : List (List Int)} {v : List Int} (hw : lenI w) (hm : lenM m) (hv : lenI v) : l_FnExactMatrixImage p w m v = some true := by
  unfold l_FnExactMatrixImage
  by_cases hbig : 1048576 < (v.length : Int)
  · rw [if_pos hbig]
  rw [if_neg hbig, szDb_eq hw (by omega) (by omega), some_bind]
  by_cases h1 : ((w.length : Nat) : Int) ≤ 1048576
  · have hs : szv w.length 1048576 = 1048576 - ((w.length : Nat) : Int) := by unfold szv; rw [if_pos h1]
    rw [hs, if_neg (by omega), szM_eq hm (by omega) (by omega), some_bind]
    by_cases h2 : ((m.length + rowsum m : Nat) : Int) ≤ 1048576 - ((w.length : Nat) : Int)
    · have hs2 : szv (m.length + rowsum m) (1048576 - ((w.length : Nat) : Int)) = 1048576 - ((w.length : Nat) : Int) - ((m.length + rowsum m : Nat) : Int) := by unfold szv; rw [if_pos h2]
      rw [hs2, if_neg (by omega)]
      obtain ⟨za, ra⟩ := sz_split (m := m) (by omega) h2
      have hw' : w.length ≤ 1048576 := by omega
      have hv' : v.length ≤ 1048576 := by omega
      obtain ⟨V, C, e3, e4, hV⟩ := MatrixImage_eq (p := p) hw' za hv'
      have e1 := toM_eq za.1 za.2
      have e2 := toDb_eq (p := p) hw'
      have e0 := toI_eq hv'
      have e5 := eqDb_self (p := p) hw'
      have e6 := eqM_self za
      have e6b := eqI_self hv'
      have e7 := eqI_self (v := V) (by omega)
      have e8 := markDb_1 (p := p) hw'
      have e9 : l_markInt64SS m ((1 + w.length : Nat) : Int) = some (((1 + w.length + rowsum m : Nat) : Int), mrkM (1 + w.length) m) := markM_eq (by have := za.1; omega) (by omega)
      have e9b : l_markInt64S v ((1 + w.length + rowsum m : Nat) : Int) = some (((1 + w.length + rowsum m + v.length : Nat) : Int), mrkI (1 + w.length + rowsum m) v) := markI_eq (by omega)
      have e10 := markI_1 (xs := V) (by omega)
      have e11 := heldI_1 (xs := V) (by omega)
      simp only [e0, e1, e2, e3, e4, e5, e6, e6b, e7, e8, e9, e9b, e10, e11, some_bind, Bool.true_eq_false, Bool.false_eq_true, if_false, if_true, ieq_self, Bool.not_true, natneg, not_true_eq_false, bne_self_eq_false]
    · have hs2 : szv (m.length + rowsum m) (1048576 - ((w.length : Nat) : Int)) = -1 := by unfold szv; rw [if_neg h2]
      rw [hs2, if_pos (by omega)]
  · have hs : szv w.length 1048576 = -1 := by unfold szv; rw [if_neg h1]
    rw [hs, if_pos (by omega)]
end Go.Vam

/- Plain laws: the product of a doubling. -/
namespace Go.Vam
open Go Go.RowKit
set_option linter.unusedSimpArgs false
set_option linter.unusedVariables false
set_option linter.unusedSectionVars false

theorem gI_take {x : List Int} {h k : Nat} (hk : k < h) : gI (x.take h) k = gI x k := by
  unfold gI; rw [List.getD_eq_getElem?_getD, List.getD_eq_getElem?_getD, List.getElem?_take_of_lt hk]
theorem gI_drop {x : List Int} {h k : Nat} : gI (x.drop h) k = gI x (h + k) := by
  unfold gI; rw [List.getD_eq_getElem?_getD, List.getD_eq_getElem?_getD, List.getElem?_drop]
theorem gI_append {x y : List Int} {k : Nat} : gI (x ++ y) k = if k < x.length then gI x k else gI y (k - x.length) := by
  unfold gI; rw [List.getD_eq_getElem?_getD, List.getElem?_append]
  split <;> rw [List.getD_eq_getElem?_getD]
theorem gI_set {x : List Int} {i j : Nat} {a : Int} (hi : i < x.length) : gI (x.set i a) j = if i = j then a else gI x j := by
  unfold gI
  simp only [List.getD_eq_getElem?_getD, List.getElem?_set]
  by_cases h : i = j
  · subst h; simp [hi]
  · simp [h]
theorem Vec.take {p : Int} {a b : Nat} {x : List Int} (h : Vec p (a + b) x) : Vec p a (x.take a) :=
  ⟨by rw [List.length_take, h.1]; omega, fun k hk => by rw [gI_take hk]; exact h.2 k (by omega)⟩
theorem Vec.drop {p : Int} {a b : Nat} {x : List Int} (h : Vec p (a + b) x) : Vec p b (x.drop a) :=
  ⟨by rw [List.length_drop, h.1]; omega, fun k hk => by rw [gI_drop]; exact h.2 _ (by omega)⟩
theorem Vec.append {p : Int} {a b : Nat} {x y : List Int} (hx : Vec p a x) (hy : Vec p b y) : Vec p (a + b) (x ++ y) :=
  ⟨by rw [List.length_append, hx.1, hy.1], fun k hk => by
    rw [gI_append, hx.1]
    split
    · exact hx.2 k (by assumption)
    · exact hy.2 _ (by omega)⟩
theorem Vec.set {p : Int} {n i : Nat} {x : List Int} {a : Int} (hx : Vec p n x) (hi : i < n) (ha : 0 ≤ a ∧ a < p) : Vec p n (x.set i a) :=
  ⟨by rw [List.length_set, hx.1], fun k hk => by
    rw [gI_set (by rw [hx.1]; exact hi)]
    split
    · exact ha
    · exact hx.2 k hk⟩
theorem scalev_congr {p : Int} {n : Nat} {a : List Int} {k l : Int} (h : k % p = l % p) : scalev p n a k = scalev p n a l := by
  unfold scalev
  refine vecN_congr fun i _ => ?_
  rw [Int.mul_emod, h, ← Int.mul_emod]
/-- The conjugate. -/
def starv (p : Int) (n : Nat) (a : List Int) : List Int := (scalev p n a (-1)).set 0 (gI a 0)
section
variable {p : Int} {n : Nat} {a b : List Int} (hp : 3 ≤ p) (hp2 : p ≤ 13) (hn : n ≤ 1048576) (hn0 : 0 < n) (ha : Vec p n a) (hb : Vec p n b)
include hp hp2 hn
theorem s_l11Scale_eq {k : Int} (hk : 0 ≤ k) (hk2 : k ≤ 1000) (ha : Vec p n a) : s_l11Scale p k a = some (scalev p n a k) := by
  unfold s_l11Scale
  rw [map_loop _ n (fun i => (gI a i * k) % p) (by rw [BIG_val]; omega)]
  · rfl
  · intro i hi out ho
    unfold s_l11Scale_L0
    have e1 := ha.1
    have h1 := ha.get hi
    have h3 := mul_abs (a := gI a i) (b := k) (A := 12) (B := 1000) (by omega) (by omega)
    have h4 := Int.mul_nonneg h1.1 hk
    simp only [show (i : Int) < a.length by omega, if_true, idxI (show i < a.length by omega), some_bind]
    rw [Int.mul_comm k, w_in (x := gI a i * k) (by omega) (by omega), s_l01Mod_eq (by omega) (by omega) (by omega) (by omega), some_bind, chk_bind (by simp only [List.length_cons, List.length_nil]; omega), w_in (by omega) (by omega)]
    rfl
  · intro out ho
    unfold s_l11Scale_L0
    have e1 := ha.1
    simp [e1]
theorem s_l11Add_eq (ha : Vec p n a) (hb : Vec p n b) : s_l11Add p a b = some (plusv p n a b 1) := by
  unfold s_l11Add
  rw [map_loop _ n (fun i => (gI a i + 1 * gI b i) % p) (by rw [BIG_val]; omega)]
  · rfl
  · intro i hi out ho
    unfold s_l11Add_L0
    have e1 := ha.1; have e2 := hb.1
    have h1 := ha.get hi; have h2 := hb.get hi
    simp only [show (i : Int) < a.length by omega, if_true, idxI (show i < a.length by omega), idxI (show i < b.length by omega), some_bind]
    rw [w_in (x := gI a i + gI b i) (by omega) (by omega), s_l01Mod_eq (by omega) (by omega) (by omega) (by omega), some_bind, chk_bind (by simp only [List.length_cons, List.length_nil]; omega), w_in (by omega) (by omega), Int.one_mul]
    rfl
  · intro out ho
    unfold s_l11Add_L0
    have e1 := ha.1
    simp [e1]
include hn0
theorem starv_vec (ha : Vec p n a) : Vec p n (starv p n a) := (scalev_vec (by omega) ..).set hn0 (ha.get hn0)
theorem i_field_conjugate_eq (ha : Vec p n a) : i_field_conjugate p a = some (starv p n a) := by
  unfold i_field_conjugate starv
  have e1 := ha.1
  have e2 := (scalev_vec (p := p) (by omega) n a (-1)).1
  rw [i_field_scaled_eq (by omega) (by omega) hn (by omega) ha, some_bind, idxI0 (by omega), some_bind, idxI0 (by omega), some_bind]
theorem s_l11Star_eq (ha : Vec p n a) : s_l11Star p a = some (starv p n a) := by
  unfold s_l11Star starv
  have e1 := ha.1
  have e2 := (scalev_vec (p := p) (by omega) n a (-1)).1
  have e3 : scalev p n a (p - 1) = scalev p n a (-1) := scalev_congr (by
    have : p - 1 = -1 + p := by omega
    rw [this, Int.add_emod_right])
  rw [w_in (by omega) (by omega), s_l11Scale_eq hp hp2 hn (by omega) (by omega) ha, some_bind, idxI0 (by omega), some_bind, e3, idxI0 (by omega), some_bind]
end
theorem plusv_scalev {p : Int} {n : Nat} {a b : List Int} {k : Int} : plusv p n a (scalev p n b k) 1 = plusv p n a b k := by
  unfold plusv
  refine vecN_congr fun i hi => ?_
  unfold scalev
  rw [gI_vecN _ hi, Int.one_mul, Int.add_emod, Int.emod_emod_of_dvd _ (Int.dvd_refl p), ← Int.add_emod, Int.mul_comm]

/-- The product, by halves. -/
def mulr (p : Int) : Nat → List Int → List Int → List Int → List Int
  | 0, _, x, y => [gI x 0 * gI y 0 % p]
  | n + 1, w, x, y =>
    plusv p (2 ^ n) (mulr p n (w.take n) (x.take (2 ^ n)) (y.take (2 ^ n))) (mulr p n (w.take n) (starv p (2 ^ n) (y.drop (2 ^ n))) (x.drop (2 ^ n))) (gI w n) ++
    plusv p (2 ^ n) (mulr p n (w.take n) (y.drop (2 ^ n)) (x.take (2 ^ n))) (mulr p n (w.take n) (x.drop (2 ^ n)) (starv p (2 ^ n) (y.take (2 ^ n)))) 1
theorem mul_two {p : Int} (hp : 3 ≤ p) (hp2 : p ≤ 13) : ∀ (n : Nat) (w : List Int), n ≤ 8 → Vec p n w → ∀ N, n < N → ∀ x y, Vec p (2 ^ n) x → Vec p (2 ^ n) y →
    s_l11Mul N p w x y = some (mulr p n w x y) ∧ i_field_doubled N p w x y = some (mulr p n w x y) ∧ Vec p (2 ^ n) (mulr p n w x y) := by
  intro n
  induction n with
  | zero =>
    intro w _ hw N hN x y hx hy
    cases N with
    | zero => omega
    | succ N =>
      have h1 := hx.get (k := 0) (by decide)
      have h2 := hy.get (k := 0) (by decide)
      have e1 := hx.1; have e2 := hy.1; have e3 := hw.1
      have q := mul_abs (a := gI x 0) (b := gI y 0) (A := 13) (B := 13) (by omega) (by omega)
      unfold mulr
      refine ⟨?_, ?_, ⟨rfl, fun k hk => ?_⟩⟩
      · show s_l11Mul_b (s_l11Mul N) p w x y = _
        unfold s_l11Mul_b
        rw [if_pos (by omega), idxI0 (by rw [e1]; decide), some_bind, idxI0 (by rw [e2]; decide), some_bind, w_in (by omega) (by omega), s_l01Mod_eq (by omega) (by omega) (by omega) (by omega), some_bind]
      · show i_field_doubled_b (i_field_doubled N) p w x y = _
        unfold i_field_doubled_b
        rw [if_pos (by omega), idxI0 (by rw [e1]; decide), some_bind, idxI0 (by rw [e2]; decide), some_bind, w_in (by omega) (by omega), i_field_num_eq (by omega) (by omega) (by omega) (by omega), some_bind]
      · have hk0 : k = 0 := by simpa using hk
        subst hk0
        exact mod_num (by omega)
  | succ n ih =>
    intro w hn hw N hN x y hx hy
    cases N with
    | zero => omega
    | succ N =>
      have h256 : 2 ^ n ≤ 256 := by
        have : ∀ n, n ≤ 8 → 2 ^ n ≤ 256 := by decide
        exact this n (by omega)
      have hpos := two_pos n
      have hpow : 2 ^ (n + 1) = 2 ^ n + 2 ^ n := by rw [Nat.pow_succ]; omega
      unfold mulr
      rw [hpow] at hx hy ⊢
      have ih' := ih (w.take n) (by omega) hw.take N (by omega)
      generalize 2 ^ n = h at h256 hpos hx hy ih' ⊢
      have hc := hw.get (k := n) (by omega)
      have e0 := hw.1; have e1 := hx.1; have e2 := hy.1
      have t1 : w64 ((x.length : Int).tdiv 2) = (h : Int) := by
        rw [Int.tdiv_eq_ediv_of_nonneg (by omega), w_in (by omega) (by omega)]; omega
      have t2 : w64 ((w.length : Int) - 1) = (n : Int) := by rw [w_in (by omega) (by omega)]; omega
      obtain ⟨a1, b1, c1⟩ := ih' _ _ hx.take hy.take
      generalize mulr p n (w.take n) (x.take h) (y.take h) = z1 at a1 b1 c1 ⊢
      have s1 := s_l11Star_eq hp hp2 (by omega) hpos hy.drop
      have s2 := i_field_conjugate_eq hp hp2 (by omega) hpos hy.drop
      have s3 := starv_vec hp hp2 (by omega) hpos hy.drop
      obtain ⟨a2, b2, c2⟩ := ih' _ _ s3 hx.drop
      generalize mulr p n (w.take n) (starv p h (y.drop h)) (x.drop h) = z2 at a2 b2 c2 ⊢
      have u1 := s_l11Scale_eq hp hp2 (by omega) (k := gI w n) hc.1 (by omega) c2
      have u2 := s_l11Add_eq hp hp2 (by omega) c1 (scalev_vec (p := p) (by omega) h z2 (gI w n))
      have u3 := i_field_plus_eq (p := p) (n := h) (a := z1) (b := z2) (k := gI w n) (by omega) (by omega) (by omega) (by omega) c1 c2
      obtain ⟨a3, b3, c3⟩ := ih' _ _ hy.drop hx.take
      generalize mulr p n (w.take n) (y.drop h) (x.take h) = z3 at a3 b3 c3 ⊢
      have s4 := s_l11Star_eq hp hp2 (by omega) hpos hy.take
      have s5 := i_field_conjugate_eq hp hp2 (by omega) hpos hy.take
      have s6 := starv_vec hp hp2 (by omega) hpos hy.take
      obtain ⟨a4, b4, c4⟩ := ih' _ _ hx.drop s6
      generalize mulr p n (w.take n) (x.drop h) (starv p h (y.take h)) = z4 at a4 b4 c4 ⊢
      have u4 := s_l11Add_eq hp hp2 (by omega) c3 c4
      have u5 := i_field_plus_eq (p := p) (n := h) (a := z3) (b := z4) (k := 1) (by omega) (by omega) (by omega) (by omega) c3 c4
      have v1 := plusv_vec (p := p) (by omega) h z1 z2 (gI w n)
      have v2 := plusv_vec (p := p) (by omega) h z3 z4 1
      have l1 := v1.1; have l2 := v2.1
      refine ⟨?_, ?_, v1.append v2⟩
      · show s_l11Mul_b (s_l11Mul N) p w x y = _
        unfold s_l11Mul_b
        simp only [show ((w.length : Int) = 0) = False from eq_false (by omega), if_false, t1, t2, chk_bind (show (0 : Int) ≤ (n : Int) ∧ (n : Int) ≤ (w.length : Int) by omega), chk_bind (show (0 : Int) ≤ (h : Int) ∧ (h : Int) ≤ (x.length : Int) by omega), chk_bind (show (0 : Int) ≤ (h : Int) ∧ (h : Int) ≤ (y.length : Int) by omega),
          idxI (show n < w.length by omega), some_bind, Int.toNat_natCast, a1, s1, a2, u1, u2, plusv_scalev, a3, s4, a4, u4, chk_bind (show (plusv p h z1 z2 (gI w n)).length + (plusv p h z3 z4 1).length ≤ 1099511627776 by omega)]
      · show i_field_doubled_b (i_field_doubled N) p w x y = _
        unfold i_field_doubled_b
        simp only [show ((w.length : Int) = 0) = False from eq_false (by omega), if_false, t1, t2, chk_bind (show (0 : Int) ≤ (n : Int) ∧ (n : Int) ≤ (w.length : Int) by omega), chk_bind (show (0 : Int) ≤ (h : Int) ∧ (h : Int) ≤ (x.length : Int) by omega), chk_bind (show (0 : Int) ≤ (h : Int) ∧ (h : Int) ≤ (y.length : Int) by omega),
          idxI (show n < w.length by omega), some_bind, Int.toNat_natCast, b1, s2, b2, u3, b3, s5, b4, u5, chk_bind (show (plusv p h z1 z2 (gI w n)).length + (plusv p h z3 z4 1).length ≤ 1099511627776 by omega)]

/-- The product. -/
def mulp (p : Int) (w x y : List Int) : List Int := mulr p w.length w x y
section
variable {p : Int} {w x y : List Int} (hP : isP p = true) (hl : w.length ≤ 4) (hw : Vec p w.length w) (hx : Vec p (2 ^ w.length) x) (hy : Vec p (2 ^ w.length) y)
include hP hl hw hx hy
theorem mul_facts : s_l11Mul BIG p w x y = some (mulp p w x y) ∧ i_field_doubled BIG p w x y = some (mulp p w x y) ∧ Vec p (2 ^ w.length) (mulp p w x y) := by
  have hp := isP_le hP
  exact mul_two hp.1 hp.2 w.length w (by omega) hw BIG (by rw [BIG_val]; omega) x y hx hy
theorem s_l11Times_eq : s_l11Times p w x y = some (mulp p w x y) := by
  unfold s_l11Times; rw [(mul_facts hP hl hw hx hy).1, some_bind]
theorem i_Doubling_times_eq : i_Doubling_times p w x y = some (mulp p w x y) := by
  unfold i_Doubling_times i_Doubling_field; rw [some_bind, (mul_facts hP hl hw hx hy).2.1, some_bind]
theorem mulp_vec : Vec p (2 ^ w.length) (mulp p w x y) := (mul_facts hP hl hw hx hy).2.2
end
end Go.Vam
