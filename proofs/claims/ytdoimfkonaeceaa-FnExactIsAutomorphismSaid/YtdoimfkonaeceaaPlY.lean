/- Plain laws: the product of a doubling. -/
import Derived.Test.YtdoimfkonaeceaaPlX
namespace Go.Vam
open Go Go.RowKit
set_option linter.unusedSimpArgs false
set_option linter.unusedVariables false
set_option linter.unusedSectionVars false

theorem gI_take {x : List Int} {h k : Nat} (hk : k < h) : gI (x.take h) k = gI x k := by
  unfold gI; rw [List.getD_eq_getElem?_getD, List.getD_eq_getElem?_getD, List.getElem?_take_of_lt hk]
theorem gI_drop {x : List Int} {h k : Nat} : gI (x.drop h) k = gI x (h + k) := by
  unfold gI; rw [List.getD_eq_getElem?_getD, List.getD_eq_getElem?_getD, List.getElem?_drop]
theorem gI_append {x y : List Int} {k : Nat} : gI (x ++ y) k = if k < x.length then gI x k else gI y (k - x.length) := by
  unfold gI; rw [List.getD_eq_getElem?_getD, List.getElem?_append]
  split <;> rw [List.getD_eq_getElem?_getD]
theorem gI_set {x : List Int} {i j : Nat} {a : Int} (hi : i < x.length) : gI (x.set i a) j = if i = j then a else gI x j := by
  unfold gI
  simp only [List.getD_eq_getElem?_getD, List.getElem?_set]
  by_cases h : i = j
  · subst h; simp [hi]
  · simp [h]
theorem Vec.take {p : Int} {a b : Nat} {x : List Int} (h : Vec p (a + b) x) : Vec p a (x.take a) :=
  ⟨by rw [List.length_take, h.1]; omega, fun k hk => by rw [gI_take hk]; exact h.2 k (by omega)⟩
theorem Vec.drop {p : Int} {a b : Nat} {x : List Int} (h : Vec p (a + b) x) : Vec p b (x.drop a) :=
  ⟨by rw [List.length_drop, h.1]; omega, fun k hk => by rw [gI_drop]; exact h.2 _ (by omega)⟩
theorem Vec.append {p : Int} {a b : Nat} {x y : List Int} (hx : Vec p a x) (hy : Vec p b y) : Vec p (a + b) (x ++ y) :=
  ⟨by rw [List.length_append, hx.1, hy.1], fun k hk => by
    rw [gI_append, hx.1]
    split
    · exact hx.2 k (by assumption)
    · exact hy.2 _ (by omega)⟩
theorem Vec.set {p : Int} {n i : Nat} {x : List Int} {a : Int} (hx : Vec p n x) (hi : i < n) (ha : 0 ≤ a ∧ a < p) : Vec p n (x.set i a) :=
  ⟨by rw [List.length_set, hx.1], fun k hk => by
    rw [gI_set (by rw [hx.1]; exact hi)]
    split
    · exact ha
    · exact hx.2 k hk⟩
theorem scalev_congr {p : Int} {n : Nat} {a : List Int} {k l : Int} (h : k % p = l % p) : scalev p n a k = scalev p n a l := by
  unfold scalev
  refine vecN_congr fun i _ => ?_
  rw [Int.mul_emod, h, ← Int.mul_emod]
/-- The conjugate. -/
def starv (p : Int) (n : Nat) (a : List Int) : List Int := (scalev p n a (-1)).set 0 (gI a 0)
section
variable {p : Int} {n : Nat} {a b : List Int} (hp : 3 ≤ p) (hp2 : p ≤ 13) (hn : n ≤ 1048576) (hn0 : 0 < n) (ha : Vec p n a) (hb : Vec p n b)
include hp hp2 hn
theorem s_l11Scale_eq {k : Int} (hk : 0 ≤ k) (hk2 : k ≤ 1000) (ha : Vec p n a) : s_l11Scale p k a = some (scalev p n a k) := by
  unfold s_l11Scale
  rw [map_loop _ n (fun i => (gI a i * k) % p) (by rw [BIG_val]; omega)]
  · rfl
  · intro i hi out ho
    unfold s_l11Scale_L0
    have e1 := ha.1
    have h1 := ha.get hi
    have h3 := mul_abs (a := gI a i) (b := k) (A := 12) (B := 1000) (by omega) (by omega)
    have h4 := Int.mul_nonneg h1.1 hk
    simp only [show (i : Int) < a.length by omega, if_true, idxI (show i < a.length by omega), some_bind]
    rw [Int.mul_comm k, w_in (x := gI a i * k) (by omega) (by omega), s_l01Mod_eq (by omega) (by omega) (by omega) (by omega), some_bind, chk_bind (by simp only [List.length_cons, List.length_nil]; omega), w_in (by omega) (by omega)]
    rfl
  · intro out ho
    unfold s_l11Scale_L0
    have e1 := ha.1
    simp [e1]
theorem s_l11Add_eq (ha : Vec p n a) (hb : Vec p n b) : s_l11Add p a b = some (plusv p n a b 1) := by
  unfold s_l11Add
  rw [map_loop _ n (fun i => (gI a i + 1 * gI b i) % p) (by rw [BIG_val]; omega)]
  · rfl
  · intro i hi out ho
    unfold s_l11Add_L0
    have e1 := ha.1; have e2 := hb.1
    have h1 := ha.get hi; have h2 := hb.get hi
    simp only [show (i : Int) < a.length by omega, if_true, idxI (show i < a.length by omega), idxI (show i < b.length by omega), some_bind]
    rw [w_in (x := gI a i + gI b i) (by omega) (by omega), s_l01Mod_eq (by omega) (by omega) (by omega) (by omega), some_bind, chk_bind (by simp only [List.length_cons, List.length_nil]; omega), w_in (by omega) (by omega), Int.one_mul]
    rfl
  · intro out ho
    unfold s_l11Add_L0
    have e1 := ha.1
    simp [e1]
include hn0
theorem starv_vec (ha : Vec p n a) : Vec p n (starv p n a) := (scalev_vec (by omega) ..).set hn0 (ha.get hn0)
theorem i_field_conjugate_eq (ha : Vec p n a) : i_field_conjugate p a = some (starv p n a) := by
  unfold i_field_conjugate starv
  have e1 := ha.1
  have e2 := (scalev_vec (p := p) (by omega) n a (-1)).1
  rw [i_field_scaled_eq (by omega) (by omega) hn (by omega) ha, some_bind, idxI0 (by omega), some_bind, idxI0 (by omega), some_bind]
theorem s_l11Star_eq (ha : Vec p n a) : s_l11Star p a = some (starv p n a) := by
  unfold s_l11Star starv
  have e1 := ha.1
  have e2 := (scalev_vec (p := p) (by omega) n a (-1)).1
  have e3 : scalev p n a (p - 1) = scalev p n a (-1) := scalev_congr (by
    have : p - 1 = -1 + p := by omega
    rw [this, Int.add_emod_right])
  rw [w_in (by omega) (by omega), s_l11Scale_eq hp hp2 hn (by omega) (by omega) ha, some_bind, idxI0 (by omega), some_bind, e3, idxI0 (by omega), some_bind]
end
theorem plusv_scalev {p : Int} {n : Nat} {a b : List Int} {k : Int} : plusv p n a (scalev p n b k) 1 = plusv p n a b k := by
  unfold plusv
  refine vecN_congr fun i hi => ?_
  unfold scalev
  rw [gI_vecN _ hi, Int.one_mul, Int.add_emod, Int.emod_emod_of_dvd _ (Int.dvd_refl p), ← Int.add_emod, Int.mul_comm]

/-- The product, by halves. -/
def mulr (p : Int) : Nat → List Int → List Int → List Int → List Int
  | 0, _, x, y => [gI x 0 * gI y 0 % p]
  | n + 1, w, x, y =>
    plusv p (2 ^ n) (mulr p n (w.take n) (x.take (2 ^ n)) (y.take (2 ^ n))) (mulr p n (w.take n) (starv p (2 ^ n) (y.drop (2 ^ n))) (x.drop (2 ^ n))) (gI w n) ++
    plusv p (2 ^ n) (mulr p n (w.take n) (y.drop (2 ^ n)) (x.take (2 ^ n))) (mulr p n (w.take n) (x.drop (2 ^ n)) (starv p (2 ^ n) (y.take (2 ^ n)))) 1
theorem mul_two {p : Int} (hp : 3 ≤ p) (hp2 : p ≤ 13) : ∀ (n : Nat) (w : List Int), n ≤ 8 → Vec p n w → ∀ N, n < N → ∀ x y, Vec p (2 ^ n) x → Vec p (2 ^ n) y →
    s_l11Mul N p w x y = some (mulr p n w x y) ∧ i_field_doubled N p w x y = some (mulr p n w x y) ∧ Vec p (2 ^ n) (mulr p n w x y) := by
  intro n
  induction n with
  | zero =>
    intro w _ hw N hN x y hx hy
    cases N with
    | zero => omega
    | succ N =>
      have h1 := hx.get (k := 0) (by decide)
      have h2 := hy.get (k := 0) (by decide)
      have e1 := hx.1; have e2 := hy.1; have e3 := hw.1
      have q := mul_abs (a := gI x 0) (b := gI y 0) (A := 13) (B := 13) (by omega) (by omega)
      unfold mulr
      refine ⟨?_, ?_, ⟨rfl, fun k hk => ?_⟩⟩
      · show s_l11Mul_b (s_l11Mul N) p w x y = _
        unfold s_l11Mul_b
        rw [if_pos (by omega), idxI0 (by rw [e1]; decide), some_bind, idxI0 (by rw [e2]; decide), some_bind, w_in (by omega) (by omega), s_l01Mod_eq (by omega) (by omega) (by omega) (by omega), some_bind]
      · show i_field_doubled_b (i_field_doubled N) p w x y = _
        unfold i_field_doubled_b
        rw [if_pos (by omega), idxI0 (by rw [e1]; decide), some_bind, idxI0 (by rw [e2]; decide), some_bind, w_in (by omega) (by omega), i_field_num_eq (by omega) (by omega) (by omega) (by omega), some_bind]
      · have hk0 : k = 0 := by simpa using hk
        subst hk0
        exact mod_num (by omega)
  | succ n ih =>
    intro w hn hw N hN x y hx hy
    cases N with
    | zero => omega
    | succ N =>
      have h256 : 2 ^ n ≤ 256 := by
        have : ∀ n, n ≤ 8 → 2 ^ n ≤ 256 := by decide
        exact this n (by omega)
      have hpos := two_pos n
      have hpow : 2 ^ (n + 1) = 2 ^ n + 2 ^ n := by rw [Nat.pow_succ]; omega
      unfold mulr
      rw [hpow] at hx hy ⊢
      have ih' := ih (w.take n) (by omega) hw.take N (by omega)
      generalize 2 ^ n = h at h256 hpos hx hy ih' ⊢
      have hc := hw.get (k := n) (by omega)
      have e0 := hw.1; have e1 := hx.1; have e2 := hy.1
      have t1 : w64 ((x.length : Int).tdiv 2) = (h : Int) := by
        rw [Int.tdiv_eq_ediv_of_nonneg (by omega), w_in (by omega) (by omega)]; omega
      have t2 : w64 ((w.length : Int) - 1) = (n : Int) := by rw [w_in (by omega) (by omega)]; omega
      obtain ⟨a1, b1, c1⟩ := ih' _ _ hx.take hy.take
      generalize mulr p n (w.take n) (x.take h) (y.take h) = z1 at a1 b1 c1 ⊢
      have s1 := s_l11Star_eq hp hp2 (by omega) hpos hy.drop
      have s2 := i_field_conjugate_eq hp hp2 (by omega) hpos hy.drop
      have s3 := starv_vec hp hp2 (by omega) hpos hy.drop
      obtain ⟨a2, b2, c2⟩ := ih' _ _ s3 hx.drop
      generalize mulr p n (w.take n) (starv p h (y.drop h)) (x.drop h) = z2 at a2 b2 c2 ⊢
      have u1 := s_l11Scale_eq hp hp2 (by omega) (k := gI w n) hc.1 (by omega) c2
      have u2 := s_l11Add_eq hp hp2 (by omega) c1 (scalev_vec (p := p) (by omega) h z2 (gI w n))
      have u3 := i_field_plus_eq (p := p) (n := h) (a := z1) (b := z2) (k := gI w n) (by omega) (by omega) (by omega) (by omega) c1 c2
      obtain ⟨a3, b3, c3⟩ := ih' _ _ hy.drop hx.take
      generalize mulr p n (w.take n) (y.drop h) (x.take h) = z3 at a3 b3 c3 ⊢
      have s4 := s_l11Star_eq hp hp2 (by omega) hpos hy.take
      have s5 := i_field_conjugate_eq hp hp2 (by omega) hpos hy.take
      have s6 := starv_vec hp hp2 (by omega) hpos hy.take
      obtain ⟨a4, b4, c4⟩ := ih' _ _ hx.drop s6
      generalize mulr p n (w.take n) (x.drop h) (starv p h (y.take h)) = z4 at a4 b4 c4 ⊢
      have u4 := s_l11Add_eq hp hp2 (by omega) c3 c4
      have u5 := i_field_plus_eq (p := p) (n := h) (a := z3) (b := z4) (k := 1) (by omega) (by omega) (by omega) (by omega) c3 c4
      have v1 := plusv_vec (p := p) (by omega) h z1 z2 (gI w n)
      have v2 := plusv_vec (p := p) (by omega) h z3 z4 1
      have l1 := v1.1; have l2 := v2.1
      refine ⟨?_, ?_, v1.append v2⟩
      · show s_l11Mul_b (s_l11Mul N) p w x y = _
        unfold s_l11Mul_b
        simp only [show ((w.length : Int) = 0) = False from eq_false (by omega), if_false, t1, t2, chk_bind (show (0 : Int) ≤ (n : Int) ∧ (n : Int) ≤ (w.length : Int) by omega), chk_bind (show (0 : Int) ≤ (h : Int) ∧ (h : Int) ≤ (x.length : Int) by omega), chk_bind (show (0 : Int) ≤ (h : Int) ∧ (h : Int) ≤ (y.length : Int) by omega),
          idxI (show n < w.length by omega), some_bind, Int.toNat_natCast, a1, s1, a2, u1, u2, plusv_scalev, a3, s4, a4, u4, chk_bind (show (plusv p h z1 z2 (gI w n)).length + (plusv p h z3 z4 1).length ≤ 1099511627776 by omega)]
      · show i_field_doubled_b (i_field_doubled N) p w x y = _
        unfold i_field_doubled_b
        simp only [show ((w.length : Int) = 0) = False from eq_false (by omega), if_false, t1, t2, chk_bind (show (0 : Int) ≤ (n : Int) ∧ (n : Int) ≤ (w.length : Int) by omega), chk_bind (show (0 : Int) ≤ (h : Int) ∧ (h : Int) ≤ (x.length : Int) by omega), chk_bind (show (0 : Int) ≤ (h : Int) ∧ (h : Int) ≤ (y.length : Int) by omega),
          idxI (show n < w.length by omega), some_bind, Int.toNat_natCast, b1, s2, b2, u3, b3, s5, b4, u5, chk_bind (show (plusv p h z1 z2 (gI w n)).length + (plusv p h z3 z4 1).length ≤ 1099511627776 by omega)]

/-- The product. -/
def mulp (p : Int) (w x y : List Int) : List Int := mulr p w.length w x y
section
variable {p : Int} {w x y : List Int} (hP : isP p = true) (hl : w.length ≤ 4) (hw : Vec p w.length w) (hx : Vec p (2 ^ w.length) x) (hy : Vec p (2 ^ w.length) y)
include hP hl hw hx hy
theorem mul_facts : s_l11Mul BIG p w x y = some (mulp p w x y) ∧ i_field_doubled BIG p w x y = some (mulp p w x y) ∧ Vec p (2 ^ w.length) (mulp p w x y) := by
  have hp := isP_le hP
  exact mul_two hp.1 hp.2 w.length w (by omega) hw BIG (by rw [BIG_val]; omega) x y hx hy
theorem s_l11Times_eq : s_l11Times p w x y = some (mulp p w x y) := by
  unfold s_l11Times; rw [(mul_facts hP hl hw hx hy).1, some_bind]
theorem i_Doubling_times_eq : i_Doubling_times p w x y = some (mulp p w x y) := by
  unfold i_Doubling_times i_Doubling_field; rw [some_bind, (mul_facts hP hl hw hx hy).2.1, some_bind]
theorem mulp_vec : Vec p (2 ^ w.length) (mulp p w x y) := (mul_facts hP hl hw hx hy).2.2
end
end Go.Vam
