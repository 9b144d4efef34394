import Derived.Test.YtjkknabmfdodeaaPlG1
/- Plain laws: products are associative; turned products; ranks and determinants of products. -/
namespace Go.Vam
open Go Go.RowKit
set_option linter.unusedSimpArgs false
set_option linter.unusedVariables false
set_option linter.unusedSectionVars false

theorem timesm_at {p : Int} {r n c i k : Nat} {a b : List (List Int)} (hi : i < r) (hk : k < c) : gI (gR (timesm p r n c a b) i) k = sumN (fun j => gI (gR a i) j * gI (gR b j) k) n % p := by
  unfold timesm
  rw [gR_vecN _ hi, gI_vecN _ hk]
theorem timesm_ext {p : Int} {r n n' c : Nat} {a b a' b' : List (List Int)} (h : ∀ i, i < r → ∀ k, k < c → sumN (fun j => gI (gR a i) j * gI (gR b j) k) n % p = sumN (fun j => gI (gR a' i) j * gI (gR b' j) k) n' % p) : timesm p r n c a b = timesm p r n' c a' b' := by
  unfold timesm
  exact vecN_congr fun i hi => vecN_congr fun k hk => h i hi k hk
theorem timesm_assoc {p : Int} {r n m c : Nat} {a b d : List (List Int)} : timesm p r m c (timesm p r n m a b) d = timesm p r n c a (timesm p n m c b d) := by
  refine timesm_ext fun i hi k hk => ?_
  have e1 : sumN (fun j => gI (gR (timesm p r n m a b) i) j * gI (gR d j) k) m % p = sumN (fun j => sumN (fun t => gI (gR a i) t * gI (gR b t) j * gI (gR d j) k) n) m % p := by
    refine sumN_mod fun j hj => ?_
    rw [timesm_at hi hj, sumN_mulR]
    exact mul_mod_l (emm _ _)
  have e2 : sumN (fun t => gI (gR a i) t * gI (gR (timesm p n m c b d) t) k) n % p = sumN (fun t => sumN (fun j => gI (gR a i) t * gI (gR b t) j * gI (gR d j) k) m) n % p := by
    refine sumN_mod fun t ht => ?_
    rw [timesm_at ht hk]
    rw [show sumN (fun j => gI (gR a i) t * gI (gR b t) j * gI (gR d j) k) m = gI (gR a i) t * sumN (fun j => gI (gR b t) j * gI (gR d j) k) m by
      rw [← sumN_mulL]; exact sumN_congr fun j _ => Int.mul_assoc ..]
    exact mul_mod_r (emm _ _)
  rw [e1, e2, sumN_comm]
theorem turn_times {p : Int} {r n c : Nat} {a b : List (List Int)} : turnm r c (timesm p r n c a b) = timesm p c n r (turnm n c b) (turnm r n a) := by
  unfold turnm
  conv => rhs; unfold timesm
  refine vecN_congr fun k hk => vecN_congr fun i hi => ?_
  rw [timesm_at hi hk]
  congr 1
  refine sumN_congr fun j hj => ?_
  have h1 : gI (gR (vecN c fun k => vecN n fun i => gI (gR b i) k) k) j = gI (gR b j) k := turnm_at (m := b) hj hk
  have h2 : gI (gR (vecN n fun k => vecN r fun i => gI (gR a i) k) j) i = gI (gR a i) j := turnm_at (m := a) hi hj
  rw [h1, h2, Int.mul_comm]
theorem times_rd {p : Int} {r n c i : Nat} {a b : List (List Int)} (hi : i < r) (u : Nat → Int) : p ∣ rd c (gR (timesm p r n c a b) i) u - sumN (fun j => gI (gR a i) j * rd c (gR b j) u) n := by
  have e : sumN (fun j => gI (gR a i) j * rd c (gR b j) u) n = sumN (fun k => sumN (fun j => gI (gR a i) j * gI (gR b j) k) n * u k) c := by
    have e1 : sumN (fun j => gI (gR a i) j * rd c (gR b j) u) n = sumN (fun j => sumN (fun k => gI (gR a i) j * gI (gR b j) k * u k) c) n := by
      refine sumN_congr fun j _ => ?_
      unfold rd
      rw [← sumN_mulL]
      exact sumN_congr fun k _ => (Int.mul_assoc ..).symm
    rw [e1, sumN_comm]
    exact sumN_congr fun k _ => by rw [sumN_mulR]
  rw [e]
  unfold rd
  refine sumN_cong_dvd fun k hk => ?_
  rw [timesm_at hi hk, ← mod_dvd]
  exact mul_mod_l (emm _ _)
theorem times_ker {p : Int} {r n c : Nat} {a b : List (List Int)} {u : Nat → Int} (h : KerP p n c b u) : KerP p r c (timesm p r n c a b) u := fun i hi =>
  dvd_of_sub (times_rd hi u) (sumN_dvd fun j hj => Int.dvd_mul_of_dvd_right (h j hj))
theorem rank_mul_r {p : Int} {r n c : Nat} {a b D E : List (List Int)} {ld le : Nat → Nat} (hP : isP p = true) (hr : r ≤ 1048000) (hc : c ≤ 1048000) (hD : Ech p c D ld) (hDk : ∀ u, Kr p c D u ↔ KerP p r c (timesm p r n c a b) u)
    (hE : Ech p c E le) (hEk : ∀ u, Kr p c E u ↔ KerP p n c b u) : D.length ≤ E.length := by
  have hle := hD.le
  refine steinitz (X := fun i q => gI (gR D i) q) (Y := fun j q => gI (gR E j) q) (M := fun i j => gI (gR D i) (le j)) hP (by omega) hD.indep fun i hi q hq => ?_
  refine hE.span (u := fun q => gI (gR D i) q) (fun y hy => ?_) q hq
  have h1 : KerP p r c (timesm p r n c a b) y := times_ker ((hEk y).1 hy)
  exact (hDk y).2 h1 i hi
theorem rank_mul_l {p : Int} {r n c : Nat} {a b D E : List (List Int)} {ld le : Nat → Nat} (hP : isP p = true) (hr : r ≤ 1048000) (hn : n ≤ 1048000) (hc : c ≤ 1048000) (ha : Mat p r n a) (hb : Mat p n c b) (hD : Ech p c D ld) (hDk : ∀ u, Kr p c D u ↔ KerP p r c (timesm p r n c a b) u)
    (hE : Ech p n E le) (hEk : ∀ u, Kr p n E u ↔ KerP p r n a u) : D.length ≤ E.length := by
  have hp := isP_le hP
  have hab := timesm_mat (p := p) (by omega) r n c a b
  obtain ⟨D', _, _, _, ⟨ld', hD'⟩, hDk'⟩ := i_basis_any hP (by omega) (by omega) (turnm_mat hab)
  obtain ⟨E', _, _, _, ⟨le', hE'⟩, hEk'⟩ := i_basis_any hP (by omega) (by omega) (turnm_mat ha)
  have h1 := rank_turn hP hr hc hab hD hDk hD' hDk'
  have h2 := rank_turn hP hr hn ha hE hEk hE' hEk'
  have h3 : D'.length ≤ E'.length := by
    refine rank_mul_r (a := turnm n c b) (b := turnm r n a) (r := c) (n := n) hP (by omega) (by omega) hD' (fun u => ?_) hE' hEk'
    rw [hDk' u, turn_times]
  omega
theorem Sg_full {p : Int} {n : Nat} {m D : List (List Int)} {ld : Nat → Nat} (hp : 1 < p) (hD : Ech p n D ld) (hDk : ∀ u, Kr p n D u ↔ KerP p n n m u) : ¬ Sg p n n m ↔ D.length = n := by
  rw [hD.full_iff hp]
  unfold Sg
  constructor
  · rintro h ⟨u, h1, h2⟩
    exact h ⟨u, h1, (hDk u).1 h2⟩
  · rintro h ⟨u, h1, h2⟩
    exact h ⟨u, h1, (hDk u).2 h2⟩
theorem det_mul {p : Int} {n : Nat} {a b : List (List Int)} {u v w : Int} (hP : isP p = true) (hu : p ∣ u - detL n a) (hv : p ∣ v - detL n b) (hw : 0 ≤ w ∧ w < p ∧ p ∣ w - detL n (timesm p n n n a b)) : w = (u * v) % p := by
  have hp := isP_le hP
  have h1 : p ∣ detL n (timesm p n n n a b) - detN n (mulN n (asN a) (asN b)) := detN_mod n fun i hi j hj => by
    unfold mulN asN
    rw [timesm_at hi hj, ← mod_dvd, emm]
  have h2 := detN_mul (n := n) hP (asN a) (asN b)
  have h3 : p ∣ u * v - detL n a * detL n b := dvd_mul_sub hu hv
  have h4 : p ∣ w - u * v := dvd_trans_sub hw.2.2 (dvd_trans_sub h1 (dvd_trans_sub h2 (dvd_sub_symm h3)))
  rw [← mod_dvd] at h4
  rw [← h4, mod_small hw.1 hw.2.1]
end Go.Vam

/- Plain laws: powers, exponents are added. -/
namespace Go.Vam
open Go Go.RowKit
set_option linter.unusedSimpArgs false
set_option linter.unusedVariables false
set_option linter.unusedSectionVars false

end Go.Vam

/- Plain laws: norms of elements; ConjugationBy. -/
namespace Go.Vam
open Go Go.RowKit
set_option linter.unusedSimpArgs false
set_option linter.unusedVariables false
set_option linter.unusedSectionVars false

section
variable {p : Int} {w x : List Int} (hP : isP p = true) (hl : w.length ≤ 4) (hw : Vec p w.length w) (hx : Vec p (2 ^ w.length) x)
include hP hl hw hx
end
section
variable {p : Int} {w a b : List Int} (hP : isP p = true) (hl : w.length ≤ 4) (hw : Vec p w.length w) (ha : Vec p (2 ^ w.length) a) (hb : Vec p (2 ^ w.length) b)
include hP hl hw ha hb
end
end Go.Vam

/- Plain law: FnMatrixProducts. -/
namespace Go.Vam
open Go Go.RowKit
set_option linter.unusedSimpArgs false
set_option linter.unusedVariables false
set_option linter.unusedSectionVars false

theorem below_is : g_p_laws_dice_below = s_l01Next := rfl
theorem list5_is : l_list5 = fun c a h n p => s_l01List c a h p n := rfl
theorem below_eq {c : List Int} {a h n : Int} (hS : Src c a) (hn : 1 ≤ n) (hn2 : n ≤ 4611686018427387904) :
    ∃ r a' h', g_p_laws_dice_below c a h n = some (r, (c, a', h')) ∧ 0 ≤ r ∧ r < n ∧ Src c a' := by rw [below_is]; exact next_eq hS hn hn2
theorem list5_eq {c : List Int} {a h p : Int} {n : Nat} (hS : Src c a) (hp : 1 ≤ p) (hp2 : p ≤ 100) (hn : n ≤ 1000) : ∃ v a' h', l_list5 c a h (n : Int) p = some (v, (c, a', h')) ∧ Vec p n v ∧ Src c a' := by rw [list5_is]; exact list_eq hS hp hp2 hn
theorem roll_eq {c : List Int} (k : Int) (hc : c.length ≤ 4096) (hb : ∀ x ∈ c, 0 ≤ x ∧ x ≤ 255) : ∃ h', l_roll c k = some (c, 0, h') ∧ Src c 0 := by
  unfold l_roll
  obtain ⟨b, h1, h', rfl⟩ := loop_inv (step := l_roll_L0 c) (fun s => ∃ (k : Nat) (h' : Int), s = (c, 0, h', (k : Int)) ∧ k ≤ c.length) (fun s => c.length - s.2.2.2.toNat)
    (fun b => ∃ h' : Int, b = (c, (0 : Int), h')) (s := (c, 0, IntKind.u64.wrap ((IntKind.u64.wrap (k * 7681)) + (IntKind.u64.wrap ((c.length : Int)))), 0)) ⟨0, _, rfl, by omega⟩ (by rw [BIG_val]; simp only []; omega) (by
      rintro s ⟨k, h', rfl, hk⟩
      unfold l_roll_L0
      by_cases hkn : k < c.length
      · refine .inl ?_
        simp only [lt_cast hkn, if_true, some_bind, idxI hkn]
        rw [w_in (by omega) (by omega)]
        exact ⟨_, rfl, ⟨k + 1, _, rfl, by omega⟩, by simp only []; omega⟩
      · have : k = c.length := by omega
        subst this
        refine .inr ⟨(c, 0, h'), ?_, h', rfl⟩
        simp)
  rw [h1, some_bind]
  exact ⟨h', rfl, hc, hb, by omega, by omega⟩
theorem matrix5_eq {c : List Int} {a h p : Int} {n k : Nat} (hS : Src c a) (hp : 1 ≤ p) (hp2 : p ≤ 100) (hn : n ≤ 1000) (hk : k ≤ 1000) : ∃ v a' h', l_matrix5 c a h (n : Int) (k : Int) p = some (v, (c, a', h')) ∧ Mat p n k v ∧ Src c a' := by
  unfold l_matrix5
  obtain ⟨b, h1, v, a', h', rfl, h3, h4⟩ := loop_inv (step := l_matrix5_L0 (k : Int) p) (fun s => ∃ (j : Nat) (a' h' : Int) (out : List (List Int)), s = (c, a', h', ((n - j : Nat) : Int), out) ∧ j ≤ n ∧ Mat p j k out ∧ Src c a') (fun s => s.2.2.2.1.toNat)
    (fun b => ∃ v a' h', b = (c, a', h', v) ∧ Mat p n k v ∧ Src c a') (s := (c, a, h, (n : Int), [])) ⟨0, a, h, [], rfl, by omega, ⟨rfl, fun i hi => by omega⟩, hS⟩ (by rw [BIG_val]; simp only []; omega) (by
      rintro s ⟨j, a', h', out, rfl, hj, hv, hS'⟩
      unfold l_matrix5_L0
      by_cases hjn : j < n
      · refine .inl ?_
        obtain ⟨r, a2, h2, e, r1, S2⟩ := list5_eq (h := h') (p := p) (n := k) hS' hp (by omega) hk
        have e3 := hv.1
        simp only [show (0 : Int) < ((n - j : Nat) : Int) by omega, if_true, e, some_bind]
        rw [chk_bind (by simp only [List.length_cons, List.length_nil]; omega), w_in (by omega) (by omega)]
        refine ⟨_, rfl, ⟨j + 1, a2, h2, out ++ [r], by congr 4; omega, by omega, Mat.append hv (mat_one r1), S2⟩, by simp only []; omega⟩
      · have : j = n := by omega
        subst this
        refine .inr ⟨(c, a', h', out), ?_, out, a', h', rfl, hv, hS'⟩
        simp)
  rw [h1, some_bind]
  exact ⟨v, a', h', rfl, h3, h4⟩
theorem DrawMul_eq {c : List Int} (hc : c.length ≤ 4096) (hb : ∀ x ∈ c, 0 ≤ x ∧ x ≤ 255) : ∃ (p : Int) (m n : List (List Int)), s_DrawMultiplyMatrices c = some (p, m, n) ∧ -3 ≤ p ∧ p ≤ 17 ∧ tabS m ∧ tabS n := by
  unfold s_DrawMultiplyMatrices
  obtain ⟨h0, e0, S0⟩ := from_eq hc hb
  obtain ⟨n1, a1, h1, e1, l1, u1, S1⟩ := size_eq (h := h0) S0
  obtain ⟨n2, a2, h2, e2, l2, u2, S2⟩ := size_eq (h := h1) S1
  obtain ⟨p, m, a3, h3, e3, p1, p2, hT, S3⟩ := spoil_eq (h := h2) (r := n1) (k := n2) S2 l1 (by omega) l2 (by omega)
  obtain ⟨r4, a4, h4, e4, p4, q4, S4⟩ := next_eq (h := h3) (n := 24) S3 (by omega) (by omega)
  simp only [e0, e1, e2, e3, e4, some_bind]
  obtain ⟨x7, ex, x1⟩ : ∃ x7 : Nat, ((if r4 = 0 then some (w64 ((n2 : Int) + 1)) else some (n2 : Int)) : Option Int) = some (x7 : Int) ∧ x7 ≤ 7 := by
    by_cases c0 : r4 = 0
    · exact ⟨n2 + 1, by rw [if_pos c0, w_in (by omega) (by omega)]; rfl, by omega⟩
    · exact ⟨n2, by rw [if_neg c0], by omega⟩
  rw [ex, some_bind, s_l01Prime_eq, some_bind]
  cases hP : isP p with
  | false => exact ⟨p, m, m, by simp, p1, p2, hT, hT⟩
  | true =>
    simp only [Bool.true_eq_false, if_false]
    obtain ⟨n5, a5, h5, e5, l5, u5, S5⟩ := size_eq (h := h4) S4
    obtain ⟨m', a6, h6, e6, m6, S6⟩ := draw_eq (h := h5) (p := p) (r := x7) (k := n5) S5 hP (by omega) (by omega)
    simp only [e5, e6, some_bind]
    exact ⟨p, m, m', rfl, p1, p2, hT, tabS.of m6 (by omega) (by omega)⟩

theorem s_IsMatrix_eq {p : Int} {m : List (List Int)} (h : szM m) : s_IsMatrix p m = some (isMat p m) := by
  unfold s_IsMatrix; rw [s_l02Is_eq h, some_bind]
theorem i_IsMatrix_eq {p : Int} {m : List (List Int)} (h : szM m) : i_IsMatrix p m = some (isMat p m) := by
  unfold i_IsMatrix
  rw [i_IsPrime_eq, some_bind]
  cases hP : isP p with
  | false => rw [isMat_tab, hP]; simp
  | true => simp only [if_true]; rw [i_field_isMatrix_eq hP h, some_bind, some_bind]
theorem isMat_of {p : Int} {r c : Nat} {m : List (List Int)} (hP : isP p = true) (hm : Mat p r c m) (hr0 : 1 ≤ r) (hr : r ≤ 16) (hc0 : 1 ≤ c) (hc : c ≤ 16) : isMat p m = true ∧ m.length = r ∧ wid m = c := by
  have e1 := hm.1
  have e2 : wid m = c := (hm.row (i := 0) (by omega)).1
  refine ⟨isMat_iff.2 ⟨hP, by omega, by omega, by omega, by omega, by rw [e1, e2]; exact hm⟩, e1, e2⟩
section
variable {p : Int} {r n c : Nat} {a b : List (List Int)} (hP : isP p = true) (ha : Mat p r n a) (hr0 : 1 ≤ r) (hr : r ≤ 16) (hn0 : 1 ≤ n) (hn : n ≤ 16)
include hP ha hr0 hr hn0 hn
theorem mul_ok (hb : Mat p n c b) (hc0 : 1 ≤ c) (hc : c ≤ 16) : i_MultiplyMatrices p a b = some (timesm p r n c a b, 0) := by
  obtain ⟨x1, x2, x3⟩ := isMat_of hP ha hr0 hr hn0 hn
  obtain ⟨y1, y2, y3⟩ := isMat_of hP hb hn0 hn hc0 hc
  rw [i_MultiplyMatrices_eq (ha.sz (by omega) (by omega)) (hb.sz (by omega) (by omega))]
  unfold muV muC
  simp only [x1, y1, Bool.and_self, if_true, x2, x3, y2, y3]
theorem turn_ok : i_TransposeMatrix p a = some (turnm r n a, 0) := by
  obtain ⟨x1, x2, x3⟩ := isMat_of hP ha hr0 hr hn0 hn
  unfold i_TransposeMatrix
  rw [checkM1 (ha.sz (by omega) (by omega)), some_bind, x1]
  simp only [if_true, not_true_eq_false, if_false, i_transpose_eq (r := r) (c := n) (by omega) (by omega) (by omega) ha, some_bind]
theorem rank_ok : ∃ B ld, i_RankOf p a = some ((B.length : Int), 0) ∧ Ech p n B ld ∧ ∀ u, Kr p n B u ↔ KerP p r n a u := by
  obtain ⟨x1, x2, x3⟩ := isMat_of hP ha hr0 hr hn0 hn
  obtain ⟨B, _, e, _, ⟨ld, hB⟩, hk⟩ := i_basis_any hP (by omega) (by omega) ha
  refine ⟨B, ld, ?_, hB, hk⟩
  unfold i_RankOf i_length_LI
  rw [checkM1 (ha.sz (by omega) (by omega)), some_bind, x1]
  simp only [if_true, not_true_eq_false, if_false, e, some_bind]
end
theorem det_ok {p : Int} {n : Nat} {a : List (List Int)} (hP : isP p = true) (ha : Mat p n n a) (hn0 : 1 ≤ n) (hn : n ≤ 16) :
    ∃ d, i_Determinant p a = some (d, 0) ∧ (d = 0 ↔ Sg p n n a) ∧ 0 ≤ d ∧ d < p ∧ p ∣ d - detL n a := by
  obtain ⟨x1, x2, x3⟩ := isMat_of hP ha hn0 hn hn0 hn
  obtain ⟨d, _, e, h1, h2⟩ := Det_val hP (by omega) ha
  refine ⟨d, ?_, h1, h2⟩
  have hq : sqC p a = 0 := by unfold sqC; rw [if_pos x1, if_pos (by omega)]
  unfold i_Determinant
  rw [i_checkSquare_eq (ha.sz (by omega) (by omega)), some_bind, hq]
  simp only [not_true_eq_false, if_false, e, some_bind]
theorem mod5_eq {p n : Int} (hp : 0 < p) (hp2 : p ≤ 1048576) (h1 : -9223372036854775808 ≤ n) (h2 : n ≤ 9223372036854775807) : l_mod5 p n = some (n % p) := by
  unfold l_mod5
  have hb := tmod_bounds n hp
  rw [chk_bind (by omega), chk_bind (by omega), w_in (by omega) (by omega), num_mod n hp]

theorem LawMatrixProducts {c : List Int} (hc : c.length ≤ 9223372036854775807) (hb : ∀ x ∈ c, 0 ≤ x ∧ x ≤ 255) : l_FnMatrixProducts c = some true := by
  unfold l_FnMatrixProducts l_big
  rw [some_bind]
  by_cases hbig : (4096 : Int) < (c.length : Int)
  · rw [ilt_true hbig, if_pos rfl]
  rw [ilt_false hbig]
  simp only [Bool.false_eq_true, if_false]
  obtain ⟨p, a, b, e0, p1, p2, hTa, hTb⟩ := DrawMul_eq (c := c) (by omega) hb
  rw [e0, some_bind]
  simp only []
  have ms := muV_sz p a b
  rw [i_MultiplyMatrices_eq hTa.sz hTb.sz, some_bind, s_MultiplyMatrices_eq hTa.sz hTb.sz, some_bind]
  simp only [not_true_eq_false, if_false, likeR_self ⟨ms.1, ms.2.1⟩, some_bind, Bool.true_eq_false, i_IsMatrix_eq hTa.sz, s_IsMatrix_eq hTa.sz, bne_self_eq_false, Bool.false_eq_true]
  by_cases h0 : muC p a b = 0
  rotate_left
  · rw [if_pos h0]
  rw [if_neg (by simp [h0])]
  have hab : isMat p a = true ∧ isMat p b = true ∧ wid a = b.length := by
    unfold muC at h0
    by_cases h1 : (isMat p a && isMat p b) = true
    · rw [if_pos h1] at h0
      rw [Bool.and_eq_true] at h1
      by_cases h2 : wid a = b.length
      · exact ⟨h1.1, h1.2, h2⟩
      · rw [if_neg h2] at h0; cases h0
    · rw [if_neg h1] at h0; cases h0
  obtain ⟨ma, mb, hwl⟩ := hab
  obtain ⟨a1, a2, a3, hP, a4, a5⟩ := isMat_sz ma
  obtain ⟨b1, b2, b3, _, b4, b5⟩ := isMat_sz mb
  have hp := isP_le hP
  have hV : muV p a b = timesm p a.length b.length (wid b) a b := by
    unfold muV; rw [ma, mb, if_pos hwl]; rfl
  rw [hV]
  rw [hwl] at a3 a2 a5
  generalize hr : a.length = r at a1 a3 a4 ⊢
  generalize hn : b.length = n at hwl b1 b3 b4 a3 a2 a5 ⊢
  generalize hk : wid b = k at b2 b3 b5 ⊢
  have hA : Mat p r n a := a3
  have hB : Mat p n k b := b3
  have hC := timesm_mat (p := p) (by omega) r n k a b
  obtain ⟨h5, e5, S5⟩ := roll_eq (c := c) 832 (by omega) hb
  obtain ⟨t, a6, h6, e6, t1, t2, S6⟩ := below_eq (h := h5) (n := 3) S5 (by omega) (by omega)
  obtain ⟨q, rfl⟩ := Int.eq_ofNat_of_zero_le t1
  have w1 : w64 (1 + ((q : Nat) : Int)) = ((1 + q : Nat) : Int) := by rw [w_in (by omega) (by omega)]; omega
  obtain ⟨E, a7, h7, e7, hE, S7⟩ := matrix5_eq (h := h6) (p := p) (n := k) (k := 1 + q) S6 (by omega) (by omega) (by omega) (by omega)
  have fb : idx b 0 = some (gR b 0) := idxR0 (by omega)
  have fbl : (gR b 0).length = k := (hB.row (i := 0) (by omega)).1
  have fa : idx a 0 = some (gR a 0) := idxR0 (by omega)
  have fal : (gR a 0).length = n := (hA.row (i := 0) (by omega)).1
  have hBE := timesm_mat (p := p) (by omega) n k (1 + q) b E
  have m1 := mul_ok hP hC (by omega) (by omega) (by omega) (by omega) hE (by omega) (by omega)
  have m2 := mul_ok hP hB (by omega) (by omega) (by omega) (by omega) hE (by omega) (by omega)
  have m3 := mul_ok hP hA (by omega) (by omega) (by omega) (by omega) hBE (by omega) (by omega)
  have m4 := turn_ok hP hA (by omega) (by omega) (by omega) (by omega)
  have m5 := turn_ok hP hB (by omega) (by omega) (by omega) (by omega)
  have m6 := turn_ok hP hC (by omega) (by omega) (by omega) (by omega)
  have m7 := mul_ok hP (turnm_mat hB) (by omega) (by omega) (by omega) (by omega) (turnm_mat hA) (by omega) (by omega)
  obtain ⟨DA, la, r1, hDA, kA⟩ := rank_ok hP hA (by omega) (by omega) (by omega) (by omega)
  obtain ⟨DB, lb, r2, hDB, kB⟩ := rank_ok hP hB (by omega) (by omega) (by omega) (by omega)
  obtain ⟨DC, lc, r3, hDC, kC⟩ := rank_ok hP hC (by omega) (by omega) (by omega) (by omega)
  have q1 := rank_mul_r hP (by omega) (by omega) hDC kC hDB kB
  have q2 := rank_mul_l hP (by omega) (by omega) (by omega) hA hB hDC kC hDA kA
  rw [timesm_assoc] at m1
  rw [← turn_times] at m7
  have z1 : szM (timesm p r n (1 + q) a (timesm p n k (1 + q) b E)) := (timesm_mat (p := p) (by omega) _ _ _ _ _).sz (by omega) (by omega)
  have z2 : szM (turnm r k (timesm p r n k a b)) := (turnm_mat hC).sz (by omega) (by omega)
  have l1 : ¬ (DA.length : Int) < (DC.length : Int) := by omega
  have l2 : ilt (DB.length : Int) (DC.length : Int) = false := ilt_false (by omega)
  simp only [e5, some_bind, fb, e6, fbl, Int.ofNat_eq_natCast, w1, e7, m1, m2, m3, m4, m5, m6, m7, r1, r2, r3, not_true_eq_false, if_false, likeR_self z1, likeR_self z2, Bool.true_eq_false, l1, l2, Bool.false_eq_true, fa, fal, hr]
  by_cases hsq : (r : Int) = (n : Int)
  rotate_left
  · rw [if_pos hsq]
  rw [if_neg (by simp [hsq])]
  have hrn : r = n := by omega
  subst hrn
  obtain ⟨O, a8, h8, e8, hO, S8⟩ := matrix5_eq (h := h7) (p := p) (n := r) (k := r) S7 (by omega) (by omega) (by omega) (by omega)
  have m8 := mul_ok hP hA (by omega) (by omega) (by omega) (by omega) hO (by omega) (by omega)
  have hAO := timesm_mat (p := p) (by omega) r r r a O
  obtain ⟨u, d1, u1, u2, u3, u4⟩ := det_ok hP hA (by omega) (by omega)
  obtain ⟨v, d2, v1, v2, v3, v4⟩ := det_ok hP hO (by omega) (by omega)
  obtain ⟨w, d3, w1', w2, w3, w4⟩ := det_ok hP hAO (by omega) (by omega)
  have hw := det_mul hP u4 v4 ⟨w2, w3, w4⟩
  have g1 := mul_abs (a := u) (b := v) (A := 13) (B := 13) (by omega) (by omega)
  have hfull := Sg_full (p := p) (by omega) hDA kA
  have g2 : w64 (u * v) = u * v := w_in (by omega) (by omega)
  have g3 : l_mod5 p (u * v) = some (u * v % p) := mod5_eq (by omega) (by omega) (by omega) (by omega)
  simp only [e8, some_bind, m8, d1, d2, d3, if_true, g2, g3, hw]
  by_cases hu : u = 0
  · have hne : ¬ DA.length = r := fun e => hfull.2 e (u1.1 hu)
    have e1 : ieq (DA.length : Int) (r : Int) = false := by rw [ieq_nat]; exact decide_eq_false hne
    rw [hu, e1]
    simp [ieq]
  · have hne : DA.length = r := hfull.1 fun h => hu (u1.2 h)
    have e1 : ieq (DA.length : Int) (r : Int) = true := by rw [ieq_nat]; exact decide_eq_true hne
    have e2 : ieq u 0 = false := by simp [ieq, hu]
    rw [e1, e2]
    rfl
end Go.Vam
