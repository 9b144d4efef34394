import Derived.Test.YtijmfifejmgeaaaPlG1
import Derived.Test.YtijmfifejmgeaaaPlG0
import Derived.Test.YtijmfifejmgeaaaFmG0
/- Plain laws: FixingDimension. -/
namespace Go.Vam
open Go Go.RowKit
set_option linter.unusedSimpArgs false
set_option linter.unusedVariables false
set_option linter.unusedSectionVars false

theorem rd_comb {n k : Nat} (a : List Int) (c : Nat → Int) (X : Nat → Nat → Int) : rd n a (fun q => sumN (fun j => c j * X j q) k) = sumN (fun j => c j * rd n a (X j)) k := by
  unfold rd
  have e1 : sumN (fun q => gI a q * sumN (fun j => c j * X j q) k) n = sumN (fun q => sumN (fun j => c j * (gI a q * X j q)) k) n := sumN_congr fun q _ => by
    rw [← sumN_mulL]
    exact sumN_congr fun j _ => by rw [← Int.mul_assoc, ← Int.mul_assoc, Int.mul_comm (gI a q)]
  rw [e1, sumN_comm]
  exact sumN_congr fun j _ => sumN_mulL _ _ _
theorem rd_congr {p : Int} {n : Nat} {a : List Int} {u v : Nat → Int} (h : ∀ q, q < n → p ∣ u q - v q) : p ∣ rd n a u - rd n a v := by
  unfold rd
  rw [← sumN_sub]
  exact sumN_dvd fun q hq => by rw [← Int.mul_sub]; exact Int.dvd_mul_of_dvd_right (h q hq)
theorem fix_dim {p : Int} {N n : Nat} {B V B' V' W im : List (List Int)} {ld lv ld' lv' lw : Nat → Nat} {xr : Nat → List Int} (hP : isP p = true) (hN : N ≤ 1048000) (hn : n ≤ 1048000)
    (hB : Ech p N B ld) (hV : Ech p N V lv) (hVk : ∀ u, Kr p N V u ↔ KerP p (kerR p N B ld N).length N (kerR p N B ld N) u)
    (hB' : Ech p N B' ld') (hV' : Ech p N V' lv') (hVk' : ∀ u, Kr p N V' u ↔ KerP p (kerR p N B' ld' N).length N (kerR p N B' ld' N) u)
    (hBB : ∀ u, Kr p N B' u ↔ Kr p N B u ∧ ∀ a, a < n → p ∣ rd N (xr a) u)
    (hM : Mat p V.length n im) (him : ∀ j, j < V.length → ∀ a, a < n → p ∣ gI (gR im j) a - rd N (xr a) (gI (gR V j)))
    (hW : Ech p n W lw) (hWk : ∀ y, Kr p n W y ↔ KerP p V.length n im y) : V'.length + W.length = V.length := by
  have hp := isP_le hP
  have hVl := hV.le
  have hVl' := hV'.le
  obtain ⟨s1, s2⟩ := Kernel_span hB hV hVk
  obtain ⟨t1, t2⟩ := Kernel_span hB' hV' hVk'
  obtain ⟨D, _, _, _, ⟨lD, hD⟩, hDk⟩ := i_basis_any hP (show n ≤ 1048576 by omega) (show V.length ≤ 1048576 by omega) (turnm_mat hM)
  have hrank := rank_turn hP (by omega) hn hM hW hWk hD hDk
  have hkm := kerR_mat (p := p) (by omega) V.length D lD V.length
  have hkl := kerR_len p V.length D lD V.length
  obtain ⟨C, _, _, _, ⟨lc, hC⟩, hCk⟩ := i_basis_any hP (by omega) (by omega) hkm
  have hnul := nullity hP (by omega) hD hC hCk
  obtain ⟨c1, c2⟩ := Kernel_span hD hC hCk
  have hCl := hC.le
  have hDsay : ∀ c : Nat → Int, Kr p V.length D c ↔ ∀ a, a < n → p ∣ sumN (fun j => gI (gR im j) a * c j) V.length := fun c => by
    rw [hDk]
    unfold KerP rd
    constructor
    · intro h a ha
      have := h a ha
      rwa [sumN_congr (g := fun j => gI (gR im j) a * c j) fun j hj => by rw [turnm_at hj ha]] at this
    · intro h a ha
      rw [sumN_congr (g := fun j => gI (gR im j) a * c j) fun j hj => by rw [turnm_at hj ha]]
      exact h a ha
  have hLin : ∀ (c : Nat → Int) a, a < n → p ∣ sumN (fun j => gI (gR im j) a * c j) V.length - rd N (xr a) (fun q => sumN (fun j => c j * gI (gR V j) q) V.length) := fun c a ha => by
    rw [rd_comb (X := fun j => gI (gR V j)), ← sumN_sub]
    refine sumN_dvd fun j hj => ?_
    rw [Int.mul_comm (gI (gR im j) a), ← Int.mul_sub]
    exact Int.dvd_mul_of_dvd_right (him j hj a ha)
  have a1 : V'.length ≤ C.length := by
    refine steinitz (p := p) (n := N) (X := fun i q => gI (gR V' i) q) (Y := fun t q => sumN (fun j => gI (gR C t) j * gI (gR V j) q) V.length) (M := fun i t => gI (gR V' i) (lv (lc t))) hP (by omega) hV'.indep (fun i hi q hq => ?_)
    obtain ⟨u1, u2⟩ := (hBB _).1 (t1 i hi)
    have e1 := s2 _ u1
    have hcD : Kr p V.length D (fun j => gI (gR V' i) (lv j)) := (hDsay _).2 fun a ha => by
      refine dvd_of_sub (hLin _ a ha) (dvd_of_sub ?_ (u2 a ha))
      exact dvd_sub_symm (rd_congr fun q hq => e1 q hq)
    have e2 := c2 _ hcD
    refine dvd_trans_sub (e1 q hq) ?_
    have e3 : sumN (fun t => gI (gR V' i) (lv (lc t)) * sumN (fun j => gI (gR C t) j * gI (gR V j) q) V.length) C.length = sumN (fun j => sumN (fun t => gI (gR V' i) (lv (lc t)) * gI (gR C t) j) C.length * gI (gR V j) q) V.length := by
      have : sumN (fun t => gI (gR V' i) (lv (lc t)) * sumN (fun j => gI (gR C t) j * gI (gR V j) q) V.length) C.length = sumN (fun t => sumN (fun j => gI (gR V' i) (lv (lc t)) * gI (gR C t) j * gI (gR V j) q) V.length) C.length := sumN_congr fun t _ => by
        rw [← sumN_mulL]; exact sumN_congr fun j _ => (Int.mul_assoc _ _ _).symm
      rw [this, sumN_comm]
      exact sumN_congr fun j _ => sumN_mulR _ _ _
    rw [e3, ← sumN_sub]
    refine sumN_dvd fun j hj => ?_
    rw [← Int.sub_mul]
    exact Int.dvd_mul_of_dvd_left (e2 j hj)
  have a2 : C.length ≤ V'.length := by
    refine steinitz (p := p) (n := N) (X := fun t q => sumN (fun j => gI (gR C t) j * gI (gR V j) q) V.length) (Y := fun i q => gI (gR V' i) q) (M := fun t i => sumN (fun j => gI (gR C t) j * gI (gR V j) (lv' i)) V.length) hP (by omega) (fun d hd t ht => ?_) (fun t ht q hq => ?_)
    · refine hC.indep d (fun j hj => ?_) t ht
      refine hV.indep (fun j => sumN (fun t => d t * gI (gR C t) j) C.length) (fun q hq => ?_) j hj
      have := hd q hq
      have e : sumN (fun t => d t * sumN (fun j => gI (gR C t) j * gI (gR V j) q) V.length) C.length = sumN (fun j => sumN (fun t => d t * gI (gR C t) j) C.length * gI (gR V j) q) V.length := by
        have : sumN (fun t => d t * sumN (fun j => gI (gR C t) j * gI (gR V j) q) V.length) C.length = sumN (fun t => sumN (fun j => d t * gI (gR C t) j * gI (gR V j) q) V.length) C.length := sumN_congr fun t _ => by
          rw [← sumN_mulL]; exact sumN_congr fun j _ => (Int.mul_assoc _ _ _).symm
        rw [this, sumN_comm]
        exact sumN_congr fun j _ => sumN_mulR _ _ _
      rwa [e] at this
    · refine t2 (fun q => sumN (fun j => gI (gR C t) j * gI (gR V j) q) V.length) ((hBB _).2 ⟨fun i hi => ?_, fun a ha => ?_⟩) q hq
      · rw [rd_comb (X := fun j => gI (gR V j))]
        exact sumN_dvd fun j hj => Int.dvd_mul_of_dvd_right (s1 j hj i hi)
      · have h1 := (hDsay _).1 (c1 t ht) a ha
        exact dvd_of_sub (dvd_sub_symm (hLin _ a ha)) h1
  omega
theorem win_sum (g : Nat → Int) (a n : Nat) : ∀ M, sumN (fun q => if a ≤ q ∧ q < a + n then g (q - a) else 0) M = sumN g (min n (M - a))
  | 0 => by simp [sumN]
  | M + 1 => by
    simp only [sumN]
    rw [win_sum g a n M]
    by_cases h1 : a ≤ M
    · by_cases h2 : M < a + n
      · rw [if_pos ⟨h1, h2⟩, show min n (M - a) = M - a by omega, show min n (M + 1 - a) = (M - a) + 1 by omega]; rfl
      · rw [if_neg (by omega), show min n (M - a) = n by omega, show min n (M + 1 - a) = n by omega]; omega
    · rw [if_neg (by omega), show min n (M - a) = 0 by omega, show min n (M + 1 - a) = 0 by omega]; rfl
def fxR (n : Nat) (x : List Int) (i : Nat) : List Int := vecN (n * n) fun q => if i * n ≤ q ∧ q < i * n + n then gI x (q - i * n) else 0
theorem fxR_vec {p : Int} {n : Nat} {x : List Int} (hp : 0 < p) (hx : Vec p n x) (i : Nat) : Vec p (n * n) (fxR n x i) := Vec.mk' fun q hq => by
  split
  · exact hx.get (by omega)
  · omega
theorem fxR_rd {n : Nat} {x : List Int} {i : Nat} (hi : i < n) (u : Nat → Int) : rd (n * n) (fxR n x i) u = sumN (fun b => gI x b * u (i * n + b)) n := by
  have h1 := place_lt hi hi
  have h2 := Nat.mul_le_mul_right n (show i + 1 ≤ n by omega)
  rw [Nat.add_mul] at h2
  unfold rd fxR
  rw [sumN_congr (g := fun q => if i * n ≤ q ∧ q < i * n + n then gI x (q - i * n) * u (i * n + (q - i * n)) else 0) fun q hq => by
    rw [gI_vecN _ hq]
    split
    · rename_i h; rw [show i * n + (q - i * n) = q by omega]
    · rw [Int.zero_mul], win_sum (fun b => gI x b * u (i * n + b)), show min n (n * n - i * n) = n by omega]
section
variable {p : Int} {n : Nat} {x : List Int} (hp : 3 ≤ p) (hp2 : p ≤ 13) (hn0 : 0 < n) (hn : n ≤ 16) (hx : Vec p n x)
include hp hp2 hn0 hn hx
theorem s_fix_row {i : Nat} (hi : i < n) (a : List (List Int)) : loop (s_FixingDimension_L1 x (n : Int) (a, (i : Int))) BIG (List.replicate (n * n) 0, 0) = some (fxR n x i) := by
  have hNN : n * n ≤ 16 * 16 := Nat.mul_le_mul hn hn
  have hxl := hx.1
  have h2 := Nat.mul_le_mul_right n (show i + 1 ≤ n by omega)
  rw [Nat.add_mul] at h2
  obtain ⟨b, h1, h3⟩ := loop_inv (step := s_FixingDimension_L1 x (n : Int) (a, (i : Int))) (fun s => ∃ k : Nat, s.2 = (k : Int) ∧ k ≤ n ∧ s.1.length = n * n ∧ ∀ q, q < n * n → gI s.1 q = if i * n ≤ q ∧ q < i * n + k then gI x (q - i * n) else 0) (fun s => n - s.2.toNat) (fun b => b = fxR n x i) (s := (List.replicate (n * n) 0, 0))
    ⟨0, rfl, by omega, by simp, fun q hq => by
      rw [if_neg (by omega)]
      unfold gI
      rw [List.getD_eq_getElem?_getD, List.getElem?_replicate]; simp [hq]⟩ (by rw [BIG_val]; simp only []; omega) (by
      rintro ⟨v, t⟩ ⟨k, rfl, hk, hl, hg⟩
      try simp only [] at hl hg
      unfold s_FixingDimension_L1
      by_cases hkn : k < n
      · refine .inl ?_
        have w1 : w64 (w64 ((i : Int) * (n : Int)) + (k : Int)) = ((i * n + k : Nat) : Int) := by
          have : (i : Int) * (n : Int) = ((i * n : Nat) : Int) := (Int.natCast_mul ..).symm
          have w0 : w64 ((i * n : Nat) : Int) = ((i * n : Nat) : Int) := w_in (by omega) (by omega)
          rw [this, w0, w_in (by omega) (by omega)]; omega
        simp only [lt_cast hkn, if_true, w1, Int.toNat_natCast]
        rw [idxI (by omega), some_bind, idxI (by omega), some_bind, w_in (by omega) (by omega)]
        refine ⟨_, rfl, ⟨k + 1, rfl, by omega, by simp [hl], fun q hq => ?_⟩, by simp only []; omega⟩
        try simp only []
        rw [gI_set (by omega)]
        by_cases hq1 : i * n + k = q
        · rw [if_pos hq1, if_pos (by omega), show q - i * n = k by omega]
        · rw [if_neg hq1, hg q hq]
          by_cases h : i * n ≤ q ∧ q < i * n + k
          · rw [if_pos h, if_pos (by omega)]
          · rw [if_neg h, if_neg (by omega)]
      · have hkk : k = n := by omega
        subst hkk
        refine .inr ⟨v, ?_, extI hl hg⟩
        simp only [lt_cast_self, if_false])
  rw [h1, h3]
theorem s_fix_loop {E : List (List Int)} (hE : E.length ≤ 10000) : loop (s_FixingDimension_L0 x (n : Int)) BIG (E, 0) = some (E ++ vecN n (fxR n x)) := by
  have hNN : n * n ≤ 16 * 16 := Nat.mul_le_mul hn hn
  have hN : w64 ((n : Int) * (n : Int)) = ((n * n : Nat) : Int) := by
    rw [← Int.natCast_mul, w_in (by omega) (by omega)]
  refine app_loop _ n (fxR n x) E (by rw [BIG_val]; omega) (fun k hk o ho => ?_) (fun o ho => ?_)
  · unfold s_FixingDimension_L0
    simp only [lt_cast hk, if_true, hN, Int.toNat_natCast]
    rw [chk_bind (by omega), s_fix_row hp hp2 hn0 hn hx hk, some_bind, chk_bind (by simp only [List.length_cons, List.length_nil]; omega), w_in (by omega) (by omega)]; rfl
  · unfold s_FixingDimension_L0
    simp only [lt_cast_self, if_false]
end
end Go.Vam

/- Plain laws: DerivationDimension. -/
namespace Go.Vam
open Go Go.RowKit
set_option linter.unusedSimpArgs false
set_option linter.unusedVariables false
set_option linter.unusedSectionVars false

end Go.Vam

/- Plain law: the reduced rows that a table sends to nothing. -/
namespace Go.Vam
open Go Go.RowKit
set_option linter.unusedSimpArgs false
set_option linter.unusedVariables false
set_option linter.unusedSectionVars false

section
variable {p : Int} {n : Nat} {B : List (List Int)} {ld : Nat → Nat} (hP : isP p = true) (hn : n ≤ 1048000) (hB : Ech p n B ld)
include hP hn hB
end
end Go.Vam

/- Plain laws: what is drawn from a code. -/
namespace Go.Vam
open Go Go.RowKit
set_option linter.unusedSimpArgs false
set_option linter.unusedVariables false
set_option linter.unusedSectionVars false

structure Src (c : List Int) (a : Int) : Prop where
  len : c.length ≤ 4096
  byte : ∀ x ∈ c, 0 ≤ x ∧ x ≤ 255
  pos : 0 ≤ a
  le : a ≤ c.length

theorem band_le (h : Int) : 0 ≤ w64 (band .u64 h 16777215) ∧ w64 (band .u64 h 16777215) ≤ 16777215 := by
  have h1 : ((BitVec.ofInt 64 h &&& BitVec.ofInt 64 16777215).toNat : Nat) ≤ 16777215 := by
    rw [BitVec.toNat_and]
    exact Nat.le_trans Nat.and_le_right (by decide)
  have h2 : band .u64 h 16777215 = ((BitVec.ofInt 64 h &&& BitVec.ofInt 64 16777215).toNat : Int) := by
    unfold band
    show IntKind.u64.wrap ((BitVec.ofInt 64 h &&& BitVec.ofInt 64 16777215).toNat : Int) = _
    generalize (BitVec.ofInt 64 h &&& BitVec.ofInt 64 16777215).toNat = n at h1
    simp only [IntKind.wrap, IntKind.signed, IntKind.bits]
    simp
    omega
  rw [h2, w_in (by omega) (by omega)]
  omega
theorem next_eq {c : List Int} {a h n : Int} (hS : Src c a) (hn : 1 ≤ n) (hn2 : n ≤ 4611686018427387904) :
    ∃ r a' h', s_l01Next c a h n = some (r, (c, a', h')) ∧ 0 ≤ r ∧ r < n ∧ Src c a' := by
  unfold s_l01Next
  rw [if_neg (by omega)]
  by_cases hlt : a < (c.length : Int)
  · obtain ⟨k, rfl⟩ := Int.eq_ofNat_of_zero_le hS.pos
    have hk : k < c.length := by omega
    rw [if_pos (by omega), idxI hk, some_bind, some_bind, chk_bind (by omega)]
    have hb := hS.byte (gI c k) (by rw [show gI c k = c[k] from by unfold gI; simp [hk]]; exact List.getElem_mem hk)
    obtain ⟨b1, b2⟩ := band_le (shr .u64 (IntKind.u64.wrap ((IntKind.u64.wrap (h * 6364136223846793005)) + 1442695040888963407)) 33)
    refine ⟨_, _, _, rfl, ?_, ?_, hS.len, hS.byte, ?_, ?_⟩
    · simp only []
      rw [w_in (x := gI c k) (by omega) (by omega), w_in (by omega) (by omega), tmod_nn (by omega)]
      exact Int.emod_nonneg _ (by omega)
    · simp only []
      rw [w_in (x := gI c k) (by omega) (by omega), w_in (by omega) (by omega), tmod_nn (by omega)]
      exact Int.emod_lt_of_pos _ (by omega)
    · simp only []; have := hS.len; rw [w_in (by omega) (by omega)]; omega
    · simp only []; have := hS.len; rw [w_in (by omega) (by omega)]; omega
  · rw [if_neg hlt, some_bind, chk_bind (by omega)]
    obtain ⟨b1, b2⟩ := band_le (shr .u64 (IntKind.u64.wrap ((IntKind.u64.wrap (h * 6364136223846793005)) + 1442695040888963407)) 33)
    refine ⟨_, _, _, rfl, ?_, ?_, hS⟩
    · simp only []
      rw [tmod_nn (by omega)]
      exact Int.emod_nonneg _ (by omega)
    · simp only []
      rw [tmod_nn (by omega)]
      exact Int.emod_lt_of_pos _ (by omega)
theorem pick_eq {c : List Int} {a h : Int} {l : List Int} (hS : Src c a) (hl : 1 ≤ l.length) (hl2 : l.length ≤ 100) :
    ∃ x a' h', s_l01Pick c a h l = some (x, (c, a', h')) ∧ x ∈ l ∧ Src c a' := by
  unfold s_l01Pick
  obtain ⟨r, a', h', e, r1, r2, r3⟩ := next_eq (h := h) (n := (l.length : Int)) hS (by omega) (by omega)
  rw [e, some_bind]
  obtain ⟨k, rfl⟩ := Int.eq_ofNat_of_zero_le r1
  have hk : k < l.length := by omega
  rw [idxk hk, some_bind]
  exact ⟨_, _, _, rfl, List.getElem_mem hk, r3⟩
def tabS (m : List (List Int)) : Prop := m.length ≤ 17 ∧ ∀ x ∈ m, x.length ≤ 18
theorem tabS.sz {m : List (List Int)} (h : tabS m) : szM m := ⟨by have := h.1; omega, fun r hr => by have := h.2 r hr; omega⟩
theorem tabS.of {p : Int} {r k : Nat} {m : List (List Int)} (h : Mat p r k m) (hr : r ≤ 17) (hk : k ≤ 18) : tabS m := by
  refine ⟨by rw [h.1]; exact hr, fun x hx => ?_⟩
  obtain ⟨i, hi, rfl⟩ := List.getElem_of_mem hx
  have e := (h.2 i (by have := h.1; omega)).1
  rw [← gR_get hi] at e
  omega
theorem tabS.set {m : List (List Int)} (h : tabS m) (i : Nat) {x : List Int} (hx : x.length ≤ 18) : tabS (m.set i x) := by
  refine ⟨by rw [List.length_set]; exact h.1, fun y hy => ?_⟩
  rcases List.mem_or_eq_of_mem_set hy with h1 | h1
  · exact h.2 y h1
  · rw [h1]; exact hx
theorem from_eq {c : List Int} (hc : c.length ≤ 4096) (hb : ∀ x ∈ c, 0 ≤ x ∧ x ≤ 255) : ∃ h', s_l01From c = some (c, 0, h') ∧ Src c 0 := by
  unfold s_l01From
  obtain ⟨b, h1, h', rfl⟩ := loop_inv (step := s_l01From_L0 c) (fun s => ∃ (k : Nat) (h' : Int), s = (c, 0, h', (k : Int)) ∧ k ≤ c.length) (fun s => c.length - s.2.2.2.toNat)
    (fun b => ∃ h' : Int, b = (c, (0 : Int), h')) (s := (c, 0, IntKind.u64.wrap (4409 + (IntKind.u64.wrap ((c.length : Int)))), 0)) ⟨0, _, rfl, by omega⟩ (by rw [BIG_val]; simp only []; omega) (by
      rintro s ⟨k, h', rfl, hk⟩
      unfold s_l01From_L0
      by_cases hkn : k < c.length
      · refine .inl ?_
        simp only [lt_cast hkn, if_true, some_bind, ilt_true (show (k : Int) < 4096 by omega), idxI hkn]
        rw [w_in (by omega) (by omega)]
        exact ⟨_, rfl, ⟨k + 1, _, rfl, by omega⟩, by simp only []; omega⟩
      · have : k = c.length := by omega
        subst this
        refine .inr ⟨(c, 0, h'), ?_, h', rfl⟩
        simp)
  rw [h1, some_bind]
  exact ⟨h', rfl, hc, hb, by omega, by omega⟩
end Go.Vam

/- Plain laws: reflections keep the products of vectors. -/
namespace Go.Vam
open Go Go.RowKit
set_option linter.unusedSimpArgs false
set_option linter.unusedVariables false
set_option linter.unusedSectionVars false

def pairS (n : Nat) (w x y : List Int) : Int := sumN (fun k => gI x k * gI y k * gI w k) n
theorem pairp_S (p : Int) (n : Nat) (w x y : List Int) : pairp p n w x y = pairS n w x y % p := rfl
theorem pairS_comm (n : Nat) (w x y : List Int) : pairS n w x y = pairS n w y x := by
  unfold pairS
  exact sumN_congr fun k _ => by rw [Int.mul_comm (gI x k)]
theorem pairS_lin {p : Int} {n : Nat} {w x x' u y : List Int} {c : Int} (h : ∀ k, k < n → gI x' k % p = (gI x k + c * gI u k) % p) : pairS n w x' y % p = (pairS n w x y + c * pairS n w u y) % p := by
  unfold pairS
  rw [← sumN_lin]
  refine sumN_mod fun k hk => ?_
  rw [Int.mul_assoc, mul_mod_l (h k hk)]
  congr 1
  rw [Int.add_mul, Int.mul_assoc, Int.mul_assoc, Int.mul_assoc]
def reflv (p : Int) (n : Nat) (w u v : List Int) : List Int := plusv p n v u (-2 * pairS n w u v * invp p (pairp p n w u u))
theorem reflv_vec {p : Int} (hp : 0 < p) (n : Nat) (w u v : List Int) : Vec p n (reflv p n w u v) := plusv_vec hp ..
theorem reflv_at {p : Int} {n k : Nat} {w u v : List Int} (hk : k < n) : gI (reflv p n w u v) k = (gI v k + (-2 * pairS n w u v * invp p (pairp p n w u u)) * gI u k) % p := plusv_at hk
theorem inv_dvd {p a : Int} (hP : isP p = true) (h0 : a % p ≠ 0) : p ∣ invp p (a % p) * a - 1 := by
  have hp := isP_le hP
  have hn := mod_num (a := a) (p := p) (by omega)
  obtain ⟨_, _, i3⟩ := inv_facts (a := a % p) hP (by omega) hn.2
  rw [← mod_dvd, Int.emod_eq_of_lt (show (0 : Int) ≤ 1 by omega) (by omega), Int.mul_comm, ← i3]
  exact (mul_mod_l (emm a p)).symm
theorem reflv_pair {p : Int} {n : Nat} {w u : List Int} (hP : isP p = true) (hu : pairp p n w u u ≠ 0) (x y : List Int) :
    pairp p n w (reflv p n w u x) (reflv p n w u y) = pairp p n w x y := by
  rw [pairp_S, pairp_S]
  have ht := inv_dvd hP (a := pairS n w u u) hu
  rw [← pairp_S] at ht
  have hx : ∀ k, k < n → gI (reflv p n w u x) k % p = (gI x k + (-2 * pairS n w u x * invp p (pairp p n w u u)) * gI u k) % p := fun k hk => by rw [reflv_at hk, emm]
  have hy : ∀ k, k < n → gI (reflv p n w u y) k % p = (gI y k + (-2 * pairS n w u y * invp p (pairp p n w u u)) * gI u k) % p := fun k hk => by rw [reflv_at hk, emm]
  have h1 := mod_dvd.1 (pairS_lin (w := w) (y := reflv p n w u y) hx)
  have h2 := mod_dvd.1 (pairS_lin (w := w) (y := x) hy)
  have h3 := mod_dvd.1 (pairS_lin (w := w) (y := u) hy)
  rw [pairS_comm n w x (reflv p n w u y), pairS_comm n w u (reflv p n w u y)] at h1
  rw [pairS_comm n w y x, pairS_comm n w u x] at *
  rw [pairS_comm n w y u] at h3
  generalize hX : pairS n w x u = X at *
  generalize hY : pairS n w u y = Y at *
  generalize invp p (pairp p n w u u) = t at *
  generalize pairS n w u u = Q at *
  generalize pairS n w x y = Z at *
  generalize pairS n w (reflv p n w u x) (reflv p n w u y) = A at *
  generalize pairS n w (reflv p n w u y) x = B at *
  generalize pairS n w (reflv p n w u y) u = C at *
  rw [mod_dvd]
  obtain ⟨k1, e1⟩ := h1
  obtain ⟨k2, e2⟩ := h2
  obtain ⟨k3, e3⟩ := h3
  obtain ⟨k4, e4⟩ := ht
  exact ⟨k1 + k2 + (-2 * X * t) * k3 + 4 * X * Y * t * k4, by grind⟩
def reflm (p : Int) (n : Nat) (w u : List Int) : List (List Int) := turnm n n (vecN n fun k => reflv p n w u (axis n k))
theorem pairS_axis {n k : Nat} {w u : List Int} (hk : k < n) : pairS n w u (axis n k) = gI u k * gI w k := by
  unfold pairS
  rw [sumN_one hk (fun q hq hqk => by rw [gI_axis hk, if_neg hqk]; simp), gI_axis hk, if_pos rfl, Int.mul_one]
theorem reflm_at {p : Int} {n r k : Nat} {w u : List Int} (hr : r < n) (hk : k < n) : gI (gR (reflm p n w u) r) k = ((if r = k then 1 else 0) + (-2 * (gI u k * gI w k) * invp p (pairp p n w u u)) * gI u r) % p := by
  unfold reflm
  rw [turnm_at hk hr, gR_vecN _ hk, reflv_at hr, gI_axis hk, pairS_axis hk]
theorem refl_times {p : Int} {n i : Nat} {w u : List Int} {m : List (List Int)} (hp : 0 < p) (hi : i < n) :
    gR (turnm n n (timesm p n n n (reflm p n w u) m)) i = reflv p n w u (gR (turnm n n m) i) := by
  have hv := (reflv_vec hp n w u (gR (turnm n n m) i)).1
  rw [extI hv (f := gI (reflv p n w u (gR (turnm n n m) i))) fun k _ => rfl]
  refine extI (by unfold turnm; rw [gR_vecN _ hi, vecN_len]) fun r hr => ?_
  rw [turnm_at hr hi, reflv_at hr, turnm_at hr hi]
  unfold timesm
  rw [gR_vecN _ hr, gI_vecN _ hi]
  have e1 : sumN (fun j => gI (gR (reflm p n w u) r) j * gI (gR m j) i) n % p = sumN (fun j => (if r = j then gI (gR m j) i else 0) + (-2 * invp p (pairp p n w u u) * gI u r) * (gI u j * gI (gR m j) i * gI w j)) n % p := by
    refine sumN_mod fun j hj => ?_
    rw [reflm_at hr hj, mul_mod_l (emm _ _)]
    congr 1
    split <;> grind
  rw [e1, sumN_lin, sumN_one hr (fun q hq hqr => if_neg (fun e => hqr e.symm)), if_pos rfl]
  congr 2
  have e2 : sumN (fun k => gI u k * gI (gR m k) i * gI w k) n = pairS n w u (gR (turnm n n m) i) := by
    unfold pairS
    exact sumN_congr fun k hk => by rw [turnm_at hk hi]
  rw [e2]
  grind
def IsoT (p : Int) (n : Nat) (w : List Int) (m : List (List Int)) : Prop := ∀ i, i < n → ∀ j, j < n → pairp p n w (gR (turnm n n m) i) (gR (turnm n n m) j) = if i = j then gI w i else 0
theorem IsoT.refl {p : Int} {n : Nat} {w u : List Int} {m : List (List Int)} (hP : isP p = true) (h : IsoT p n w m) (hu : pairp p n w u u ≠ 0) : IsoT p n w (timesm p n n n (reflm p n w u) m) := by
  have hp := isP_le hP
  intro i hi j hj
  rw [refl_times (by omega) hi, refl_times (by omega) hj, reflv_pair hP hu]
  exact h i hi j hj
end Go.Vam

/- Plain laws: decompositions into reflections; HasSquareNorm. -/
namespace Go.Vam
open Go Go.RowKit
set_option linter.unusedSimpArgs false
set_option linter.unusedVariables false
set_option linter.unusedSectionVars false

section
variable {p : Int} {n : Nat} {w u : List Int} (hP : isP p = true) (hn0 : 0 < n) (hn : n ≤ 1000) (hwl : w.length = n) (hw : Vec p n w) (hu : Vec p n u) (hQ : pairp p n w u u ≠ 0)
include hP hn0 hn hwl hw hu hQ
end
def RowsV (p : Int) (n : Nat) (L : List (List Int)) : Prop := ∀ r ∈ L, Vec p n r
section
variable {p : Int} {n : Nat} {w : List Int} (hP : isP p = true) (hn0 : 0 < n) (hn : n ≤ 1000) (hwl : w.length = n) (hw : Vec p n w) (hz : ∀ k, k < n → gI w k ≠ 0)
include hP hn0 hn hwl hw hz
end
end Go.Vam

/- Plain laws: systems of equations and spans. -/
namespace Go.Vam
open Go Go.RowKit
set_option linter.unusedSimpArgs false
set_option linter.unusedVariables false
set_option linter.unusedSectionVars false

end Go.Vam

/- Plain law: FnKernels. -/
namespace Go.Vam
open Go Go.RowKit
set_option linter.unusedSimpArgs false
set_option linter.unusedVariables false
set_option linter.unusedSectionVars false

end Go.Vam

/- Plain laws: determinants of numbers, by expansion; they are multiplied with tables. -/
namespace Go.Vam
open Go Go.RowKit
set_option linter.unusedSimpArgs false
set_option linter.unusedVariables false
set_option linter.unusedSectionVars false

def skipN (i a : Nat) : Nat := if a < i then a else a + 1
def sgnN (i : Nat) : Int := if i % 2 = 0 then 1 else -1
def detN : Nat → (Nat → Nat → Int) → Int
  | 0, _ => 1
  | n + 1, M => sumN (fun i => sgnN i * M i 0 * detN n (fun a b => M (skipN i a) (b + 1))) (n + 1)
theorem sgnN_succ (i : Nat) : sgnN (i + 1) = - sgnN i := by
  unfold sgnN
  rcases Nat.mod_two_eq_zero_or_one i with h | h
  · rw [if_neg (by omega), if_pos h]
  · rw [if_pos (by omega), if_neg (by omega)]; rfl
theorem skipN_lt {n i a : Nat} (ha : a < n) : skipN i a < n + 1 := by unfold skipN; split <;> omega
theorem detN_congr : ∀ (n : Nat) {M M' : Nat → Nat → Int}, (∀ i, i < n → ∀ j, j < n → M i j = M' i j) → detN n M = detN n M'
  | 0, _, _, _ => rfl
  | n + 1, M, M', h => by
    unfold detN
    refine sumN_congr fun i hi => ?_
    rw [h i hi 0 (by omega), detN_congr n fun a ha b hb => h _ (skipN_lt ha) (b + 1) (by omega)]
theorem dvd_mul_sub {p a b x y : Int} (h1 : p ∣ a - b) (h2 : p ∣ x - y) : p ∣ a * x - b * y := by
  have e : a * x - b * y = (a - b) * x + b * (x - y) := by rw [Int.sub_mul, Int.mul_sub]; omega
  rw [e]
  exact Int.dvd_add (Int.dvd_mul_of_dvd_left h1) (Int.dvd_mul_of_dvd_right h2)
theorem sumN_cong_dvd {p : Int} {f g : Nat → Int} {n : Nat} (h : ∀ k, k < n → p ∣ f k - g k) : p ∣ sumN f n - sumN g n := by
  rw [← sumN_sub]; exact sumN_dvd h
theorem detN_mod {p : Int} : ∀ (n : Nat) {M M' : Nat → Nat → Int}, (∀ i, i < n → ∀ j, j < n → p ∣ M i j - M' i j) → p ∣ detN n M - detN n M'
  | 0, _, _, _ => by unfold detN; simp
  | n + 1, M, M', h => by
    unfold detN
    refine sumN_cong_dvd fun i hi => ?_
    refine dvd_mul_sub (dvd_mul_sub (by simp) (h i hi 0 (by omega))) (detN_mod n fun a ha b hb => h _ (skipN_lt ha) (b + 1) (by omega))

def rowU (M : Nat → Nat → Int) (i : Nat) (r : Nat → Int) : Nat → Nat → Int := fun a b => if a = i then r b else M a b
theorem rowU_self (M : Nat → Nat → Int) (i : Nat) : rowU M i (M i) = M := by
  funext a b; unfold rowU; split
  · rename_i h; rw [h]
  · rfl
def backN (k i : Nat) : Nat := if i < k then i else i - 1
theorem skipN_eq {k i a : Nat} (h : i ≠ k) : skipN k a = i ↔ a = backN k i := by
  unfold skipN backN
  constructor
  · intro e; split at e <;> split <;> omega
  · intro e; split at e <;> split <;> omega
theorem backN_lt {n k i : Nat} (hk : k < n + 1) (hi : i < n + 1) (h : i ≠ k) : backN k i < n := by unfold backN; split <;> omega
theorem minor_rowU {M : Nat → Nat → Int} {i k : Nat} {r : Nat → Int} (h : i ≠ k) : (fun a b => rowU M i r (skipN k a) (b + 1)) = rowU (fun a b => M (skipN k a) (b + 1)) (backN k i) (fun b => r (b + 1)) := by
  funext a b
  unfold rowU
  by_cases e : skipN k a = i
  · rw [if_pos e, if_pos ((skipN_eq h).1 e)]
  · rw [if_neg e, if_neg fun e' => e ((skipN_eq h).2 e')]
theorem minor_rowU_self {M : Nat → Nat → Int} {i : Nat} {r : Nat → Int} : (fun a b => rowU M i r (skipN i a) (b + 1)) = (fun a b => M (skipN i a) (b + 1)) := by
  funext a b
  unfold rowU
  rw [if_neg (by unfold skipN; split <;> omega)]
theorem detN_lin : ∀ (n : Nat) (M : Nat → Nat → Int) (i : Nat) (r s : Nat → Int) (c : Int), i < n →
    detN n (rowU M i (fun b => r b + c * s b)) = detN n (rowU M i r) + c * detN n (rowU M i s)
  | 0, _, _, _, _, _, h => by omega
  | n + 1, M, i, r, s, c, h => by
    unfold detN
    rw [← sumN_lin]
    refine sumN_congr fun k hk => ?_
    by_cases e : i = k
    · subst e
      rw [minor_rowU_self, minor_rowU_self, minor_rowU_self]
      simp only [rowU, if_true]
      grind
    · rw [minor_rowU e, minor_rowU e, minor_rowU e, detN_lin n _ _ (fun b => r (b + 1)) (fun b => s (b + 1)) c (backN_lt hk h e)]
      simp only [rowU, if_neg fun e' : k = i => e e'.symm]
      grind
theorem detN_adj : ∀ (n : Nat) (M : Nat → Nat → Int) (i : Nat), i + 1 < n → (∀ b, M i b = M (i + 1) b) → detN n M = 0
  | 0, _, _, h, _ => by omega
  | n + 1, M, i, h, he => by
    unfold detN
    rw [sumN_two (i := i) (k := i + 1) (by omega) h (by omega) fun k hk h1 h2 => ?_]
    · have e : (fun a b => M (skipN (i + 1) a) (b + 1)) = (fun a b => M (skipN i a) (b + 1)) := by
        funext a b
        by_cases ha : a = i
        · subst ha
          have e1 : skipN (a + 1) a = a := by unfold skipN; rw [if_pos (by omega)]
          have e2 : skipN a a = a + 1 := by unfold skipN; rw [if_neg (by omega)]
          rw [e1, e2]; exact he _
        · have : skipN (i + 1) a = skipN i a := by unfold skipN; split <;> split <;> omega
          rw [this]
      rw [e, sgnN_succ, he 0]
      grind
    · have : detN n (fun a b => M (skipN k a) (b + 1)) = 0 := by
        by_cases hki : k < i
        · refine detN_adj n _ (i - 1) (by omega) fun b => ?_
          have e1 : skipN k (i - 1) = i := by unfold skipN; rw [if_neg (by omega)]; omega
          have e2 : skipN k (i - 1 + 1) = i + 1 := by unfold skipN; rw [if_neg (by omega)]; omega
          simp only [e1, e2]; exact he _
        · refine detN_adj n _ i (by omega) fun b => ?_
          have e1 : skipN k i = i := by unfold skipN; rw [if_pos (by omega)]
          have e2 : skipN k (i + 1) = i + 1 := by unfold skipN; rw [if_pos (by omega)]
          simp only [e1, e2]; exact he _
      rw [this, Int.mul_zero]
theorem detN_swap_of {n i k : Nat} (hi : i < n) (hk : k < n) (hne : i ≠ k) (alt : ∀ M : Nat → Nat → Int, (∀ b, M i b = M k b) → detN n M = 0) (M : Nat → Nat → Int) :
    detN n (rowU (rowU M i (M k)) k (M i)) = - detN n M := by
  have key : ∀ r s : Nat → Int, detN n (rowU (rowU M i r) k s) + detN n (rowU (rowU M i s) k r) = 0 := by
    intro r s
    have h0 := alt (rowU (rowU M i (fun b => r b + 1 * s b)) k (fun b => r b + 1 * s b)) fun b => by
      simp only [rowU, if_true, if_neg hne]
    have h1 := alt (rowU (rowU M i r) k r) fun b => by simp only [rowU, if_true, if_neg hne]
    have h2 := alt (rowU (rowU M i s) k s) fun b => by simp only [rowU, if_true, if_neg hne]
    have cm : ∀ u v : Nat → Int, rowU (rowU M i u) k v = rowU (rowU M k v) i u := by
      intro u v; funext a b; unfold rowU
      by_cases a1 : a = i
      · subst a1; rw [if_neg hne, if_pos rfl, if_pos rfl]
      · simp only [if_neg a1]
    rw [detN_lin n (rowU M i (fun b => r b + 1 * s b)) k r s 1 hk, cm, cm, detN_lin n (rowU M k r) i r s 1 hi, detN_lin n (rowU M k s) i r s 1 hi] at h0
    rw [cm] at h1 h2
    rw [cm, cm]
    omega
  have h := key (M k) (M i)
  have e : rowU (rowU M i (M i)) k (M k) = M := by rw [rowU_self, rowU_self]
  rw [e] at h
  omega
theorem detN_alt {n : Nat} : ∀ (t i : Nat) (M : Nat → Nat → Int), i + 1 + t < n → (∀ b, M i b = M (i + 1 + t) b) → detN n M = 0
  | 0, i, M, h, he => detN_adj n M i h he
  | t + 1, i, M, h, he => by
    have hs := detN_swap_of (n := n) (i := i + 1 + t) (k := i + 1 + (t + 1)) (by omega) h (by omega) (fun M hM => detN_adj n M (i + 1 + t) (by omega) hM) M
    have h0 := detN_alt (n := n) t i (rowU (rowU M (i + 1 + t) (M (i + 1 + (t + 1)))) (i + 1 + (t + 1)) (M (i + 1 + t))) (by omega) fun b => by
      simp only [rowU, if_true, if_neg (show i ≠ i + 1 + (t + 1) by omega), if_neg (show i ≠ i + 1 + t by omega), if_neg (show i + 1 + t ≠ i + 1 + (t + 1) by omega)]
      exact he b
    omega
theorem detN_same {n i k : Nat} (hi : i < n) (hk : k < n) (hne : i ≠ k) (M : Nat → Nat → Int) (he : ∀ b, M i b = M k b) : detN n M = 0 := by
  rcases Nat.lt_or_gt_of_ne hne with h | h
  · exact detN_alt (k - i - 1) i M (by omega) fun b => by rw [he b]; congr 1; omega
  · exact detN_alt (i - k - 1) k M (by omega) fun b => by rw [← he b]; congr 1; omega
theorem detN_clear {n k : Nat} (hk : k < n) (M : Nat → Nat → Int) (c : Nat → Int) : detN n (fun a b => if a = k then M k b else M a b + c a * M k b) = detN n M := by
  have key : ∀ m, m ≤ n → detN n (fun a b => if a = k then M k b else if a < m then M a b + c a * M k b else M a b) = detN n M := by
    intro m
    induction m with
    | zero =>
      intro _
      refine detN_congr n fun a ha b hb => ?_
      by_cases e : a = k
      · rw [if_pos e, e]
      · rw [if_neg e, if_neg (by omega)]
    | succ m ih =>
      intro hm
      rw [← ih (by omega)]
      by_cases e : m = k
      · refine detN_congr n fun a ha b hb => ?_
        by_cases e2 : a = k
        · rw [if_pos e2, if_pos e2]
        · rw [if_neg e2, if_neg e2]
          by_cases e3 : a < m
          · rw [if_pos e3, if_pos (by omega)]
          · rw [if_neg e3, if_neg (by omega)]
      · generalize hH : (fun a b => if a = k then M k b else if a < m then M a b + c a * M k b else M a b) = H
        have h1 := detN_lin n H m (fun b => H m b) (fun b => H k b) (c m) (by omega)
        have h2 : detN n (rowU H m (fun b => H k b)) = 0 := detN_same (i := m) (k := k) (by omega) hk e _ fun b => by
          simp only [rowU, if_true, if_neg fun e' : k = m => e e'.symm]
        have h3 : rowU H m (fun b => H m b) = H := rowU_self H m
        rw [h2, h3, Int.mul_zero, Int.add_zero] at h1
        rw [← h1]
        refine detN_congr n fun a ha b hb => ?_
        unfold rowU
        rw [← hH]
        simp only [if_true]
        by_cases e2 : a = k
        · rw [if_pos e2, if_neg (by omega)]; rw [if_pos e2]
        · rw [if_neg e2]
          by_cases e3 : a = m
          · subst e3
            rw [if_pos (by omega), if_pos rfl, if_neg e2, if_neg (by omega)]
          · rw [if_neg e3, if_neg e2]
            by_cases e4 : a < m
            · rw [if_pos e4, if_pos (by omega)]
            · rw [if_neg e4, if_neg (by omega)]
  rw [← key n (Nat.le_refl n)]
  refine detN_congr n fun a ha b hb => ?_
  by_cases e : a = k
  · rw [if_pos e, if_pos e]
  · rw [if_neg e, if_neg e, if_pos ha]

def mulN (n : Nat) (A B : Nat → Nat → Int) : Nat → Nat → Int := fun a b => sumN (fun j => A a j * B j b) n
def prodN (f : Nat → Int) : Nat → Int
  | 0 => 1
  | k + 1 => prodN f k * f k
def QN (p : Int) (n : Nat) (A A' : Nat → Nat → Int) (s : Int) : Prop := (s = 1 ∨ s = -1) ∧ ∀ B, p ∣ detN n (mulN n A' B) - s * detN n (mulN n A B)
theorem QN.refl (p : Int) (n : Nat) (A : Nat → Nat → Int) : QN p n A A 1 := ⟨.inl rfl, fun B => by simp⟩
theorem QN.clear {p : Int} {n k : Nat} {A M : Nat → Nat → Int} {s : Int} (hk : k < n) (h : QN p n A M s) (c : Nat → Int) : QN p n A (fun a b => if a = k then M k b else M a b + c a * M k b) s := by
  refine ⟨h.1, fun B => ?_⟩
  have e : detN n (mulN n (fun a b => if a = k then M k b else M a b + c a * M k b) B) = detN n (mulN n M B) := by
    rw [← detN_clear hk (mulN n M B) c]
    refine detN_congr n fun a ha b hb => ?_
    unfold mulN
    by_cases ea : a = k
    · subst ea
      simp only [if_true]
    · simp only [if_neg ea]
      rw [← sumN_lin]
      refine sumN_congr fun j hj => ?_
      grind
  rw [e]; exact h.2 B
end Go.Vam

/- Plain laws: the programs' determinant is the expansion's. -/
namespace Go.Vam
open Go Go.RowKit
set_option linter.unusedSimpArgs false
set_option linter.unusedVariables false
set_option linter.unusedSectionVars false

def asN (m : List (List Int)) : Nat → Nat → Int := fun a b => gI (gR m a) b
def detL (r : Nat) (m : List (List Int)) : Int := detN r (asN m)
theorem prodN_congr {f g : Nat → Int} : ∀ {n : Nat}, (∀ k, k < n → f k = g k) → prodN f n = prodN g n
  | 0, _ => rfl
  | n + 1, h => by simp only [prodN, prodN_congr (n := n) fun k hk => h k (by omega), h n (by omega)]
def DetInv (p : Int) (r : Nat) (M0 M : List (List Int)) (d : Int) (k : Nat) : Prop :=
  ∃ s : Int, p ∣ detL r M0 - s * detL r M ∧ p ∣ d - s * prodN (fun j => gI (gR M j) j) k
theorem DetInv.refl (p : Int) (r : Nat) (M0 : List (List Int)) : DetInv p r M0 M0 1 0 := ⟨1, by simp, by simp [prodN]⟩
theorem DetInv.clear {p : Int} {r k : Nat} {M0 M y : List (List Int)} {R : List Int} {d : Int} (h : DetInv p r M0 M d k) (hk : k < r) (hMk : gR M k = R) (hy : ∀ j, j < r → gR y j = if k < j then clp p r k R (gR M j) else gR M j) :
    DetInv p r M0 y (d * gI R k % p) (k + 1) := by
  obtain ⟨s, h1, h2⟩ := h
  have e : p ∣ detL r y - detL r M := by
    unfold detL
    rw [← detN_clear hk (asN M) (fun a => if k < a then (p - gI (gR M a) k) * invp p (gI R k) % p else 0)]
    refine detN_mod r fun a ha b hb => ?_
    simp only [asN]
    rw [hy a ha]
    by_cases e1 : a = k
    · rw [if_neg (by omega), if_pos e1, e1]; simp
    · rw [if_neg e1]
      by_cases e2 : k < a
      · rw [if_pos e2, if_pos e2]
        unfold clp
        rw [plusv_at hb, hMk, ← mod_dvd, emm]
      · rw [if_neg e2, if_neg e2]; simp
  have e3 : prodN (fun j => gI (gR y j) j) (k + 1) = prodN (fun j => gI (gR M j) j) k * gI R k := by
    simp only [prodN]
    rw [hy k hk, if_neg (by omega), hMk, prodN_congr (g := fun j => gI (gR M j) j) fun j hj => by rw [hy j (by omega), if_neg (by omega)]]
  refine ⟨s, ?_, ?_⟩
  · have : detL r M0 - s * detL r y = (detL r M0 - s * detL r M) - s * (detL r y - detL r M) := by grind
    rw [this]
    exact Int.dvd_sub h1 (Int.dvd_mul_of_dvd_right e)
  · rw [e3]
    have h3 : p ∣ d * gI R k % p - d * gI R k := by rw [← mod_dvd, emm]
    refine dvd_trans_sub h3 ?_
    have : d * gI R k - s * (prodN (fun j => gI (gR M j) j) k * gI R k) = (d - s * prodN (fun j => gI (gR M j) j) k) * gI R k := by grind
    rw [this]
    exact Int.dvd_mul_of_dvd_left h2

section
variable {p : Int} {r : Nat} (hP : isP p = true) (hr : r ≤ 1048576)
include hP hr
end
end Go.Vam

/- Plain laws: products are associative; turned products; ranks and determinants of products. -/
namespace Go.Vam
open Go Go.RowKit
set_option linter.unusedSimpArgs false
set_option linter.unusedVariables false
set_option linter.unusedSectionVars false

end Go.Vam

/- Plain laws: powers, exponents are added. -/
namespace Go.Vam
open Go Go.RowKit
set_option linter.unusedSimpArgs false
set_option linter.unusedVariables false
set_option linter.unusedSectionVars false

end Go.Vam

/- Plain laws: norms of elements; ConjugationBy. -/
namespace Go.Vam
open Go Go.RowKit
set_option linter.unusedSimpArgs false
set_option linter.unusedVariables false
set_option linter.unusedSectionVars false

theorem sumN_split (f : Nat → Int) (a b : Nat) : sumN f (a + b) = sumN f a + sumN (fun k => f (a + k)) b := by
  induction b with
  | zero => simp [sumN]
  | succ b ih => rw [← Nat.add_assoc]; simp only [sumN]; rw [ih]; omega
theorem mulr_unit {p : Int} : ∀ (n : Nat) (w x y : List Int), gI (mulr p n w x y) 0 % p = sumN (fun k => gI x k * gI y k * axS n w k k) (2 ^ n) % p
  | 0, w, x, y => by
    unfold mulr
    show gI x 0 * gI y 0 % p % p = _
    rw [emm]
    simp [sumN, axS]
  | n + 1, w, x, y => by
    have hpow : 2 ^ (n + 1) = 2 ^ n + 2 ^ n := by rw [Nat.pow_succ]; omega
    have i1 := mulr_unit (p := p) n (w.take n) (x.take (2 ^ n)) (y.take (2 ^ n))
    have i2 := mulr_unit (p := p) n (w.take n) (starv p (2 ^ n) (y.drop (2 ^ n))) (x.drop (2 ^ n))
    have hpos := two_pos n
    unfold mulr
    rw [hpow, sumN_split]
    generalize hd : 2 ^ n = d at i1 i2 hpos ⊢
    rw [gI_append, if_pos (by unfold plusv; rw [vecN_len]; exact hpos), plusv_at hpos, emm]
    have e1 : sumN (fun k => gI (x.take d) k * gI (y.take d) k * axS n (w.take n) k k) d = sumN (fun k => gI x k * gI y k * axS (n + 1) w k k) d := by
      refine sumN_congr fun k hk => ?_
      rw [gI_take hk, gI_take hk]
      conv => rhs; unfold axS
      rw [hd, if_pos hk, if_pos hk]
    have e2 : (gI w n * sumN (fun k => gI (starv p d (y.drop d)) k * gI (x.drop d) k * axS n (w.take n) k k) d) % p = sumN (fun k => gI x (d + k) * gI y (d + k) * axS (n + 1) w (d + k) (d + k)) d % p := by
      rw [← sumN_mulL]
      refine sumN_mod fun k hk => ?_
      conv => rhs; unfold axS
      rw [hd, if_neg (by omega), if_neg (by omega), Nat.add_sub_cancel_left, gI_drop]
      have hs := starv_at (p := p) (a := y.drop d) hk
      rw [gI_drop] at hs
      have a1 : gI w n * (gI (starv p d (y.drop d)) k * gI x (d + k) * axS n (w.take n) k k) = gI (starv p d (y.drop d)) k * (gI w n * gI x (d + k) * axS n (w.take n) k k) := by grind
      rw [a1, mul_mod_l hs]
      congr 1
      grind
    rw [Int.add_emod, i1, Int.mul_emod, i2, ← Int.mul_emod, e2, e1, ← Int.add_emod]
def nrm (p : Int) (w x : List Int) : Int := sumN (fun k => gI (dgv p w w.length) k * gI x k * gI x k) (2 ^ w.length) % p
section
variable {p : Int} {w x : List Int} (hP : isP p = true) (hl : w.length ≤ 4) (hw : Vec p w.length w) (hx : Vec p (2 ^ w.length) x)
include hP hl hw hx
theorem i_norm_eq : i_Doubling_norm p w x = some (nrm p w x) := by
  have hp := isP_le hP
  have h16 := two_le hl
  have hpos := two_pos w.length
  have hs := starv_vec hp.1 hp.2 (by omega) hpos hx
  have hv := mulp_vec hP hl hw hx hs
  unfold i_Doubling_norm i_Doubling_field
  rw [some_bind, i_field_conjugate_eq hp.1 hp.2 (by omega) hpos hx, some_bind, i_Doubling_times_eq hP hl hw hx hs, some_bind, idxI0 (by rw [hv.1]; exact hpos), some_bind]
  congr 1
  have h0 := hv.get hpos
  rw [← mod_small h0.1 h0.2]
  unfold mulp nrm
  rw [mulr_unit]
  refine sumN_mod fun k hk => ?_
  have h1 := starv_at (p := p) (a := x) hk
  have h2 := dgv_at (p := p) (by omega) w.length w k hk
  have a1 : gI x k * gI (starv p (2 ^ w.length) x) k * axS w.length w k k = gI (starv p (2 ^ w.length) x) k * (gI x k * axS w.length w k k) := by grind
  have a2 : gI (dgv p w w.length) k * gI x k * gI x k = gI (dgv p w w.length) k * (gI x k * gI x k) := by grind
  rw [a1, mul_mod_l h1, a2, mul_mod_l h2]
  congr 1
  grind
end
section
variable {p : Int} {w a b : List Int} (hP : isP p = true) (hl : w.length ≤ 4) (hw : Vec p w.length w) (ha : Vec p (2 ^ w.length) a) (hb : Vec p (2 ^ w.length) b)
include hP hl hw ha hb
end
end Go.Vam

/- Plain law: FnMatrixProducts. -/
namespace Go.Vam
open Go Go.RowKit
set_option linter.unusedSimpArgs false
set_option linter.unusedVariables false
set_option linter.unusedSectionVars false

section
variable {p : Int} {r n c : Nat} {a b : List (List Int)} (hP : isP p = true) (ha : Mat p r n a) (hr0 : 1 ≤ r) (hr : r ≤ 16) (hn0 : 1 ≤ n) (hn : n ≤ 16)
include hP ha hr0 hr hn0 hn
end
end Go.Vam

/- Plain laws: inverses of tables. -/
namespace Go.Vam
open Go Go.RowKit
set_option linter.unusedSimpArgs false
set_option linter.unusedVariables false
set_option linter.unusedSectionVars false

def widem (n : Nat) (a : List (List Int)) : List (List Int) := vecN n fun i => gR a i ++ axis n i
section
variable {p : Int} {n : Nat} {a : List (List Int)} (hp : 1 < p) (hn : n ≤ 1000) (ha : Mat p n n a)
include hp hn ha
end
section
variable {p : Int} {n : Nat} {a B : List (List Int)} {ld : Nat → Nat} (hP : isP p = true) (hn0 : 1 ≤ n) (hn : n ≤ 1000) (ha : Mat p n n a) (hB : Ech p (n + n) B ld) (hk : ∀ u, Kr p (n + n) B u ↔ KerP p n (n + n) (widem n a) u)
include hP hn0 hn ha hB hk
end

section
variable {p : Int} {n : Nat} {a : List (List Int)} (hP : isP p = true) (hn0 : 1 ≤ n) (hn : n ≤ 16) (ha : Mat p n n a)
include hP hn0 hn ha
end
end Go.Vam

/- Plain laws: the coordinates of a product; pure elements of few steps anticommute up to their pairing. -/
namespace Go.Vam
open Go Go.RowKit
set_option linter.unusedSimpArgs false
set_option linter.unusedVariables false
set_option linter.unusedSectionVars false

theorem sum_xor (f : Nat → Int) : ∀ n, n ≤ 4 → ∀ m, m < 2 ^ n → ∀ s, sumN (fun i => f (s + (i ^^^ m))) (2 ^ n) = sumN (fun i => f (s + i)) (2 ^ n)
  | 0, _, m, hm, s => by
    have : m = 0 := by simpa using hm
    subst this; simp [sumN]
  | n + 1, hn, m, hm, s => by
    have hpow : 2 ^ (n + 1) = 2 ^ n + 2 ^ n := by rw [Nat.pow_succ]; omega
    have hX := xor_hi n (by omega)
    have ih := sum_xor f n (by omega)
    rw [hpow] at hm ⊢
    rw [sumN_split, sumN_split]
    rcases Nat.lt_or_ge m (2 ^ n) with h | h
    · congr 1
      · exact ih m h s
      · have e : sumN (fun k => f (s + ((2 ^ n + k) ^^^ m))) (2 ^ n) = sumN (fun k => f (s + 2 ^ n + (k ^^^ m))) (2 ^ n) := sumN_congr fun k hk => by rw [(hX k hk m h).2.1, Nat.add_assoc]
        rw [e, ih m h (s + 2 ^ n)]
        exact sumN_congr fun k hk => by rw [Nat.add_assoc]
    · obtain ⟨m', rfl⟩ := Nat.exists_eq_add_of_le h
      have hm' : m' < 2 ^ n := by omega
      have e1 : sumN (fun k => f (s + (k ^^^ (2 ^ n + m')))) (2 ^ n) = sumN (fun k => f (s + 2 ^ n + (k ^^^ m'))) (2 ^ n) := sumN_congr fun k hk => by rw [(hX k hk m' hm').1, Nat.add_assoc]
      have e2 : sumN (fun k => f (s + ((2 ^ n + k) ^^^ (2 ^ n + m')))) (2 ^ n) = sumN (fun k => f (s + (k ^^^ m'))) (2 ^ n) := sumN_congr fun k hk => by rw [(hX k hk m' hm').2.2]
      rw [e1, e2, ih m' hm' (s + 2 ^ n), ih m' hm' s, Int.add_comm]
      congr 1
      exact sumN_congr fun k hk => by rw [Nat.add_assoc]
theorem sum_xor0 (f : Nat → Int) {n m : Nat} (hn : n ≤ 4) (hm : m < 2 ^ n) : sumN (fun i => f (i ^^^ m)) (2 ^ n) = sumN f (2 ^ n) := by
  have := sum_xor f n hn m hm 0
  simpa only [Nat.zero_add] using this
theorem xor_back (i m : Nat) : (i ^^^ m) ^^^ m = i := by rw [Nat.xor_assoc, Nat.xor_self, Nat.xor_zero]

theorem mulr_gen {p : Int} : ∀ (n : Nat), n ≤ 4 → ∀ (w x y : List Int) (m : Nat), m < 2 ^ n → gI (mulr p n w x y) m % p = sumN (fun i => gI x i * gI y (i ^^^ m) * axS n w i (i ^^^ m)) (2 ^ n) % p
  | 0, _, w, x, y, m, hm => by
    have : m = 0 := by simpa using hm
    subst this
    unfold mulr
    show gI x 0 * gI y 0 % p % p = _
    rw [emm]
    simp [sumN, axS]
  | n + 1, hn, w, x, y, m, hm => by
    have hpow : 2 ^ (n + 1) = 2 ^ n + 2 ^ n := by rw [Nat.pow_succ]; omega
    have hX := xor_hi n (by omega)
    have hlt : ∀ a b, a < 2 ^ n → b < 2 ^ n → a ^^^ b < 2 ^ n := fun a b ha hb => xor_lt ha hb
    have hre : ∀ (f : Nat → Int) (m : Nat), m < 2 ^ n → sumN (fun i => f (i ^^^ m)) (2 ^ n) = sumN f (2 ^ n) := fun f m h => sum_xor0 f (by omega) h
    have ih := mulr_gen (p := p) n (by omega) (w.take n)
    unfold mulr
    rw [hpow] at hm
    rw [hpow, sumN_split]
    generalize hd : 2 ^ n = d at hm hX hlt hre ih ⊢
    have hl : ∀ u v k, (plusv p d u v k).length = d := fun u v k => by unfold plusv; rw [vecN_len]
    rcases Nat.lt_or_ge m d with h | h
    · rw [gI_append, if_pos (by rw [hl]; exact h), plusv_at h, emm, Int.add_emod, ih _ _ m h, Int.mul_emod, ih _ _ m h, ← Int.mul_emod]
      have e1 : sumN (fun i => gI (x.take d) i * gI (y.take d) (i ^^^ m) * axS n (w.take n) i (i ^^^ m)) d = sumN (fun i => gI x i * gI y (i ^^^ m) * axS (n + 1) w i (i ^^^ m)) d := by
        refine sumN_congr fun i hi => ?_
        have hx := hlt i m hi h
        rw [gI_take hi, gI_take hx]
        conv => rhs; unfold axS
        rw [hd, if_pos hi, if_pos hx]
      have e2 : (gI w n * sumN (fun i => gI (starv p d (y.drop d)) i * gI (x.drop d) (i ^^^ m) * axS n (w.take n) i (i ^^^ m)) d) % p = sumN (fun i => gI x (d + i) * gI y ((d + i) ^^^ m) * axS (n + 1) w (d + i) ((d + i) ^^^ m)) d % p := by
        rw [← hre (fun i => gI (starv p d (y.drop d)) i * gI (x.drop d) (i ^^^ m) * axS n (w.take n) i (i ^^^ m)) m h, ← sumN_mulL]
        refine sumN_mod fun i hi => ?_
        have hx := hlt i m hi h
        have hb := xor_back i m
        conv => rhs; unfold axS
        rw [hd, (hX i hi m h).2.1, if_neg (by omega), if_neg (by omega), Nat.add_sub_cancel_left, Nat.add_sub_cancel_left, hb, gI_drop]
        have hs := starv_at (p := p) (a := y.drop d) hx
        rw [gI_drop] at hs
        have a1 : gI w n * (gI (starv p d (y.drop d)) (i ^^^ m) * gI x (d + i) * axS n (w.take n) (i ^^^ m) i) = gI (starv p d (y.drop d)) (i ^^^ m) * (gI w n * gI x (d + i) * axS n (w.take n) (i ^^^ m) i) := by grind
        rw [a1, mul_mod_l hs]
        congr 1
        grind
      rw [e2, e1, ← Int.add_emod]
    · obtain ⟨m', rfl⟩ := Nat.exists_eq_add_of_le h
      have hm' : m' < d := by omega
      rw [gI_append, if_neg (by rw [hl]; omega), hl, Nat.add_sub_cancel_left, plusv_at hm', emm, Int.add_emod, ih _ _ m' hm', Int.mul_emod, ih _ _ m' hm', ← Int.mul_emod, Int.one_mul]
      have e1 : sumN (fun i => gI (y.drop d) i * gI (x.take d) (i ^^^ m') * axS n (w.take n) i (i ^^^ m')) d = sumN (fun i => gI x i * gI y (i ^^^ (d + m')) * axS (n + 1) w i (i ^^^ (d + m'))) d := by
        rw [← hre (fun i => gI (y.drop d) i * gI (x.take d) (i ^^^ m') * axS n (w.take n) i (i ^^^ m')) m' hm']
        refine sumN_congr fun i hi => ?_
        have hx := hlt i m' hi hm'
        have hb := xor_back i m'
        conv => rhs; unfold axS
        rw [hd, (hX i hi m' hm').1, if_pos hi, if_neg (by omega), Nat.add_sub_cancel_left, hb, gI_drop, gI_take hi]
        grind
      have e2 : sumN (fun i => gI (x.drop d) i * gI (starv p d (y.take d)) (i ^^^ m') * axS n (w.take n) i (i ^^^ m')) d % p = sumN (fun i => gI x (d + i) * gI y ((d + i) ^^^ (d + m')) * axS (n + 1) w (d + i) ((d + i) ^^^ (d + m'))) d % p := by
        refine sumN_mod fun i hi => ?_
        have hx := hlt i m' hi hm'
        conv => rhs; unfold axS
        rw [hd, (hX i hi m' hm').2.2, if_neg (by omega), if_pos hx, Nat.add_sub_cancel_left, gI_drop]
        have hs := starv_at (p := p) (a := y.take d) hx
        rw [gI_take hx] at hs
        have a1 : gI x (d + i) * gI (starv p d (y.take d)) (i ^^^ m') * axS n (w.take n) i (i ^^^ m') = gI (starv p d (y.take d)) (i ^^^ m') * (gI x (d + i) * axS n (w.take n) i (i ^^^ m')) := by grind
        rw [a1, mul_mod_l hs]
        congr 1
        grind
      rw [e2, e1, ← Int.add_emod]

/-! ### The sign of a product of axes, apart from the steps' numbers -/
def sgF : Nat → Nat → Nat → Int
  | 0, _, _ => 1
  | n + 1, i, j =>
    if i < 2 ^ n then (if j < 2 ^ n then sgF n i j else sgF n (j - 2 ^ n) i)
    else (if j < 2 ^ n then sgs j * sgF n (i - 2 ^ n) j else sgs (j - 2 ^ n) * sgF n (j - 2 ^ n) (i - 2 ^ n))
def wpF (w : List Int) : Nat → Nat → Int
  | 0, _ => 1
  | n + 1, m => (if m < 2 ^ n then 1 else gI w n) * wpF w n (m % 2 ^ n)
theorem wpF_take {w : List Int} {N : Nat} : ∀ n, n ≤ N → ∀ m, wpF (w.take N) n m = wpF w n m
  | 0, _, _ => rfl
  | n + 1, h, m => by
    unfold wpF
    rw [wpF_take n (by omega), gI_take (by omega)]
theorem and_lt' : ∀ n, n ≤ 4 → ∀ i, i < 2 ^ n → ∀ j, j < 2 ^ n → i &&& j < 2 ^ n := fun n _ i hi j hj => Nat.lt_of_le_of_lt Nat.and_le_left hi
theorem and_hi : ∀ n, n < 4 → ∀ i, i < 2 ^ n → ∀ j, j < 2 ^ n → i &&& (2 ^ n + j) = (i &&& j) ∧ (2 ^ n + i) &&& j = (i &&& j) ∧ (2 ^ n + i) &&& (2 ^ n + j) = 2 ^ n + (i &&& j) := by decide
theorem axS_split : ∀ n, n ≤ 4 → ∀ (w : List Int) i j, i < 2 ^ n → j < 2 ^ n → axS n w i j = sgF n i j * wpF w n (i &&& j)
  | 0, _, w, i, j, _, _ => rfl
  | n + 1, hn, w, i, j, hi, hj => by
    have hpow : 2 ^ (n + 1) = 2 ^ n + 2 ^ n := by rw [Nat.pow_succ]; omega
    rw [hpow] at hi hj
    have ih := axS_split n (by omega) (w.take n)
    have hA := and_hi n (by omega)
    have hL := and_lt' n (by omega)
    have hw := wpF_take (w := w) (N := n) n (Nat.le_refl _)
    unfold axS sgF wpF
    generalize hd : 2 ^ n = d at hi hj ih hA hL ⊢
    rcases Nat.lt_or_ge i d with h1 | h1 <;> rcases Nat.lt_or_ge j d with h2 | h2
    · have h3 := hL i h1 j h2
      rw [if_pos h1, if_pos h2, if_pos h1, if_pos h2, if_pos h3, Int.one_mul, Nat.mod_eq_of_lt h3, ih i j h1 h2, hw]
    · obtain ⟨j', rfl⟩ := Nat.exists_eq_add_of_le h2
      have h3 := hL i h1 j' (by omega)
      rw [if_pos h1, if_neg (by omega), if_pos h1, if_neg (by omega), Nat.add_sub_cancel_left, (hA i h1 j' (by omega)).1, if_pos h3, Int.one_mul, Nat.mod_eq_of_lt h3, ih j' i (by omega) h1, hw, Nat.and_comm]
    · obtain ⟨i', rfl⟩ := Nat.exists_eq_add_of_le h1
      have h3 := hL i' (by omega) j h2
      rw [if_neg (by omega), if_pos h2, if_neg (by omega), if_pos h2, Nat.add_sub_cancel_left, (hA i' (by omega) j h2).2.1, if_pos h3, Int.one_mul, Nat.mod_eq_of_lt h3, ih i' j (by omega) h2, hw, Int.mul_assoc]
    · obtain ⟨i', rfl⟩ := Nat.exists_eq_add_of_le h1
      obtain ⟨j', rfl⟩ := Nat.exists_eq_add_of_le h2
      have h3 := hL i' (by omega) j' (by omega)
      have h4 : (d + (i' &&& j')) % d = i' &&& j' := by rw [Nat.add_mod_left, Nat.mod_eq_of_lt h3]
      rw [if_neg (by omega), if_neg (by omega), if_neg (by omega), if_neg (by omega), Nat.add_sub_cancel_left, Nat.add_sub_cancel_left, (hA i' (by omega) j' (by omega)).2.2, if_neg (by omega), h4, ih j' i' (by omega) (by omega), hw, Nat.and_comm j' i']
      grind
end Go.Vam

/- Plain law: FnMultiplicationMatrices. -/
namespace Go.Vam
open Go Go.RowKit
set_option linter.unusedSimpArgs false
set_option linter.unusedVariables false
set_option linter.unusedSectionVars false

section
variable {p : Int} {w x : List Int} (hP : isP p = true) (hl : w.length ≤ 4) (hw : Vec p w.length w) (hx : Vec p (2 ^ w.length) x)
include hP hl hw hx
end
/-! ### What is drawn -/
theorem shl_one : ∀ k : Nat, k ≤ 5 → shl .i64 1 (IntKind.u64.wrap (k : Int)) = ((2 ^ k : Nat) : Int) ∧ 0 ≤ IntKind.u64.wrap (k : Int) := by decide
theorem draw_steps {c : List Int} {a h p : Int} {k : Nat} (hS : Src c a) (hP : isP p = true) (hk : k ≤ 8) : ∃ (v : List Int) (a' h' : Int), loop s_l11Draw_L0 BIG (c, a, h, p, [], (k : Int)) = some (c, a', h', p, v) ∧ v.length = k ∧ Src c a' := by
  have hp := isP_le hP
  obtain ⟨b, h1, v, a', h', rfl, h3, h4⟩ := loop_inv (step := s_l11Draw_L0) (fun s => ∃ (j : Nat) (a' h' : Int) (out : List Int), s = (c, a', h', p, out, ((k - j : Nat) : Int)) ∧ j ≤ k ∧ out.length = j ∧ Src c a') (fun s => s.2.2.2.2.2.toNat)
    (fun b => ∃ v a' h', b = (c, a', h', p, v) ∧ v.length = k ∧ Src c a') (s := (c, a, h, p, [], (k : Int))) ⟨0, a, h, [], rfl, by omega, rfl, hS⟩ (by rw [BIG_val]; simp only []; omega) (by
      rintro s ⟨j, a', h', out, rfl, hj, hv, hS'⟩
      unfold s_l11Draw_L0
      by_cases hjk : j < k
      · refine .inl ?_
        have e0 : (0 : Int) < ((k - j : Nat) : Int) := by omega
        obtain ⟨r, a2, h2, e, r1, r2, S2⟩ := next_eq (h := h') (n := 2) hS' (by omega) (by omega)
        have w1 : w64 (p - 1) = p - 1 := w_in (by omega) (by omega)
        have w2 : w64 (((k - j : Nat) : Int) - 1) = ((k - (j + 1) : Nat) : Int) := by rw [w_in (by omega) (by omega)]; omega
        simp only [e0, if_true, e, some_bind, w1, w2]
        by_cases c0 : r = 0
        · simp only [c0, if_true]
          rw [chk_bind (by simp only [List.length_cons, List.length_nil]; omega), some_bind]
          exact ⟨_, rfl, ⟨j + 1, a2, h2, _, rfl, by omega, by rw [List.length_append]; simp; omega, S2⟩, by simp only []; omega⟩
        · obtain ⟨r3, a3, h3, e3, p3, q3, S3⟩ := next_eq (h := h2) (n := p - 1) S2 (by omega) (by omega)
          simp only [c0, if_false, e3, some_bind]
          rw [chk_bind (by simp only [List.length_cons, List.length_nil]; omega), some_bind]
          exact ⟨_, rfl, ⟨j + 1, a3, h3, _, rfl, by omega, by rw [List.length_append]; simp; omega, S3⟩, by simp only []; omega⟩
      · have : j = k := by omega
        subst this
        refine .inr ⟨(c, a', h', p, out), ?_, out, a', h', rfl, hv, hS'⟩
        simp)
  exact ⟨v, a', h', h1, h3, h4⟩
theorem draw_doubling {c : List Int} {a h m : Int} (hS : Src c a) (hm : 0 ≤ m) (hm2 : m ≤ 8) : ∃ (p : Int) (w : List Int) (a' h' : Int), s_l11Draw c a h m = some ((p, w), (c, a', h')) ∧ isP p = true ∧ w.length ≤ 4 ∧ Src c a' := by
  unfold s_l11Draw
  obtain ⟨p, a1, h1, e1, m1, S1⟩ := pick_eq (h := h) (l := [3, 5, 7, 11, 13]) hS (by simp) (by simp)
  obtain ⟨k, a2, h2, e2, m2, S2⟩ := pick_eq (h := h1) (l := [0, 1, 2, 2, 3, 3, 3, 4]) S1 (by simp) (by simp)
  have hP : isP p = true := by
    simp only [List.mem_cons, List.not_mem_nil, or_false] at m1
    unfold isP
    rcases m1 with rfl | rfl | rfl | rfl | rfl <;> decide
  have hk : 0 ≤ k ∧ k ≤ 4 := by
    simp only [List.mem_cons, List.not_mem_nil, or_false] at m2
    omega
  obtain ⟨q, hq, hq4⟩ : ∃ q : Nat, imin m k = (q : Int) ∧ q ≤ 4 := by
    unfold imin
    split
    · exact ⟨k.toNat, by omega, by omega⟩
    · exact ⟨m.toNat, by omega, by omega⟩
  obtain ⟨v, a3, h3, e3, l3, S3⟩ := draw_steps (h := h2) (k := q) S2 hP (by omega)
  simp only [e1, e2, some_bind, hq, e3]
  exact ⟨p, v, a3, h3, rfl, hP, by omega, S3⟩
theorem draw_any {c : List Int} {a h m : Int} (hS : Src c a) (hm : 0 ≤ m) (hm2 : m ≤ 8) : ∃ (p : Int) (w : List Int) (a' h' : Int), s_l11DrawAny c a h m = some ((p, w), (c, a', h')) ∧ 0 ≤ p ∧ p ≤ 17 ∧ w.length ≤ 5 ∧ Src c a' := by
  unfold s_l11DrawAny
  obtain ⟨p, w, a1, h1, e1, hP, hl, S1⟩ := draw_doubling (h := h) hS hm hm2
  have hp := isP_le hP
  obtain ⟨r, a2, h2, e2, r1, r2, S2⟩ := next_eq (h := h1) (n := 30) S1 (by omega) (by omega)
  simp only [e1, some_bind, e2]
  by_cases c0 : r = 0
  · obtain ⟨x, a3, h3, e3, m3, S3⟩ := pick_eq (h := h2) (l := [2, 9, 17, 0]) S2 (by simp) (by simp)
    simp only [c0, if_true, e3, some_bind]
    have hx : 0 ≤ x ∧ x ≤ 17 := by
      simp only [List.mem_cons, List.not_mem_nil, or_false] at m3
      omega
    exact ⟨x, w, a3, h3, rfl, hx.1, hx.2, by omega, S3⟩
  simp only [c0, if_false]
  by_cases c1 : r = 1
  · obtain ⟨x, a3, h3, e3, m3, S3⟩ := pick_eq (h := h2) (l := [0, p]) S2 (by simp) (by simp)
    simp only [c1, if_true, e3, some_bind]
    rw [chk_bind (by simp only [List.length_cons, List.length_nil]; omega), some_bind]
    exact ⟨p, _, a3, h3, rfl, by omega, by omega, by rw [List.length_append]; simp; omega, S3⟩
  simp only [c1, if_false]
  by_cases c2 : r = 2
  · obtain ⟨b, g1, v, rfl, g2⟩ := loop_inv (step := s_l11DrawAny_L0) (fun s => ∃ v : List Int, s = (p, v) ∧ v.length ≤ 5) (fun s => 5 - s.2.length) (fun b => ∃ v : List Int, b = (p, v) ∧ v.length ≤ 5) (s := (p, w)) ⟨w, rfl, by omega⟩ (by rw [BIG_val]; simp only []; omega) (by
      rintro s ⟨v, rfl, hv⟩
      unfold s_l11DrawAny_L0
      by_cases h5 : (v.length : Int) < 5
      · refine .inl ?_
        simp only [h5, if_true]
        rw [chk_bind (by simp only [List.length_cons, List.length_nil]; omega)]
        exact ⟨_, rfl, ⟨_, rfl, by rw [List.length_append]; simp; omega⟩, by simp only [List.length_append, List.length_cons, List.length_nil]; omega⟩
      · refine .inr ⟨(p, v), ?_, v, rfl, hv⟩
        simp only [h5, if_false])
    simp only [c2, if_true, g1, some_bind]
    exact ⟨p, v, a2, h2, rfl, by omega, by omega, g2, S2⟩
  simp only [c2, if_false, some_bind]
  exact ⟨p, w, a2, h2, rfl, by omega, by omega, by omega, S2⟩
theorem draw_element {c : List Int} {a h p : Int} {w : List Int} (hS : Src c a) (hp : 0 ≤ p) (hp2 : p ≤ 17) (hl : w.length ≤ 5) : ∃ (x : List Int) (a' h' : Int), s_l11DrawElement c a h p w = some (x, (c, a', h')) ∧ x.length ≤ 16 ∧ Src c a' := by
  unfold s_l11DrawElement
  obtain ⟨r, a1, h1, e1, r1, r2, S1⟩ := next_eq (h := h) (n := 4) hS (by omega) (by omega)
  obtain ⟨q, hq, hq4⟩ : ∃ q : Nat, imin 4 (w.length : Int) = (q : Int) ∧ q ≤ 4 := by
    unfold imin
    split
    · exact ⟨w.length, rfl, by omega⟩
    · exact ⟨4, rfl, by omega⟩
  obtain ⟨s1, s2⟩ := shl_one q (by omega)
  have h16 : 2 ^ q ≤ 16 := two_le hq4
  have hq0 := two_pos q
  have hmx : 1 ≤ imax 1 p ∧ imax 1 p ≤ 17 := by unfold imax; split <;> omega
  obtain ⟨b, g1, x, a2, h2, rfl, g3, S2⟩ := loop_inv (step := s_l11DrawElement_L0 p w (r, (c, a1, h1))) (fun s => ∃ (j : Nat) (a' h' : Int) (out : List Int), s = (c, a', h', out, (j : Int)) ∧ j ≤ 2 ^ q ∧ out.length = j ∧ Src c a') (fun s => 2 ^ q - s.2.2.2.2.toNat)
    (fun b => ∃ v a' h', b = (c, a', h', v) ∧ v.length = 2 ^ q ∧ Src c a') (s := (c, a1, h1, [], 0)) ⟨0, a1, h1, [], rfl, by omega, rfl, S1⟩ (by rw [BIG_val]; simp only []; omega) (by
      rintro s ⟨j, a', h', out, rfl, hj, hv, hS'⟩
      unfold s_l11DrawElement_L0
      simp only [hq, s1]
      rw [chk_bind s2]
      by_cases hjk : j < 2 ^ q
      · refine .inl ?_
        obtain ⟨r3, a3, h3, e3, p3, q3, S3⟩ := next_eq (h := h') (n := imax 1 p) hS' hmx.1 (by omega)
        simp only [lt_cast hjk, if_true, e3, some_bind]
        have key : ∃ (a4 h4 : Int) (t : Bool), (((if r = 0 then (s_l01Next c a3 h3 3).bind fun v12 => some (v12.2.1, v12.2.2.1, v12.2.2.2, ilt 0 v12.1) else some (c, a3, h3, false)) : Option ((List Int) × Int × Int × Bool))) = some (c, a4, h4, t) ∧ Src c a4 := by
          by_cases c0 : r = 0
          · obtain ⟨r4, a4, h4, e4, p4, q4, S4⟩ := next_eq (h := h3) (n := 3) S3 (by omega) (by omega)
            rw [if_pos c0, e4, some_bind]
            exact ⟨a4, h4, _, rfl, S4⟩
          · rw [if_neg c0]; exact ⟨a3, h3, _, rfl, S3⟩
        obtain ⟨a4, h4, t, e4, S4⟩ := key
        rw [e4, some_bind]
        simp only []
        obtain ⟨z, ez⟩ : ∃ z, ((if t = true then some 0 else some r3 : Option Int)) = some z := by
          cases t
          · exact ⟨r3, by simp⟩
          · exact ⟨0, by simp⟩
        rw [ez, some_bind, chk_bind (by simp only [List.length_cons, List.length_nil]; omega), w_in (by omega) (by omega)]
        exact ⟨_, rfl, ⟨j + 1, a4, h4, _, rfl, by omega, by rw [List.length_append]; simp; omega, S4⟩, by simp only []; omega⟩
      · have : j = 2 ^ q := by omega
        subst this
        refine .inr ⟨(c, a', h', out), ?_, out, a', h', rfl, hv, hS'⟩
        simp only [lt_cast_self, if_false])
  simp only [e1, some_bind, g1]
  obtain ⟨r5, a5, h5, e5, p5, q5, S5⟩ := next_eq (h := h2) (n := 60) S2 (by omega) (by omega)
  simp only [e5, some_bind]
  by_cases c0 : r5 = 0
  · obtain ⟨z, a6, h6, e6, m6, S6⟩ := pick_eq (h := h5) (l := [-1, p]) S5 (by simp) (by simp)
    simp only [c0, if_true, e6, some_bind, idxI0 (show 0 < x.length by omega)]
    exact ⟨_, a6, h6, rfl, by rw [List.length_set]; omega, S6⟩
  simp only [c0, if_false]
  by_cases c1 : r5 = 1
  · simp only [c1, if_true]
    rw [chk_bind (by omega), some_bind]
    exact ⟨_, a5, h5, rfl, by rw [List.length_drop]; omega, S5⟩
  simp only [c1, if_false, some_bind]
  exact ⟨_, a5, h5, rfl, by omega, S5⟩
end Go.Vam

/- Plain law: FnMultiplicationMatrices, the end. -/
namespace Go.Vam
open Go Go.RowKit
set_option linter.unusedSimpArgs false
set_option linter.unusedVariables false
set_option linter.unusedSectionVars false

def elC (p : Int) (w x : List Int) : Int := if isDb p w then (if elB p (2 ^ w.length) x then 0 else 2) else 1
theorem elC_of {p : Int} {w x : List Int} (h1 : isDb p w = true) (h2 : Vec p (2 ^ w.length) x) : elC p w x = 0 := by
  unfold elC; rw [if_pos h1, if_pos (elB_iff.2 h2)]
section
variable {p : Int} {w x : List Int} (hw : w.length ≤ 1048576) (hx : x.length ≤ 1048576)
include hw hx
theorem sz_one : szM [x] := ⟨by simp, fun y hy => by simp only [List.mem_cons, List.not_mem_nil, or_false] at hy; rw [hy]; exact hx⟩
theorem i_check_one : i_checkElements p w [x] = some (elC p w x) := by
  rw [i_checkElements_eq hw (sz_one hw hx)]; unfold elC; simp
end
section
variable {p : Int} {w x : List Int} (hD : isDb p w = true) (hx : Vec p (2 ^ w.length) x)
include hD hx
end
section
variable {p : Int} {w a b : List Int} (hP : isP p = true) (hl : w.length ≤ 3) (hw : Vec p w.length w) (ha : Vec p (2 ^ w.length) a) (hb : Vec p (2 ^ w.length) b) (ha0 : gI a 0 = 0) (hb0 : gI b 0 = 0)
include hP hl hw ha hb ha0 hb0
end
end Go.Vam

/- Plain law: FnInverses. -/
namespace Go.Vam
open Go Go.RowKit
set_option linter.unusedSimpArgs false
set_option linter.unusedVariables false
set_option linter.unusedSectionVars false

end Go.Vam

/- Plain laws: triples. -/
namespace Go.Vam
open Go Go.RowKit
set_option linter.unusedSimpArgs false
set_option linter.unusedVariables false
set_option linter.unusedSectionVars false

/-! ### The laws' helpers -/
section
variable {a b c : List (List Int)}
end

/-! ### UnitTriple -/
section
variable {p : Int} {w a b : List Int} (hP : isP p = true) (hl : w.length ≤ 4) (hw : Vec p w.length w) (ha : Vec p (2 ^ w.length) a) (hb : Vec p (2 ^ w.length) b)
include hP hl hw ha hb
end
abbrev gT3 (l : List (List (List Int) × List (List Int) × List (List Int))) (k : Nat) : List (List Int) × List (List Int) × List (List Int) := l.getD k ([], [], [])
def szTs (l : List (List (List Int) × List (List Int) × List (List Int))) : Prop := l.length ≤ 1024 ∧ ∀ x ∈ l, szM x.1 ∧ szM x.2.1 ∧ szM x.2.2
theorem szTs.at {l : List (List (List Int) × List (List Int) × List (List Int))} (h : szTs l) {k : Nat} (hk : k < l.length) : szM (gT3 l k).1 ∧ szM (gT3 l k).2.1 ∧ szM (gT3 l k).2.2 := by
  have := h.2 _ (List.getElem_mem hk)
  rwa [getD_get hk ([], [], [])] at this
section
variable {p : Int} {w : List Int} {l : List (List (List Int) × List (List Int) × List (List Int))} (hw : w.length ≤ 1048576) (hz : szTs l)
include hw hz
end
end Go.Vam

/- Plain laws: triples, turned and multiplied. -/
namespace Go.Vam
open Go Go.RowKit
set_option linter.unusedSimpArgs false
set_option linter.unusedVariables false
set_option linter.unusedSectionVars false

end Go.Vam

/- Plain laws: loops: whether a table is one; its nucleus and its centre. -/
namespace Go.Vam
open Go Go.RowKit
set_option linter.unusedSimpArgs false
set_option linter.unusedVariables false
set_option linter.unusedSectionVars false

section
variable {a : List (List Int)} (hn : a.length ≤ 128) (hl : ∀ i, i < a.length → (gR a i).length = a.length)
include hn hl
end
section
variable {a : List (List Int)} (hn : a.length ≤ 128) (hm : Mat (a.length : Int) a.length a.length a)
include hn hm
end

section
variable {a : List (List Int)} (hn : a.length ≤ 128) (hm : Mat (a.length : Int) a.length a.length a)
include hn hm
end

end Go.Vam

/- Plain laws: AutomorphismFrom. -/
namespace Go.Vam
open Go Go.RowKit
set_option linter.unusedSimpArgs false
set_option linter.unusedVariables false
set_option linter.unusedSectionVars false

section
variable {p : Int} {w : List Int} (hP : isP p = true) (hl : w.length ≤ 4) (hw : Vec p w.length w)
include hP hl hw
theorem axm_val {i j : Nat} (hi : i < 2 ^ w.length) (hj : j < 2 ^ w.length) : gI (axm p w i j) (i ^^^ j) = axS w.length w i j % p := by
  have hm := xor_lt hi hj
  have hv := (axm_vec hP hl hw hi hj).get hm
  have h1 : gI (axm p w i j) (i ^^^ j) % p = _ := mulr_gen (p := p) w.length hl w (axis (2 ^ w.length) i) (axis (2 ^ w.length) j) (i ^^^ j) hm
  rw [Int.emod_eq_of_lt hv.1 hv.2] at h1
  rw [h1, sumN_one hi (fun q hq hqi => by rw [gI_axis hi, if_neg hqi]; simp)]
  have hx : i ^^^ (i ^^^ j) = j := by rw [← Nat.xor_assoc, Nat.xor_self, Nat.zero_xor]
  rw [hx, gI_axis hi, if_pos rfl, gI_axis hj, if_pos rfl]
  simp
end
section
variable {p : Int} {w : List Int} {a : List (List Int)} (hP : isP p = true) (hl : w.length ≤ 3) (hw : Vec p w.length w) (hal : a.length = w.length) (ha : ∀ k, k < a.length → Vec p (2 ^ w.length) (gR a k))
include hP hl hw hal ha
end

end Go.Vam

/- Plain laws: the decomposition of an orthogonal matrix. -/
namespace Go.Vam
open Go Go.RowKit
set_option linter.unusedSimpArgs false
set_option linter.unusedVariables false

theorem RowsV.small {p : Int} {n : Nat} {L : List (List Int)} (h : RowsV p n L) (hn : n ≤ 100) (hl : L.length ≤ 2 * n) : smallM L := by
  have hm : Mat p L.length n L := ⟨rfl, fun i hi => h _ (by rw [← gR_get hi]; exact List.getElem_mem _)⟩
  exact smallM.of hm (by omega) (by omega)

end Go.Vam

/- Plain laws: counts of norms, the search of units. -/
namespace Go.Vam
open Go Go.RowKit
set_option linter.unusedSimpArgs false
set_option linter.unusedVariables false
set_option linter.unusedSectionVars false

section
variable {p : Int} (hP : isP p = true)
include hP
variable {w : List Int} (hl : w.length ≤ 3) (hw : Vec p w.length w)
include hl hw
end
end Go.Vam

/- Plain laws: UnitsOf. -/
namespace Go.Vam
open Go Go.RowKit
set_option linter.unusedSimpArgs false
set_option linter.unusedVariables false
set_option linter.unusedSectionVars false

section
variable {p : Int} (hP : isP p = true) {dl : List Int} (hdv : Vec p dl.length dl) (hL8 : dl.length ≤ 8)
include hP hdv hL8
end

section
variable {p : Int} {w : List Int} (hP : isP p = true) (hl : w.length ≤ 3) (hw : Vec p w.length w)
include hP hl hw
theorem i_element0 : i_Doubling_element p w 0 = some (axis (2 ^ w.length) 0) := by
  unfold i_Doubling_element
  rw [i_Doubling_size_eq (by omega), some_bind, i_unit_eq (by have := two_le (n := w.length) (by omega); omega), some_bind, idxR0 (by unfold unitm; rw [vecN_len]; exact two_pos _), some_bind]
  unfold unitm
  rw [gR_vecN _ (two_pos _)]
  rfl
end
end Go.Vam

/- Plain law: FnExactUnitsOf. -/
namespace Go.Vam
open Go Go.RowKit
set_option linter.unusedSimpArgs false
set_option linter.unusedVariables false

end Go.Vam

/- Plain laws: the norm of a product; LoopOfUnits. -/
namespace Go.Vam
open Go Go.RowKit
set_option linter.unusedSimpArgs false
set_option linter.unusedVariables false
set_option linter.unusedSectionVars false

def dD (n : Nat) (w : List Int) (m : Nat) : Int := sgs m * axS n w m m
theorem dD_split {n : Nat} (hn : n ≤ 4) (w : List Int) {m : Nat} (hm : m < 2 ^ n) : dD n w m = sgs m * sgF n m m * wpF w n m := by
  unfold dD
  rw [axS_split n hn w m m hm hm, Nat.and_self, Int.mul_assoc]
end Go.Vam

/- Plain law: LoopOfUnits. -/
namespace Go.Vam
open Go Go.RowKit
set_option linter.unusedSimpArgs false
set_option linter.unusedVariables false
set_option linter.unusedSectionVars false

section
variable {p : Int} {w : List Int} (hP : isP p = true) (hl : w.length ≤ 3) (hw : Vec p w.length w)
include hP hl hw
end
section
variable {p : Int} {w : List Int} {U : List (List Int)} {C : Int} (hP : isP p = true) (hl : w.length ≤ 3) (hw : Vec p w.length w) (hU : U.length ≤ 1000) (hv : ∀ i, i < U.length → Vec p (2 ^ w.length) (gR U i))
  (hc : ∀ i j, i < U.length → j < U.length → mulp p w (gR U i) (gR U j) ∈ U)
include hP hl hw hU hv hc
end
end Go.Vam

/- Plain algebra: the identities of Moufang, products with conjugates. -/
namespace Go.Vam
open Go Go.RowKit
set_option linter.unusedSimpArgs false
set_option linter.unusedVariables false
set_option linter.unusedSectionVars false

/-! ### Digits -/
theorem testBit_high {n m : Nat} (h1 : 2 ^ n ≤ m) (h2 : m < 2 ^ (n + 1)) : m.testBit n = true := by
  rw [Nat.testBit_eq_decide_div_mod_eq]
  have hp := Nat.two_pow_pos n
  have : m / 2 ^ n = 1 := by
    rw [Nat.pow_succ] at h2
    exact Nat.div_eq_of_lt_le (by omega) (by omega)
  rw [this]; rfl
def monN (w : List Int) : Nat → (Nat → Nat) → Int
  | 0, _ => 1
  | n + 1, f => gI w n ^ f n * monN w n f
theorem monN_congr {w : List Int} : ∀ {n : Nat} {f g : Nat → Nat}, (∀ t, t < n → f t = g t) → monN w n f = monN w n g
  | 0, _, _, _ => rfl
  | n + 1, f, g, h => by unfold monN; rw [h n (by omega), monN_congr fun t ht => h t (by omega)]
theorem monN_mul (w : List Int) : ∀ (n : Nat) (f g : Nat → Nat), monN w n f * monN w n g = monN w n fun t => f t + g t
  | 0, _, _ => rfl
  | n + 1, f, g => by unfold monN; rw [← monN_mul w n f g, Int.pow_add]; grind
theorem wpF_mon (w : List Int) : ∀ (n m : Nat), m < 2 ^ n → wpF w n m = monN w n fun t => (m.testBit t).toNat
  | 0, _, _ => rfl
  | n + 1, m, hm => by
    unfold wpF monN
    have hp := Nat.two_pow_pos n
    rw [wpF_mon w n (m % 2 ^ n) (Nat.mod_lt _ hp)]
    congr 1
    · by_cases h : m < 2 ^ n
      · simp only [if_pos h, Nat.testBit_lt_two_pow h]; show (1 : Int) = gI w n ^ 0; rw [Int.pow_zero]
      · simp only [if_neg h, testBit_high (show 2 ^ n ≤ m by omega) hm]; show gI w n = gI w n ^ 1; rw [Int.pow_succ, Int.pow_zero, Int.one_mul]
    · exact monN_congr fun t ht => by rw [Nat.testBit_mod_two_pow]; simp [ht]
theorem and_lt {n i j : Nat} (hi : i < 2 ^ n) : i &&& j < 2 ^ n := Nat.lt_of_le_of_lt Nat.and_le_left hi
theorem xc1 (a b : Nat) : a ^^^ (a ^^^ b) = b := by rw [← Nat.xor_assoc, Nat.xor_self, Nat.zero_xor]
theorem xc2 (a b : Nat) : a ^^^ (b ^^^ a) = b := by rw [Nat.xor_comm b a, xc1]
theorem xc3 (a b : Nat) : (a ^^^ b) ^^^ a = b := by rw [Nat.xor_comm, xc1]
theorem xc4 (a b : Nat) : (b ^^^ a) ^^^ a = b := by rw [Nat.xor_assoc, Nat.xor_self, Nat.xor_zero]

section
variable {n : Nat} (hn : n ≤ 3) (w : List Int)
include hn
end
end Go.Vam

/- Plain algebra: what is divided by an element of norm 1. -/
namespace Go.Vam
open Go Go.RowKit
set_option linter.unusedSimpArgs false
set_option linter.unusedVariables false
set_option linter.unusedSectionVars false

def e2 (u v t : Nat) : Nat := (u.testBit t).toNat + (v.testBit t).toNat
theorem monN_two {w : List Int} {n u v : Nat} (hn : n ≤ 4) (hu : u < 2 ^ n) (hv : v < 2 ^ n) : wpF w n u * wpF w n v = monN w n (e2 u v) := by
  rw [wpF_mon w n u hu, wpF_mon w n v hv, monN_mul]; rfl
section
variable {n : Nat} (hn : n ≤ 3) (w : List Int)
include hn
end

/-! ### The same for elements -/
section
variable {p : Int} {w : List Int} (hP : isP p = true) (hl : w.length ≤ 3) (hw : Vec p w.length w)
include hP hl hw
end
end Go.Vam

/- Plain algebra: a space of solutions by coordinates: how many it takes. -/
namespace Go.Vam
open Go Go.RowKit
set_option linter.unusedSimpArgs false
set_option linter.unusedVariables false
set_option linter.unusedSectionVars false

theorem Kr_comb {p : Int} {n : Nat} {B : List (List Int)} {k : Nat} (c : Nat → Int) {X : Nat → Nat → Int} (h : ∀ i, i < k → Kr p n B (X i)) : Kr p n B (fun q => sumN (fun i => c i * X i q) k) := by
  intro j hj
  rw [rd_comb]
  exact sumN_dvd fun i hi => Int.dvd_mul_of_dvd_right (h i hi j hj)
section
variable {p : Int} {n : Nat} {B : List (List Int)} {ld : Nat → Nat}
theorem freeL_mem {t : Nat} (ht : t < (freeL n B ld n).length) : (freeL n B ld n).getD t 0 < n ∧ isLd B.length ld ((freeL n B ld n).getD t 0) = false := by
  rw [List.getD_eq_getElem?_getD, List.getElem?_eq_getElem ht]
  have hm := List.getElem_mem ht
  have hf : ∀ f, f ∈ freeL n B ld n → f < n ∧ isLd B.length ld f = false := fun f hf => by
    unfold freeL at hf
    rw [List.mem_filter, List.mem_range] at hf
    simpa using hf
  exact hf _ hm
theorem freeL_has {q : Nat} (hq : q < n) (h : isLd B.length ld q = false) : ∃ t, t < (freeL n B ld n).length ∧ (freeL n B ld n).getD t 0 = q := by
  have : q ∈ freeL n B ld n := by
    unfold freeL
    rw [List.mem_filter, List.mem_range]
    simp [hq, h]
  obtain ⟨t, ht, e⟩ := List.getElem_of_mem this
  exact ⟨t, ht, by rw [List.getD_eq_getElem?_getD, List.getElem?_eq_getElem ht, e]; rfl⟩
theorem freeL_inj {s t : Nat} (hs : s < (freeL n B ld n).length) (ht : t < (freeL n B ld n).length) (e : (freeL n B ld n).getD s 0 = (freeL n B ld n).getD t 0) : s = t := by
  have hnd : (freeL n B ld n).Nodup := List.Pairwise.filter _ List.nodup_range
  rw [List.getD_eq_getElem?_getD, List.getElem?_eq_getElem hs, List.getD_eq_getElem?_getD, List.getElem?_eq_getElem ht] at e
  exact nodup_get_inj hnd hs ht (by simpa using e)
theorem Ech.free_zero (h : Ech p n B ld) {u : Nat → Int} (hu : Kr p n B u) (hz : ∀ t, t < (freeL n B ld n).length → p ∣ u ((freeL n B ld n).getD t 0)) : ∀ q, q < n → p ∣ u q := by
  have hfree : ∀ q, q < n → isLd B.length ld q = false → p ∣ u q := fun q hq e => by
    obtain ⟨t, ht, rfl⟩ := freeL_has (B := B) (ld := ld) hq e
    exact hz t ht
  intro q hq
  cases e : isLd B.length ld q with
  | false => exact hfree q hq e
  | true =>
    obtain ⟨j, hj, rfl⟩ := isLd_iff.1 e
    have h1 := hu j hj
    rw [h.row_lead hj] at h1
    refine (Int.dvd_add_right ?_).1 h1
    refine sumN_dvd fun q hq => ?_
    cases e : isLd B.length ld q with
    | true => exact Int.dvd_zero p
    | false => exact Int.dvd_mul_of_dvd_right (hfree q hq e)
theorem dim_coords (hP : isP p = true) (hn : n ≤ 1048000) (hB : Ech p n B ld) {D : Nat} (hD : D ≤ 1048000) (X : Nat → Nat → Int) (cd : Nat → Nat) (hX : ∀ i, i < D → Kr p n B (X i)) (hc : ∀ j, j < D → cd j < n)
    (hdel : ∀ i j, i < D → j < D → i ≠ j → p ∣ X i (cd j)) (hone : ∀ i, i < D → ¬ p ∣ X i (cd i)) (huni : ∀ u, Kr p n B u → (∀ j, j < D → p ∣ u (cd j)) → ∀ q, q < n → p ∣ u q) : D + B.length = n := by
  have hp := isP_le hP
  have hlen := freeL_len hB
  have pick : ∀ (c : Nat → Int) i, i < D → p ∣ sumN (fun i => c i * X i (cd i)) 0 → True := fun _ _ _ _ => trivial
  have a1 : D ≤ (freeL n B ld n).length := by
    rcases Nat.lt_or_ge (freeL n B ld n).length D with hlt | hge
    · exfalso
      obtain ⟨c, ⟨i, hi, hci⟩, hz⟩ := more_unknowns hP hD hlt (fun i t => X i ((freeL n B ld n).getD t 0))
      have hall := hB.free_zero (Kr_comb c hX) hz
      have h1 := hall (cd i) (hc i hi)
      have h2 : p ∣ sumN (fun k => c k * X k (cd i)) D - c i * X i (cd i) := by
        have : sumN (fun k => c k * X k (cd i)) D - c i * X i (cd i) = sumN (fun k => if k = i then 0 else c k * X k (cd i)) D := by
          have := sumN_upd (fun k => if k = i then 0 else c k * X k (cd i)) i (c i * X i (cd i)) D hi (by simp)
          have e : sumN (fun k => c k * X k (cd i)) D = sumN (fun q => if q = i then c i * X i (cd i) else if q = i then 0 else c q * X q (cd i)) D := sumN_congr fun k _ => by
            by_cases h : k = i
            · subst h; simp
            · simp [h]
          rw [e, this]; omega
        rw [this]
        refine sumN_dvd fun k hk => ?_
        by_cases h : k = i
        · rw [if_pos h]; exact Int.dvd_zero p
        · rw [if_neg h]; exact Int.dvd_mul_of_dvd_right (hdel k i hk hi h)
      have h3 : p ∣ c i * X i (cd i) := by
        have := Int.dvd_sub h1 h2
        rwa [Int.sub_sub_self] at this
      rcases (prime_dvd hP).1 h3 with h | h
      · exact hci h
      · exact hone i hi h
    · exact hge
  have a2 : (freeL n B ld n).length ≤ D := by
    rcases Nat.lt_or_ge D (freeL n B ld n).length with hlt | hge
    · exfalso
      obtain ⟨c, ⟨i, hi, hci⟩, hz⟩ := more_unknowns hP (by omega) hlt (fun t j => freeF B ld ((freeL n B ld n).getD t 0) (cd j))
      have hk : ∀ t, t < (freeL n B ld n).length → Kr p n B (freeF B ld ((freeL n B ld n).getD t 0)) := fun t ht => by
        obtain ⟨m1, m2⟩ := freeL_mem (B := B) (ld := ld) ht
        exact freeF_ker hB m2 m1
      have hall := huni _ (Kr_comb c hk) hz
      obtain ⟨m1, m2⟩ := freeL_mem (B := B) (ld := ld) hi
      have h1 := hall _ m1
      have e : freeF B ld ((freeL n B ld n).getD i 0) ((freeL n B ld n).getD i 0) = 1 := by unfold freeF; rw [if_pos rfl]
      have e2 : sumN (fun t => c t * freeF B ld ((freeL n B ld n).getD t 0) ((freeL n B ld n).getD i 0)) (freeL n B ld n).length = c i := by
        rw [sumN_one hi (fun t ht hne => by rw [freeF_other m2 (fun e => hne (freeL_inj hi ht e).symm), Int.mul_zero]), e, Int.mul_one]
      simp only [e2] at h1
      exact hci h1
    · exact hge
  omega
end

theorem Mat.one {p : Int} {n : Nat} {E : List (List Int)} {r : List Int} (h : Mat p E.length n E) (hr : Vec p n r) : Mat p (E ++ [r]).length n (E ++ [r]) := by
  rw [List.length_append]
  refine h.append ⟨rfl, fun i hi => ?_⟩
  have : i = 0 := by simp at hi; omega
  subst this; exact hr
theorem gI_zeros (n q : Nat) : gI (List.replicate n 0) q = 0 := by
  unfold gI
  rw [List.getD_eq_getElem?_getD, List.getElem?_replicate]
  split <;> rfl
theorem rd_zeros (n m : Nat) (u : Nat → Int) : rd m (List.replicate n 0) u = 0 := by
  unfold rd
  rw [sumN_congr (g := fun _ => 0) fun k _ => by rw [gI_zeros, Int.zero_mul]]
  exact sumN_zero _
end Go.Vam

/- Plain laws: the equations of local triples. -/
namespace Go.Vam
open Go Go.RowKit
set_option linter.unusedSimpArgs false
set_option linter.unusedVariables false
set_option linter.unusedSectionVars false

section
variable {p : Int} {w : List Int} {N : Nat} {T : List (List Int)} {D : List Int} (hp : 3 ≤ p) (hp2 : p ≤ 13) (hN : N ≤ 8) (hpw : ∃ n, n ≤ 3 ∧ N = 2 ^ n) (hT : Mat p N N T) (hD : Vec p N D)
include hp hp2 hN hD in
include hp hp2 hN hD in
include hp hp2 hN hpw hT in
include hp hp2 hN hpw hT in
include hp hp2 hN hpw hT in
end
end Go.Vam

/- Plain algebra: the space of local triples: its coordinates, their number. -/
namespace Go.Vam
open Go Go.RowKit
set_option linter.unusedSimpArgs false
set_option linter.unusedVariables false
set_option linter.unusedSectionVars false

/-! ### Signs -/
def epsF (n i : Nat) : Int := sgs i * sgF n i i
end Go.Vam

/- Plain algebra: the space of local triples has 0, 2, 9 or 28 dimensions. -/
namespace Go.Vam
open Go Go.RowKit
set_option linter.unusedSimpArgs false
set_option linter.unusedVariables false
set_option linter.unusedSectionVars false

theorem one_mul_pm {x y : Int} (hx : x = 1 ∨ x = -1) (hy : y = 1 ∨ y = -1) : x * y = 1 ∨ x * y = -1 := by
  rcases hx with rfl | rfl <;> rcases hy with rfl | rfl <;> simp
theorem sgs_one (j : Nat) : sgs j = 1 ∨ sgs j = -1 := by unfold sgs; split <;> simp
theorem sgF_one : ∀ n i j, sgF n i j = 1 ∨ sgF n i j = -1
  | 0, _, _ => .inl rfl
  | n + 1, i, j => by
    unfold sgF
    split <;> split
    · exact sgF_one n _ _
    · exact sgF_one n _ _
    · exact one_mul_pm (sgs_one _) (sgF_one n _ _)
    · exact one_mul_pm (sgs_one _) (sgF_one n _ _)
theorem one_sq {x : Int} (hx : x = 1 ∨ x = -1) : x * x = 1 := by rcases hx with rfl | rfl <;> rfl
theorem dvd_one {p c x : Int} (hc : c = 1 ∨ c = -1) : p ∣ c * x ↔ p ∣ x := by
  rcases hc with rfl | rfl
  · rw [Int.one_mul]
  · rw [Int.neg_mul, Int.one_mul, Int.dvd_neg]
theorem wpF_nz {p : Int} {w : List Int} (hP : isP p = true) : ∀ n, (∀ t, t < n → ¬ p ∣ gI w t) → ∀ m, ¬ p ∣ wpF w n m
  | 0, _, _ => by
    have := isP_le hP
    unfold wpF
    intro h
    have := Int.le_of_dvd (by omega) h
    omega
  | n + 1, h, m => by
    have hp := isP_le hP
    unfold wpF
    intro hd
    rcases (prime_dvd hP).1 hd with h1 | h1
    · split at h1
      · have := Int.le_of_dvd (by omega) h1
        omega
      · exact h n (by omega) h1
    · exact wpF_nz hP n (fun t ht => h t (by omega)) _ h1
theorem not_two {p : Int} (hP : isP p = true) : ¬ p ∣ 2 := fun h => by
  have hp := isP_le hP
  have := Int.le_of_dvd (by omega) h
  omega
def e3 (a b c t : Nat) : Nat := (a.testBit t).toNat + ((b.testBit t).toNat + (c.testBit t).toNat)
def maj3 (i j k : Nat) : Nat := (i &&& j) ||| ((j &&& k) ||| (i &&& k))
theorem maj_lt {n i j k : Nat} (hi : i < 2 ^ n) (hj : j < 2 ^ n) (hk : k < 2 ^ n) : maj3 i j k < 2 ^ n := Nat.or_lt_two_pow (and_lt hi) (Nat.or_lt_two_pow (and_lt hj) (and_lt hi))

section
variable {p : Int} {w : List Int} (hP : isP p = true) (hl : w.length ≤ 3) (hw : Vec p w.length w) (hz : hasZ w = false)
include hP hl hw hz
theorem step_nz : ∀ t, t < w.length → ¬ p ∣ gI w t := fun t ht h => by
  have h1 := (num_dvd (hw.get ht)).1 h
  have : hasZ w = true := (hasZ_iff w).2 (by rw [← h1, ← gI_get ht]; exact List.getElem_mem _)
  rw [hz] at this; cases this
theorem W_nz (m : Nat) : ¬ p ∣ wpF w w.length m := wpF_nz hP _ (step_nz hP hl hw hz) m
theorem dg_mod {i : Nat} (hi : i < 2 ^ w.length) : gI (dgv p w w.length) i % p = (epsF w.length i * wpF w w.length i) % p := by
  have hp := isP_le hP
  rw [dgv_at (by omega) w.length w i hi]
  have := dD_split (n := w.length) (by omega) w hi
  unfold dD at this
  rw [this]; rfl
theorem T_mod {x y : Nat} (hx : x < 2 ^ w.length) (hy : y < 2 ^ w.length) : gI (gR (prodm p w) x) y % p = (sgF w.length x y * wpF w w.length (x &&& y)) % p := by
  have hp := isP_le hP
  have e1 : gI (gR (prodm p w) x) y = axS w.length w x y % p := by
    unfold prodm
    rw [gR_vecN _ hx, gI_vecN _ hy]
    exact axm_val hP (by omega) hw hx hy
  rw [e1, emm, axS_split w.length (by omega) w x y hx hy]
end
end Go.Vam

/- Plain law: LocalDimension. -/
namespace Go.Vam
open Go Go.RowKit
set_option linter.unusedSimpArgs false
set_option linter.unusedVariables false
set_option linter.unusedSectionVars false

section
variable {p : Int} {w : List Int} (hP : isP p = true) (hl : w.length ≤ 3) (hw : Vec p w.length w) (hz : hasZ w = false)
include hP hl hw hz
theorem W_dvd {m : Nat} {x : Int} (h : p ∣ wpF w w.length m * x) : p ∣ x := by
  rcases (prime_dvd hP).1 h with h1 | h1
  · exact absurd h1 (W_nz hP hl hw hz m)
  · exact h1
end
end Go.Vam

/- Plain algebra: finite sign facts about derivations of three steps. -/
namespace Go.Vam
open Go Go.RowKit
set_option linter.unusedSimpArgs false
set_option linter.unusedVariables false
set_option linter.unusedSectionVars false

def chkDv (g : Nat) (Y : Nat → Int) : Bool := (List.range 8).all fun i => (List.range 8).all fun k => decide (sgF 3 i k * Y (i ^^^ k) - sgF 3 (i ^^^ g) k * Y i - sgF 3 i (k ^^^ g) * Y k = 0)
def dIL (i l j : Nat) : Int := (sgF 3 i l - sgF 3 l i) * (sgF 3 (i ^^^ l) j - sgF 3 j (i ^^^ l)) - 3 * (sgF 3 i l * sgF 3 (i ^^^ l) j - sgF 3 l j * sgF 3 i (l ^^^ j))
def dr1 (g : Nat) : Nat := if g = 1 then 2 else 1
def dr2 (g : Nat) : Nat := if g < 4 then 4 else 2
def drvY (g : Nat) (a b : Int) (k : Nat) : Int :=
  let r1 := dr1 g; let r2 := dr2 g; let c := sgF 3 r1 r2 * (sgF 3 (r1 ^^^ g) r2 * a + sgF 3 r1 (r2 ^^^ g) * b)
  if k = r1 then a else if k = r2 then b else if k = r1 ^^^ r2 then c else if k = r1 ^^^ g then sgF 3 r1 g * sgF 3 (r1 ^^^ g) g * a else if k = r2 ^^^ g then sgF 3 r2 g * sgF 3 (r2 ^^^ g) g * b
  else if k = r1 ^^^ r2 ^^^ g then sgF 3 (r1 ^^^ r2) g * sgF 3 (r1 ^^^ r2 ^^^ g) g * c else 0
def dvG (j : Nat) : Nat := j / 2 + 1
def dvR (j : Nat) : Nat := if j % 2 = 0 then dr1 (dvG j) else dr2 (dvG j)
def dvY (j : Nat) (k : Nat) : Int := if j % 2 = 0 then drvY (dvG j) 1 0 k else drvY (dvG j) 0 1 k
theorem chk_dvY : ((List.range 14).all fun j => chkDv (dvG j) (dvY j)) = true := by decide +kernel
theorem chk_dvC : ((List.range 14).all fun i => (List.range 14).all fun j => decide ((if dvG j = dvG i then dvY i (dvR j) else 0) = if i = j then 1 else 0)) = true := by decide +kernel
theorem chk_dvR : ((List.range 14).all fun j => decide (0 < dvG j) && decide (dvG j < 8) && decide (dvR j < 8)) = true := by decide +kernel
theorem chk_cov : ((List.range 8).all fun g => (List.range 8).all fun k => decide (g = 0) || decide (k = 0) || decide (k = g) || decide (k = dr1 g) || decide (k = dr2 g) || decide (k = dr1 g ^^^ dr2 g) || decide (k = dr1 g ^^^ g) || decide (k = dr2 g ^^^ g) || decide (k = dr1 g ^^^ dr2 g ^^^ g)) = true := by decide +kernel
theorem chk_dil : ((List.range 8).all fun i => (List.range 8).all fun l => chkDv (i ^^^ l) (dIL i l)) = true := by decide +kernel
theorem chk_sym : ((List.range 8).all fun i => (List.range 8).all fun l => (List.range 8).all fun j => decide (dIL i l j + dIL j l i = if i = 0 ∨ l = 0 ∨ j = 0 then 0 else
  (if i = j then 8 * epsF 3 i else 0) - (if i = l then 4 * epsF 3 l else 0) - (if j = l then 4 * epsF 3 l else 0))) = true := by decide +kernel
end Go.Vam

/- Plain algebra: equations of derivations of at most three steps, by steps. -/
namespace Go.Vam
open Go Go.RowKit
set_option linter.unusedSimpArgs false
set_option linter.unusedVariables false
set_option linter.unusedSectionVars false

theorem maj_ext {a b c d e f : Nat} (h : ∀ t, ((a.testBit t && b.testBit t) || ((b.testBit t && c.testBit t) || (a.testBit t && c.testBit t))) = ((d.testBit t && e.testBit t) || ((e.testBit t && f.testBit t) || (d.testBit t && f.testBit t)))) : maj3 a b c = maj3 d e f :=
  Nat.eq_of_testBit_eq fun t => by
    unfold maj3
    simp only [Nat.testBit_or, Nat.testBit_and]
    exact h t
theorem maj_perm1 (a b c : Nat) : maj3 a b c = maj3 b a c := maj_ext fun t => by cases a.testBit t <;> cases b.testBit t <;> cases c.testBit t <;> rfl
theorem maj_perm2 (a b c : Nat) : maj3 a b c = maj3 a c b := maj_ext fun t => by cases a.testBit t <;> cases b.testBit t <;> cases c.testBit t <;> rfl
theorem maj_two (a b : Nat) : maj3 a b a = a := Nat.eq_of_testBit_eq fun t => by
  unfold maj3
  simp only [Nat.testBit_or, Nat.testBit_and]
  cases a.testBit t <;> cases b.testBit t <;> rfl
theorem rd_put {p : Int} {n : Nat} {v : List Int} {q : Nat} {x : Int} (u : Nat → Int) (hq : q < n) (hl : v.length = n) : p ∣ rd n (v.set q ((gI v q + x) % p)) u - (rd n v u + x * u q) := by
  have h1 : rd n (v.set q ((gI v q + x) % p)) u = rd n v u + ((gI v q + x) % p - gI v q) * u q := by
    unfold rd
    have := sumN_upd (fun k => if k = q then 0 else gI v k * u k) q ((gI v q + x) % p * u q) n hq (by simp)
    have e2 := sumN_upd (fun k => if k = q then 0 else gI v k * u k) q (gI v q * u q) n hq (by simp)
    have e3 : sumN (fun k => gI (v.set q ((gI v q + x) % p)) k * u k) n = sumN (fun k => if k = q then (gI v q + x) % p * u q else (if k = q then 0 else gI v k * u k)) n := sumN_congr fun k hk => by
      by_cases h : k = q
      · subst h
        rw [if_pos rfl, gI_set (by omega), if_pos rfl]
      · rw [if_neg h, if_neg h, gI_set (by omega), if_neg (fun e => h e.symm)]
    have e4 : sumN (fun k => gI v k * u k) n = sumN (fun k => if k = q then gI v q * u q else (if k = q then 0 else gI v k * u k)) n := sumN_congr fun k hk => by
      by_cases h : k = q
      · subst h; rw [if_pos rfl]
      · rw [if_neg h, if_neg h]
    rw [e3, e4, this, e2, Int.sub_mul]; omega
  rw [h1]
  have h2 : p ∣ (gI v q + x) % p - (gI v q + x) := by rw [← mod_dvd, emm]
  have e : rd n v u + ((gI v q + x) % p - gI v q) * u q - (rd n v u + x * u q) = ((gI v q + x) % p - (gI v q + x)) * u q := by grind
  rw [e]
  exact Int.dvd_mul_of_dvd_left h2
section
variable {p : Int} {w : List Int} (hP : isP p = true) (hl : w.length ≤ 3) (hw : Vec p w.length w) (hz : hasZ w = false)
include hP hl hw hz
theorem wmaj {a b c : Nat} (ha : a < 2 ^ w.length) (hb : b < 2 ^ w.length) (hc : c < 2 ^ w.length) : wpF w w.length (a &&& b) * wpF w w.length ((a ^^^ b) &&& c) = wpF w w.length (maj3 a b c) := by
  rw [monN_two (by omega) (and_lt ha) (and_lt (xor_lt ha hb)), wpF_mon w _ _ (maj_lt ha hb hc)]
  refine monN_congr fun t _ => ?_
  unfold e2 maj3
  simp only [Nat.testBit_and, Nat.testBit_or, Nat.testBit_xor]
  cases a.testBit t <;> cases b.testBit t <;> cases c.testBit t <;> rfl
def dvc (p : Int) (w : List Int) (u : Nat → Int) (i k g : Nat) : Prop :=
  p ∣ sgF w.length i k * wpF w w.length (i &&& k) * u (((i ^^^ k) ^^^ g) * 2 ^ w.length + (i ^^^ k)) - sgF w.length (i ^^^ g) k * wpF w w.length ((i ^^^ g) &&& k) * u ((i ^^^ g) * 2 ^ w.length + i) -
    sgF w.length i (k ^^^ g) * wpF w w.length (i &&& (k ^^^ g)) * u ((k ^^^ g) * 2 ^ w.length + k)
theorem drv_iff {i k r : Nat} (hi : i < 2 ^ w.length) (hk : k < 2 ^ w.length) (hr : r < 2 ^ w.length) (u : Nat → Int) :
    p ∣ rd (2 ^ w.length * 2 ^ w.length) (drvR p (2 ^ w.length) (prodm p w) i k r) u ↔ dvc p w u i k (r ^^^ (i ^^^ k)) := by
  have hik := xor_lt hi hk
  have hrk := xor_lt hr hk
  have hri := xor_lt hr hi
  have q1 := place_lt hr hik
  have q2 := place_lt hrk hi
  have q3 := place_lt hri hk
  have e1 : i ^^^ (r ^^^ (i ^^^ k)) = r ^^^ k := Nat.eq_of_testBit_eq fun t => by
    simp only [Nat.testBit_xor]; cases i.testBit t <;> cases k.testBit t <;> cases r.testBit t <;> rfl
  have e2 : k ^^^ (r ^^^ (i ^^^ k)) = r ^^^ i := Nat.eq_of_testBit_eq fun t => by
    simp only [Nat.testBit_xor]; cases i.testBit t <;> cases k.testBit t <;> cases r.testBit t <;> rfl
  have e3 : (i ^^^ k) ^^^ (r ^^^ (i ^^^ k)) = r := Nat.eq_of_testBit_eq fun t => by
    simp only [Nat.testBit_xor]; cases i.testBit t <;> cases k.testBit t <;> cases r.testBit t <;> rfl
  unfold dvc drvR
  rw [e1, e2, e3]
  simp only []
  have l0 : (List.replicate (2 ^ w.length * 2 ^ w.length) (0 : Int)).length = 2 ^ w.length * 2 ^ w.length := by simp
  generalize hA : List.replicate (2 ^ w.length * 2 ^ w.length) (0 : Int) = A at l0 ⊢
  have r0 : rd (2 ^ w.length * 2 ^ w.length) A u = 0 := by rw [← hA]; exact rd_zeros _ _ _
  have s1 := rd_put (p := p) (v := A) (x := gI (gR (prodm p w) i) k) u q1 l0
  generalize hB : A.set (r * 2 ^ w.length + (i ^^^ k)) ((gI A (r * 2 ^ w.length + (i ^^^ k)) + gI (gR (prodm p w) i) k) % p) = B at s1 ⊢
  have lB : B.length = 2 ^ w.length * 2 ^ w.length := by rw [← hB, List.length_set]; exact l0
  have s2 := rd_put (p := p) (v := B) (x := - gI (gR (prodm p w) (r ^^^ k)) k) u q2 lB
  rw [← Int.sub_eq_add_neg] at s2
  generalize hC : B.set ((r ^^^ k) * 2 ^ w.length + i) ((gI B ((r ^^^ k) * 2 ^ w.length + i) - gI (gR (prodm p w) (r ^^^ k)) k) % p) = C at s2 ⊢
  have lC : C.length = 2 ^ w.length * 2 ^ w.length := by rw [← hC, List.length_set]; exact lB
  have s3 := rd_put (p := p) (v := C) (x := - gI (gR (prodm p w) i) (r ^^^ i)) u q3 lC
  rw [← Int.sub_eq_add_neg] at s3
  have t1 := T_mod hP hl hw hz hi hk
  have t2 := T_mod hP hl hw hz hrk hk
  have t3 := T_mod hP hl hw hz hi hri
  rw [r0] at s1
  have f1 := Int.dvd_mul_of_dvd_left (c := u (r * 2 ^ w.length + (i ^^^ k))) (mod_dvd.1 t1)
  have f2 := Int.dvd_mul_of_dvd_left (c := u ((r ^^^ k) * 2 ^ w.length + i)) (mod_dvd.1 t2)
  have f3 := Int.dvd_mul_of_dvd_left (c := u ((r ^^^ i) * 2 ^ w.length + k)) (mod_dvd.1 t3)
  have hall := Int.dvd_add (Int.dvd_add s1 (Int.dvd_add s2 s3)) (Int.dvd_sub f1 (Int.dvd_add f2 f3))
  constructor
  · intro h
    have := Int.dvd_sub h hall
    refine (show ∀ {a b : Int}, p ∣ a → a = b → p ∣ b from fun h e => e ▸ h) this ?_
    grind
  · intro h
    have := Int.dvd_add h hall
    refine (show ∀ {a b : Int}, p ∣ a → a = b → p ∣ b from fun h e => e ▸ h) this ?_
    grind
theorem drvK_iff {i k : Nat} (u : Nat → Int) : KerP p (2 ^ w.length) (2 ^ w.length * 2 ^ w.length) (drvK p w i k) u ↔ ∀ r, r < 2 ^ w.length → p ∣ rd (2 ^ w.length * 2 ^ w.length) (drvR p (2 ^ w.length) (prodm p w) i k r) u := by
  unfold KerP drvK
  constructor
  · intro h r hr
    have := h r hr
    rwa [gR_vecN _ hr] at this
  · intro h r hr
    rw [gR_vecN _ hr]
    exact h r hr
theorem drvI_iff {i : Nat} (hi : i < 2 ^ w.length) (u : Nat → Int) : ∀ m, m ≤ 2 ^ w.length → (KerP p (m * 2 ^ w.length) (2 ^ w.length * 2 ^ w.length) (drvI p w i m) u ↔ ∀ k, k < m → ∀ r, r < 2 ^ w.length → p ∣ rd (2 ^ w.length * 2 ^ w.length) (drvR p (2 ^ w.length) (prodm p w) i k r) u)
  | 0, _ => ⟨fun _ k hk => by omega, fun _ j hj => by rw [Nat.zero_mul] at hj; omega⟩
  | m + 1, hm => by
    rw [Nat.add_mul, Nat.one_mul, show drvI p w i (m + 1) = drvI p w i m ++ drvK p w i m from rfl, KerP_append (drvI_mat hP (by omega) hw hi m (by omega)).1, drvI_iff hi u m (by omega), drvK_iff hP hl hw hz]
    constructor
    · rintro ⟨h1, h2⟩ k hk
      by_cases e : k = m
      · subst e; exact h2
      · exact h1 k (by omega)
    · exact fun h => ⟨fun k hk => h k (by omega), h m (by omega)⟩
theorem drvA_iff (u : Nat → Int) : ∀ m, m ≤ 2 ^ w.length → (KerP p (m * (2 ^ w.length * 2 ^ w.length)) (2 ^ w.length * 2 ^ w.length) (drvA p w m) u ↔ ∀ i, i < m → ∀ k, k < 2 ^ w.length → ∀ r, r < 2 ^ w.length → p ∣ rd (2 ^ w.length * 2 ^ w.length) (drvR p (2 ^ w.length) (prodm p w) i k r) u)
  | 0, _ => ⟨fun _ k hk => by omega, fun _ j hj => by rw [Nat.zero_mul] at hj; omega⟩
  | m + 1, hm => by
    rw [Nat.add_mul, Nat.one_mul, show drvA p w (m + 1) = drvA p w m ++ drvI p w m (2 ^ w.length) from rfl, KerP_append (drvA_mat hP (by omega) hw m (by omega)).1, drvA_iff u m (by omega), drvI_iff hP hl hw hz (by omega) u _ (Nat.le_refl _)]
    constructor
    · rintro ⟨h1, h2⟩ k hk
      by_cases e : k = m
      · subst e; exact h2
      · exact h1 k (by omega)
    · exact fun h => ⟨fun k hk => h k (by omega), h m (by omega)⟩
theorem der_iff (u : Nat → Int) : KerP p (2 ^ w.length * (2 ^ w.length * 2 ^ w.length)) (2 ^ w.length * 2 ^ w.length) (drvA p w (2 ^ w.length)) u ↔ ∀ i k g, i < 2 ^ w.length → k < 2 ^ w.length → g < 2 ^ w.length → dvc p w u i k g := by
  rw [drvA_iff hP hl hw hz u _ (Nat.le_refl _)]
  constructor
  · intro h i k g hi hk hg
    have := (drv_iff hP hl hw hz hi hk (xor_lt hg (xor_lt hi hk)) u).1 (h i hi k hk _ (xor_lt hg (xor_lt hi hk)))
    rwa [xc4] at this
  · intro h i hi k hk r hr
    exact (drv_iff hP hl hw hz hi hk hr u).2 (h i k _ hi hk (xor_lt hr (xor_lt hi hk)))
theorem sg_zero {r : Nat} (hr : r < 2 ^ w.length) : sgF w.length r 0 = 1 ∧ sgF w.length 0 r = 1 :=
  (by decide +kernel : ∀ n, n < 4 → ∀ r, r < 2 ^ n → sgF n r 0 = 1 ∧ sgF n 0 r = 1) _ (by omega) r hr
theorem der_unit {u : Nat → Int} (h : ∀ i k g, i < 2 ^ w.length → k < 2 ^ w.length → g < 2 ^ w.length → dvc p w u i k g) {a : Nat} (ha : a < 2 ^ w.length) : p ∣ u (a * 2 ^ w.length) := by
  have h0 := two_pos w.length
  have := h 0 0 a h0 h0 ha
  unfold dvc at this
  simp only [Nat.zero_xor, Nat.xor_self, Nat.and_zero, Nat.zero_and, Nat.add_zero, (sg_zero hP hl hw hz ha).1, (sg_zero hP hl hw hz ha).2, (sg_zero hP hl hw hz h0).1, Int.one_mul] at this
  have e : wpF w w.length 0 * u (a * 2 ^ w.length) - wpF w w.length 0 * u (a * 2 ^ w.length) - wpF w w.length 0 * u (a * 2 ^ w.length) = -(wpF w w.length 0 * u (a * 2 ^ w.length)) := by omega
  rw [e, Int.dvd_neg] at this
  exact W_dvd hP hl hw hz this
theorem der_prod {u : Nat → Int} {i k g : Nat} (h : dvc p w u i k g) (h1 : p ∣ u ((i ^^^ g) * 2 ^ w.length + i)) (h2 : p ∣ u ((k ^^^ g) * 2 ^ w.length + k)) : p ∣ u (((i ^^^ k) ^^^ g) * 2 ^ w.length + (i ^^^ k)) := by
  unfold dvc at h
  have := Int.dvd_add (Int.dvd_add h (Int.dvd_mul_of_dvd_right (b := sgF w.length (i ^^^ g) k * wpF w w.length ((i ^^^ g) &&& k)) h1)) (Int.dvd_mul_of_dvd_right (b := sgF w.length i (k ^^^ g) * wpF w w.length (i &&& (k ^^^ g))) h2)
  have e : ∀ A B C : Int, A - B - C + B + C = A := fun A B C => by omega
  rw [e, Int.mul_assoc, dvd_one (sgF_one _ _ _)] at this
  exact W_dvd hP hl hw hz this
def dvU (n : Nat) (w : List Int) (g : Nat) (Y : Nat → Int) (q : Nat) : Int := if (q / 2 ^ n) ^^^ (q % 2 ^ n) = g then wpF w n ((q % 2 ^ n) &&& g) * Y (q % 2 ^ n) else 0
theorem dvU_at {g : Nat} {Y : Nat → Int} {a k : Nat} (hk : k < 2 ^ w.length) : dvU w.length w g Y (a * 2 ^ w.length + k) = if a ^^^ k = g then wpF w w.length (k &&& g) * Y k else 0 := by
  have h0 := two_pos w.length
  have e1 : (a * 2 ^ w.length + k) / 2 ^ w.length = a := by rw [Nat.mul_comm, Nat.mul_add_div h0, Nat.div_eq_of_lt hk]; omega
  have e2 : (a * 2 ^ w.length + k) % 2 ^ w.length = k := by rw [Nat.mul_comm, Nat.mul_add_mod, Nat.mod_eq_of_lt hk]
  unfold dvU
  rw [e1, e2]
theorem dvU_sol {g : Nat} {Y : Nat → Int} (hg : g < 2 ^ w.length) (hY : ∀ i k, i < 2 ^ w.length → k < 2 ^ w.length → sgF w.length i k * Y (i ^^^ k) - sgF w.length (i ^^^ g) k * Y i - sgF w.length i (k ^^^ g) * Y k = 0)
    {i k f : Nat} (hi : i < 2 ^ w.length) (hk : k < 2 ^ w.length) (hf : f < 2 ^ w.length) : dvc p w (dvU w.length w g Y) i k f := by
  unfold dvc
  have hik := xor_lt hi hk
  rw [dvU_at hP hl hw hz hik, dvU_at hP hl hw hz hi, dvU_at hP hl hw hz hk]
  have x1 : ∀ a, a ^^^ f ^^^ a = f := fun a => xc3 a f
  rw [x1, x1, x1]
  by_cases e : f = g
  · subst e
    simp only [if_true]
    have m1 := wmaj hP hl hw hz hi hk hf
    have m2 := wmaj hP hl hw hz hi hf hk
    have m3 := wmaj hP hl hw hz hk hf hi
    rw [maj_perm2 i f k] at m2
    rw [maj_perm2 k f i, maj_perm1 k i f] at m3
    rw [Nat.and_comm (k ^^^ f) i] at m3
    have := hY i k hi hk
    have e : ∀ s1 a1 b1 y1 s2 a2 b2 y2 s3 a3 b3 y3 M : Int, a1 * b1 = M → b2 * a2 = M → b3 * a3 = M → s1 * a1 * (b1 * y1) - s2 * a2 * (b2 * y2) - s3 * a3 * (b3 * y3) = M * (s1 * y1 - s2 * y2 - s3 * y3) := fun s1 a1 b1 y1 s2 a2 b2 y2 s3 a3 b3 y3 M h1 h2 h3 => by grind
    rw [e _ _ _ _ _ _ _ _ _ _ _ _ _ m1 m2 m3, this, Int.mul_zero]
    exact Int.dvd_zero p
  · simp only [e, if_false]
    simp
end
end Go.Vam

/- Plain algebra: the derivations of three steps have 14 dimensions, and are skew. -/
namespace Go.Vam
open Go Go.RowKit
set_option linter.unusedSimpArgs false
set_option linter.unusedVariables false
set_option linter.unusedSectionVars false

theorem chkDv_of {g : Nat} {Y : Nat → Int} (h : chkDv g Y = true) {i k : Nat} (hi : i < 8) (hk : k < 8) : sgF 3 i k * Y (i ^^^ k) - sgF 3 (i ^^^ g) k * Y i - sgF 3 i (k ^^^ g) * Y k = 0 := by
  unfold chkDv at h
  have := List.all_eq_true.1 (List.all_eq_true.1 h i (List.mem_range.2 hi)) k (List.mem_range.2 hk)
  simpa using this
theorem chk_skew : ((List.range 8).all fun a => (List.range 8).all fun k => decide (a = 0) || decide (k = 0) || decide (a = k) || decide (epsF 3 a * sgF 3 a (a ^^^ k) = - (epsF 3 k * sgF 3 k (a ^^^ k)))) = true := by decide +kernel
theorem skew_id {ea ek sa sk W0 W1 W2 ua uk : Int} (h1 : sa * sa = 1) (h2 : sk * sk = 1) (h : ea * sa = -(ek * sk)) : ea * sa * W0 * (sa * W1 * ua - sk * W2 * uk) = ea * (W1 * W0) * ua + ek * (W2 * W0) * uk := by
  have e1 : ea * sa * W0 * (sa * W1 * ua - sk * W2 * uk) = ea * (sa * sa) * (W1 * W0) * ua - (ea * sa) * sk * (W2 * W0) * uk := by grind
  have e2 : -(ek * sk) * sk = -(ek * (sk * sk)) := by grind
  rw [e1, h1, h, e2, h2]
  grind
section
variable {p : Int} {w : List Int} (hP : isP p = true) (h3 : w.length = 3) (hw : Vec p w.length w) (hz : hasZ w = false)
include hP h3 hw hz
theorem der_zero0 {u : Nat → Int} (h : ∀ i k g, i < 2 ^ w.length → k < 2 ^ w.length → g < 2 ^ w.length → dvc p w u i k g) {g : Nat} (hg : g < 2 ^ w.length) : p ∣ u ((0 ^^^ g) * 2 ^ w.length + 0) := by
  rw [Nat.zero_xor, Nat.add_zero]
  exact der_unit hP (by omega) hw hz h hg
theorem der_top {u : Nat → Int} (h : ∀ i k g, i < 2 ^ w.length → k < 2 ^ w.length → g < 2 ^ w.length → dvc p w u i k g) {g : Nat} (hg : g < 2 ^ w.length) : p ∣ u (0 * 2 ^ w.length + g) := by
  have h0 := two_pos w.length
  have hg0 := der_zero0 hP h3 hw hz h hg
  have := h g g g hg hg hg
  unfold dvc at this
  simp only [Nat.xor_self, Nat.zero_and, Nat.and_zero, (sg_zero hP (by omega) hw hz hg).1, (sg_zero hP (by omega) hw hz hg).2, Int.one_mul] at this
  have e := Int.dvd_sub this (Int.dvd_mul_of_dvd_right (b := sgF w.length g g * wpF w w.length (g &&& g)) hg0)
  have e2 : ∀ A x : Int, A - x - x - A = -(2 * x) := fun A x => by omega
  rw [e2, Int.dvd_neg] at e
  rcases (prime_dvd hP).1 e with h1 | h1
  · exact absurd h1 (not_two hP)
  · exact W_dvd hP (by omega) hw hz h1
theorem der_diag {u : Nat → Int} (h : ∀ i k g, i < 2 ^ w.length → k < 2 ^ w.length → g < 2 ^ w.length → dvc p w u i k g) {k : Nat} (hk : k < 2 ^ w.length) : p ∣ u (k * 2 ^ w.length + k) := by
  have h0 := two_pos w.length
  have hg0 := der_zero0 hP h3 hw hz h h0
  have := h k k 0 hk hk h0
  unfold dvc at this
  simp only [Nat.xor_self, Nat.xor_zero, Nat.and_self] at this
  rw [Nat.xor_zero] at hg0
  have e := Int.dvd_sub this (Int.dvd_mul_of_dvd_right (b := sgF w.length k k * wpF w w.length k) hg0)
  have e2 : ∀ A x y : Int, A - x * y - x * y - A = -(x * (2 * y)) := fun A x y => by grind
  rw [e2, Int.dvd_neg, Int.mul_assoc, dvd_one (sgF_one _ _ _)] at e
  have e3 := W_dvd hP (by omega) hw hz e
  rcases (prime_dvd hP).1 e3 with h1 | h1
  · exact absurd h1 (not_two hP)
  · exact h1
theorem der_skew {u : Nat → Int} (h : ∀ i k g, i < 2 ^ w.length → k < 2 ^ w.length → g < 2 ^ w.length → dvc p w u i k g) {a k : Nat} (ha : a < 2 ^ w.length) (hk : k < 2 ^ w.length) (ha0 : a ≠ 0) (hk0 : k ≠ 0) :
    p ∣ epsF w.length a * wpF w w.length a * u (a * 2 ^ w.length + k) + epsF w.length k * wpF w w.length k * u (k * 2 ^ w.length + a) := by
  by_cases hak : a = k
  · subst hak
    have := der_diag hP h3 hw hz h ha
    exact Int.dvd_add (Int.dvd_mul_of_dvd_right this) (Int.dvd_mul_of_dvd_right this)
  have hg := xor_lt ha hk
  have hgg : p ∣ u ((((a ^^^ k) ^^^ (a ^^^ k))) * 2 ^ w.length + (a ^^^ k)) := by rw [Nat.xor_self]; exact der_top hP h3 hw hz h hg
  have := h a (a ^^^ k) (a ^^^ k) ha hg hg
  unfold dvc at this
  have e := Int.dvd_add this (Int.dvd_mul_of_dvd_right (b := sgF w.length a ((a ^^^ k) ^^^ (a ^^^ k)) * wpF w w.length (a &&& ((a ^^^ k) ^^^ (a ^^^ k)))) hgg)
  have e1 : a ^^^ (a ^^^ k) = k := xc1 a k
  have e2 : k ^^^ (a ^^^ k) = a := xc2 k a
  rw [e1, e2] at e
  have e3 : ∀ A B C : Int, A - B - C + C = A - B := fun A B C => by omega
  rw [e3] at e
  have m1 : wpF w w.length (a &&& (a ^^^ k)) * wpF w w.length (a &&& k) = wpF w w.length a := by
    have := wmaj hP (show w.length ≤ 3 by omega) hw hz ha hg ha
    have x1 : (a ^^^ (a ^^^ k)) &&& a = a &&& k := by rw [e1, Nat.and_comm]
    rw [x1] at this
    rw [this, maj_two]
  have m2 : wpF w w.length (k &&& (a ^^^ k)) * wpF w w.length (a &&& k) = wpF w w.length k := by
    have := wmaj hP (show w.length ≤ 3 by omega) hw hz hk hg hk
    have x1 : (k ^^^ (a ^^^ k)) &&& k = a &&& k := by rw [e2]
    rw [x1] at this
    rw [this, maj_two]
  have hs := List.all_eq_true.1 (List.all_eq_true.1 chk_skew a (List.mem_range.2 (by rw [h3] at ha; exact ha))) k (List.mem_range.2 (by rw [h3] at hk; exact hk))
  simp only [ha0, hk0, hak, decide_false, Bool.false_or, decide_eq_true_eq] at hs
  rw [← h3] at hs
  have f := Int.dvd_mul_of_dvd_right (b := epsF w.length a * sgF w.length a (a ^^^ k) * wpF w w.length (a &&& k)) e
  refine (show ∀ {a b : Int}, p ∣ a → a = b → p ∣ b from fun h e => e ▸ h) f ?_
  rw [← m1, ← m2]
  exact skew_id (one_sq (sgF_one w.length a (a ^^^ k))) (one_sq (sgF_one w.length k (a ^^^ k))) hs
end
end Go.Vam
