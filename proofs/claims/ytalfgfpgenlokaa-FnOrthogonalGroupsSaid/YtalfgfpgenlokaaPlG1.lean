import Derived.Test.YtalfgfpgenlokaaPlG0
import Derived.Test.YtalfgfpgenlokaaFmG0
/- Plain laws: reduced rows in order; they are told by what they send to nothing. -/
namespace Go.Vam
open Go Go.RowKit
set_option linter.unusedSimpArgs false
set_option linter.unusedVariables false
set_option linter.unusedSectionVars false

theorem mod_dvd {p a b : Int} : a % p = b % p ↔ p ∣ a - b := by
 rw [Int.emod_eq_emod_iff_emod_sub_eq_zero,Int.dvd_iff_emod_eq_zero]
def Kr (p : Int) (n : Nat) (B : List (List Int)) (u : Nat → Int) : Prop := ∀ j,j < B.length → p ∣ rd n (gR B j) u
theorem lessv_at {p : Int} {n f q : Nat} {R v : List Int} (hq : q < n) : gI (lessv p n f R v) q = (gI v q + (gI v f * -1) * gI R q) % p := plusv_at hq
theorem lessv_vec {p : Int} (hp : 0 < p) (n f : Nat) (R v : List Int) : Vec p n (lessv p n f R v) := plusv_vec hp ..
theorem lessv_idle {p : Int} {n f q : Nat} {R v : List Int} (hv : Vec p n v) (hq : q < n) (h : gI R q = 0 ∨ gI v f = 0) : gI (lessv p n f R v) q = gI v q := by
 rw [lessv_at hq]
 have e := hv.get hq
 have : gI v f * -1 * gI R q = 0 := by rcases h with h | h <;> rw [h] <;> simp
 rw [this,Int.add_zero,mod_small e.1 e.2]
theorem Ech.put {p : Int} {n f pos : Nat} {B B' : List (List Int)} {R : List Int} {ld : Nat → Nat} (hp : 1 < p) (hB : Ech p n B ld) (hR : Vec p n R) (hf : f < n)
  (hR1 : gI R f = 1) (hRp : ∀ q,q < f → gI R q = 0) (hRl : ∀ j,j < B.length → gI R (ld j) = 0)
  (hpos : pos ≤ B.length) (hlo : ∀ j,j < pos → ld j < f) (hhi : ∀ j,pos ≤ j → j < B.length → f < ld j)
  (hl : B'.length = B.length + 1) (hg : ∀ j,j < B.length + 1 → gR B' j = if j < pos then lessv p n f R (gR B j) else if j = pos then R else lessv p n f R (gR B (j - 1))) :
  Ech p n B' (fun j => if j < pos then ld j else if j = pos then f else ld (j - 1)) ∧ ∀ u,Kr p n B' u ↔ Kr p n B u ∧ p ∣ rd n R u := by
 have hne : ∀ j,j < B.length → ld j ≠ f := by
  intro j hj
  by_cases h : j < pos
  ·have := hlo j h; omega
  ·have := hhi j (by omega) hj; omega
 have l1 : ∀ j,j < B.length → gI (lessv p n f R (gR B j)) (ld j) = 1 := by
  intro j hj
  rw [lessv_idle (hB.mat.row hj) (hB.lt j hj) (.inl (hRl j hj))]; exact hB.one j hj
 have l2 : ∀ j,j < B.length → ∀ i,i < B.length → i ≠ j → gI (lessv p n f R (gR B i)) (ld j) = 0 := by
  intro j hj i hi hij
  rw [lessv_idle (hB.mat.row hi) (hB.lt j hj) (.inl (hRl j hj))]; exact hB.col j hj i hi hij
 have l3 : ∀ j,j < B.length → ∀ q,q < ld j → gI (lessv p n f R (gR B j)) q = 0 := by
  intro j hj q hq
  have hln := hB.lt j hj
  by_cases h : f < ld j
  ·rw [lessv_idle (hB.mat.row hj) (by omega) (.inr (hB.pre j hj f h))]; exact hB.pre j hj q hq
  ·rw [lessv_idle (hB.mat.row hj) (by omega) (.inl (hRp q (by omega)))]; exact hB.pre j hj q hq
 have l4 : ∀ j,j < B.length → gI (lessv p n f R (gR B j)) f = 0 := by
  intro j hj
  rw [lessv_at hf,hR1]
  have : gI (gR B j) f + gI (gR B j) f * -1 * 1 = 0 := by omega
  rw [this]; rfl
 have l5 : ∀ j u,p ∣ rd n R u → (p ∣ rd n (lessv p n f R (gR B j)) u ↔ p ∣ rd n (gR B j) u) := by
  intro j u hu
  unfold lessv
  rw [dvd_congr (rd_plusv u)]
  exact Int.dvd_add_left (Int.dvd_mul_of_dvd_right hu)
 constructor
 ·constructor
  ·refine ⟨by omega,fun j hj => ?_⟩
   show Vec p n (gR B' j)
   rw [hg j (by omega)]
   split
   ·exact lessv_vec (by omega) ..
   ·split
    ·exact hR
    ·exact lessv_vec (by omega) ..
  ·intro j hj
   try simp only []
   split
   ·exact hB.lt j (by omega)
   ·split
    ·exact hf
    ·exact hB.lt (j - 1) (by omega)
  ·intro j hj
   try simp only []
   rw [hg j (by omega)]
   by_cases h1 : j < pos
   ·simp only [h1,if_true]; exact l1 j (by omega)
   ·by_cases h2 : j = pos
    ·simp only [h1,h2,if_false,if_true,Nat.lt_irrefl]; exact hR1
    ·simp only [h1,h2,if_false]; exact l1 (j - 1) (by omega)
  ·intro j hj q hq
   try simp only [] at hq
   rw [hg j (by omega)]
   by_cases h1 : j < pos
   ·simp only [h1,if_true] at hq ⊢; exact l3 j (by omega) q hq
   ·by_cases h2 : j = pos
    ·simp only [h1,h2,if_false,if_true,Nat.lt_irrefl] at hq ⊢; exact hRp q hq
    ·simp only [h1,h2,if_false] at hq ⊢; exact l3 (j - 1) (by omega) q hq
  ·intro j hj i hi hij
   try simp only []
   rw [hg i (by omega)]
   by_cases h1 : j < pos
   ·rw [if_pos h1]
    by_cases g1 : i < pos
    ·rw [if_pos g1]; exact l2 j (by omega) i (by omega) hij
    ·rw [if_neg g1]
     by_cases g2 : i = pos
     ·rw [if_pos g2]; exact hRl j (by omega)
     ·rw [if_neg g2]; exact l2 j (by omega) (i - 1) (by omega) (by omega)
   ·rw [if_neg h1]
    by_cases h2 : j = pos
    ·rw [if_pos h2]
     by_cases g1 : i < pos
     ·rw [if_pos g1]; exact l4 i (by omega)
     ·rw [if_neg g1,if_neg (by omega)]; exact l4 (i - 1) (by omega)
    ·rw [if_neg h2]
     by_cases g1 : i < pos
     ·rw [if_pos g1]; exact l2 (j - 1) (by omega) i (by omega) (by omega)
     ·rw [if_neg g1]
      by_cases g2 : i = pos
      ·rw [if_pos g2]; exact hRl (j - 1) (by omega)
      ·rw [if_neg g2]; exact l2 (j - 1) (by omega) (i - 1) (by omega) (by omega)
  ·intro i j hij hj
   try simp only []
   by_cases h1 : j < pos
   ·rw [if_pos h1,if_pos (by omega)]; exact hB.srt i j hij (by omega)
   ·by_cases h2 : j = pos
    ·rw [if_neg h1,if_pos h2,if_pos (by omega)]; exact hlo i (by omega)
    ·rw [if_neg h1,if_neg h2]
     by_cases g1 : i < pos
     ·rw [if_pos g1]; exact hB.srt i (j - 1) (by omega) (by omega)
     ·rw [if_neg g1]
      by_cases g2 : i = pos
      ·rw [if_pos g2]; exact hhi (j - 1) (by omega) (by omega)
      ·rw [if_neg g2]; exact hB.srt (i - 1) (j - 1) (by omega) (by omega)
 ·intro u
  constructor
  ·intro h
   have hRu : p ∣ rd n R u := by
    have := h pos (by omega)
    rwa [hg pos (by omega),if_neg (by omega),if_pos rfl] at this
   refine ⟨fun j hj => ?_,hRu⟩
   by_cases h1 : j < pos
   ·have := h j (by omega)
    rw [hg j (by omega),if_pos h1] at this
    exact (l5 j u hRu).1 this
   ·have := h (j + 1) (by omega)
    rw [hg (j + 1) (by omega),if_neg (by omega),if_neg (by omega)] at this
    exact (l5 j u hRu).1 this
  ·intro ⟨h,hRu⟩ j hj
   rw [hg j (by omega)]
   split
   ·exact (l5 j u hRu).2 (h j (by omega))
   ·split
    ·exact hRu
    ·exact (l5 (j - 1) u hRu).2 (h (j - 1) (by omega))

theorem Ech.ge {p : Int} {n : Nat} {B : List (List Int)} {ld : Nat → Nat} (h : Ech p n B ld) : ∀ j,j < B.length → j ≤ ld j := by
 intro j
 induction j with
 | zero => intro _; omega
 | succ j ih =>
  intro hj
  have h1 := ih (by omega)
  have h2 := h.srt j (j + 1) (by omega) hj
  omega
theorem Ech.le {p : Int} {n : Nat} {B : List (List Int)} {ld : Nat → Nat} (h : Ech p n B ld) : B.length ≤ n := by
 by_cases h0 : B.length = 0
 ·omega
 ·have h1 := h.ge (B.length - 1) (by omega)
  have h2 := h.lt (B.length - 1) (by omega)
  omega
def isLd (k : Nat) (ld : Nat → Nat) (q : Nat) : Bool := (List.range k).any fun j => decide (ld j = q)
theorem isLd_iff {k : Nat} {ld : Nat → Nat} {q : Nat} : isLd k ld q = true ↔ ∃ j,j < k ∧ ld j = q := by
 unfold isLd
 simp only [List.any_eq_true,List.mem_range,decide_eq_true_eq]
def rowOf (ld : Nat → Nat) (q : Nat) : Nat → Nat
 | 0 => 0
 | k + 1 => if ld k = q then k else rowOf ld q k
theorem rowOf_spec {ld : Nat → Nat} {q : Nat} : ∀ {k : Nat},(∃ j,j < k ∧ ld j = q) → rowOf ld q k < k ∧ ld (rowOf ld q k) = q
 | 0,⟨j,h,_⟩ => by omega
 | k + 1,⟨j,h,e⟩ => by
  unfold rowOf
  by_cases hk : ld k = q
  ·rw [if_pos hk]; exact ⟨by omega,hk⟩
  ·rw [if_neg hk]
   have hj : j < k := by
    rcases Nat.lt_succ_iff_lt_or_eq.1 h with h | h
    ·exact h
    ·rw [h] at e; exact absurd e hk
   have := rowOf_spec ⟨j,hj,e⟩
   exact ⟨by omega,this.2⟩
theorem Ech.inj {p : Int} {n : Nat} {B : List (List Int)} {ld : Nat → Nat} (h : Ech p n B ld) {i j : Nat} (hi : i < B.length) (hj : j < B.length) (e : ld i = ld j) : i = j := by
 rcases Nat.lt_trichotomy i j with h1 | h1 | h1
 ·have := h.srt i j h1 hj; omega
 ·exact h1
 ·have := h.srt j i h1 hi; omega
theorem sumN_two {f : Nat → Int} {n i k : Nat} (hi : i < n) (hk : k < n) (hne : i ≠ k) (h : ∀ q,q < n → q ≠ i → q ≠ k → f q = 0) : sumN f n = f i + f k := by
 have e : sumN f n = sumN (fun q => if q = i then f i else if q = i then 0 else f q) n := sumN_congr fun q _ => by
  by_cases h : q = i
  ·rw [if_pos h,h]
  ·rw [if_neg h,if_neg h]
 have e2 : sumN (fun q => if q = i then 0 else f q) n = f k := by
  rw [sumN_one hk (fun q hq hqk => by
   try simp only []
   by_cases h1 : q = i
   ·rw [if_pos h1]
   ·rw [if_neg h1]; exact h q hq h1 hqk)]
  rw [if_neg (by omega)]
 have e3 := sumN_upd (fun q => if q = i then 0 else f q) i (f i) n hi (by simp)
 have e4 : sumN f n = sumN (fun q => if q = i then f i else (fun q => if q = i then 0 else f q) q) n := e
 rw [e4,e3,e2]; omega
end Go.Vam

/- Plain laws: both programs' reduced bases are reduced rows in order, and send the same to nothing. -/
namespace Go.Vam
open Go Go.RowKit
set_option linter.unusedSimpArgs false
set_option linter.unusedVariables false
set_option linter.unusedSectionVars false

section
variable {p : Int} {r c k d x : Nat} {m : List (List Int)} {piv : Nat → Nat} {R : List Int} (hP : isP p = true) (hm : Mat p r c m) (hk : k < c) (hd : d < r) (hdx : d ≤ x) (hx : x < r)
 (hne : gI (gR m x) k ≠ 0) (hRe : R = scalev p c (gR m x) (invp p (gI (gR m x) k)))
include hP hm hk hd hdx hx hne hRe
end
section
variable {p : Int} {r c : Nat} (hP : isP p = true) (hr0 : 0 < r) (hr : r ≤ 1048576) (hc : c ≤ 1048576)
include hP hr0 hr hc
end
end Go.Vam

/- Plain laws: rows reduced one at a time; IsAutomorphism. -/
namespace Go.Vam
open Go Go.RowKit
set_option linter.unusedSimpArgs false
set_option linter.unusedVariables false
set_option linter.unusedSectionVars false

section
variable {p : Int} {n : Nat} (hP : isP p = true) (hn : n ≤ 1048000)
include hP hn
end

section
variable {p : Int} {w : List Int} {m : List (List Int)} (hP : isP p = true) (hl : w.length ≤ 4) (hw : Vec p w.length w) (hm : Mat p (2 ^ w.length) (2 ^ w.length) m)
include hP hl hw hm
end
end Go.Vam

/- Plain laws: kernels; both programs make the same reduced basis of what a table sends to nothing. -/
namespace Go.Vam
open Go Go.RowKit
set_option linter.unusedSimpArgs false
set_option linter.unusedVariables false
set_option linter.unusedSectionVars false

theorem Ech.nil (p : Int) (n : Nat) : Ech p n [] (fun _ => 0) :=
 ⟨⟨rfl,fun i hi => by simp at hi⟩,fun j hj => by simp at hj,fun j hj => by simp at hj,fun j hj => by simp at hj,fun j hj => by simp at hj,fun i j _ hj => by simp at hj⟩
section
variable {p : Int} {n : Nat} {B : List (List Int)} {ld : Nat → Nat} (hP : isP p = true) (hn : n ≤ 1048000) (hB : Ech p n B ld)
include hP hn hB
end
end Go.Vam

/- Plain law: the reduced rows that a table sends to nothing. -/
namespace Go.Vam
open Go Go.RowKit
set_option linter.unusedSimpArgs false
set_option linter.unusedVariables false
set_option linter.unusedSectionVars false

section
variable {p : Int} {n : Nat} {B : List (List Int)} {ld : Nat → Nat} (hP : isP p = true) (hn : n ≤ 1048000) (hB : Ech p n B ld)
include hP hn hB
end
end Go.Vam

/- Plain laws: ranks, kernels and how many vectors they have. -/
namespace Go.Vam
open Go Go.RowKit
set_option linter.unusedSimpArgs false
set_option linter.unusedVariables false
set_option linter.unusedSectionVars false

theorem sumN_add (f g : Nat → Int) (n : Nat) : sumN (fun q => f q + g q) n = sumN f n + sumN g n := by
 have := sumN_lin f g 1 n
 simp only [Int.one_mul] at this
 exact this
theorem sumN_mulL (k : Int) (f : Nat → Int) (n : Nat) : sumN (fun q => k * f q) n = k * sumN f n := by
 have := sumN_lin (fun _ => 0) f k n
 simp only [Int.zero_add,sumN_zero] at this
 exact this
theorem sumN_mulR (k : Int) (f : Nat → Int) (n : Nat) : sumN (fun q => f q * k) n = sumN f n * k := by
 rw [Int.mul_comm,← sumN_mulL]
 exact sumN_congr fun q _ => Int.mul_comm _ _
theorem sumN_comm (f : Nat → Nat → Int) (m : Nat) : ∀ n,sumN (fun i => sumN (fun j => f i j) m) n = sumN (fun j => sumN (fun i => f i j) n) m
 | 0 => by simp only [sumN]; rw [sumN_zero]
 | n + 1 => by
  simp only [sumN]
  rw [sumN_add,sumN_comm f m n]
theorem sumN_dvd {p : Int} {f : Nat → Int} : ∀ {n : Nat},(∀ k,k < n → p ∣ f k) → p ∣ sumN f n
 | 0,_ => Int.dvd_zero p
 | n + 1,h => by
  simp only [sumN]
  exact Int.dvd_add (sumN_dvd fun k hk => h k (by omega)) (h n (by omega))
theorem sumN_sub (f g : Nat → Int) (n : Nat) : sumN (fun q => f q - g q) n = sumN f n - sumN g n := by
 have := sumN_lin f g (-1) n
 have e : sumN (fun q => f q - g q) n = sumN (fun q => f q + -1 * g q) n := sumN_congr fun q _ => by omega
 rw [e,this]; omega
theorem dvd_trans_sub {p a b c : Int} (h1 : p ∣ a - b) (h2 : p ∣ b - c) : p ∣ a - c := by
 have := Int.dvd_add h1 h2
 rwa [show a - b + (b - c) = a - c by omega] at this
section
variable {p : Int} {n : Nat} {B : List (List Int)} {ld : Nat → Nat} (h : Ech p n B ld)
include h
theorem Ech.at_lead (g : Nat → Int) (q : Nat) : sumN (fun j => if ld j = q then g j else 0) B.length = if isLd B.length ld q = true then g (rowOf ld q B.length) else 0 := by
 by_cases hq : isLd B.length ld q = true
 ·rw [if_pos hq]
  obtain ⟨a1,a2⟩ := rowOf_spec (isLd_iff.1 hq)
  rw [sumN_one a1 (fun j hj hne => if_neg fun e => hne (h.inj hj a1 (by rw [e,a2]))),if_pos a2]
 ·rw [if_neg hq,sumN_congr (g := fun _ => 0) fun j hj => if_neg fun e => hq (isLd_iff.2 ⟨j,hj,e⟩)]
  exact sumN_zero _
theorem Ech.split (g : Nat → Int) : sumN g n = sumN (fun q => if isLd B.length ld q = true then 0 else g q) n + sumN (fun j => g (ld j)) B.length := by
 have e1 : sumN (fun j => g (ld j)) B.length = sumN (fun j => sumN (fun q => if ld j = q then g q else 0) n) B.length :=
  sumN_congr fun j hj => by rw [sumN_one (h.lt j hj) (fun q _ hq => if_neg fun e => hq e.symm),if_pos rfl]
 rw [e1,sumN_comm,← sumN_add]
 refine sumN_congr fun q hq => ?_
 have e2 : sumN (fun j => if ld j = q then g q else 0) B.length = if isLd B.length ld q = true then g q else 0 := h.at_lead (fun _ => g q) q
 rw [e2]
 split <;> omega
end
end Go.Vam

/- Plain laws: the equations of derivations; both programs' bases of derivations are one. -/
namespace Go.Vam
open Go Go.RowKit
set_option linter.unusedSimpArgs false
set_option linter.unusedVariables false
set_option linter.unusedSectionVars false

theorem gR_append {x y : List (List Int)} {k : Nat} : gR (x ++ y) k = if k < x.length then gR x k else gR y (k - x.length) := by
 unfold gR
 rw [List.getD_eq_getElem?_getD,List.getElem?_append]
 by_cases h : k < x.length
 ·rw [if_pos h,if_pos h,List.getD_eq_getElem?_getD]
 ·rw [if_neg h,if_neg h,List.getD_eq_getElem?_getD]
theorem Mat.append {p : Int} {a b c : Nat} {x y : List (List Int)} (hx : Mat p a c x) (hy : Mat p b c y) : Mat p (a + b) c (x ++ y) := by
 have h1 := hx.1
 refine ⟨by rw [List.length_append,hx.1,hy.1],fun i hi => ?_⟩
 rw [gR_append]
 split
 ·exact hx.2 i (by omega)
 ·exact hy.2 (i - x.length) (by omega)
section
variable {p : Int} {w : List Int} (hP : isP p = true) (hl : w.length ≤ 4) (hw : Vec p w.length w)
include hP hl hw
end
end Go.Vam

/- Plain laws: what is drawn from a code. -/
namespace Go.Vam
open Go Go.RowKit
set_option linter.unusedSimpArgs false
set_option linter.unusedVariables false
set_option linter.unusedSectionVars false

structure Src (c : List Int) (a : Int) : Prop where
 len : c.length ≤ 4096
 byte : ∀ x ∈ c,0 ≤ x ∧ x ≤ 255
 pos : 0 ≤ a
 le : a ≤ c.length

theorem band_le (h : Int) : 0 ≤ w64 (band .u64 h 16777215) ∧ w64 (band .u64 h 16777215) ≤ 16777215 := by
 have h1 : ((BitVec.ofInt 64 h &&& BitVec.ofInt 64 16777215).toNat : Nat) ≤ 16777215 := by
  rw [BitVec.toNat_and]
  exact Nat.le_trans Nat.and_le_right (by decide)
 have h2 : band .u64 h 16777215 = ((BitVec.ofInt 64 h &&& BitVec.ofInt 64 16777215).toNat : Int) := by
  unfold band
  show IntKind.u64.wrap ((BitVec.ofInt 64 h &&& BitVec.ofInt 64 16777215).toNat : Int) = _
  generalize (BitVec.ofInt 64 h &&& BitVec.ofInt 64 16777215).toNat = n at h1
  simp only [IntKind.wrap,IntKind.signed,IntKind.bits]
  simp
  omega
 rw [h2,w_in (by omega) (by omega)]
 omega
theorem next_eq {c : List Int} {a h n : Int} (hS : Src c a) (hn : 1 ≤ n) (hn2 : n ≤ 4611686018427387904) :
  ∃ r a' h',s_l01Next c a h n = some (r,(c,a',h')) ∧ 0 ≤ r ∧ r < n ∧ Src c a' := by
 unfold s_l01Next
 rw [if_neg (by omega)]
 by_cases hlt : a < (c.length : Int)
 ·obtain ⟨k,rfl⟩ := Int.eq_ofNat_of_zero_le hS.pos
  have hk : k < c.length := by omega
  rw [if_pos (by omega),idxI hk,some_bind,some_bind,chk_bind (by omega)]
  have hb := hS.byte (gI c k) (by rw [show gI c k = c[k] from by unfold gI; simp [hk]]; exact List.getElem_mem hk)
  obtain ⟨b1,b2⟩ := band_le (shr .u64 (IntKind.u64.wrap ((IntKind.u64.wrap (h * 6364136223846793005)) + 1442695040888963407)) 33)
  refine ⟨_,_,_,rfl,?_,?_,hS.len,hS.byte,?_,?_⟩
  ·simp only []
   rw [w_in (x := gI c k) (by omega) (by omega),w_in (by omega) (by omega),tmod_nn (by omega)]
   exact Int.emod_nonneg _ (by omega)
  ·simp only []
   rw [w_in (x := gI c k) (by omega) (by omega),w_in (by omega) (by omega),tmod_nn (by omega)]
   exact Int.emod_lt_of_pos _ (by omega)
  ·simp only []; have := hS.len; rw [w_in (by omega) (by omega)]; omega
  ·simp only []; have := hS.len; rw [w_in (by omega) (by omega)]; omega
 ·rw [if_neg hlt,some_bind,chk_bind (by omega)]
  obtain ⟨b1,b2⟩ := band_le (shr .u64 (IntKind.u64.wrap ((IntKind.u64.wrap (h * 6364136223846793005)) + 1442695040888963407)) 33)
  refine ⟨_,_,_,rfl,?_,?_,hS⟩
  ·simp only []
   rw [tmod_nn (by omega)]
   exact Int.emod_nonneg _ (by omega)
  ·simp only []
   rw [tmod_nn (by omega)]
   exact Int.emod_lt_of_pos _ (by omega)
theorem pick_eq {c : List Int} {a h : Int} {l : List Int} (hS : Src c a) (hl : 1 ≤ l.length) (hl2 : l.length ≤ 100) :
  ∃ x a' h',s_l01Pick c a h l = some (x,(c,a',h')) ∧ x ∈ l ∧ Src c a' := by
 unfold s_l01Pick
 obtain ⟨r,a',h',e,r1,r2,r3⟩ := next_eq (h := h) (n := (l.length : Int)) hS (by omega) (by omega)
 rw [e,some_bind]
 obtain ⟨k,rfl⟩ := Int.eq_ofNat_of_zero_le r1
 have hk : k < l.length := by omega
 rw [idxk hk,some_bind]
 exact ⟨_,_,_,rfl,List.getElem_mem hk,r3⟩
theorem from_eq {c : List Int} (hc : c.length ≤ 4096) (hb : ∀ x ∈ c,0 ≤ x ∧ x ≤ 255) : ∃ h',s_l01From c = some (c,0,h') ∧ Src c 0 := by
 unfold s_l01From
 obtain ⟨b,h1,h',rfl⟩ := loop_inv (step := s_l01From_L0 c) (fun s => ∃ (k : Nat) (h' : Int),s = (c,0,h',(k : Int)) ∧ k ≤ c.length) (fun s => c.length - s.2.2.2.toNat)
  (fun b => ∃ h' : Int,b = (c,(0 : Int),h')) (s := (c,0,IntKind.u64.wrap (4409 + (IntKind.u64.wrap ((c.length : Int)))),0)) ⟨0,_,rfl,by omega⟩ (by rw [BIG_val]; simp only []; omega) (by
   rintro s ⟨k,h',rfl,hk⟩
   unfold s_l01From_L0
   by_cases hkn : k < c.length
   ·refine .inl ?_
    simp only [lt_cast hkn,if_true,some_bind,ilt_true (show (k : Int) < 4096 by omega),idxI hkn]
    rw [w_in (by omega) (by omega)]
    exact ⟨_,rfl,⟨k + 1,_,rfl,by omega⟩,by simp only []; omega⟩
   ·have : k = c.length := by omega
    subst this
    refine .inr ⟨(c,0,h'),?_,h',rfl⟩
    simp)
 rw [h1,some_bind]
 exact ⟨h',rfl,hc,hb,by omega,by omega⟩
end Go.Vam

/- Plain laws: reflections keep the products of vectors. -/
namespace Go.Vam
open Go Go.RowKit
set_option linter.unusedSimpArgs false
set_option linter.unusedVariables false
set_option linter.unusedSectionVars false

def pairS (n : Nat) (w x y : List Int) : Int := sumN (fun k => gI x k * gI y k * gI w k) n
theorem pairp_S (p : Int) (n : Nat) (w x y : List Int) : pairp p n w x y = pairS n w x y % p := rfl
theorem pairS_comm (n : Nat) (w x y : List Int) : pairS n w x y = pairS n w y x := by
 unfold pairS
 exact sumN_congr fun k _ => by rw [Int.mul_comm (gI x k)]
end Go.Vam

/- Plain laws: decompositions into reflections; HasSquareNorm. -/
namespace Go.Vam
open Go Go.RowKit
set_option linter.unusedSimpArgs false
set_option linter.unusedVariables false
set_option linter.unusedSectionVars false

section
variable {p : Int} {n : Nat} {w u : List Int} (hP : isP p = true) (hn0 : 0 < n) (hn : n ≤ 1000) (hwl : w.length = n) (hw : Vec p n w) (hu : Vec p n u) (hQ : pairp p n w u u ≠ 0)
include hP hn0 hn hwl hw hu hQ
end
def RowsV (p : Int) (n : Nat) (L : List (List Int)) : Prop := ∀ r ∈ L,Vec p n r
section
variable {p : Int} {n : Nat} {w : List Int} (hP : isP p = true) (hn0 : 0 < n) (hn : n ≤ 1000) (hwl : w.length = n) (hw : Vec p n w) (hz : ∀ k,k < n → gI w k ≠ 0)
include hP hn0 hn hwl hw hz
end
end Go.Vam

/- Plain laws: systems of equations and spans. -/
namespace Go.Vam
open Go Go.RowKit
set_option linter.unusedSimpArgs false
set_option linter.unusedVariables false
set_option linter.unusedSectionVars false

theorem likeI_self {v : List Int} (h : v.length ≤ 1048576) : l_likeInts v v = some true := by
 unfold l_likeInts
 simp only [not_true_eq_false,if_false]
 obtain ⟨b,h1,h2⟩ := any_loop (l_likeInts_L0 v v) v.length (fun _ => false) (fun _ => true) (by rw [BIG_val]; omega)
  (fun k hk _ => by
   unfold l_likeInts_L0
   simp only [lt_cast hk,if_true,idxI hk,some_bind,not_true_eq_false,if_false]
   rw [w_in (by omega) (by omega)]; rfl) (fun k hk hf => by cases hf) (by
   unfold l_likeInts_L0
   simp only [lt_cast_self,if_false])
 rcases h2 with ⟨rfl,_⟩ | ⟨k,_,_,hf,_⟩
 ·rw [h1,some_bind]
 ·cases hf
end Go.Vam

/- Plain law: FnKernels. -/
namespace Go.Vam
open Go Go.RowKit
set_option linter.unusedSimpArgs false
set_option linter.unusedVariables false
set_option linter.unusedSectionVars false

theorem likeR_self {m : List (List Int)} (h : szM m) : l_likeRows5 m m = some true := by
 unfold l_likeRows5
 simp only [not_true_eq_false,if_false]
 have h1 := h.1
 obtain ⟨b,h1,h2⟩ := any_loop (l_likeRows5_L0 m m) m.length (fun _ => false) (fun _ => true) (by rw [BIG_val]; omega)
  (fun k hk _ => by
   unfold l_likeRows5_L0
   have hr : (gR m k).length ≤ 1048576 := h.2 _ (by rw [← gR_get hk]; exact List.getElem_mem hk)
   simp only [lt_cast hk,if_true,idxR hk,some_bind,likeI_self hr,Bool.true_eq_false,if_false]
   rw [w_in (by omega) (by omega)]; rfl) (fun k hk hf => by cases hf) (by
   unfold l_likeRows5_L0
   simp only [lt_cast_self,if_false])
 rcases h2 with ⟨rfl,_⟩ | ⟨k,_,_,hf,_⟩
 ·rw [h1,some_bind]
 ·cases hf
end Go.Vam

/- Plain laws: determinants of numbers, by expansion; they are multiplied with tables. -/
namespace Go.Vam
open Go Go.RowKit
set_option linter.unusedSimpArgs false
set_option linter.unusedVariables false
set_option linter.unusedSectionVars false

def skipN (i a : Nat) : Nat := if a < i then a else a + 1
def sgnN (i : Nat) : Int := if i % 2 = 0 then 1 else -1
def detN : Nat → (Nat → Nat → Int) → Int
 | 0,_ => 1
 | n + 1,M => sumN (fun i => sgnN i * M i 0 * detN n (fun a b => M (skipN i a) (b + 1))) (n + 1)
theorem sgnN_succ (i : Nat) : sgnN (i + 1) = - sgnN i := by
 unfold sgnN
 rcases Nat.mod_two_eq_zero_or_one i with h | h
 ·rw [if_neg (by omega),if_pos h]
 ·rw [if_pos (by omega),if_neg (by omega)]; rfl
theorem skipN_lt {n i a : Nat} (ha : a < n) : skipN i a < n + 1 := by unfold skipN; split <;> omega
theorem detN_congr : ∀ (n : Nat) {M M' : Nat → Nat → Int},(∀ i,i < n → ∀ j,j < n → M i j = M' i j) → detN n M = detN n M'
 | 0,_,_,_ => rfl
 | n + 1,M,M',h => by
  unfold detN
  refine sumN_congr fun i hi => ?_
  rw [h i hi 0 (by omega),detN_congr n fun a ha b hb => h _ (skipN_lt ha) (b + 1) (by omega)]
theorem dvd_mul_sub {p a b x y : Int} (h1 : p ∣ a - b) (h2 : p ∣ x - y) : p ∣ a * x - b * y := by
 have e : a * x - b * y = (a - b) * x + b * (x - y) := by rw [Int.sub_mul,Int.mul_sub]; omega
 rw [e]
 exact Int.dvd_add (Int.dvd_mul_of_dvd_left h1) (Int.dvd_mul_of_dvd_right h2)
theorem sumN_cong_dvd {p : Int} {f g : Nat → Int} {n : Nat} (h : ∀ k,k < n → p ∣ f k - g k) : p ∣ sumN f n - sumN g n := by
 rw [← sumN_sub]; exact sumN_dvd h
theorem detN_mod {p : Int} : ∀ (n : Nat) {M M' : Nat → Nat → Int},(∀ i,i < n → ∀ j,j < n → p ∣ M i j - M' i j) → p ∣ detN n M - detN n M'
 | 0,_,_,_ => by unfold detN; simp
 | n + 1,M,M',h => by
  unfold detN
  refine sumN_cong_dvd fun i hi => ?_
  refine dvd_mul_sub (dvd_mul_sub (by simp) (h i hi 0 (by omega))) (detN_mod n fun a ha b hb => h _ (skipN_lt ha) (b + 1) (by omega))

def rowU (M : Nat → Nat → Int) (i : Nat) (r : Nat → Int) : Nat → Nat → Int := fun a b => if a = i then r b else M a b
theorem rowU_self (M : Nat → Nat → Int) (i : Nat) : rowU M i (M i) = M := by
 funext a b; unfold rowU; split
 ·rename_i h; rw [h]
 ·rfl
def backN (k i : Nat) : Nat := if i < k then i else i - 1
theorem skipN_eq {k i a : Nat} (h : i ≠ k) : skipN k a = i ↔ a = backN k i := by
 unfold skipN backN
 constructor
 ·intro e; split at e <;> split <;> omega
 ·intro e; split at e <;> split <;> omega
theorem backN_lt {n k i : Nat} (hk : k < n + 1) (hi : i < n + 1) (h : i ≠ k) : backN k i < n := by unfold backN; split <;> omega
theorem minor_rowU {M : Nat → Nat → Int} {i k : Nat} {r : Nat → Int} (h : i ≠ k) : (fun a b => rowU M i r (skipN k a) (b + 1)) = rowU (fun a b => M (skipN k a) (b + 1)) (backN k i) (fun b => r (b + 1)) := by
 funext a b
 unfold rowU
 by_cases e : skipN k a = i
 ·rw [if_pos e,if_pos ((skipN_eq h).1 e)]
 ·rw [if_neg e,if_neg fun e' => e ((skipN_eq h).2 e')]
theorem minor_rowU_self {M : Nat → Nat → Int} {i : Nat} {r : Nat → Int} : (fun a b => rowU M i r (skipN i a) (b + 1)) = (fun a b => M (skipN i a) (b + 1)) := by
 funext a b
 unfold rowU
 rw [if_neg (by unfold skipN; split <;> omega)]
theorem detN_lin : ∀ (n : Nat) (M : Nat → Nat → Int) (i : Nat) (r s : Nat → Int) (c : Int),i < n →
  detN n (rowU M i (fun b => r b + c * s b)) = detN n (rowU M i r) + c * detN n (rowU M i s)
 | 0,_,_,_,_,_,h => by omega
 | n + 1,M,i,r,s,c,h => by
  unfold detN
  rw [← sumN_lin]
  refine sumN_congr fun k hk => ?_
  by_cases e : i = k
  ·subst e
   rw [minor_rowU_self,minor_rowU_self,minor_rowU_self]
   simp only [rowU,if_true]
   grind
  ·rw [minor_rowU e,minor_rowU e,minor_rowU e,detN_lin n _ _ (fun b => r (b + 1)) (fun b => s (b + 1)) c (backN_lt hk h e)]
   simp only [rowU,if_neg fun e' : k = i => e e'.symm]
   grind
theorem detN_adj : ∀ (n : Nat) (M : Nat → Nat → Int) (i : Nat),i + 1 < n → (∀ b,M i b = M (i + 1) b) → detN n M = 0
 | 0,_,_,h,_ => by omega
 | n + 1,M,i,h,he => by
  unfold detN
  rw [sumN_two (i := i) (k := i + 1) (by omega) h (by omega) fun k hk h1 h2 => ?_]
  ·have e : (fun a b => M (skipN (i + 1) a) (b + 1)) = (fun a b => M (skipN i a) (b + 1)) := by
    funext a b
    by_cases ha : a = i
    ·subst ha
     have e1 : skipN (a + 1) a = a := by unfold skipN; rw [if_pos (by omega)]
     have e2 : skipN a a = a + 1 := by unfold skipN; rw [if_neg (by omega)]
     rw [e1,e2]; exact he _
    ·have : skipN (i + 1) a = skipN i a := by unfold skipN; split <;> split <;> omega
     rw [this]
   rw [e,sgnN_succ,he 0]
   grind
  ·have : detN n (fun a b => M (skipN k a) (b + 1)) = 0 := by
    by_cases hki : k < i
    ·refine detN_adj n _ (i - 1) (by omega) fun b => ?_
     have e1 : skipN k (i - 1) = i := by unfold skipN; rw [if_neg (by omega)]; omega
     have e2 : skipN k (i - 1 + 1) = i + 1 := by unfold skipN; rw [if_neg (by omega)]; omega
     simp only [e1,e2]; exact he _
    ·refine detN_adj n _ i (by omega) fun b => ?_
     have e1 : skipN k i = i := by unfold skipN; rw [if_pos (by omega)]
     have e2 : skipN k (i + 1) = i + 1 := by unfold skipN; rw [if_pos (by omega)]
     simp only [e1,e2]; exact he _
   rw [this,Int.mul_zero]
theorem detN_swap_of {n i k : Nat} (hi : i < n) (hk : k < n) (hne : i ≠ k) (alt : ∀ M : Nat → Nat → Int,(∀ b,M i b = M k b) → detN n M = 0) (M : Nat → Nat → Int) :
  detN n (rowU (rowU M i (M k)) k (M i)) = - detN n M := by
 have key : ∀ r s : Nat → Int,detN n (rowU (rowU M i r) k s) + detN n (rowU (rowU M i s) k r) = 0 := by
  intro r s
  have h0 := alt (rowU (rowU M i (fun b => r b + 1 * s b)) k (fun b => r b + 1 * s b)) fun b => by
   simp only [rowU,if_true,if_neg hne]
  have h1 := alt (rowU (rowU M i r) k r) fun b => by simp only [rowU,if_true,if_neg hne]
  have h2 := alt (rowU (rowU M i s) k s) fun b => by simp only [rowU,if_true,if_neg hne]
  have cm : ∀ u v : Nat → Int,rowU (rowU M i u) k v = rowU (rowU M k v) i u := by
   intro u v; funext a b; unfold rowU
   by_cases a1 : a = i
   ·subst a1; rw [if_neg hne,if_pos rfl,if_pos rfl]
   ·simp only [if_neg a1]
  rw [detN_lin n (rowU M i (fun b => r b + 1 * s b)) k r s 1 hk,cm,cm,detN_lin n (rowU M k r) i r s 1 hi,detN_lin n (rowU M k s) i r s 1 hi] at h0
  rw [cm] at h1 h2
  rw [cm,cm]
  omega
 have h := key (M k) (M i)
 have e : rowU (rowU M i (M i)) k (M k) = M := by rw [rowU_self,rowU_self]
 rw [e] at h
 omega
theorem detN_alt {n : Nat} : ∀ (t i : Nat) (M : Nat → Nat → Int),i + 1 + t < n → (∀ b,M i b = M (i + 1 + t) b) → detN n M = 0
 | 0,i,M,h,he => detN_adj n M i h he
 | t + 1,i,M,h,he => by
  have hs := detN_swap_of (n := n) (i := i + 1 + t) (k := i + 1 + (t + 1)) (by omega) h (by omega) (fun M hM => detN_adj n M (i + 1 + t) (by omega) hM) M
  have h0 := detN_alt (n := n) t i (rowU (rowU M (i + 1 + t) (M (i + 1 + (t + 1)))) (i + 1 + (t + 1)) (M (i + 1 + t))) (by omega) fun b => by
   simp only [rowU,if_true,if_neg (show i ≠ i + 1 + (t + 1) by omega),if_neg (show i ≠ i + 1 + t by omega),if_neg (show i + 1 + t ≠ i + 1 + (t + 1) by omega)]
   exact he b
  omega
theorem detN_same {n i k : Nat} (hi : i < n) (hk : k < n) (hne : i ≠ k) (M : Nat → Nat → Int) (he : ∀ b,M i b = M k b) : detN n M = 0 := by
 rcases Nat.lt_or_gt_of_ne hne with h | h
 ·exact detN_alt (k - i - 1) i M (by omega) fun b => by rw [he b]; congr 1; omega
 ·exact detN_alt (i - k - 1) k M (by omega) fun b => by rw [← he b]; congr 1; omega
theorem detN_swap {n i k : Nat} (hi : i < n) (hk : k < n) (hne : i ≠ k) (M : Nat → Nat → Int) : detN n (rowU (rowU M i (M k)) k (M i)) = - detN n M :=
 detN_swap_of hi hk hne (fun M hM => detN_same hi hk hne M hM) M
theorem detN_row0 {n i : Nat} (hi : i < n) (M : Nat → Nat → Int) : detN n (rowU M i (fun _ => 0)) = 0 := by
 have h := detN_lin n M i (fun _ => 0) (fun _ => 0) 1 hi
 have e : (fun b : Nat => (0 : Int) + 1 * 0) = fun _ => 0 := by funext b; rfl
 rw [show (fun b => (fun _ : Nat => (0 : Int)) b + 1 * (fun _ : Nat => (0 : Int)) b) = fun _ => 0 from e] at h
 omega
theorem detN_comb {n k : Nat} (hk : k < n) (M : Nat → Nat → Int) (c : Nat → Int) : ∀ m,m ≤ n → detN n (rowU M k (fun b => sumN (fun j => c j * M j b) m)) = if k < m then c k * detN n M else 0
 | 0,_ => by rw [if_neg (by omega)]; exact detN_row0 hk M
 | m + 1,h => by
  have e : (fun b => sumN (fun j => c j * M j b) (m + 1)) = (fun b => sumN (fun j => c j * M j b) m + c m * M m b) := by funext b; rfl
  rw [e,detN_lin n M k _ (fun b => M m b) (c m) hk,detN_comb hk M c m (by omega)]
  by_cases hm : m = k
  ·subst hm
   rw [if_neg (by omega),if_pos (by omega)]
   have : rowU M m (fun b => M m b) = M := rowU_self M m
   rw [this]; omega
  ·have : detN n (rowU M k (fun b => M m b)) = 0 := detN_same (i := k) (k := m) hk (by omega) (fun e => hm e.symm) _ fun b => by
    simp only [rowU,if_true,if_neg hm]
   rw [this]
   by_cases hkm : k < m
   ·rw [if_pos hkm,if_pos (by omega)]; omega
   ·rw [if_neg hkm,if_neg (by omega)]; omega
theorem detN_clear {n k : Nat} (hk : k < n) (M : Nat → Nat → Int) (c : Nat → Int) : detN n (fun a b => if a = k then M k b else M a b + c a * M k b) = detN n M := by
 have key : ∀ m,m ≤ n → detN n (fun a b => if a = k then M k b else if a < m then M a b + c a * M k b else M a b) = detN n M := by
  intro m
  induction m with
  | zero =>
   intro _
   refine detN_congr n fun a ha b hb => ?_
   by_cases e : a = k
   ·rw [if_pos e,e]
   ·rw [if_neg e,if_neg (by omega)]
  | succ m ih =>
   intro hm
   rw [← ih (by omega)]
   by_cases e : m = k
   ·refine detN_congr n fun a ha b hb => ?_
    by_cases e2 : a = k
    ·rw [if_pos e2,if_pos e2]
    ·rw [if_neg e2,if_neg e2]
     by_cases e3 : a < m
     ·rw [if_pos e3,if_pos (by omega)]
     ·rw [if_neg e3,if_neg (by omega)]
   ·generalize hH : (fun a b => if a = k then M k b else if a < m then M a b + c a * M k b else M a b) = H
    have h1 := detN_lin n H m (fun b => H m b) (fun b => H k b) (c m) (by omega)
    have h2 : detN n (rowU H m (fun b => H k b)) = 0 := detN_same (i := m) (k := k) (by omega) hk e _ fun b => by
     simp only [rowU,if_true,if_neg fun e' : k = m => e e'.symm]
    have h3 : rowU H m (fun b => H m b) = H := rowU_self H m
    rw [h2,h3,Int.mul_zero,Int.add_zero] at h1
    rw [← h1]
    refine detN_congr n fun a ha b hb => ?_
    unfold rowU
    rw [← hH]
    simp only [if_true]
    by_cases e2 : a = k
    ·rw [if_pos e2,if_neg (by omega)]; rw [if_pos e2]
    ·rw [if_neg e2]
     by_cases e3 : a = m
     ·subst e3
      rw [if_pos (by omega),if_pos rfl,if_neg e2,if_neg (by omega)]
     ·rw [if_neg e3,if_neg e2]
      by_cases e4 : a < m
      ·rw [if_pos e4,if_pos (by omega)]
      ·rw [if_neg e4,if_neg (by omega)]
 rw [← key n (Nat.le_refl n)]
 refine detN_congr n fun a ha b hb => ?_
 by_cases e : a = k
 ·rw [if_pos e,if_pos e]
 ·rw [if_neg e,if_neg e,if_pos ha]

def mulN (n : Nat) (A B : Nat → Nat → Int) : Nat → Nat → Int := fun a b => sumN (fun j => A a j * B j b) n
def prodN (f : Nat → Int) : Nat → Int
 | 0 => 1
 | k + 1 => prodN f k * f k
theorem detN_upper {n : Nat} (U B : Nat → Nat → Int) (hU : ∀ i j,j < i → i < n → U i j = 0) : detN n (mulN n U B) = prodN (fun i => U i i) n * detN n B := by
 have key : ∀ m,m ≤ n → detN n (fun a b => if a < m then mulN n U B a b else B a b) = prodN (fun i => U i i) m * detN n B := by
  intro m
  induction m with
  | zero =>
   intro _
   simp only [prodN,Int.one_mul]
   exact detN_congr n fun a ha b hb => by rw [if_neg (by omega)]
  | succ m ih =>
   intro hm
   simp only [prodN]
   have ih' := ih (by omega)
   generalize hH : (fun a b => if a < m then mulN n U B a b else B a b) = H at ih'
   have h1 := detN_comb (n := n) (k := m) (by omega) H (fun j => U m j) n (Nat.le_refl n)
   rw [if_pos (by omega),ih'] at h1
   have e : detN n (fun a b => if a < m + 1 then mulN n U B a b else B a b) = detN n (rowU H m (fun b => sumN (fun j => U m j * H j b) n)) := by
    refine detN_congr n fun a ha b hb => ?_
    unfold rowU
    by_cases e1 : a = m
    ·subst e1
     rw [if_pos (by omega),if_pos rfl]
     unfold mulN
     refine sumN_congr fun j hj => ?_
     by_cases e2 : j < a
     ·rw [hU a j e2 (by omega),Int.zero_mul,Int.zero_mul]
     ·rw [← hH]; simp only [if_neg e2]
    ·rw [if_neg e1,← hH]
     by_cases e2 : a < m
     ·simp only [if_pos e2,if_pos (show a < m + 1 by omega)]
     ·simp only [if_neg e2,if_neg (show ¬ a < m + 1 by omega)]
   rw [e,h1]
   grind
 rw [← key n (Nat.le_refl n)]
 exact detN_congr n fun a ha b hb => by rw [if_pos ha]
def idN : Nat → Nat → Int := fun a b => if a = b then 1 else 0
theorem detN_id : ∀ n,detN n idN = 1
 | 0 => rfl
 | n + 1 => by
  unfold detN
  have hz : ∀ k,k < n + 1 → k ≠ 0 → sgnN k * idN k 0 * detN n (fun a b => idN (skipN k a) (b + 1)) = 0 := fun k hk h => by
   unfold idN; rw [if_neg h]; simp
  have h0 : sumN (fun i => sgnN i * idN i 0 * detN n (fun a b => idN (skipN i a) (b + 1))) (n + 1) = sumN (fun q => if q = 0 then sgnN 0 * idN 0 0 * detN n (fun a b => idN (skipN 0 a) (b + 1)) else 0) (n + 1) := by
   refine sumN_congr fun k hk => ?_
   by_cases e : k = 0
   ·rw [if_pos e,e]
   ·rw [if_neg e]; exact hz k hk e
  rw [h0,sumN_upd (fun _ => 0) 0 _ (n + 1) (by omega) rfl,sumN_zero,Int.zero_add]
  have : detN n (fun a b => idN (skipN 0 a) (b + 1)) = detN n idN := detN_congr n fun a ha b hb => by
   have hz : skipN 0 a = a + 1 := by unfold skipN; rw [if_neg (by omega)]
   rw [hz]
   unfold idN
   by_cases e : a = b
   ·rw [if_pos e,if_pos (by omega)]
   ·rw [if_neg e,if_neg (by omega)]
  rw [this,detN_id n]
  rfl
theorem mulN_id {n : Nat} (A : Nat → Nat → Int) (a b : Nat) (hb : b < n) : mulN n A idN a b = A a b := by
 unfold mulN idN
 have : sumN (fun j => A a j * if j = b then 1 else 0) n = sumN (fun q => if q = b then A a b else 0) n := by
  refine sumN_congr fun j hj => ?_
  by_cases e : j = b
  ·rw [if_pos e,if_pos e,Int.mul_one,e]
  ·rw [if_neg e,if_neg e,Int.mul_zero]
 rw [this,sumN_upd (fun _ => 0) b _ n hb rfl,sumN_zero,Int.zero_add]
theorem detN_tri {n : Nat} (U : Nat → Nat → Int) (hU : ∀ i j,j < i → i < n → U i j = 0) : detN n U = prodN (fun i => U i i) n := by
 have h := detN_upper U idN hU
 rw [detN_id,Int.mul_one] at h
 rw [← h]
 exact detN_congr n fun a ha b hb => (mulN_id U a b hb).symm
theorem detN_stuck : ∀ (n k : Nat) (M : Nat → Nat → Int),k < n → (∀ i j,j < k → j < i → i < n → M i j = 0) → (∀ i,k ≤ i → i < n → M i k = 0) → detN n M = 0
 | 0,_,_,h,_,_ => by omega
 | n + 1,0,M,_,_,h0 => by
  unfold detN
  rw [sumN_congr (g := fun _ => 0) fun i hi => by rw [h0 i (by omega) hi]; simp]
  exact sumN_zero _
 | n + 1,k + 1,M,h,ht,h0 => by
  unfold detN
  rw [sumN_congr (g := fun _ => 0) fun i hi => ?_]
  ·exact sumN_zero _
  ·by_cases e : i = 0
   ·subst e
    rw [detN_stuck n k _ (by omega) (fun a b hb hab ha => ?_) (fun a ha1 ha2 => ?_),Int.mul_zero]
    ·have : skipN 0 a = a + 1 := by unfold skipN; rw [if_neg (by omega)]
     simp only [this]; exact ht (a + 1) (b + 1) (by omega) (by omega) (by omega)
    ·have : skipN 0 a = a + 1 := by unfold skipN; rw [if_neg (by omega)]
     simp only [this]; exact h0 (a + 1) (by omega) (by omega)
   ·rw [ht i 0 (by omega) (by omega) hi]; simp

end Go.Vam

/- Plain laws: the programs' determinant is the expansion's. -/
namespace Go.Vam
open Go Go.RowKit
set_option linter.unusedSimpArgs false
set_option linter.unusedVariables false
set_option linter.unusedSectionVars false

def asN (m : List (List Int)) : Nat → Nat → Int := fun a b => gI (gR m a) b
def detL (r : Nat) (m : List (List Int)) : Int := detN r (asN m)
theorem prodN_congr {f g : Nat → Int} : ∀ {n : Nat},(∀ k,k < n → f k = g k) → prodN f n = prodN g n
 | 0,_ => rfl
 | n + 1,h => by simp only [prodN,prodN_congr (n := n) fun k hk => h k (by omega),h n (by omega)]
def DetInv (p : Int) (r : Nat) (M0 M : List (List Int)) (d : Int) (k : Nat) : Prop :=
 ∃ s : Int,p ∣ detL r M0 - s * detL r M ∧ p ∣ d - s * prodN (fun j => gI (gR M j) j) k
theorem DetInv.refl (p : Int) (r : Nat) (M0 : List (List Int)) : DetInv p r M0 M0 1 0 := ⟨1,by simp,by simp [prodN]⟩
theorem DetInv.stuck {p : Int} {r k : Nat} {M0 M : List (List Int)} {d : Int} (h : DetInv p r M0 M d k) (ht : Tri r k M) (hk : k < r) (h0 : ∀ i,k ≤ i → i < r → gI (gR M i) k = 0) : p ∣ 0 - detL r M0 := by
 obtain ⟨s,h1,_⟩ := h
 have e : detL r M = 0 := detN_stuck r k _ hk (fun i j hj hji hi => (ht j hj).2 i hji hi) h0
 rw [e,Int.mul_zero,Int.sub_zero] at h1
 rw [Int.zero_sub]; exact Int.dvd_neg.2 h1
theorem DetInv.full {p : Int} {r : Nat} {M0 M : List (List Int)} {d : Int} (h : DetInv p r M0 M d r) (ht : Tri r r M) : p ∣ d - detL r M0 := by
 obtain ⟨s,h1,h2⟩ := h
 have e : detL r M = prodN (fun j => gI (gR M j) j) r := detN_tri _ fun i j hji hi => (ht j (by omega)).2 i hji hi
 rw [e] at h1
 have := Int.dvd_sub h2 h1
 have e2 : d - s * prodN (fun j => gI (gR M j) j) r - (detL r M0 - s * prodN (fun j => gI (gR M j) j) r) = d - detL r M0 := by omega
 rwa [e2] at this
theorem DetInv.swap {p : Int} {r x k : Nat} {M0 M : List (List Int)} {d : Int} (h : DetInv p r M0 M d k) (hM : Mat p r r M) (hx : x < r) (hk : k < r) (hkx : k ≤ x) (hne : x ≠ k) :
  DetInv p r M0 ((M.set x (gR M k)).set k (gR M x)) ((p - d) % p) k := by
 obtain ⟨s,h1,h2⟩ := h
 have e : detL r ((M.set x (gR M k)).set k (gR M x)) = - detL r M := by
  unfold detL
  rw [← detN_swap hx hk hne (asN M)]
  refine detN_congr r fun a ha b hb => ?_
  unfold asN rowU
  rw [swap_row hM hx hk]
  by_cases e1 : a = k
  ·simp only [if_pos e1]
  ·simp only [if_neg e1]
   by_cases e2 : a = x
   ·simp only [if_pos e2]
   ·simp only [if_neg e2]
 have e3 : prodN (fun j => gI (gR ((M.set x (gR M k)).set k (gR M x)) j) j) k = prodN (fun j => gI (gR M j) j) k := prodN_congr fun j hj => by
  rw [swap_row hM hx hk,if_neg (by omega),if_neg (by omega)]
 refine ⟨-s,?_,?_⟩
 ·rw [e]
  have : detL r M0 - -s * -detL r M = detL r M0 - s * detL r M := by grind
  rw [this]; exact h1
 ·rw [e3]
  have h3 : p ∣ (p - d) % p - (p - d) := by rw [← mod_dvd,emm]
  have h4 : p ∣ (p - d) - -s * prodN (fun j => gI (gR M j) j) k := by
   have : (p - d) - -s * prodN (fun j => gI (gR M j) j) k = p - (d - s * prodN (fun j => gI (gR M j) j) k) := by grind
   rw [this]
   exact Int.dvd_sub (Int.dvd_refl p) h2
  exact dvd_trans_sub h3 h4
theorem DetInv.clear {p : Int} {r k : Nat} {M0 M y : List (List Int)} {R : List Int} {d : Int} (h : DetInv p r M0 M d k) (hk : k < r) (hMk : gR M k = R) (hy : ∀ j,j < r → gR y j = if k < j then clp p r k R (gR M j) else gR M j) :
  DetInv p r M0 y (d * gI R k % p) (k + 1) := by
 obtain ⟨s,h1,h2⟩ := h
 have e : p ∣ detL r y - detL r M := by
  unfold detL
  rw [← detN_clear hk (asN M) (fun a => if k < a then (p - gI (gR M a) k) * invp p (gI R k) % p else 0)]
  refine detN_mod r fun a ha b hb => ?_
  simp only [asN]
  rw [hy a ha]
  by_cases e1 : a = k
  ·rw [if_neg (by omega),if_pos e1,e1]; simp
  ·rw [if_neg e1]
   by_cases e2 : k < a
   ·rw [if_pos e2,if_pos e2]
    unfold clp
    rw [plusv_at hb,hMk,← mod_dvd,emm]
   ·rw [if_neg e2,if_neg e2]; simp
 have e3 : prodN (fun j => gI (gR y j) j) (k + 1) = prodN (fun j => gI (gR M j) j) k * gI R k := by
  simp only [prodN]
  rw [hy k hk,if_neg (by omega),hMk,prodN_congr (g := fun j => gI (gR M j) j) fun j hj => by rw [hy j (by omega),if_neg (by omega)]]
 refine ⟨s,?_,?_⟩
 ·have : detL r M0 - s * detL r y = (detL r M0 - s * detL r M) - s * (detL r y - detL r M) := by grind
  rw [this]
  exact Int.dvd_sub h1 (Int.dvd_mul_of_dvd_right e)
 ·rw [e3]
  have h3 : p ∣ d * gI R k % p - d * gI R k := by rw [← mod_dvd,emm]
  refine dvd_trans_sub h3 ?_
  have : d * gI R k - s * (prodN (fun j => gI (gR M j) j) k * gI R k) = (d - s * prodN (fun j => gI (gR M j) j) k) * gI R k := by grind
  rw [this]
  exact Int.dvd_mul_of_dvd_left h2

section
variable {p : Int} {r : Nat} (hP : isP p = true) (hr : r ≤ 1048576)
include hP hr
theorem det_two3 {m v1 : List (List Int)} (hm : Mat p r r m) (hv : v1.length = r) :
  ∃ b,loop (s_l02Det_L0 p) BIG (m,1,0) = some b ∧ loop (i_field_determinant_L0 p v1) BIG (m,1,0) = some b ∧ (match b with | .inl d => 0 ≤ d ∧ d < p ∧ p ∣ d - detL r m | .inr d => 0 ≤ d ∧ d < p ∧ p ∣ d - detL r m) := by
 have hp := isP_le hP
 generalize hM0 : m = M0
 rw [hM0] at hm
 refine loop_two (fun s => Mat p r r s.1 ∧ 0 ≤ s.2.1 ∧ s.2.1 < p ∧ ∃ k : Nat,s.2.2 = (k : Int) ∧ k ≤ r ∧ Tri r k s.1 ∧ DetInv p r M0 s.1 s.2.1 k) (fun s => r - s.2.2.toNat) _ ⟨hm,(by decide : (0 : Int) ≤ 1),(show (1 : Int) < p by omega),0,rfl,by omega,fun j hj => by omega,DetInv.refl p r M0⟩ (by rw [BIG_val]; simp only []; omega) ?_
 rintro ⟨m,d,t⟩ ⟨hm,hd0,hd1,k,rfl,hk,htri,hinv⟩
 simp only [] at hm hd0 hd1 htri hinv
 have e1 := hm.1
 unfold s_l02Det_L0 i_field_determinant_L0
 by_cases hkr : k < r
 ·obtain ⟨b,h1,x,rfl,h2,h3,h4,hz⟩ := find_eq2 hm (k := k) (s := k) hr hkr hk
  have l1 : s_l02Det_L1 (m,d,(k : Int)) = findStep m (k : Int) := rfl
  have l2 : i_field_determinant_L1 (m,d,(k : Int)) = findStep m (k : Int) := rfl
  have c1 : (k : Int) < (m.length : Int) := by omega
  have c2 : (k : Int) < (v1.length : Int) := by omega
  by_cases hx : x = r
  ·refine .inr ?_
   have hx' : (x : Int) = (m.length : Int) := by omega
   simp only [c1,c2,if_true,l1,l2,h1,some_bind,hx']
   exact ⟨_,rfl,rfl,by omega,by omega,hinv.stuck htri hkr fun i hi1 hi2 => hz i hi1 (by omega)⟩
  refine .inl ?_
  have hx' : ¬ (x : Int) = (m.length : Int) := by omega
  have hxr : x < r := by omega
  have hne := h4 hxr
  have e3 := (hm.row hxr).1
  have e4 := (hm.row hxr).get hkr
  obtain ⟨i1,i2,i3⟩ := inv_facts (a := gI (gR m x) k) hP (by omega) e4.2
  have f1 := s_l01Inv_eq (a := gI (gR m x) k) hP (by omega) e4.2
  by_cases hxk : x = k
  ·have c3 : ¬ (k : Int) < (x : Int) := by omega
   have c4 : (x : Int) = (k : Int) := by omega
   have hM : Mat p r r m := hm
   have hMk : gR m k = gR m x := by rw [hxk]
   have e5 := hM.1
   obtain ⟨y,y1,y2,y3,y4⟩ := det_clear2 (p := p) (r := r) (M := m) (m0 := m) (R := gR m x) (k := k) (d0 := d) hP hr hkr hM hMk hne
   have q := mul_abs (a := d) (b := gI (gR m x) k) (A := 13) (B := 13) (by omega) (by omega)
   have q0 := Int.mul_nonneg (a := d) (b := gI (gR m x) k) (by omega) (by omega)
   have w3 : w64 (d * gI (gR m x) k) = d * gI (gR m x) k := w_in (by omega) (by omega)
   have w4 : (d * gI (gR m x) k).tmod p = d * gI (gR m x) k % p := tmod_nn (by omega)
   have w5 := i_field_num_eq (p := p) (n := d * gI (gR m x) k) (by omega) (by omega) (by omega) (by omega)
   have w6 : w64 ((k : Int) + 1) = ((k + 1 : Nat) : Int) := by rw [w_in (by omega) (by omega)]; rfl
   have hn := mod_num (a := d * gI (gR m x) k) (p := p) (by omega)
   simp only [c1,c2,if_true,l1,l2,h1,some_bind,hx',if_false,c3,not_true_eq_false,show ((x : Int) = (k : Int)) = True from eq_true c4,idxR (show k < m.length by omega),hMk,idxI (show k < (gR m x).length by omega),chk_bind (show ¬ p = 0 by omega),f1,w3,w4,w5,w6,y1,y2]
   exact ⟨_,rfl,rfl,⟨y3,hn.1,hn.2,k + 1,rfl,by omega,clear_tri hP hkr hM hMk hne y4 htri,hinv.clear hkr hMk y4⟩,by simp only [Int.toNat_natCast]; omega⟩
  ·have c3 : (k : Int) < (x : Int) := by omega
   have c4 : ¬ (x : Int) = (k : Int) := by omega
   have g2 : (m.set k (gR m x)).set x (gR m k) = (m.set x (gR m k)).set k (gR m x) := List.set_comm _ _ (fun h => hxk h.symm)
   have hn0 := mod_num (a := p - d) (p := p) (by omega)
   have w7 : w64 (p - d) = p - d := w_in (by omega) (by omega)
   have w8 : w64 (0 - d) = 0 - d := w_in (by omega) (by omega)
   have w9 : (p - d).tmod p = (p - d) % p := tmod_nn (by omega)
   have w10 : i_field_num p (0 - d) = some ((p - d) % p) := by
    rw [i_field_num_eq (by omega) (by omega) (by omega) (by omega)]
    have : p - d = 0 - d + p := by omega
    rw [this,Int.add_emod_right]
   have hM : Mat p r r ((m.set x (gR m k)).set k (gR m x)) := (hm.set hxr (hm.row hkr)).set hkr (hm.row hxr)
   have hMk : gR ((m.set x (gR m k)).set k (gR m x)) k = gR m x := by rw [gR_set (by rw [List.length_set]; omega),if_pos rfl]
   have e5 := hM.1
   obtain ⟨y,y1,y2,y3,y4⟩ := det_clear2 (p := p) (r := r) (M := ((m.set x (gR m k)).set k (gR m x))) (m0 := m) (R := gR m x) (k := k) (d0 := d) hP hr hkr hM hMk hne
   have q := mul_abs (a := ((p - d) % p)) (b := gI (gR m x) k) (A := 13) (B := 13) (by omega) (by omega)
   have q0 := Int.mul_nonneg (a := ((p - d) % p)) (b := gI (gR m x) k) (by omega) (by omega)
   have w3 : w64 (((p - d) % p) * gI (gR m x) k) = ((p - d) % p) * gI (gR m x) k := w_in (by omega) (by omega)
   have w4 : (((p - d) % p) * gI (gR m x) k).tmod p = ((p - d) % p) * gI (gR m x) k % p := tmod_nn (by omega)
   have w5 := i_field_num_eq (p := p) (n := ((p - d) % p) * gI (gR m x) k) (by omega) (by omega) (by omega) (by omega)
   have w6 : w64 ((k : Int) + 1) = ((k + 1 : Nat) : Int) := by rw [w_in (by omega) (by omega)]; rfl
   have hn := mod_num (a := ((p - d) % p) * gI (gR m x) k) (p := p) (by omega)
   simp only [c1,c2,if_true,l1,l2,h1,some_bind,hx',if_false,c3,c4,not_false_eq_true,idxR (show x < m.length by omega),idxR (show k < m.length by omega),idxR (show x < (m.set k (gR m x)).length by rw [List.length_set]; omega),idxR (show k < (m.set x (gR m k)).length by rw [List.length_set]; omega),Int.toNat_natCast,g2,w7,w8,w9,w10,idxR (show k < ((m.set x (gR m k)).set k (gR m x)).length by omega),hMk,idxI (show k < (gR m x).length by omega),chk_bind (show ¬ p = 0 by omega),f1,w3,w4,w5,w6,y1,y2]
   exact ⟨_,rfl,rfl,⟨y3,hn.1,hn.2,k + 1,rfl,by omega,clear_tri hP hkr hM hMk hne y4 (swap_tri hm hxr hkr h2 htri),(hinv.swap hm hxr hkr h2 hxk).clear hkr hMk y4⟩,by simp only [Int.toNat_natCast]; omega⟩
 ·refine .inr ?_
  simp only [show ¬ (k : Int) < (m.length : Int) by omega,show ¬ (k : Int) < (v1.length : Int) by omega,if_false]
  have hkk : k = r := by omega
  subst hkk
  exact ⟨_,rfl,rfl,hd0,hd1,hinv.full htri⟩
theorem Det_val {m : List (List Int)} (hm : Mat p r r m) : ∃ d,s_l02Det p m = some d ∧ i_field_determinant p m = some d ∧ (d = 0 ↔ Sg p r r m) ∧ 0 ≤ d ∧ d < p ∧ p ∣ d - detL r m := by
 obtain ⟨d,a1,a2,a3⟩ := Det_iff hP hr hm
 refine ⟨d,a1,a2,a3,?_⟩
 obtain ⟨b,h1,h2,h3⟩ := det_two3 hP hr hm hm.1
 have hz := hm.sz hr hr
 unfold i_field_determinant at a2
 rw [i_cloneRows_eq hz,some_bind,h2,some_bind] at a2
 cases b with
 | inl d' => cases a2; exact h3
 | inr d' => cases a2; exact h3
end
end Go.Vam

/- Plain laws: products are associative; turned products; ranks and determinants of products. -/
namespace Go.Vam
open Go Go.RowKit
set_option linter.unusedSimpArgs false
set_option linter.unusedVariables false
set_option linter.unusedSectionVars false

theorem timesm_at {p : Int} {r n c i k : Nat} {a b : List (List Int)} (hi : i < r) (hk : k < c) : gI (gR (timesm p r n c a b) i) k = sumN (fun j => gI (gR a i) j * gI (gR b j) k) n % p := by
 unfold timesm
 rw [gR_vecN _ hi,gI_vecN _ hk]
end Go.Vam

/- Plain laws: powers, exponents are added. -/
namespace Go.Vam
open Go Go.RowKit
set_option linter.unusedSimpArgs false
set_option linter.unusedVariables false
set_option linter.unusedSectionVars false

end Go.Vam

/- Plain laws: norms of elements; ConjugationBy. -/
namespace Go.Vam
open Go Go.RowKit
set_option linter.unusedSimpArgs false
set_option linter.unusedVariables false
set_option linter.unusedSectionVars false

section
variable {p : Int} {w x : List Int} (hP : isP p = true) (hl : w.length ≤ 4) (hw : Vec p w.length w) (hx : Vec p (2 ^ w.length) x)
include hP hl hw hx
end
section
variable {p : Int} {w a b : List Int} (hP : isP p = true) (hl : w.length ≤ 4) (hw : Vec p w.length w) (ha : Vec p (2 ^ w.length) a) (hb : Vec p (2 ^ w.length) b)
include hP hl hw ha hb
end
end Go.Vam

/- Plain law: FnMatrixProducts. -/
namespace Go.Vam
open Go Go.RowKit
set_option linter.unusedSimpArgs false
set_option linter.unusedVariables false
set_option linter.unusedSectionVars false

theorem below_is : g_p_laws_dice_below = s_l01Next := rfl
theorem below_eq {c : List Int} {a h n : Int} (hS : Src c a) (hn : 1 ≤ n) (hn2 : n ≤ 4611686018427387904) :
  ∃ r a' h',g_p_laws_dice_below c a h n = some (r,(c,a',h')) ∧ 0 ≤ r ∧ r < n ∧ Src c a' := by rw [below_is]; exact next_eq hS hn hn2
theorem roll_eq {c : List Int} (k : Int) (hc : c.length ≤ 4096) (hb : ∀ x ∈ c,0 ≤ x ∧ x ≤ 255) : ∃ h',l_roll c k = some (c,0,h') ∧ Src c 0 := by
 unfold l_roll
 obtain ⟨b,h1,h',rfl⟩ := loop_inv (step := l_roll_L0 c) (fun s => ∃ (k : Nat) (h' : Int),s = (c,0,h',(k : Int)) ∧ k ≤ c.length) (fun s => c.length - s.2.2.2.toNat)
  (fun b => ∃ h' : Int,b = (c,(0 : Int),h')) (s := (c,0,IntKind.u64.wrap ((IntKind.u64.wrap (k * 7681)) + (IntKind.u64.wrap ((c.length : Int)))),0)) ⟨0,_,rfl,by omega⟩ (by rw [BIG_val]; simp only []; omega) (by
   rintro s ⟨k,h',rfl,hk⟩
   unfold l_roll_L0
   by_cases hkn : k < c.length
   ·refine .inl ?_
    simp only [lt_cast hkn,if_true,some_bind,idxI hkn]
    rw [w_in (by omega) (by omega)]
    exact ⟨_,rfl,⟨k + 1,_,rfl,by omega⟩,by simp only []; omega⟩
   ·have : k = c.length := by omega
    subst this
    refine .inr ⟨(c,0,h'),?_,h',rfl⟩
    simp)
 rw [h1,some_bind]
 exact ⟨h',rfl,hc,hb,by omega,by omega⟩
theorem isMat_of {p : Int} {r c : Nat} {m : List (List Int)} (hP : isP p = true) (hm : Mat p r c m) (hr0 : 1 ≤ r) (hr : r ≤ 16) (hc0 : 1 ≤ c) (hc : c ≤ 16) : isMat p m = true ∧ m.length = r ∧ wid m = c := by
 have e1 := hm.1
 have e2 : wid m = c := (hm.row (i := 0) (by omega)).1
 refine ⟨isMat_iff.2 ⟨hP,by omega,by omega,by omega,by omega,by rw [e1,e2]; exact hm⟩,e1,e2⟩
section
variable {p : Int} {r n c : Nat} {a b : List (List Int)} (hP : isP p = true) (ha : Mat p r n a) (hr0 : 1 ≤ r) (hr : r ≤ 16) (hn0 : 1 ≤ n) (hn : n ≤ 16)
include hP ha hr0 hr hn0 hn
theorem mul_ok (hb : Mat p n c b) (hc0 : 1 ≤ c) (hc : c ≤ 16) : i_MultiplyMatrices p a b = some (timesm p r n c a b,0) := by
 obtain ⟨x1,x2,x3⟩ := isMat_of hP ha hr0 hr hn0 hn
 obtain ⟨y1,y2,y3⟩ := isMat_of hP hb hn0 hn hc0 hc
 rw [i_MultiplyMatrices_eq (ha.sz (by omega) (by omega)) (hb.sz (by omega) (by omega))]
 unfold muV muC
 simp only [x1,y1,Bool.and_self,if_true,x2,x3,y2,y3]
end
end Go.Vam

/- Plain laws: inverses of tables. -/
namespace Go.Vam
open Go Go.RowKit
set_option linter.unusedSimpArgs false
set_option linter.unusedVariables false
set_option linter.unusedSectionVars false

def widem (n : Nat) (a : List (List Int)) : List (List Int) := vecN n fun i => gR a i ++ axis n i
section
variable {p : Int} {n : Nat} {a : List (List Int)} (hp : 1 < p) (hn : n ≤ 1000) (ha : Mat p n n a)
include hp hn ha
end
section
variable {p : Int} {n : Nat} {a B : List (List Int)} {ld : Nat → Nat} (hP : isP p = true) (hn0 : 1 ≤ n) (hn : n ≤ 1000) (ha : Mat p n n a) (hB : Ech p (n + n) B ld) (hk : ∀ u,Kr p (n + n) B u ↔ KerP p n (n + n) (widem n a) u)
include hP hn0 hn ha hB hk
end

section
variable {p : Int} {n : Nat} {a : List (List Int)} (hP : isP p = true) (hn0 : 1 ≤ n) (hn : n ≤ 16) (ha : Mat p n n a)
include hP hn0 hn ha
end
end Go.Vam

/- Plain laws: the coordinates of a product; pure elements of few steps anticommute up to their pairing. -/
namespace Go.Vam
open Go Go.RowKit
set_option linter.unusedSimpArgs false
set_option linter.unusedVariables false
set_option linter.unusedSectionVars false

end Go.Vam

/- Plain law: FnMultiplicationMatrices. -/
namespace Go.Vam
open Go Go.RowKit
set_option linter.unusedSimpArgs false
set_option linter.unusedVariables false
set_option linter.unusedSectionVars false

section
variable {p : Int} {w x : List Int} (hP : isP p = true) (hl : w.length ≤ 4) (hw : Vec p w.length w) (hx : Vec p (2 ^ w.length) x)
include hP hl hw hx
end
end Go.Vam

/- Plain law: FnMultiplicationMatrices, the end. -/
namespace Go.Vam
open Go Go.RowKit
set_option linter.unusedSimpArgs false
set_option linter.unusedVariables false
set_option linter.unusedSectionVars false

section
variable {p : Int} {w x : List Int} (hw : w.length ≤ 1048576) (hx : x.length ≤ 1048576)
include hw hx
end
section
variable {p : Int} {w x : List Int} (hD : isDb p w = true) (hx : Vec p (2 ^ w.length) x)
include hD hx
end
section
variable {p : Int} {w a b : List Int} (hP : isP p = true) (hl : w.length ≤ 3) (hw : Vec p w.length w) (ha : Vec p (2 ^ w.length) a) (hb : Vec p (2 ^ w.length) b) (ha0 : gI a 0 = 0) (hb0 : gI b 0 = 0)
include hP hl hw ha hb ha0 hb0
end
end Go.Vam

/- Plain law: FnInverses. -/
namespace Go.Vam
open Go Go.RowKit
set_option linter.unusedSimpArgs false
set_option linter.unusedVariables false
set_option linter.unusedSectionVars false

end Go.Vam

/- Plain laws: triples. -/
namespace Go.Vam
open Go Go.RowKit
set_option linter.unusedSimpArgs false
set_option linter.unusedVariables false
set_option linter.unusedSectionVars false

/-! ### The laws' helpers -/
section
variable {a b c : List (List Int)}
end

/-! ### UnitTriple -/
section
variable {p : Int} {w a b : List Int} (hP : isP p = true) (hl : w.length ≤ 4) (hw : Vec p w.length w) (ha : Vec p (2 ^ w.length) a) (hb : Vec p (2 ^ w.length) b)
include hP hl hw ha hb
end
abbrev gT3 (l : List (List (List Int) × List (List Int) × List (List Int))) (k : Nat) : List (List Int) × List (List Int) × List (List Int) := l.getD k ([],[],[])
def szTs (l : List (List (List Int) × List (List Int) × List (List Int))) : Prop := l.length ≤ 1024 ∧ ∀ x ∈ l,szM x.1 ∧ szM x.2.1 ∧ szM x.2.2
theorem szTs.at {l : List (List (List Int) × List (List Int) × List (List Int))} (h : szTs l) {k : Nat} (hk : k < l.length) : szM (gT3 l k).1 ∧ szM (gT3 l k).2.1 ∧ szM (gT3 l k).2.2 := by
 have := h.2 _ (List.getElem_mem hk)
 rwa [getD_get hk ([],[],[])] at this
section
variable {p : Int} {w : List Int} {l : List (List (List Int) × List (List Int) × List (List Int))} (hw : w.length ≤ 1048576) (hz : szTs l)
include hw hz
end
end Go.Vam

/- Plain laws: triples, turned and multiplied. -/
namespace Go.Vam
open Go Go.RowKit
set_option linter.unusedSimpArgs false
set_option linter.unusedVariables false
set_option linter.unusedSectionVars false

end Go.Vam

/- Plain laws: loops: whether a table is one; its nucleus and its centre. -/
namespace Go.Vam
open Go Go.RowKit
set_option linter.unusedSimpArgs false
set_option linter.unusedVariables false
set_option linter.unusedSectionVars false

section
variable {a : List (List Int)} (hn : a.length ≤ 128) (hl : ∀ i,i < a.length → (gR a i).length = a.length)
include hn hl
end
section
variable {a : List (List Int)} (hn : a.length ≤ 128) (hm : Mat (a.length : Int) a.length a.length a)
include hn hm
end

section
variable {a : List (List Int)} (hn : a.length ≤ 128) (hm : Mat (a.length : Int) a.length a.length a)
include hn hm
end

end Go.Vam

/- Plain laws: AutomorphismFrom. -/
namespace Go.Vam
open Go Go.RowKit
set_option linter.unusedSimpArgs false
set_option linter.unusedVariables false
set_option linter.unusedSectionVars false

section
variable {p : Int} {w : List Int} (hP : isP p = true) (hl : w.length ≤ 4) (hw : Vec p w.length w)
include hP hl hw
end
section
variable {p : Int} {w : List Int} {a : List (List Int)} (hP : isP p = true) (hl : w.length ≤ 3) (hw : Vec p w.length w) (hal : a.length = w.length) (ha : ∀ k,k < a.length → Vec p (2 ^ w.length) (gR a k))
include hP hl hw hal ha
end

end Go.Vam

/- Plain laws: the decomposition of an orthogonal matrix. -/
namespace Go.Vam
open Go Go.RowKit
set_option linter.unusedSimpArgs false
set_option linter.unusedVariables false

end Go.Vam

/- Plain laws: counts of norms, the search of units. -/
namespace Go.Vam
open Go Go.RowKit
set_option linter.unusedSimpArgs false
set_option linter.unusedVariables false
set_option linter.unusedSectionVars false

section
variable {p : Int} (hP : isP p = true)
include hP
variable {w : List Int} (hl : w.length ≤ 3) (hw : Vec p w.length w)
include hl hw
end
end Go.Vam

/- How many vectors have a norm: the program's count, and what it depends on. -/
namespace Go.Vam
open Go Go.RowKit
set_option linter.unusedSimpArgs false
set_option linter.unusedVariables false

end Go.Vam

/- Plain laws: how many vectors have a norm depends on the dimension, the number of zeros and the product's square class. -/
namespace Go.Vam
open Go Go.RowKit
set_option linter.unusedSimpArgs false
set_option linter.unusedVariables false
set_option linter.unusedSectionVars false

section
variable {p : Int} (hP : isP p = true)
include hP
end

section
variable {p : Int} {w u : List Int} (hP : isP p = true) (hw : Vec p w.length w) (hu : Vec p w.length u)
include hP hw hu
end
end Go.Vam

/- Plain laws: isometries between two spaces. -/
namespace Go.Vam
open Go Go.RowKit
set_option linter.unusedSimpArgs false
set_option linter.unusedVariables false
set_option linter.unusedSectionVars false

abbrev gP (l : List (Int × List Int)) (k : Nat) : Int × List Int := l.getD k (0,[])
theorem idxP {l : List (Int × List Int)} {k : Nat} (h : k < l.length) : idx l (k : Int) = some (gP l k) := idxD h (0,[])
theorem checkSpaces_eq {l : List (Int × List Int)} (hl : l.length ≤ 1048576) (hs : ∀ x ∈ l,x.2.length ≤ 1048576) :
  i_checkSpaces l = some (if (l.any fun x => !isSp x.1 x.2) then 1 else 0) := by
 unfold i_checkSpaces g_slices_ContainsFunc_Limpl_Space_impl_Space_of_i_checkSpaces_c1 g_slices_IndexFunc_Limpl_Space_impl_Space_of_i_checkSpaces_c1
 have hget : ∀ k,k < l.length → (gP l k).2.length ≤ 1048576 := fun k hk => by
  have := hs _ (List.getElem_mem hk)
  rwa [getD_get hk (0,[])] at this
 have core : ∀ k,k < l.length → i_checkSpaces_c1 (gP l k).1 (gP l k).2 = some (!isSp (gP l k).1 (gP l k).2) := fun k hk => by
  unfold i_checkSpaces_c1
  rw [i_IsSpace_eq (hget k hk),some_bind]
 obtain ⟨b,h1,h2⟩ := any_loop (g_slices_IndexFunc_Limpl_Space_impl_Space_of_i_checkSpaces_c1_L0 l) l.length (fun k => !isSp (gP l k).1 (gP l k).2) (fun k => (k : Int)) (by rw [BIG_val]; omega)
  (fun k hk hf => by
   unfold g_slices_IndexFunc_Limpl_Space_impl_Space_of_i_checkSpaces_c1_L0
   simp only [show (k : Int) < (l.length : Int) by omega,if_true,idxP hk,some_bind,core k hk,hf,Bool.false_eq_true,if_false]
   rw [w_in (by omega) (by omega)]; rfl) (fun k hk hf => by
   unfold g_slices_IndexFunc_Limpl_Space_impl_Space_of_i_checkSpaces_c1_L0
   simp only [show (k : Int) < (l.length : Int) by omega,if_true,idxP hk,some_bind,core k hk,hf]) (by
   unfold g_slices_IndexFunc_Limpl_Space_impl_Space_of_i_checkSpaces_c1_L0
   simp)
 have e : (l.any fun x => !isSp x.1 x.2) = (List.range l.length).any fun k => !isSp (gP l k).1 (gP l k).2 := (any_range l (fun x => !isSp x.1 x.2) (0,[])).symm
 rw [e,h1]
 rcases h2 with ⟨rfl,h3⟩ | ⟨k,hk,rfl,hf,h3,_⟩
 ·rw [h3]; simp [ile]
 ·rw [h3]; simp [ile]

def iso2 (p : Int) (w u : List Int) (T : List (List Int)) (i j : Nat) : Bool := decide (pairp p w.length u (gR T i) (gR T j) = if i = j then gI w i else 0)
section
variable {p : Int} {w u : List Int} {T : List (List Int)} (hP : isP p = true) (hn : w.length ≤ 1048576) (hw : Vec p w.length w) (hu : Vec p w.length u) (hT : Mat p w.length w.length T)
include hP hn hw hu hT
theorem i_iso2_loop : loop (i_isIsometry_L0 w p u T) BIG 0 = some (if (List.range w.length).all fun i => (List.range w.length).all (iso2 p w u T i) then .inl () else .inr false) := by
 have e1 := hT.1
 have inner : ∀ i,i < w.length → loop (i_isIsometry_L1 w p u T (i : Int) (gR T i)) BIG 0 = some (if (List.range w.length).all (iso2 p w u T i) then .inl () else .inr (.inr (.inr false))) := by
  intro i hi
  have core : ∀ j,j < w.length → i_isIsometry_L1 w p u T (i : Int) (gR T i) (j : Int) = if iso2 p w u T i j = true then some (.inl ((j + 1 : Nat) : Int)) else some (.inr (.inr (.inr (.inr false)))) := by
   intro j hj
   unfold i_isIsometry_L1
   have hpr := i_Space_pair_eq hP hn hu (hT.row hi) (hT.row hj)
   have he : ((if (i : Int) = (j : Int) then (idx w (i : Int)).bind fun v38 => some v38 else some 0) : Option Int) = some (if i = j then gI w i else 0) := by
    by_cases h : i = j
    ·subst h; simp only [if_true,idxI hi,some_bind]
    ·rw [if_neg (by omega),if_neg h]
   rw [if_pos (by omega),he,idxR (by omega),some_bind,some_bind,hpr,some_bind,w_in (by omega) (by omega)]
   unfold iso2
   by_cases h : pairp p w.length u (gR T i) (gR T j) = if i = j then gI w i else 0
   ·rw [if_neg (by simp [h]),if_pos (by simp [h])]; rfl
   ·rw [if_pos h,if_neg (by simp [h])]
  refine all_loop _ w.length (iso2 p w u T i) _ (by rw [BIG_val]; omega) ?_ ?_ ?_
  ·intro j hj hf
   rw [core j hj,if_pos hf]
  ·intro j hj hf
   rw [core j hj,if_neg (by simp [hf])]
  ·unfold i_isIsometry_L1
   simp [e1]
 refine all_loop _ w.length (fun i => (List.range w.length).all (iso2 p w u T i)) false (by rw [BIG_val]; omega) ?_ ?_ ?_
 ·intro i hi hf
  unfold i_isIsometry_L0
  rw [if_pos (by omega),idxR (by omega),some_bind,inner i hi,hf,w_in (by omega) (by omega)]; rfl
 ·intro i hi hf
  unfold i_isIsometry_L0
  rw [if_pos (by omega),idxR (by omega),some_bind,inner i hi,hf]; rfl
 ·unfold i_isIsometry_L0
  simp [e1]
end

end Go.Vam

/- Plain laws: both tests of isometric spaces; AreIsometric. -/
namespace Go.Vam
open Go Go.RowKit
set_option linter.unusedSimpArgs false
set_option linter.unusedVariables false
set_option linter.unusedSectionVars false

section
variable {p : Int} {w u : List Int} (hP : isP p = true) (hn : w.length ≤ 6) (hw : Vec p w.length w) (hu : Vec p w.length u)
include hP hn hw hu
end
end Go.Vam

/- Plain laws: vectors one after the other. -/
namespace Go.Vam
open Go Go.RowKit
set_option linter.unusedSimpArgs false
set_option linter.unusedVariables false
set_option linter.unusedSectionVars false

def incL (p : Int) (l : List Int) : Nat → Option (List Int)
 | 0 => none
 | k + 1 => if gI l k = p - 1 then incL p (l.set k 0) k else some (l.set k (gI l k + 1))
def vlN (p : Int) (l : List Int) : Nat → Int
 | 0 => 0
 | k + 1 => vlN p l k * p + gI l k
theorem vlN_congr {p : Int} {l l' : List Int} : ∀ {k : Nat},(∀ j,j < k → gI l j = gI l' j) → vlN p l k = vlN p l' k
 | 0,_ => rfl
 | k + 1,h => by simp only [vlN]; rw [vlN_congr (k := k) fun j hj => h j (by omega),h k (by omega)]
theorem gI_setn {l : List Int} {k j : Nat} {x : Int} (h : k ≠ j) : gI (l.set k x) j = gI l j := by
 unfold gI
 rw [List.getD_eq_getElem?_getD,List.getD_eq_getElem?_getD,List.getElem?_set_ne h]
theorem gI_sete {l : List Int} {k : Nat} {x : Int} (h : k < l.length) : gI (l.set k x) k = x := by
 unfold gI
 rw [List.getD_eq_getElem?_getD,List.getElem?_set_self h]; rfl
theorem Vec.setk {p : Int} {n k : Nat} {l : List Int} {x : Int} (h : Vec p n l) (hx : 0 ≤ x ∧ x < p) : Vec p n (l.set k x) := by
 refine ⟨by rw [List.length_set,h.1],fun j hj => ?_⟩
 by_cases e : k = j
 ·subst e; rw [gI_sete (by rw [h.1]; exact hj)]; exact hx
 ·rw [gI_setn e]; exact h.2 j hj
section
variable {p : Int} {n : Nat} (hp : 3 ≤ p) (hp2 : p ≤ 13)
include hp hp2
theorem incL_some : ∀ (k : Nat) (l l' : List Int),k ≤ n → Vec p n l → incL p l k = some l' → Vec p n l' ∧ vlN p l' k = vlN p l k + 1 ∧ ∀ j,k ≤ j → gI l' j = gI l j
 | 0,l,l',_,_,h => by cases h
 | k + 1,l,l',hk,hl,h => by
  unfold incL at h
  split at h
  ·rename_i h9
   obtain ⟨a1,a2,a3⟩ := incL_some k _ l' (by omega) (hl.setk ⟨by omega,by omega⟩) h
   refine ⟨a1,?_,fun j hj => ?_⟩
   ·simp only [vlN]
    rw [a2,a3 k (Nat.le_refl _),gI_sete (by rw [hl.1]; omega),h9,vlN_congr (l := l.set k 0) (l' := l) fun j hj => gI_setn (by omega),Int.add_mul]
    omega
   ·rw [a3 j (by omega),gI_setn (by omega)]
  ·rename_i h9
   simp only [Option.some.injEq] at h
   subst h
   have := hl.2 k (by omega)
   refine ⟨hl.setk ⟨by omega,by omega⟩,?_,fun j hj => gI_setn (by omega)⟩
   simp only [vlN]
   rw [gI_sete (by rw [hl.1]; omega),vlN_congr (l := l.set k _) (l' := l) fun j hj => gI_setn (by omega)]
   omega
theorem incL_none : ∀ (k : Nat) (l : List Int),k ≤ n → Vec p n l → incL p l k = none → vlN p l k = p ^ k - 1
 | 0,l,_,_,_ => by simp [vlN]
 | k + 1,l,hk,hl,h => by
  unfold incL at h
  split at h
  ·rename_i h9
   have a := incL_none k _ (by omega) (hl.setk (k := k) ⟨by omega,by omega⟩) h
   rw [vlN_congr (l := l.set k 0) (l' := l) fun j hj => gI_setn (by omega)] at a
   simp only [vlN]
   rw [a,h9,Int.sub_mul,Int.pow_succ]
   omega
  ·cases h
theorem vlN_bd {l : List Int} (hl : Vec p n l) : ∀ k,k ≤ n → 0 ≤ vlN p l k ∧ vlN p l k ≤ p ^ k - 1
 | 0,_ => by simp [vlN]
 | k + 1,hk => by
  have a := vlN_bd hl k (by omega)
  have b := hl.2 k (by omega)
  simp only [vlN]
  have h1 : 0 ≤ vlN p l k * p := Int.mul_nonneg a.1 (by omega)
  have h2 : vlN p l k * p ≤ (p ^ k - 1) * p := Int.mul_le_mul_of_nonneg_right a.2 (by omega)
  have h3 : p ^ (k + 1) = p ^ k * p := Int.pow_succ p k
  rw [Int.sub_mul] at h2
  omega
theorem vlN_inj {x y : List Int} (hx : Vec p n x) (hy : Vec p n y) : ∀ k,k ≤ n → vlN p x k = vlN p y k → ∀ j,j < k → gI x j = gI y j
 | 0,_,_,j,hj => by omega
 | k + 1,hk,h,j,hj => by
  have a := hx.2 k (by omega)
  have b := hy.2 k (by omega)
  simp only [vlN] at h
  have h1 : gI x k = gI y k := by
   have e := congrArg (· % p) h
   simp only [Int.mul_comm _ p,Int.add_emod,Int.mul_emod_right,Int.zero_add,Int.emod_emod] at e
   rwa [Int.emod_eq_of_lt a.1 a.2,Int.emod_eq_of_lt b.1 b.2] at e
  rw [h1] at h
  have h2 : vlN p x k * p = vlN p y k * p := by omega
  have h3 := Int.eq_of_mul_eq_mul_right (by omega) h2
  rcases Nat.lt_succ_iff_lt_or_eq.1 hj with h4 | rfl
  ·exact vlN_inj hx hy k (by omega) h3 j h4
  ·exact h1
theorem vl_eq {x y : List Int} (hx : Vec p n x) (hy : Vec p n y) (h : vlN p x n = vlN p y n) : x = y := by
 rw [extI hx.1 fun k _ => rfl,extI hy.1 fun k _ => rfl]
 exact vecN_congr fun k hk => vlN_inj hp hp2 hx hy n (Nat.le_refl _) h k hk
theorem zeroV : Vec p n (List.replicate n 0) := ⟨by simp,fun k hk => by
 have : gI (List.replicate n (0 : Int)) k = 0 := by rw [← gI_get (by simpa using hk)]; simp
 omega⟩
theorem vl_zero : ∀ k,k ≤ n → vlN p (List.replicate n (0 : Int)) k = 0
 | 0,_ => rfl
 | k + 1,hk => by
  simp only [vlN]
  rw [vl_zero k (by omega),← gI_get (by simp; omega)]
  simp

/-! ### Both programs' steps -/
theorem s_next_loop : ∀ (k N : Nat) (l : List Int),k ≤ n → n ≤ 100 → k < N → Vec p n l → ∃ r,loop (s_l03Next_L0 p) N (l,(k : Int) - 1) = some r ∧ ((∃ l',incL p l k = some l' ∧ r = .inr (true,l')) ∨ (incL p l k = none ∧ ∃ y,r = .inl y))
 | 0,N,l,_,hn,hN,hl => by
  obtain ⟨N,rfl⟩ : ∃ M,N = M + 1 := ⟨N - 1,by omega⟩
  refine ⟨.inl l,?_,.inr ⟨rfl,_,rfl⟩⟩
  rw [loop_succ]
  unfold s_l03Next_L0
  dsimp only
  rw [if_neg (by omega)]
 | k + 1,N,l,hk,hn,hN,hl => by
  obtain ⟨N,rfl⟩ : ∃ M,N = M + 1 := ⟨N - 1,by omega⟩
  have hd := hl.2 k (by omega)
  have hkl : k < l.length := by rw [hl.1]; omega
  have ek : ((k + 1 : Nat) : Int) - 1 = (k : Int) := by omega
  rw [loop_succ,ek]
  have st : s_l03Next_L0 p (l,(k : Int)) = if gI l k = p - 1 then some (.inl (l.set k 0,(k : Int) - 1)) else some (.inr (.inr (true,l.set k (gI l k + 1)))) := by
   unfold s_l03Next_L0
   dsimp only
   rw [if_pos (by omega),idxI hkl,some_bind,some_bind,w_in (by omega) (by omega),Int.toNat_natCast,idxI (k := k) (by rw [List.length_set]; exact hkl),some_bind,gI_sete hkl,List.set_set,w_in (by omega) (by omega)]
   by_cases h : gI l k = p - 1
   ·rw [if_neg (by omega),if_pos h]
   ·rw [if_pos (by omega),if_neg h]
  rw [st]
  unfold incL
  by_cases h : gI l k = p - 1
  ·simp only [h,if_true]
   exact s_next_loop k N _ (by omega) hn (by omega) (hl.setk ⟨by omega,by omega⟩)
  ·simp only [h,if_false]
   exact ⟨_,rfl,.inl ⟨_,rfl,rfl⟩⟩
theorem s_next_eq {l : List Int} (hn : n ≤ 100) (hl : Vec p n l) : (∃ l',incL p l n = some l' ∧ s_l03Next p l = some (true,l')) ∨ (incL p l n = none ∧ ∃ y,s_l03Next p l = some (false,y)) := by
 unfold s_l03Next
 obtain ⟨r,h1,h2⟩ := s_next_loop hp hp2 n BIG l (Nat.le_refl _) hn (by rw [BIG_val]; omega) hl
 rw [w_in (by rw [hl.1]; omega) (by rw [hl.1]; omega),hl.1,h1,some_bind]
 rcases h2 with ⟨l',h2,rfl⟩ | ⟨h2,y,rfl⟩
 ·exact .inl ⟨l',h2,rfl⟩
 ·exact .inr ⟨h2,y,rfl⟩
theorem i_next_loop : ∀ (k N : Nat) (l : List Int),k ≤ n → n ≤ 100 → k < N → Vec p n l → ∃ m j,loop (i_Space_vectors_of_i_IsometryOf_c1_L1 p) N (l,(k : Int) - 1) = some (m,j) ∧
  ((incL p l k = none ∧ j < 0) ∨ ∃ q : Nat,j = (q : Int) ∧ q < n ∧ Vec p n m ∧ incL p l k = some (m.set q (gI m q + 1)))
 | 0,N,l,_,hn,hN,hl => by
  obtain ⟨N,rfl⟩ : ∃ M,N = M + 1 := ⟨N - 1,by omega⟩
  refine ⟨l,-1,?_,.inl ⟨rfl,by omega⟩⟩
  rw [loop_succ]
  unfold i_Space_vectors_of_i_IsometryOf_c1_L1
  dsimp only
  rw [if_neg (by omega),some_bind,if_neg (by simp)]
  rfl
 | k + 1,N,l,hk,hn,hN,hl => by
  obtain ⟨N,rfl⟩ : ∃ M,N = M + 1 := ⟨N - 1,by omega⟩
  have hd := hl.2 k (by omega)
  have hkl : k < l.length := by rw [hl.1]; omega
  have ek : ((k + 1 : Nat) : Int) - 1 = (k : Int) := by omega
  rw [loop_succ,ek]
  have st : i_Space_vectors_of_i_IsometryOf_c1_L1 p (l,(k : Int)) = if gI l k = p - 1 then some (.inl (l.set k 0,(k : Int) - 1)) else some (.inr (l,(k : Int))) := by
   unfold i_Space_vectors_of_i_IsometryOf_c1_L1
   dsimp only
   rw [if_pos (by omega),idxI hkl,some_bind,some_bind,w_in (x := p - 1) (by omega) (by omega),w_in (by omega) (by omega),Int.toNat_natCast,some_bind]
   by_cases h : gI l k = p - 1
   ·rw [if_pos (by simp [ieq,h]),if_pos h]
   ·rw [if_neg (by simp [ieq,h]),if_neg h]
  rw [st]
  unfold incL
  by_cases h : gI l k = p - 1
  ·simp only [h,if_true]
   exact i_next_loop k N _ (by omega) hn (by omega) (hl.setk ⟨by omega,by omega⟩)
  ·simp only [h,if_false]
   exact ⟨_,_,rfl,.inr ⟨k,rfl,by omega,hl,rfl⟩⟩
end
end Go.Vam

/- Plain laws: both searches find the first vector that fits. -/
namespace Go.Vam
open Go Go.RowKit
set_option linter.unusedSimpArgs false
set_option linter.unusedVariables false
set_option linter.unusedSectionVars false

def fitB (p : Int) (n : Nat) (u : List Int) (s : Int) (C : List (List Int)) (x : List Int) : Bool :=
 decide (pairp p n u x x = s) && (List.range C.length).all fun i => decide (pairp p n u x (gR C i) = 0)
theorem RowsV.gR {p : Int} {n : Nat} {C : List (List Int)} (h : RowsV p n C) {k : Nat} (hk : k < C.length) : Vec p n (gR C k) := h _ (by rw [← gR_get hk]; exact List.getElem_mem _)
section
variable {p : Int} {n : Nat} {u : List Int} (hP : isP p = true) (hn : n ≤ 6) (hul : u.length = n) (hu : Vec p n u) {C : List (List Int)} (hC : RowsV p n C) (hCl : C.length ≤ 100)
include hP hn hu hC hCl hul
theorem i_contains_eq {x : List Int} (hx : Vec p n x) : g_slices_ContainsFunc_LLI_LI_of_i_IsometryOf_c1_c1 C p u x = some (!((List.range C.length).all fun i => decide (pairp p n u x (gR C i) = 0))) := by
 unfold g_slices_ContainsFunc_LLI_LI_of_i_IsometryOf_c1_c1 g_slices_IndexFunc_LLI_LI_of_i_IsometryOf_c1_c1
 have hc : ∀ k,k < C.length → i_IsometryOf_c1_c1 (gR C k) p u x = some (!decide (pairp p n u x (gR C k) = 0)) := fun k hk => by
  unfold i_IsometryOf_c1_c1
  rw [i_Space_pair_eq hP (by omega) hu hx (hC.gR hk),some_bind]
  congr 2
 obtain ⟨b,h1,h2⟩ := any_loop (g_slices_IndexFunc_LLI_LI_of_i_IsometryOf_c1_c1_L0 C p u x) C.length (fun k => !decide (pairp p n u x (gR C k) = 0)) (fun k => (k : Int)) (by rw [BIG_val]; omega)
  (fun k hk hf => by
   unfold g_slices_IndexFunc_LLI_LI_of_i_IsometryOf_c1_c1_L0
   rw [if_pos (by omega),idxR hk,some_bind,hc k hk,some_bind,hf,if_neg (by simp),w_in (by omega) (by omega)]; rfl) (fun k hk hf => by
   unfold g_slices_IndexFunc_LLI_LI_of_i_IsometryOf_c1_c1_L0
   rw [if_pos (by omega),idxR hk,some_bind,hc k hk,some_bind,hf,if_pos rfl]) (by
   unfold g_slices_IndexFunc_LLI_LI_of_i_IsometryOf_c1_c1_L0
   rw [if_neg (by omega)])
 have e : (!((List.range C.length).all fun i => decide (pairp p n u x (gR C i) = 0))) = (List.range C.length).any fun k => !decide (pairp p n u x (gR C k) = 0) := by
  rw [List.not_all_eq_any_not]
 rw [e,h1,some_bind]
 rcases h2 with ⟨rfl,h3⟩ | ⟨k,hk,rfl,hf,h3,_⟩
 ·rw [h3]; rfl
 ·rw [h3]; simp [ile]
theorem pw_bd : p ^ n ≤ 4826809 := by
 have hp := isP_le hP
 have h1 : p ^ n ≤ 13 ^ n := by
  clear hn hul hu hC
  induction n with
  | zero => simp
  | succ n ih =>
   rw [Int.pow_succ,Int.pow_succ]
   exact Int.mul_le_mul ih (by omega) (by omega) (Int.pow_nonneg (by decide))
 have key : ∀ k : Nat,k < 7 → (13 : Int) ^ k ≤ 4826809 := by decide
 have := key n (by omega)
 omega
/-! ### The reference -/
variable {w : List Int} {k : Nat} (hk : k < w.length) (hwn : w.length = n) (hw0 : gI w k ≠ 0)
include hk
theorem s_fit_loop {x : List Int} (hx : Vec p n x) : loop (s_IsometryOf_L2 p u (C,(k : Int)) (true,x)) BIG (ieq (pairp p n u x x) (gI w k),0) = some (fitB p n u (gI w k) C x) := by
 have hp := isP_le hP
 obtain ⟨b,h1,h2⟩ := loop_inv (step := s_IsometryOf_L2 p u (C,(k : Int)) (true,x))
  (fun st => ∃ j : Nat,st.2 = (j : Int) ∧ j ≤ C.length ∧ st.1 = (decide (pairp p n u x x = gI w k) && (List.range j).all fun i => decide (pairp p n u x (gR C i) = 0)))
  (fun st => C.length - st.2.toNat) (fun b => b = fitB p n u (gI w k) C x) (s := (ieq (pairp p n u x x) (gI w k),0))
  ⟨0,rfl,by omega,by simp [ieq]⟩ (by rw [BIG_val]; simp only; omega) (by
   rintro ⟨ok,j'⟩ ⟨j,e1,hj,e2⟩
   simp only at e1 e2
   subst e1
   unfold s_IsometryOf_L2
   dsimp only
   by_cases hjl : j < C.length
   ·rw [if_pos (by omega),some_bind]
    cases ok with
    | true =>
     rw [if_pos rfl,idxR hjl,some_bind,s_l03Pair_eq hP (by omega) hu hx (hC.gR hjl),some_bind,w_in (by omega) (by omega)]
     refine .inl ⟨_,rfl,⟨j + 1,rfl,by omega,?_⟩,by simp only [Int.toNat_natCast]; omega⟩
     rw [List.range_succ,List.all_append,← Bool.and_assoc,← e2]
     simp [ieq]
    | false =>
     rw [if_neg (by simp)]
     refine .inr ⟨_,rfl,?_⟩
     unfold fitB
     symm
     rw [Bool.eq_false_iff]
     intro h
     rw [Bool.and_eq_true,List.all_eq_true] at h
     have e3 := e2.symm
     rw [Bool.eq_false_iff] at e3
     apply e3
     rw [Bool.and_eq_true,List.all_eq_true]
     exact ⟨h.1,fun i hi => h.2 i (by rw [List.mem_range] at hi ⊢; omega)⟩
   ·rw [if_neg (by omega),some_bind,if_neg (by simp)]
    refine .inr ⟨_,rfl,?_⟩
    have : j = C.length := by omega
    subst this
    exact e2)
 rw [h1,h2]
include hwn hw0
end
end Go.Vam

/- Plain laws: orthogonal families, turned and put together anew. -/
namespace Go.Vam
open Go Go.RowKit
set_option linter.unusedSimpArgs false
set_option linter.unusedVariables false
set_option linter.unusedSectionVars false

theorem pair_eq_iff {p : Int} {n : Nat} {u x y : List Int} {s : Int} (hs : 0 ≤ s ∧ s < p) : pairp p n u x y = s ↔ p ∣ pairS n u x y - s := by
 rw [pairp_S,← mod_dvd,Int.emod_eq_of_lt hs.1 hs.2]
section
variable {p : Int} {n : Nat} {u : List Int} (hP : isP p = true)
include hP
end
end Go.Vam

/- Plain laws: a vector that fits is always there. -/
namespace Go.Vam
open Go Go.RowKit
set_option linter.unusedSimpArgs false
set_option linter.unusedVariables false
set_option linter.unusedSectionVars false

section
variable {p : Int} {n : Nat} {u : List Int} (hP : isP p = true)
include hP
end
end Go.Vam

/- Plain laws: IsometryOf, both programs. -/
namespace Go.Vam
open Go Go.RowKit
set_option linter.unusedSimpArgs false
set_option linter.unusedVariables false
set_option linter.unusedSectionVars false

section
variable {p : Int} {n : Nat} {w u : List Int} (hP : isP p = true) (hw : Vec p n w) (hw0 : ∀ i,i < n → gI w i ≠ 0)
include hP hw hw0
end
def GramR (p : Int) (n : Nat) (w u : List Int) (C : List (List Int)) : Prop := ∀ i j,i < n → j < n → pairp p n u (gR C i) (gR C j) = if i = j then gI w i else 0
section
variable {p : Int} {n : Nat} {w u : List Int} (hP : isP p = true) (hn : n ≤ 6) (hwl : w.length = n) (hul : u.length = n) (hw : Vec p n w) (hw0 : ∀ i,i < n → gI w i ≠ 0) (hu : Vec p n u)
include hP hn hw hw0 hu hwl hul
end
theorem hasZ_get {w : List Int} (h : hasZ w = false) {i : Nat} (hi : i < w.length) : gI w i ≠ 0 := by
 intro e
 have : hasZ w = true := by
  unfold hasZ
  rw [List.any_eq_true]
  exact ⟨w[i],List.getElem_mem hi,by rw [gI_get hi,e]; rfl⟩
 rw [this] at h; cases h
end Go.Vam

/- Plain laws: the isometry that is found is one, and it keeps the products. -/
namespace Go.Vam
open Go Go.RowKit
set_option linter.unusedSimpArgs false
set_option linter.unusedVariables false
set_option linter.unusedSectionVars false

section
variable {p : Int} {n : Nat} {w u : List Int} {C : List (List Int)} (hP : isP p = true) (hn0 : 1 ≤ n) (hn : n ≤ 6) (hw : Vec p n w) (hw0 : ∀ i,i < n → gI w i ≠ 0) (hu : Vec p n u) (hC : Mat p n n C) (hG : GramR p n w u C)
include hP hn0 hn hw hw0 hu hC hG
theorem gram_sum (x : Nat → Int) (y : List Int) (z : List Int) (hz : ∀ i,i < n → p ∣ gI z i - sumN (fun k => gI (gR C k) i * x k) n) : p ∣ pairS n u z y - sumN (fun k => x k * pairS n u (gR C k) y) n := by
 have e : sumN (fun k => x k * pairS n u (gR C k) y) n = sumN (fun i => sumN (fun k => gI (gR C k) i * x k) n * (gI y i * gI u i)) n := by
  have : ∀ k,x k * pairS n u (gR C k) y = sumN (fun i => x k * (gI (gR C k) i * gI y i * gI u i)) n := fun k => (sumN_mulL _ _ _).symm
  simp only [this]
  rw [sumN_comm]
  refine sumN_congr fun i _ => ?_
  rw [← sumN_mulR]
  refine sumN_congr fun k _ => ?_
  generalize gI (gR C k) i = a
  generalize x k = b
  generalize gI y i = c
  generalize gI u i = d
  grind
 rw [e]
 unfold pairS
 rw [← sumN_sub]
 refine sumN_dvd fun i hi => ?_
 obtain ⟨m,hm⟩ := hz i hi
 refine ⟨m * (gI y i * gI u i),?_⟩
 rw [Int.mul_assoc,← Int.sub_mul,hm,Int.mul_assoc]
theorem gram_dvd {k j : Nat} (hk : k < n) (hj : j < n) : p ∣ pairS n u (gR C k) (gR C j) - if k = j then gI w k else 0 := by
 have hb : (0 : Int) ≤ (if k = j then gI w k else 0) ∧ (if k = j then gI w k else 0) < p := by
  have hp := isP_le hP
  have := hw.2 k hk
  split <;> omega
 exact (pair_eq_iff hb).1 (hG k j hk hj)
theorem gram_out {j : Nat} (hj : j < n) (x : Nat → Int) : p ∣ sumN (fun k => x k * pairS n u (gR C k) (gR C j)) n - x j * gI w j := by
 have e : x j * gI w j = sumN (fun k => x k * (if k = j then gI w k else 0)) n := by
  rw [sumN_one hj (fun q _ hq => by rw [if_neg hq,Int.mul_zero]),if_pos rfl]
 rw [e,← sumN_sub]
 refine sumN_dvd fun k hk => ?_
 rw [← Int.mul_sub]
 exact Int.dvd_mul_of_dvd_right (gram_dvd hP hn0 hn hw hw0 hu hC hG hk hj)
theorem not_Sg : ¬ Sg p n n (turnm n n C) := by
 rintro ⟨x,⟨j,hj,hxj⟩,hK⟩
 have hp := isP_le hP
 have h1 := gram_sum hP hn0 hn hw hw0 hu hC hG x (gR C j) (List.replicate n 0) fun i hi => by
  have := hK i hi
  unfold rd at this
  rw [sumN_congr (g := fun k => gI (gR C k) i * x k) fun k hk => by rw [turnm_at hk hi]] at this
  rw [show gI (List.replicate n (0 : Int)) i = 0 by rw [← gI_get (by simpa using hi)]; simp,Int.zero_sub]
  exact Int.dvd_neg.2 this
 have h2 : pairS n u (List.replicate n 0) (gR C j) = 0 := by
  unfold pairS
  rw [sumN_congr (g := fun _ => 0) fun q hq => by rw [show gI (List.replicate n (0 : Int)) q = 0 by rw [← gI_get (by simpa using hq)]; simp]; simp]
  exact sumN_zero n
 have h3 := gram_out hP hn0 hn hw hw0 hu hC hG hj x
 rw [h2,Int.zero_sub] at h1
 have h4 : p ∣ x j * gI w j := by
  obtain ⟨a,ha⟩ := h1
  obtain ⟨b,hb⟩ := h3
  exact ⟨-a - b,by grind⟩
 rcases (prime_dvd hP).1 h4 with h | h
 ·exact hxj h
 ·have a := hw.2 j hj
  have b := hw0 j hj
  have := Int.le_of_dvd (by omega) h
  omega
theorem keeps_pair {x y : List Int} (hx : Vec p n x) (hy : Vec p n y) : pairp p n u (applyv p n n (turnm n n C) x) (applyv p n n (turnm n n C) y) = pairp p n w x y := by
 have hp := isP_le hP
 have ha : ∀ x : List Int,∀ i,i < n → p ∣ gI (applyv p n n (turnm n n C) x) i - sumN (fun k => gI (gR C k) i * gI x k) n := fun x i hi => by
  unfold applyv
  rw [gI_vecN _ hi]
  unfold dotp
  rw [← mod_dvd,emm]
  congr 1
  exact sumN_congr fun k hk => by rw [turnm_at hk hi]
 rw [pairp_S,pairp_S,mod_dvd]
 have h1 := gram_sum hP hn0 hn hw hw0 hu hC hG (fun k => gI x k) (applyv p n n (turnm n n C) y) (applyv p n n (turnm n n C) x) (ha x)
 have h2 : ∀ k,k < n → p ∣ pairS n u (gR C k) (applyv p n n (turnm n n C) y) - gI y k * gI w k := fun k hk => by
  have a := gram_sum hP hn0 hn hw hw0 hu hC hG (fun k => gI y k) (gR C k) (applyv p n n (turnm n n C) y) (ha y)
  have b := gram_out hP hn0 hn hw hw0 hu hC hG hk (fun k => gI y k)
  rw [pairS_comm]
  obtain ⟨m1,g1⟩ := a
  obtain ⟨m2,g2⟩ := b
  exact ⟨m1 + m2,by rw [Int.mul_add,← g1,← g2]; omega⟩
 have h3 : p ∣ sumN (fun k => gI x k * pairS n u (gR C k) (applyv p n n (turnm n n C) y)) n - pairS n w x y := by
  unfold pairS at *
  rw [← sumN_sub]
  refine sumN_dvd fun k hk => ?_
  rw [Int.mul_assoc (gI x k),← Int.mul_sub]
  exact Int.dvd_mul_of_dvd_right (h2 k hk)
 obtain ⟨m1,g1⟩ := h1
 obtain ⟨m2,g2⟩ := h3
 exact ⟨m1 + m2,by rw [Int.mul_add,← g1,← g2]; omega⟩
theorem iso_true (hs : isSp p w = true) (hs2 : isSp p u = true) (hwl : w.length = n) (hul : u.length = n) : i_IsIsometry p w p u (turnm n n C) = some (true,0) := by
 subst hwl
 have hp := isP_le hP
 have hM := turnm_mat hC
 have hz := hM.sz (show w.length ≤ 1048576 by omega) (show w.length ≤ 1048576 by omega)
 have hi := (isMat_of hP hM hn0 (by omega) hn0 (by omega)).1
 have hlM : (turnm w.length w.length C).length = w.length := hM.1
 have hw1 : (gR (turnm w.length w.length C) 0).length = w.length := (hM.row (show 0 < w.length by omega)).1
 obtain ⟨d,_,d1,d2⟩ := Det_iff hP (show w.length ≤ 1048576 by omega) hM
 have hd : ieq d 0 = false := by
  have : ¬ d = 0 := fun e => not_Sg hP hn0 hn hw hw0 hu hC hG (d2.1 e)
  simp [ieq,this]
 have t1 := i_transpose_eq (p := p) (r := w.length) (c := w.length) (m := turnm w.length w.length C) (by omega) (by omega) (by omega) hM
 have hTT := turnm_mat hM
 have l2 := i_iso2_loop hP (by omega) hw hu hTT
 have hall : ((List.range w.length).all fun i => (List.range w.length).all (iso2 p w u (turnm w.length w.length (turnm w.length w.length C)) i)) = true := by
  rw [List.all_eq_true]
  intro i hi
  rw [List.all_eq_true]
  intro j hj
  rw [List.mem_range] at hi hj
  have hr : ∀ k,k < w.length → gR (turnm w.length w.length (turnm w.length w.length C)) k = gR C k := fun k hk => by
   rw [extI (hC.row hk).1 fun q _ => rfl]
   refine extI (hTT.row hk).1 fun q hq => ?_
   rw [turnm_at hq hk,turnm_at hk hq]
  unfold iso2
  rw [hr i hi,hr j hj]
  exact decide_eq_true (hG i j hi hj)
 rw [hall,if_pos rfl] at l2
 unfold i_IsIsometry i_isIsometry i_Space_dim i_Space_field
 rw [checkSpaces_eq (by simp) (by intro x hx; simp at hx; rcases hx with rfl | rfl <;> simp only <;> omega),some_bind]
 simp only [List.any_cons,List.any_nil,hs,hs2,Bool.not_true,Bool.or_self,Bool.false_eq_true,if_false,not_true_eq_false,some_bind,hul,i_field_isMatrix_eq hP hz,hi,Bool.true_eq_false,hlM,idxR0 (show 0 < (turnm w.length w.length C).length by omega),hw1,d1,hd,t1,l2]
end
end Go.Vam

/- Plain laws: both programs' lists of orthogonal tables. -/
namespace Go.Vam
open Go Go.RowKit
set_option linter.unusedSimpArgs false
set_option linter.unusedVariables false
set_option linter.unusedSectionVars false

def runV (p : Int) (n : Nat) : Nat → List Int → List (List Int)
 | 0,_ => []
 | k + 1,l => l :: (match incL p l n with
  | none => []
  | some l' => runV p n k l')
def allV (p : Int) (n : Nat) : List (List Int) := runV p n (p ^ n).toNat (List.replicate n 0)
def growC (p : Int) (n : Nat) (w : List Int) (V : List (List Int)) : Nat → List (List Int) → List (List (List Int))
 | 0,C => [C]
 | j + 1,C => (V.filter (fitB p n w (gI w C.length) C)).flatMap fun x => growC p n w V j (C ++ [x])
section
variable {p : Int} {n : Nat} (hp : 3 ≤ p) (hp2 : p ≤ 13)
include hp hp2
theorem vec_runV : ∀ (k : Nat) (l : List Int),Vec p n l → ∀ x ∈ runV p n k l,Vec p n x
 | 0,_,_,_,h => by cases h
 | k + 1,l,hl,x,h => by
  simp only [runV,List.mem_cons] at h
  rcases h with rfl | h
  ·exact hl
  ·split at h
   ·cases h
   ·rename_i l' e
    exact vec_runV k l' (incL_some hp hp2 n l l' (Nat.le_refl _) hl e).1 x h
theorem mem_runV {x : List Int} (hx : Vec p n x) : ∀ (k : Nat) (l : List Int),Vec p n l → vlN p l n ≤ vlN p x n → p ^ n - vlN p l n ≤ k → x ∈ runV p n k l
 | 0,l,hl,h1,h2 => by
  have := (vlN_bd hp hp2 hx n (Nat.le_refl _)).2
  omega
 | k + 1,l,hl,h1,h2 => by
  have hb := (vlN_bd hp hp2 hx n (Nat.le_refl _)).2
  simp only [runV,List.mem_cons]
  rcases Int.lt_or_eq_of_le h1 with h | h
  ·right
   cases e : incL p l n with
   | none =>
    have := incL_none hp hp2 n l (Nat.le_refl _) hl e
    omega
   | some l' =>
    obtain ⟨a1,a2,_⟩ := incL_some hp hp2 n l l' (Nat.le_refl _) hl e
    exact mem_runV hx k l' a1 (by omega) (by omega)
  ·exact .inl (vl_eq hp hp2 hx hl h.symm)
theorem mem_allV {x : List Int} : x ∈ allV p n ↔ Vec p n x := by
 have h0 := vl_zero hp hp2 (n := n) n (Nat.le_refl _)
 refine ⟨fun h => vec_runV hp hp2 _ _ (zeroV hp hp2) x h,fun h => mem_runV hp hp2 h _ _ (zeroV hp hp2) ?_ ?_⟩
 ·rw [h0]; exact (vlN_bd hp hp2 h n (Nat.le_refl _)).1
 ·rw [h0]; omega
end
theorem i_contains_is : g_slices_ContainsFunc_LLI_LI_of_i_Space_growOrthogonal_c1_c1 = g_slices_ContainsFunc_LLI_LI_of_i_IsometryOf_c1_c1 := rfl
theorem i_L1_is : i_Space_vectors_of_i_Space_growOrthogonal_c1_L1 = i_Space_vectors_of_i_IsometryOf_c1_L1 := rfl
section
variable {p : Int} {n : Nat} {w : List Int} (hP : isP p = true) (hn : n ≤ 6) (hwl : w.length = n) (hw : Vec p n w) {C : List (List Int)} (hC : RowsV p n C) (hCl : C.length < n)
include hP hn hw hC hCl hwl
theorem i_g1_eq {self : Int → (List Int) → (List (List Int)) → (List (List (List Int))) → Option (List (List (List Int)))} {x : List Int} (hx : Vec p n x) (out : List (List (List Int))) :
  i_Space_growOrthogonal_c1 self x p w (C.length : Int) C out = (if fitB p n w (gI w C.length) C x = true then self p w (C ++ [x]) out else some out).bind fun o => some (false,(C.length : Int),o) := by
 unfold i_Space_growOrthogonal_c1 i_Space_norm
 rw [i_Space_pair_eq hP (by omega) hw hx hx,some_bind,some_bind,idxI (by omega),some_bind]
 unfold fitB
 by_cases h : pairp p n w x x = gI w C.length
 ·rw [if_pos h,i_contains_is,i_contains_eq hP hn hwl hw hC (by omega) hx,some_bind,some_bind]
  simp only [h,decide_true,Bool.true_and,Bool.not_not]
  cases hq : (List.range C.length).all fun i => decide (pairp p n w x (gR C i) = 0) with
  | true =>
   rw [if_pos rfl,if_pos rfl]
   unfold g_slices_Clone_LI_I g_slices_Clone_LLI_LI
   rw [chk_bind (by omega),some_bind,chk_bind (by rw [hx.1]; omega),some_bind,chk_bind (by simp; omega)]
   cases self p w (C ++ [x]) out <;> rfl
  | false => rw [if_neg (by simp),if_neg (by simp)]
 ·rw [if_neg h,some_bind,if_neg (by simp),some_bind]
  simp [h]
variable {self : Int → (List Int) → (List (List Int)) → (List (List (List Int))) → Option (List (List (List Int)))} {g : List Int → List (List (List Int))}
  (hself : ∀ (x : List Int) (out : List (List (List Int))),Vec p n x → fitB p n w (gI w C.length) C x = true → out.length + (g x).length ≤ 1099511627776 → self p w (C ++ [x]) out = some (out ++ g x))
include hself
theorem i_fold : ∀ (k N : Nat) (l : List Int) (out : List (List (List Int))),Vec p n l → p ^ n - vlN p l n ≤ k → k < N → out.length + (((runV p n k l).filter (fitB p n w (gI w C.length) C)).flatMap g).length ≤ 1099511627776 →
  loop (i_Space_vectors_of_i_Space_growOrthogonal_c1_L0 p p w C self) N (l,(C.length : Int),out) = some (.inr (false,(C.length : Int),out ++ ((runV p n k l).filter (fitB p n w (gI w C.length) C)).flatMap g))
 | 0,N,l,out,hl,h1,_,_ => by
  have hp := isP_le hP
  have := (vlN_bd hp.1 hp.2 hl n (Nat.le_refl _)).2
  omega
 | k + 1,N,l,out,hl,h1,hN,hb => by
  have hp := isP_le hP
  obtain ⟨N,rfl⟩ : ∃ M,N = M + 1 := ⟨N - 1,by omega⟩
  obtain ⟨rest,hrest⟩ : ∃ r : List (List Int),r = (match incL p l n with | none => [] | some l' => runV p n k l') := ⟨_,rfl⟩
  have hrun : runV p n (k + 1) l = l :: rest := by rw [hrest]; rfl
  rw [hrun] at hb ⊢
  obtain ⟨o1,ho1,ho2⟩ : ∃ o1,(if fitB p n w (gI w C.length) C l = true then self p w (C ++ [l]) out else some out) = some o1 ∧ out ++ ((l :: rest).filter (fitB p n w (gI w C.length) C)).flatMap g = o1 ++ (rest.filter (fitB p n w (gI w C.length) C)).flatMap g := by
   cases hf : fitB p n w (gI w C.length) C l with
   | true =>
    rw [List.filter_cons_of_pos hf,List.flatMap_cons,List.length_append] at hb
    refine ⟨out ++ g l,?_,?_⟩
    ·rw [if_pos rfl,hself l out hl hf (by omega)]
    ·rw [List.filter_cons_of_pos hf,List.flatMap_cons,List.append_assoc]
   | false =>
    refine ⟨out,by rw [if_neg (by simp)],?_⟩
    rw [List.filter_cons_of_neg (by simp [hf])]
  have hb2 : o1.length + ((rest.filter (fitB p n w (gI w C.length) C)).flatMap g).length ≤ 1099511627776 := by
   have := congrArg List.length ho2
   simp only [List.length_append] at this
   omega
  rw [ho2,loop_succ]
  unfold i_Space_vectors_of_i_Space_growOrthogonal_c1_L0
  dsimp only
  rw [i_g1_eq hP hn hwl hw hC hCl hl,ho1,some_bind,some_bind]
  dsimp only
  rw [if_neg (by simp)]
  obtain ⟨m,j,g1,g2⟩ := i_next_loop hp.1 hp.2 n BIG l (Nat.le_refl _) (by omega) (by rw [BIG_val]; omega) hl
  have hln : (l.length : Int) = (n : Int) := by rw [hl.1]
  rw [i_L1_is,hln,w_in (by omega) (by omega),g1,some_bind]
  rcases g2 with ⟨g2,g3⟩ | ⟨q,rfl,g3,g4,g5⟩
  ·dsimp only
   rw [if_pos g3]
   rw [g2] at hrest
   dsimp only at hrest
   subst hrest
   simp
  ·have hmq := g4.2 q g3
   dsimp only
   rw [if_neg (by omega),idxI (k := q) (by rw [g4.1]; exact g3),some_bind,w_in (by omega) (by omega),Int.toNat_natCast]
   obtain ⟨b1,b2,_⟩ := incL_some hp.1 hp.2 n l _ (Nat.le_refl _) hl g5
   rw [g5] at hrest
   dsimp only at hrest
   subst hrest
   dsimp only
   exact i_fold k N _ o1 b1 (by omega) (by omega) hb2
theorem s_fold : ∀ (k N : Nat) (l : List Int) (out : List (List (List Int))),Vec p n l → p ^ n - vlN p l n ≤ k → k < N → out.length + ((((runV p n k l).drop 1).filter (fitB p n w (gI w C.length) C)).flatMap g).length ≤ 1099511627776 →
  loop (s_l08Grow_L0 p w C self) N (out,l) = some (out ++ (((runV p n k l).drop 1).filter (fitB p n w (gI w C.length) C)).flatMap g)
 | 0,N,l,out,hl,h1,_,_ => by
  have hp := isP_le hP
  have := (vlN_bd hp.1 hp.2 hl n (Nat.le_refl _)).2
  omega
 | k + 1,N,l,out,hl,h1,hN,hb => by
  have hp := isP_le hP
  obtain ⟨N,rfl⟩ : ∃ M,N = M + 1 := ⟨N - 1,by omega⟩
  rcases s_next_eq hp.1 hp.2 (by omega) hl with ⟨l',g1,g2⟩ | ⟨g1,y,g2⟩
  ·obtain ⟨b1,b2,_⟩ := incL_some hp.1 hp.2 n l _ (Nat.le_refl _) hl g1
   have hbd := (vlN_bd hp.1 hp.2 b1 n (Nat.le_refl _)).2
   have hrun : (runV p n (k + 1) l).drop 1 = runV p n k l' := by simp only [runV,g1,List.drop_succ_cons,List.drop_zero]
   obtain ⟨k,rfl⟩ : ∃ q,k = q + 1 := ⟨k - 1,by omega⟩
   obtain ⟨rest,hrest⟩ : ∃ r : List (List Int),r = (runV p n (k + 1) l').drop 1 := ⟨_,rfl⟩
   have hrun2 : runV p n (k + 1) l' = l' :: rest := by rw [hrest]; rfl
   rw [hrun,hrun2] at hb ⊢
   have st : s_l08Grow_L0 p w C self (out,l) = if fitB p n w (gI w C.length) C l' = true then (self p w (C ++ [l']) out).bind fun v => some (.inl (v,l')) else some (.inl (out,l')) := by
    unfold s_l08Grow_L0
    dsimp only
    rw [g2,some_bind,if_pos rfl]
    dsimp only
    rw [s_l03Pair_eq hP (show n ≤ 1048576 by omega) hw b1 b1,some_bind,idxI (by omega),some_bind]
    have e := s_fit_loop hP hn hwl hw hC (by omega) (k := C.length) (w := w) (by omega) b1
    have e2 : s_l08Grow_L1 p w C (true,l') = s_IsometryOf_L2 p w (C,(C.length : Int)) (true,l') := funext fun s => rfl
    rw [e2,e,some_bind,s_l01Own2_eq ⟨by omega,fun r hr => by rw [(hC r hr).1]; omega⟩,some_bind,s_l01Own_eq (by rw [b1.1]; omega),some_bind,chk_bind (by simp; omega)]
   rw [loop_succ,st]
   cases hf : fitB p n w (gI w C.length) C l' with
   | true =>
    rw [List.filter_cons_of_pos hf,List.flatMap_cons,List.length_append] at hb
    rw [if_pos rfl,List.filter_cons_of_pos hf,List.flatMap_cons,hself l' out b1 hf (by omega),some_bind]
    dsimp only
    rw [← List.append_assoc,hrest]
    rw [hrest] at hb
    exact s_fold (k + 1) N l' _ b1 (by omega) (by omega) (by rw [List.length_append]; omega)
   | false =>
    rw [List.filter_cons_of_neg (by simp [hf])] at hb ⊢
    rw [if_neg (by simp)]
    dsimp only
    rw [hrest] at hb ⊢
    exact s_fold (k + 1) N l' out b1 (by omega) (by omega) hb
  ·have st : s_l08Grow_L0 p w C self (out,l) = some (.inr out) := by
    unfold s_l08Grow_L0
    dsimp only
    rw [g2,some_bind,if_neg (by simp)]
   rw [loop_succ,st]
   simp only [runV,g1,List.drop_succ_cons,List.drop_zero,List.filter_nil,List.flatMap_nil,List.append_nil]
end

section
variable {p : Int} {n : Nat} {w : List Int} (hP : isP p = true) (hn0 : 1 ≤ n) (hn : n ≤ 6) (hwl : w.length = n) (hw : Vec p n w) (hw0 : ∀ i,i < n → gI w i ≠ 0)
include hP hn hw hwl hn0
theorem RowsV.mat {C : List (List Int)} (hC : RowsV p n C) (hl : C.length = n) : Mat p n n C := ⟨hl,fun i hi => hC.gR (by omega)⟩
theorem RowsV.snoc {C : List (List Int)} {x : List Int} (hC : RowsV p n C) (hx : Vec p n x) : RowsV p n (C ++ [x]) := fun r hr => by
 rcases List.mem_append.1 hr with h | h
 ·exact hC r h
 ·rw [List.mem_singleton.1 h]; exact hx
theorem turn_both {C : List (List Int)} (hC : RowsV p n C) (hl : C.length = n) : i_transpose C = some (turnm n n C) ∧ s_l02Turn C = some (turnm n n C) :=
 have hm := RowsV.mat hP hn0 hn hwl hw hC hl
 ⟨i_transpose_eq (p := p) (r := n) (c := n) (m := C) (by omega) (by omega) (by omega) hm,s_l02Turn_eq (p := p) (r := n) (c := n) (m := C) (by omega) (by omega) (by omega) hm⟩
theorem i_grow_eq : ∀ (j m : Nat) (C : List (List Int)) (out : List (List (List Int))),C.length + j = n → RowsV p n C → j < m → out.length + (growC p n w (allV p n) j C).length ≤ 1099511627776 →
  i_Space_growOrthogonal m p w C out = some (out ++ (growC p n w (allV p n) j C).map (turnm n n))
 | 0,m,C,out,hj,hC,hm,hb => by
  obtain ⟨m,rfl⟩ : ∃ q,m = q + 1 := ⟨m - 1,by omega⟩
  simp only [growC,List.length_singleton] at hb
  simp only [i_Space_growOrthogonal,growC,List.map_cons,List.map_nil]
  unfold i_Space_growOrthogonal_b i_Space_dim
  rw [some_bind,if_pos (by omega),(turn_both hP hn0 hn hwl hw hC (by omega)).1,some_bind,chk_bind (by simp; omega)]
 | j + 1,m,C,out,hj,hC,hm,hb => by
  have hp := isP_le hP
  have hpw : p ^ n ≤ 4826809 := pw_bd hP hn hwl hw hC (by omega)
  obtain ⟨m,rfl⟩ : ∃ q,m = q + 1 := ⟨m - 1,by omega⟩
  have h0 := vl_zero hp.1 hp.2 (n := n) n (Nat.le_refl _)
  have hpp : (0 : Int) < p ^ n := Int.pow_pos (by omega)
  have eg : (growC p n w (allV p n) (j + 1) C).map (turnm n n) = ((allV p n).filter (fitB p n w (gI w C.length) C)).flatMap fun x => (growC p n w (allV p n) j (C ++ [x])).map (turnm n n) := by
   simp only [growC,List.map_flatMap]
  have el : (((allV p n).filter (fitB p n w (gI w C.length) C)).flatMap fun x => (growC p n w (allV p n) j (C ++ [x])).map (turnm n n)).length = (growC p n w (allV p n) (j + 1) C).length := by
   rw [← eg,List.length_map]
  have key := i_fold hP hn hwl hw hC (by omega) (self := i_Space_growOrthogonal m) (g := fun x => (growC p n w (allV p n) j (C ++ [x])).map (turnm n n))
   (fun x out hx hf ho => i_grow_eq j m (C ++ [x]) out (by simp; omega) (RowsV.snoc hP hn0 hn hwl hw hC hx) (by omega) (by rw [List.length_map] at ho; exact ho)) (p ^ n).toNat BIG (List.replicate n 0) out (zeroV hp.1 hp.2) (by rw [h0]; omega) (by rw [BIG_val]; omega) (by
    have := el
    unfold allV at this ⊢
    rw [this]
    exact hb)
  rw [eg]
  simp only [i_Space_growOrthogonal]
  unfold i_Space_growOrthogonal_b i_Space_vectors_of_i_Space_growOrthogonal_c1 i_Space_dim
  rw [some_bind,if_neg (by omega),some_bind,chk_bind ⟨by omega,by omega⟩,hwl,Int.toNat_natCast,key]
  rfl
include hw0
theorem zero_unfit {C : List (List Int)} {k : Nat} (hk : k < n) : fitB p n w (gI w k) C (List.replicate n 0) = false := by
 unfold fitB
 have : pairp p n w (List.replicate n 0) (List.replicate n 0) = 0 := by
  rw [pairp_S]
  have : pairS n w (List.replicate n 0) (List.replicate n 0) = 0 := by
   unfold pairS
   rw [sumN_congr (g := fun _ => 0) fun q hq => by rw [show gI (List.replicate n (0 : Int)) q = 0 by rw [← gI_get (by simpa using hq)]; simp]; simp]
   exact sumN_zero n
  rw [this]; rfl
 rw [this,decide_eq_false (fun e => hw0 k hk e.symm)]
 rfl
theorem s_grow_eq : ∀ (j m : Nat) (C : List (List Int)) (out : List (List (List Int))),C.length + j = n → RowsV p n C → j < m → out.length + (growC p n w (allV p n) j C).length ≤ 1099511627776 →
  s_l08Grow m p w C out = some (out ++ (growC p n w (allV p n) j C).map (turnm n n))
 | 0,m,C,out,hj,hC,hm,hb => by
  obtain ⟨m,rfl⟩ : ∃ q,m = q + 1 := ⟨m - 1,by omega⟩
  simp only [growC,List.length_singleton] at hb
  simp only [s_l08Grow,growC,List.map_cons,List.map_nil]
  unfold s_l08Grow_b
  rw [if_pos (by omega),(turn_both hP hn0 hn hwl hw hC (by omega)).2,some_bind,chk_bind (by simp; omega)]
 | j + 1,m,C,out,hj,hC,hm,hb => by
  have hp := isP_le hP
  have hpw : p ^ n ≤ 4826809 := pw_bd hP hn hwl hw hC (by omega)
  obtain ⟨m,rfl⟩ : ∃ q,m = q + 1 := ⟨m - 1,by omega⟩
  have h0 := vl_zero hp.1 hp.2 (n := n) n (Nat.le_refl _)
  have hpp : (0 : Int) < p ^ n := Int.pow_pos (by omega)
  have eg : (growC p n w (allV p n) (j + 1) C).map (turnm n n) = ((allV p n).filter (fitB p n w (gI w C.length) C)).flatMap fun x => (growC p n w (allV p n) j (C ++ [x])).map (turnm n n) := by
   simp only [growC,List.map_flatMap]
  have ed : (allV p n).filter (fitB p n w (gI w C.length) C) = ((allV p n).drop 1).filter (fitB p n w (gI w C.length) C) := by
   unfold allV
   obtain ⟨q,hq⟩ : ∃ q,(p ^ n).toNat = q + 1 := ⟨(p ^ n).toNat - 1,by omega⟩
   rw [hq]
   simp only [runV,List.drop_succ_cons,List.drop_zero]
   rw [List.filter_cons_of_neg (by rw [zero_unfit hP hn0 hn hwl hw hw0 (by omega)]; simp)]
  rw [ed] at eg
  have el : ((((allV p n).drop 1).filter (fitB p n w (gI w C.length) C)).flatMap fun x => (growC p n w (allV p n) j (C ++ [x])).map (turnm n n)).length = (growC p n w (allV p n) (j + 1) C).length := by
   rw [← eg,List.length_map]
  have key := s_fold hP hn hwl hw hC (by omega) (self := s_l08Grow m) (g := fun x => (growC p n w (allV p n) j (C ++ [x])).map (turnm n n))
   (fun x out hx hf ho => s_grow_eq j m (C ++ [x]) out (by simp; omega) (RowsV.snoc hP hn0 hn hwl hw hC hx) (by omega) (by rw [List.length_map] at ho; exact ho)) (p ^ n).toNat BIG (List.replicate n 0) out (zeroV hp.1 hp.2) (by rw [h0]; omega) (by rw [BIG_val]; omega) (by
    have := el
    unfold allV at this ⊢
    rw [this]
    exact hb)
  rw [eg]
  simp only [s_l08Grow]
  unfold s_l08Grow_b
  rw [if_neg (by omega),chk_bind ⟨by omega,by omega⟩,hwl,Int.toNat_natCast,key]
  rfl
end
end Go.Vam
