import Derived.Test.YtijmfifejmgeaaaFmG0
/- Plain laws: the helpers of the laws: sizes, copies, comparisons, marks. -/
namespace Go.Vam
open Go Go.RowKit
set_option linter.unusedSimpArgs false
set_option linter.unusedVariables false

theorem w_in {x : Int} (h1 : -9223372036854775808 ≤ x) (h2 : x ≤ 9223372036854775807) : w64 x = x := wrap_in h1 h2
theorem BIG_val : BIG = 4611686018427387904 := (rfl)
theorem idxk {α : Type} {xs : List α} {k : Nat} (h : k < xs.length) : idx xs (k : Int) = some xs[k] := by rw [idx_nat]; exact List.getElem?_eq_getElem h
theorem some_bind {α β : Type} (a : α) (f : α → Option β) : (some a).bind f = f a := (rfl)
theorem chk_bind {p : Prop} [Decidable p] {β : Type} (h : p) (f : Unit → Option β) : (chk p).bind f = f () := by rw [chk_ok h]; rfl

theorem take_ext {α : Type} {a b : List α} (hl : a.length = b.length) (k : Nat) (hk : k < a.length) (h : a.take k = b.take k) : a.take (k + 1) = b.take (k + 1) ↔ a[k] = b[k]'(hl ▸ hk) := by
 rw [List.take_succ_eq_append_getElem hk,List.take_succ_eq_append_getElem (hl ▸ hk),h,List.append_right_inj]
 simp only [List.cons.injEq,and_true]

theorem cmp_loop {α : Type} (a b : List α) (hl : a.length = b.length) (hb : a.length ≤ 9223372036854775806) (step : Int → Option (Int ⊕ (Unit ⊕ Bool)))
  (hs : ∀ k (h : k < a.length),a[k] = b[k]'(hl ▸ h) → step (k : Int) = some (.inl ((k + 1 : Nat) : Int))) (hd : ∀ k (h : k < a.length),a[k] ≠ b[k]'(hl ▸ h) → step (k : Int) = some (.inr (.inr false)))
  (he : step (a.length : Int) = some (.inr (.inl ()))) (hbig : a.length < BIG) :
  ∃ r,loop step BIG 0 = some r ∧ ((r = .inl () ∧ a = b) ∨ (r = .inr false ∧ a ≠ b)) := by
 refine loop_inv (fun s => ∃ k : Nat,k ≤ a.length ∧ s = (k : Int) ∧ a.take k = b.take k) (fun s => a.length - s.toNat) _ ⟨0,by omega,rfl,rfl⟩ (by show a.length - 0 < BIG; omega) ?_
 rintro s ⟨k,hk,rfl,ht⟩
 by_cases hka : k < a.length
 ·by_cases he : a[k] = b[k]'(hl ▸ hka)
  ·rw [hs k hka he]
   exact .inl ⟨_,rfl,⟨k + 1,by omega,rfl,(take_ext hl k hka ht).2 he⟩,by simp only [Int.toNat_natCast]; omega⟩
  ·rw [hd k hka he]
   refine .inr ⟨_,rfl,.inr ⟨rfl,fun hab => he ?_⟩⟩
   subst hab; rfl
 ·have hkk : k = a.length := by omega
  subst hkk
  rw [he]
  refine .inr ⟨_,rfl,.inl ⟨rfl,?_⟩⟩
  rwa [List.take_length,hl,List.take_length] at ht

theorem ieq_self (a : Int) : ieq a a = true := by simp [ieq]
end Go.Vam

/- Plain laws: loops that map, test, add; numbers and tables over a prime. -/
namespace Go.Vam
open Go Go.RowKit
set_option linter.unusedSimpArgs false
set_option linter.unusedVariables false

/-! ### Loops -/
def vecN {α : Type} (n : Nat) (f : Nat → α) : List α := (List.range n).map f
@[simp] theorem vecN_len {α : Type} (n : Nat) (f : Nat → α) : (vecN n f).length = n := by simp [vecN]
theorem vecN_succ {α : Type} (n : Nat) (f : Nat → α) : vecN (n + 1) f = vecN n f ++ [f n] := by simp [vecN,List.range_succ]
theorem vecN_getD {α : Type} (n : Nat) (f : Nat → α) (k : Nat) (z : α) (h : k < n) : (vecN n f).getD k z = f k := by simp [vecN,h]
theorem vecN_get {α : Type} (n : Nat) (f : Nat → α) (k : Nat) (h : k < (vecN n f).length) : (vecN n f)[k] = f k := by simp [vecN]
theorem vecN_congr {α : Type} {n : Nat} {f g : Nat → α} (h : ∀ k,k < n → f k = g k) : vecN n f = vecN n g := by
 unfold vecN
 exact List.map_congr_left fun k hk => h k (List.mem_range.1 hk)
theorem vecN_ext {α : Type} {xs : List α} {n : Nat} {f : Nat → α} (z : α) (hl : xs.length = n) (h : ∀ k,k < n → xs.getD k z = f k) : xs = vecN n f := by
 apply List.ext_getElem
 ·simp [hl]
 ·intro k h1 h2
  have := h k (by omega)
  rw [vecN_get,← this,List.getD_eq_getElem?_getD,List.getElem?_eq_getElem h1]; rfl
theorem getD_get {α : Type} {xs : List α} {k : Nat} (h : k < xs.length) (z : α) : xs[k] = xs.getD k z := by
 rw [List.getD_eq_getElem?_getD,List.getElem?_eq_getElem h]; rfl
theorem idxD {α : Type} {xs : List α} {k : Nat} (h : k < xs.length) (z : α) : idx xs (k : Int) = some (xs.getD k z) := by rw [idxk h,getD_get h z]
theorem idxD0 {α : Type} {xs : List α} (h : 0 < xs.length) (z : α) : idx xs 0 = some (xs.getD 0 z) := idxD (k := 0) h z

def gI (v : List Int) (k : Nat) : Int := v.getD k 0
def gR (m : List (List Int)) (k : Nat) : List Int := m.getD k []
theorem idxI {v : List Int} {k : Nat} (h : k < v.length) : idx v (k : Int) = some (gI v k) := idxD h 0
theorem idxI0 {v : List Int} (h : 0 < v.length) : idx v 0 = some (gI v 0) := idxD0 h 0
theorem idxR {m : List (List Int)} {k : Nat} (h : k < m.length) : idx m (k : Int) = some (gR m k) := idxD h []
theorem idxR0 {m : List (List Int)} (h : 0 < m.length) : idx m 0 = some (gR m 0) := idxD0 h []
theorem gI_get {v : List Int} {k : Nat} (h : k < v.length) : v[k] = gI v k := getD_get h 0
theorem gR_get {m : List (List Int)} {k : Nat} (h : k < m.length) : m[k] = gR m k := getD_get h []
theorem gI_vecN {n k : Nat} (f : Nat → Int) (h : k < n) : gI (vecN n f) k = f k := vecN_getD n f k 0 h
theorem gR_vecN {n k : Nat} (f : Nat → List Int) (h : k < n) : gR (vecN n f) k = f k := vecN_getD n f k [] h
theorem extI {v : List Int} {n : Nat} {f : Nat → Int} (hl : v.length = n) (h : ∀ k,k < n → gI v k = f k) : v = vecN n f := vecN_ext 0 hl h
theorem extR {m : List (List Int)} {n : Nat} {f : Nat → List Int} (hl : m.length = n) (h : ∀ k,k < n → gR m k = f k) : m = vecN n f := vecN_ext [] hl h
theorem map_loop {α : Type} (step : List α × Int → Option ((List α × Int) ⊕ List α)) (n : Nat) (f : Nat → α) (hn : n < BIG)
  (hs : ∀ k,k < n → ∀ out,out.length = k → step (out,(k : Int)) = some (.inl (out ++ [f k],((k + 1 : Nat) : Int)))) (he : ∀ out,out.length = n → step (out,(n : Int)) = some (.inr out)) :
  loop step BIG ([],0) = some (vecN n f) :=
 loop_for (fun k => (vecN k f,(k : Int))) n hn rfl (fun k hk => by rw [hs k hk _ (vecN_len k f),vecN_succ]) (he _ (vecN_len n f))

theorem all_loop {B : Type} (step : Int → Option (Int ⊕ (Unit ⊕ B))) (n : Nat) (f : Nat → Bool) (r : B) (hn : n < BIG)
  (hs : ∀ k,k < n → f k = true → step (k : Int) = some (.inl ((k + 1 : Nat) : Int))) (hb : ∀ k,k < n → f k = false → step (k : Int) = some (.inr (.inr r))) (he : step (n : Int) = some (.inr (.inl ()))) :
  loop step BIG 0 = some (if (List.range n).all f then .inl () else .inr r) := by
 obtain ⟨b,h1,h2⟩ := loop_inv (step := step) (fun s => ∃ k : Nat,k ≤ n ∧ s = (k : Int) ∧ ∀ j,j < k → f j = true) (fun s => n - s.toNat)
  (fun b => b = if (List.range n).all f then .inl () else .inr r) (s := 0) ⟨0,by omega,rfl,fun j hj => by omega⟩ (by show n - 0 < BIG; omega) (by
   rintro s ⟨k,hk,rfl,ha⟩
   by_cases hkn : k < n
   ·cases hf : f k with
    | true =>
     refine .inl ⟨_,hs k hkn hf,⟨k + 1,by omega,rfl,fun j hj => ?_⟩,by simp only [Int.toNat_natCast]; omega⟩
     rcases Nat.lt_succ_iff_lt_or_eq.1 hj with h | rfl
     ·exact ha j h
     ·exact hf
    | false =>
     refine .inr ⟨_,hb k hkn hf,?_⟩
     rw [if_neg]
     intro h
     have := List.all_eq_true.1 h k (List.mem_range.2 hkn)
     rw [hf] at this; cases this
   ·have hkk : k = n := by omega
    subst hkk
    refine .inr ⟨_,he,?_⟩
    rw [if_pos]
    exact List.all_eq_true.2 fun j hj => ha j (List.mem_range.1 hj))
 rw [h1,h2]
theorem all_range {α : Type} (xs : List α) (g : α → Bool) (z : α) : ((List.range xs.length).all fun k => g (xs.getD k z)) = xs.all g := by
 rw [Bool.eq_iff_iff,List.all_eq_true,List.all_eq_true]
 constructor
 ·intro h x hx
  obtain ⟨k,hk,rfl⟩ := List.getElem_of_mem hx
  have := h k (List.mem_range.2 hk)
  rwa [← getD_get hk z] at this
 ·intro h k hk
  rw [← getD_get (List.mem_range.1 hk) z]
  exact h _ (List.getElem_mem _)

theorem all_rangeI (xs : List Int) (g : Int → Bool) : ((List.range xs.length).all fun k => g (gI xs k)) = xs.all g := all_range xs g 0
def foldN {σ : Type} (g : Nat → σ → σ) (z : σ) : Nat → σ
 | 0 => z
 | k + 1 => g k (foldN g z k)
theorem fold_loop {σ B : Type} (step : σ × Int → Option ((σ × Int) ⊕ B)) (n : Nat) (g : Nat → σ → σ) (z : σ) (I : Nat → σ → Prop) (out : σ → B) (hn : n < BIG) (h0 : I 0 z)
  (hI : ∀ k s,k < n → I k s → I (k + 1) (g k s)) (hs : ∀ k s,k < n → I k s → step (s,(k : Int)) = some (.inl (g k s,((k + 1 : Nat) : Int)))) (he : ∀ s,I n s → step (s,(n : Int)) = some (.inr (out s))) :
  loop step BIG (z,0) = some (out (foldN g z n)) ∧ I n (foldN g z n) := by
 have hI' : ∀ k,k ≤ n → I k (foldN g z k) := by
  intro k
  induction k with
  | zero => intro _; exact h0
  | succ k ih => intro hk; exact hI k _ (by omega) (ih (by omega))
 exact ⟨loop_for (fun k => (foldN g z k,(k : Int))) n hn rfl (fun k hk => hs k _ hk (hI' k (by omega))) (he _ (hI' n (Nat.le_refl _))),hI' n (Nat.le_refl _)⟩

def sumN (f : Nat → Int) : Nat → Int
 | 0 => 0
 | k + 1 => sumN f k + f k
theorem sumN_congr {f g : Nat → Int} : ∀ {n : Nat},(∀ k,k < n → f k = g k) → sumN f n = sumN g n
 | 0,_ => rfl
 | n + 1,h => by simp only [sumN,sumN_congr (n := n) fun k hk => h k (by omega),h n (by omega)]
/-! ### Numbers -/
def isP (p : Int) : Bool := decide (p = 3) || decide (p = 5) || decide (p = 7) || decide (p = 11) || decide (p = 13)
theorem isP_cases {p : Int} (h : isP p = true) : p = 3 ∨ p = 5 ∨ p = 7 ∨ p = 11 ∨ p = 13 := by
 simp only [isP,Bool.or_eq_true,decide_eq_true_eq] at h; omega
theorem isP_le {p : Int} (h : isP p = true) : 3 ≤ p ∧ p ≤ 13 := by have := isP_cases h; omega
def isNum (p x : Int) : Bool := decide (0 ≤ x) && decide (x ≤ p - 1)
def nums (p : Int) (xs : List Int) : Bool := xs.all (isNum p)
theorem isNum_iff {p x : Int} : isNum p x = true ↔ 0 ≤ x ∧ x < p := by simp [isNum]; omega
theorem nums_iff {p : Int} {xs : List Int} : nums p xs = true ↔ ∀ x ∈ xs,0 ≤ x ∧ x < p := by simp only [nums,List.all_eq_true,isNum_iff]

theorem s_l01Prime_eq (p : Int) : s_l01Prime p = some (isP p) := by
 unfold s_l01Prime isP
 by_cases h1 : p = 3
 ·simp [h1]
 by_cases h2 : p = 5
 ·simp [h2]
 by_cases h3 : p = 7
 ·simp [h3]
 by_cases h4 : p = 11
 ·simp [h4]
 simp [h1,h2,h3,h4,ieq]
theorem i_IsPrime_eq (p : Int) : i_IsPrime p = some (isP p) := by
 unfold i_IsPrime isP
 by_cases h1 : p = 3
 ·simp [h1,ieq]
 by_cases h2 : p = 5
 ·simp [h2,ieq]
 by_cases h3 : p = 7
 ·simp [h3,ieq]
 by_cases h4 : p = 11
 ·simp [h4,ieq]
 by_cases h5 : p = 13
 ·simp [h5,ieq]
 simp [h1,h2,h3,h4,h5,ieq]
theorem s_l01In_eq (n lo hi : Int) : s_l01In n lo hi = some (decide (lo ≤ n) && decide (n ≤ hi)) := by
 unfold s_l01In
 by_cases h : lo ≤ n <;> simp [h,ile]
theorem i_inRange_eq (n lo hi : Int) : i_inRange n lo hi = some (decide (lo ≤ n) && decide (n ≤ hi)) := by
 unfold i_inRange
 by_cases h : lo ≤ n <;> simp [h,ile]
theorem i_field_is_eq {p : Int} {xs : List Int} (hp : 0 ≤ p) (hp2 : p ≤ 1048576) (hl : xs.length ≤ 1048576) : i_field_is p xs = some (nums p xs) := by
 unfold i_field_is
 rw [all_loop _ xs.length (fun k => isNum p (gI xs k)) false (by rw [BIG_val]; omega)]
 ·rw [all_rangeI xs (isNum p)]
  unfold nums
  cases xs.all (isNum p) <;> rfl
 ·intro k hk hf
  unfold i_field_is_L0
  simp only [show (k : Int) < xs.length by omega,if_true,idxI hk,some_bind,i_inRange_eq]
  rw [w_in (by omega) (by omega),w_in (by omega) (by omega)]
  unfold isNum at hf
  simp [hf]
 ·intro k hk hf
  unfold i_field_is_L0
  simp only [show (k : Int) < xs.length by omega,if_true,idxI hk,some_bind,i_inRange_eq]
  rw [w_in (by omega) (by omega)]
  unfold isNum at hf
  simp [hf]
 ·unfold i_field_is_L0
  simp

/-! ### Tables -/
def wid (m : List (List Int)) : Nat := (gR m 0).length
def okRow (p : Int) (n : Nat) (r : List Int) : Bool := decide (r.length = n) && nums p r
def isMat (p : Int) (m : List (List Int)) : Bool :=
 isP p && decide (1 ≤ m.length) && decide (m.length ≤ 16) && decide (1 ≤ wid m) && decide (wid m ≤ 16) && m.all (okRow p (wid m))

def Vec (p : Int) (n : Nat) (v : List Int) : Prop := v.length = n ∧ ∀ k,k < n → 0 ≤ gI v k ∧ gI v k < p
def Mat (p : Int) (r c : Nat) (m : List (List Int)) : Prop := m.length = r ∧ ∀ i,i < r → Vec p c (gR m i)
theorem Vec.of {p : Int} {v : List Int} (h : nums p v = true) : Vec p v.length v := by
 refine ⟨rfl,fun k hk => ?_⟩
 rw [← gI_get hk]
 exact nums_iff.1 h _ (List.getElem_mem _)
theorem Vec.nums {p : Int} {n : Nat} {v : List Int} (h : Vec p n v) : nums p v = true := by
 rw [nums_iff]
 intro x hx
 obtain ⟨k,hk,rfl⟩ := List.getElem_of_mem hx
 rw [gI_get hk]
 exact h.2 k (h.1 ▸ hk)

abbrev szM (m : List (List Int)) : Prop := m.length ≤ 1048576 ∧ ∀ r ∈ m,r.length ≤ 1048576
theorem szM.row {m : List (List Int)} (h : szM m) {k : Nat} (hk : k < m.length) : (gR m k).length ≤ 1048576 := by
 rw [← gR_get hk]; exact h.2 _ (List.getElem_mem _)

end Go.Vam

/- Plain laws: arithmetic of rows and tables: products, sums, multiples. -/
namespace Go.Vam
open Go Go.RowKit
set_option linter.unusedSimpArgs false
set_option linter.unusedVariables false

theorem mul_abs {a b : Int} {A B : Nat} (ha : a.natAbs ≤ A) (hb : b.natAbs ≤ B) : (a * b).natAbs ≤ A * B := by
 rw [Int.natAbs_mul]; exact Nat.mul_le_mul ha hb
theorem tmod_nn {a b : Int} (h : 0 ≤ a) : a.tmod b = a % b := Int.tmod_eq_emod_of_nonneg h
theorem mod_num {a p : Int} (h : 0 < p) : 0 ≤ a % p ∧ a % p < p := ⟨Int.emod_nonneg _ (by omega),Int.emod_lt_of_pos _ h⟩
theorem tmod_bounds (n : Int) {p : Int} (h : 0 < p) : -p < n.tmod p ∧ n.tmod p < p := by
 by_cases hn : 0 ≤ n
 ·rw [tmod_nn hn]; have := mod_num (a := n) h; omega
 ·have e : n.tmod p = -((-n).tmod p) := by rw [Int.neg_tmod,Int.neg_neg]
  rw [e,tmod_nn (by omega)]
  have := mod_num (a := -n) h; omega
theorem num_mod (n : Int) {p : Int} (h : 0 < p) : (n.tmod p + p).tmod p = n % p := by
 have hb := tmod_bounds n h
 rw [tmod_nn (by omega),Int.add_emod_right]
 by_cases hn : 0 ≤ n
 ·rw [tmod_nn hn,Int.emod_emod_of_dvd _ (Int.dvd_refl p)]
 ·have e : n.tmod p = n - p * (n.tdiv p) := by have := Int.mul_tdiv_add_tmod n p; omega
  rw [e,Int.sub_mul_emod_self_left]
theorem mod_small {a p : Int} (h0 : 0 ≤ a) (h1 : a < p) : a % p = a := Int.emod_eq_of_lt h0 h1

theorem i_field_num_eq {p n : Int} (hp : 0 < p) (hp2 : p ≤ 1048576) (h1 : -9223372036854775808 ≤ n) (h2 : n ≤ 9223372036854775807) : i_field_num p n = some (n % p) := by
 unfold i_field_num
 have hb := tmod_bounds n hp
 rw [chk_bind (by omega),chk_bind (by omega),w_in (by omega) (by omega),num_mod n hp]

def plusv (p : Int) (n : Nat) (a b : List Int) (k : Int) : List Int := vecN n fun i => (gI a i + k * gI b i) % p
def scalev (p : Int) (n : Nat) (a : List Int) (k : Int) : List Int := vecN n fun i => (gI a i * k) % p

theorem Vec.get {p : Int} {n : Nat} {v : List Int} (h : Vec p n v) {k : Nat} (hk : k < n) : 0 ≤ gI v k ∧ gI v k < p := h.2 k hk
theorem Vec.mk' {p : Int} {n : Nat} {f : Nat → Int} (h : ∀ k,k < n → 0 ≤ f k ∧ f k < p) : Vec p n (vecN n f) := ⟨vecN_len n f,fun k hk => by rw [gI_vecN f hk]; exact h k hk⟩
theorem Mat.row {p : Int} {r c : Nat} {m : List (List Int)} (h : Mat p r c m) {i : Nat} (hi : i < r) : Vec p c (gR m i) := h.2 i hi
theorem Mat.mk' {p : Int} {r c : Nat} {f : Nat → List Int} (h : ∀ i,i < r → Vec p c (f i)) : Mat p r c (vecN r f) := ⟨vecN_len r f,fun i hi => by rw [gR_vecN f hi]; exact h i hi⟩
theorem plusv_vec {p : Int} (hp : 0 < p) (n : Nat) (a b : List Int) (k : Int) : Vec p n (plusv p n a b k) := Vec.mk' fun i _ => mod_num hp
theorem scalev_vec {p : Int} (hp : 0 < p) (n : Nat) (a : List Int) (k : Int) : Vec p n (scalev p n a k) := Vec.mk' fun i _ => mod_num hp
section
variable {p : Int} {n : Nat} {a b : List Int} (hp : 0 < p) (hp2 : p ≤ 13) (hn : n ≤ 1048576)

include hp hp2 hn
theorem i_field_plus_eq {k : Int} (hk : k.natAbs ≤ 1000) (ha : Vec p n a) (hb : Vec p n b) : i_field_plus p a b k = some (plusv p n a b k) := by
 unfold i_field_plus
 rw [map_loop _ n (fun i => (gI a i + k * gI b i) % p) (by rw [BIG_val]; omega)]
 ·rfl
 ·intro i hi out ho
  unfold i_field_plus_L0
  have e1 := ha.1; have e2 := hb.1
  have h1 := ha.get hi; have h2 := hb.get hi
  have h3 := mul_abs (a := k) (b := gI b i) (A := 1000) (B := 12) hk (by omega)
  simp only [show (i : Int) < a.length by omega,if_true,idxI (show i < a.length by omega),idxI (show i < b.length by omega),some_bind]
  rw [w_in (x := k * gI b i) (by omega) (by omega),w_in (x := gI a i + k * gI b i) (by omega) (by omega),i_field_num_eq hp (by omega) (by omega) (by omega),some_bind,
   chk_bind (by simp only [List.length_cons,List.length_nil]; omega),w_in (by omega) (by omega)]
  rfl
 ·intro out ho
  unfold i_field_plus_L0
  have e1 := ha.1
  simp [e1]
theorem i_field_scaled_eq {k : Int} (hk : k.natAbs ≤ 1000) (ha : Vec p n a) : i_field_scaled p a k = some (scalev p n a k) := by
 unfold i_field_scaled
 rw [map_loop _ n (fun i => (gI a i * k) % p) (by rw [BIG_val]; omega)]
 ·rfl
 ·intro i hi out ho
  unfold i_field_scaled_L0
  have e1 := ha.1
  have h1 := ha.get hi
  have h3 := mul_abs (a := gI a i) (b := k) (A := 12) (B := 1000) (by omega) hk
  simp only [show (i : Int) < a.length by omega,if_true,idxI (show i < a.length by omega),some_bind]
  rw [w_in (x := gI a i * k) (by omega) (by omega),i_field_num_eq hp (by omega) (by omega) (by omega),some_bind,
   chk_bind (by simp only [List.length_cons,List.length_nil]; omega),w_in (by omega) (by omega)]
  rfl
 ·intro out ho
  unfold i_field_scaled_L0
  have e1 := ha.1
  simp [e1]
end

section
variable {p : Int} {r c : Nat} {m : List (List Int)} {v : List Int} (hp : 0 < p) (hp2 : p ≤ 13) (hr : r ≤ 1048576) (hc : c ≤ 1048576)
include hp hp2 hr hc
end

/-! ### The codes ahead -/
theorem any_loop {B : Type} (step : Int → Option (Int ⊕ (Unit ⊕ B))) (n : Nat) (f : Nat → Bool) (r : Nat → B) (hn : n < BIG)
  (hs : ∀ k,k < n → f k = false → step (k : Int) = some (.inl ((k + 1 : Nat) : Int))) (hb : ∀ k,k < n → f k = true → step (k : Int) = some (.inr (.inr (r k)))) (he : step (n : Int) = some (.inr (.inl ()))) :
  ∃ b,loop step BIG 0 = some b ∧ ((b = .inl () ∧ (List.range n).any f = false) ∨ (∃ k,k < n ∧ b = .inr (r k) ∧ f k = true ∧ (List.range n).any f = true ∧ ∀ j,j < k → f j = false)) := by
 refine loop_inv (step := step) (fun s => ∃ k : Nat,k ≤ n ∧ s = (k : Int) ∧ ∀ j,j < k → f j = false) (fun s => n - s.toNat) _ (s := 0) ⟨0,by omega,rfl,fun j hj => by omega⟩ (by show n - 0 < BIG; omega) ?_
 rintro s ⟨k,hk,rfl,ha⟩
 by_cases hkn : k < n
 ·cases hf : f k with
  | false =>
   refine .inl ⟨_,hs k hkn hf,⟨k + 1,by omega,rfl,fun j hj => ?_⟩,by simp only [Int.toNat_natCast]; omega⟩
   rcases Nat.lt_succ_iff_lt_or_eq.1 hj with h | rfl
   ·exact ha j h
   ·exact hf
  | true => exact .inr ⟨_,hb k hkn hf,.inr ⟨k,hkn,rfl,hf,List.any_eq_true.2 ⟨k,List.mem_range.2 hkn,hf⟩,ha⟩⟩
 ·have hkk : k = n := by omega
  subst hkk
  refine .inr ⟨_,he,.inl ⟨rfl,?_⟩⟩
  rw [List.any_eq_false]
  intro j hj
  rw [ha j (List.mem_range.1 hj)]
  simp
theorem any_range {α : Type} (xs : List α) (g : α → Bool) (z : α) : ((List.range xs.length).any fun k => g (xs.getD k z)) = xs.any g := by
 rw [Bool.eq_iff_iff,List.any_eq_true,List.any_eq_true]
 constructor
 ·rintro ⟨k,hk,h⟩
  exact ⟨_,List.getElem_mem (List.mem_range.1 hk),by rwa [getD_get (List.mem_range.1 hk) z]⟩
 ·rintro ⟨x,hx,h⟩
  obtain ⟨k,hk,rfl⟩ := List.getElem_of_mem hx
  exact ⟨k,List.mem_range.2 hk,by rwa [← getD_get hk z]⟩
theorem not_all {α : Type} (l : List α) (f : α → Bool) : (!l.all f) = l.any fun x => !f x := by
 induction l with
 | nil => rfl
 | cons x l ih => simp only [List.all_cons,List.any_cons,Bool.not_and,ih]

end Go.Vam

/- Plain laws: the laws of applying, adding, scaling tables. -/
namespace Go.Vam
open Go Go.RowKit
set_option linter.unusedSimpArgs false
set_option linter.unusedVariables false

section
variable {p : Int} {r c : Nat} {a b : List (List Int)} (hp : 0 < p) (hp2 : p ≤ 13) (hr : r ≤ 1048576) (hc : c ≤ 1048576) (ha : Mat p r c a) (hb : Mat p r c b)
include hp hp2 hr hc ha hb
end
end Go.Vam

/- Plain laws: copies, turned tables, products of tables, powers, inverses of numbers. -/
namespace Go.Vam
open Go Go.RowKit
set_option linter.unusedSimpArgs false
set_option linter.unusedVariables false

theorem Mat.sz {p : Int} {r c : Nat} {m : List (List Int)} (h : Mat p r c m) (hr : r ≤ 1048576) (hc : c ≤ 1048576) : szM m := by
 refine ⟨by have := h.1; omega,fun x hx => ?_⟩
 obtain ⟨k,hk,rfl⟩ := List.getElem_of_mem hx
 have h1 := h.1
 rw [gR_get hk,(h.row (i := k) (by omega)).1]
 exact hc

/-! ### Turned tables -/
def turnm (r c : Nat) (m : List (List Int)) : List (List Int) := vecN c fun k => vecN r fun i => gI (gR m i) k
theorem turnm_at {r c : Nat} {m : List (List Int)} {i k : Nat} (hi : i < r) (hk : k < c) : gI (gR (turnm r c m) k) i = gI (gR m i) k := by
 unfold turnm; rw [gR_vecN _ hk,gI_vecN _ hi]
section
variable {p : Int} {r c : Nat} {m : List (List Int)} (hr0 : 0 < r) (hr : r ≤ 1048576) (hc : c ≤ 1048576) (hm : Mat p r c m)
include hr0 hr hc hm
theorem i_transpose_eq : i_transpose m = some (turnm r c m) := by
 unfold i_transpose
 have e1 := hm.1
 have e2 := (hm.row (i := 0) hr0).1
 rw [idxR0 (by omega),some_bind,map_loop _ c (fun k => vecN r fun i => gI (gR m i) k) (by rw [BIG_val]; omega)]
 ·rfl
 ·intro k hk out ho
  unfold i_transpose_L0
  simp only [show (k : Int) < (gR m 0).length by omega,if_true]
  rw [map_loop _ r (fun i => gI (gR m i) k) (by rw [BIG_val]; omega)]
  ·rw [some_bind,chk_bind (by simp only [List.length_cons,List.length_nil]; omega),w_in (by omega) (by omega)]; rfl
  ·intro i hi o2 ho2
   unfold i_transpose_L1
   have e3 := (hm.row hi).1
   simp only [show (i : Int) < m.length by omega,if_true,idxR (show i < m.length by omega),idxI (show k < (gR m i).length by omega),some_bind]
   rw [chk_bind (by simp only [List.length_cons,List.length_nil]; omega),w_in (by omega) (by omega)]; rfl
  ·intro o2 ho2
   unfold i_transpose_L1
   simp [e1]
 ·intro out ho
  unfold i_transpose_L0
  simp [e2]
end

section
variable {p : Int} {r n c : Nat} {a b : List (List Int)} (hp : 0 < p) (hp2 : p ≤ 13) (hr : r ≤ 1048576) (hn0 : 0 < n) (hn : n ≤ 1048576) (hc : c ≤ 1048576) (ha : Mat p r n a) (hb : Mat p n c b)
include hp hp2 hr hn0 hn hc ha hb
end

end Go.Vam

/- Plain laws: two loops side by side, square tables, powers of tables. -/
namespace Go.Vam
open Go Go.RowKit
set_option linter.unusedSimpArgs false
set_option linter.unusedVariables false

/-! ### The unit -/
def unitm (n : Nat) : List (List Int) := vecN n fun i => (List.replicate n (0 : Int)).set i 1
theorem unitm_mat {p : Int} (hp : 1 < p) (n : Nat) : Mat p n n (unitm n) := Mat.mk' fun i hi => by
 refine ⟨by simp,fun k hk => ?_⟩
 rw [← gI_get (by simpa using hk),List.getElem_set]
 split
 ·omega
 ·simp; omega
theorem i_unit_eq {n : Nat} (hn : n ≤ 1048576) : i_unit (n : Int) = some (unitm n) := by
 unfold i_unit
 rw [map_loop _ n (fun i => (List.replicate n (0 : Int)).set i 1) (by rw [BIG_val]; omega)]
 ·rfl
 ·intro i hi out ho
  unfold i_unit_L0
  simp only [show (i : Int) < n by omega,if_true]
  rw [chk_bind (by omega),some_bind,Int.toNat_natCast,idxI (by simpa using hi),some_bind,chk_bind (by simp only [List.length_cons,List.length_nil]; omega),w_in (by omega) (by omega)]
  rfl
 ·intro out ho
  unfold i_unit_L0
  simp

end Go.Vam

/- Plain laws: inverses of numbers, elimination: bases and determinants. -/
namespace Go.Vam
open Go Go.RowKit
set_option linter.unusedSimpArgs false
set_option linter.unusedVariables false

def invp (p a : Int) : Int := ((a.toNat ^ (p.toNat - 2) % p.toNat : Nat) : Int)
/-! ### Rows put into a table -/
theorem gR_set {m : List (List Int)} {i j : Nat} {v : List Int} (hi : i < m.length) : gR (m.set i v) j = if i = j then v else gR m j := by
 unfold gR
 simp only [List.getD_eq_getElem?_getD,List.getElem?_set]
 by_cases h : i = j
 ·subst h; simp [hi]
 ·simp [h]
theorem Mat.set {p : Int} {r c : Nat} {m : List (List Int)} {i : Nat} {v : List Int} (hm : Mat p r c m) (hi : i < r) (hv : Vec p c v) : Mat p r c (m.set i v) := by
 refine ⟨by rw [List.length_set,hm.1],fun j hj => ?_⟩
 rw [gR_set (by rw [hm.1]; exact hi)]
 split
 ·exact hv
 ·exact hm.2 j hj
def clr (p : Int) (c k : Nat) (R v : List Int) : List Int := plusv p c v R ((p - gI v k) % p)
theorem ilt_true {a b : Int} (h : a < b) : ilt a b = true := by simp [ilt,h]
theorem ilt_false {a b : Int} (h : ¬ a < b) : ilt a b = false := by simp [ilt]; omega
section
variable {p : Int} {r c : Nat} (hP : isP p = true) (hr0 : 0 < r) (hr : r ≤ 1048576) (hc : c ≤ 1048576)
include hP hr0 hr hc
end

end Go.Vam

/- Plain laws: determinants. -/
namespace Go.Vam
open Go Go.RowKit
set_option linter.unusedSimpArgs false
set_option linter.unusedVariables false
set_option linter.unusedSectionVars false

section
variable {p : Int} {r : Nat} (hP : isP p = true) (hr : r ≤ 1048576)
include hP hr
end

end Go.Vam

/- Plain laws: spaces: frames, skew tables, isometries. -/
namespace Go.Vam
open Go Go.RowKit
set_option linter.unusedSimpArgs false
set_option linter.unusedVariables false
set_option linter.unusedSectionVars false

def hasZ (w : List Int) : Bool := w.any fun x => decide ((0 : Int) = x)
theorem contains_eq {xs : List Int} {a : Int} (h : xs.length ≤ 1048576) : g_slices_Contains_LI_I xs a = some (xs.any fun x => decide (a = x)) := by
 unfold g_slices_Contains_LI_I g_slices_Index_LI_I
 obtain ⟨b,h1,h2⟩ := any_loop (g_slices_Index_LI_I_L0 xs a) xs.length (fun k => decide (a = gI xs k)) (fun k => (k : Int)) (by rw [BIG_val]; omega)
  (fun k hk hf => by
   unfold g_slices_Index_LI_I_L0
   have : ¬ a = gI xs k := by simpa using hf
   simp only [show (k : Int) < (xs.length : Int) by omega,if_true,idxI hk,some_bind,this,if_false]
   rw [w_in (by omega) (by omega)]; rfl) (fun k hk hf => by
   unfold g_slices_Index_LI_I_L0
   have : a = gI xs k := by simpa using hf
   simp only [show (k : Int) < (xs.length : Int) by omega,if_true,idxI hk,some_bind,← this]) (by
   unfold g_slices_Index_LI_I_L0
   simp)
 have e : (xs.any fun x => decide (a = x)) = (List.range xs.length).any fun k => decide (a = gI xs k) := (any_range xs (fun x => decide (a = x)) 0).symm
 rw [e,h1]
 rcases h2 with ⟨rfl,h3⟩ | ⟨k,hk,rfl,hf,h3,_⟩
 ·rw [h3]; simp [ile]
 ·rw [h3]; simp [ile]
/-! ### Frames -/
def fr (p : Int) (w : List Int) (m : List (List Int)) : Bool := isMat p m && (decide (m.length = w.length) && decide (wid m = w.length))
section
variable {p : Int} {w : List Int} {m : List (List Int)} (hP : isP p = true) (hn : w.length ≤ 1048576) (hw : Vec p w.length w) (hm : Mat p w.length w.length m)
include hP hn hw hm
end
end Go.Vam

/- Plain laws: the bivector of a skew table. -/
namespace Go.Vam
open Go Go.RowKit
set_option linter.unusedSimpArgs false
set_option linter.unusedVariables false
set_option linter.unusedSectionVars false

theorem shl_k : ∀ k : Nat,k < 8 → shl .i64 1 (k : Int) = ((2 ^ k : Nat) : Int) := by decide
theorem wrap_k : ∀ k : Nat,k < 8 → IntKind.u64.wrap (k : Int) = (k : Int) := by decide
section
variable {p : Int} {w : List Int} {m : List (List Int)} (hP : isP p = true) (hn : w.length ≤ 6) (hw : Vec p w.length w) (hz : hasZ w = false) (hm : Mat p w.length w.length m)
include hP hn hw hz hm
end
end Go.Vam

/- Plain laws: doublings: their elements, tables and products. -/
namespace Go.Vam
open Go Go.RowKit
set_option linter.unusedSimpArgs false
set_option linter.unusedVariables false
set_option linter.unusedSectionVars false

theorem s_l01Mod_eq {p n : Int} (hp : 0 < p) (hp2 : p ≤ 1048576) (h1 : -9223372036854775808 ≤ n) (h2 : n ≤ 9223372036854775807) : s_l01Mod p n = some (n % p) := by
 unfold s_l01Mod
 have hb := tmod_bounds n hp
 rw [chk_bind (by omega),chk_bind (by omega),w_in (by omega) (by omega),num_mod n hp]

/-! ### Doublings -/
def isDb (p : Int) (w : List Int) : Bool := isP p && (decide (w.length ≤ 4) && (nums p w && !hasZ w))
theorem isDb_iff {p : Int} {w : List Int} (h : isDb p w = true) : isP p = true ∧ w.length ≤ 4 ∧ Vec p w.length w ∧ hasZ w = false := by
 simp only [isDb,Bool.and_eq_true,decide_eq_true_eq,Bool.not_eq_true'] at h
 exact ⟨h.1,h.2.1,Vec.of h.2.2.1,h.2.2.2⟩
theorem hasZ_iff (w : List Int) : hasZ w = true ↔ (0 : Int) ∈ w := by
 unfold hasZ
 rw [List.any_eq_true]
 constructor
 ·rintro ⟨x,hx,h⟩
  have : (0 : Int) = x := of_decide_eq_true h
  rw [this]; exact hx
 ·intro h; exact ⟨0,h,rfl⟩
theorem s_l11Is_eq {p : Int} {w : List Int} (hw : w.length ≤ 1048576) : s_l11Is p w = some (isDb p w) := by
 unfold s_l11Is isDb
 rw [s_l01Prime_eq,some_bind]
 cases hP : isP p with
 | false => simp
 | true =>
  have hp := isP_le hP
  simp only [Bool.true_eq_false,if_false,some_bind,Bool.true_and]
  by_cases hl : w.length ≤ 4
  ·rw [ilt_false (by omega),if_neg (by simp),all_loop _ w.length (fun k => decide (1 ≤ gI w k) && decide (gI w k ≤ p - 1)) false (by rw [BIG_val]; omega)]
   ·rw [some_bind]
    have e : ((List.range w.length).all fun k => decide (1 ≤ gI w k) && decide (gI w k ≤ p - 1)) = (nums p w && !hasZ w) := by
     rw [all_rangeI w (fun x => decide (1 ≤ x) && decide (x ≤ p - 1)),Bool.eq_iff_iff]
     simp only [List.all_eq_true,Bool.and_eq_true,decide_eq_true_eq,nums_iff,Bool.not_eq_true']
     constructor
     ·intro h
      refine ⟨fun x hx => ⟨by have := h x hx; omega,by have := h x hx; omega⟩,?_⟩
      rw [Bool.eq_false_iff]
      intro hz
      have := h 0 ((hasZ_iff w).1 hz)
      omega
     ·rintro ⟨h1,h2⟩ x hx
      have hx0 : x ≠ 0 := fun e => by
       rw [Bool.eq_false_iff] at h2
       exact h2 ((hasZ_iff w).2 (e ▸ hx))
      have := h1 x hx
      omega
    rw [e]
    simp only [hl,decide_true,Bool.true_and]
    cases (nums p w && !hasZ w) <;> rfl
   ·intro k hk hf
    unfold s_l11Is_L0
    simp only [show (k : Int) < w.length by omega,if_true,idxI hk,some_bind,s_l01In_eq]
    rw [w_in (by omega) (by omega),w_in (by omega) (by omega),hf]; rfl
   ·intro k hk hf
    unfold s_l11Is_L0
    simp only [show (k : Int) < w.length by omega,if_true,idxI hk,some_bind,s_l01In_eq]
    rw [w_in (by omega) (by omega),hf]; rfl
   ·unfold s_l11Is_L0
    simp
  ·rw [ilt_true (by omega),if_pos rfl]
   simp [hl]
theorem i_IsDoubling_eq {p : Int} {w : List Int} (hw : w.length ≤ 1048576) : i_IsDoubling p w = some (isDb p w) := by
 unfold i_IsDoubling isDb i_Doubling_field
 rw [i_IsPrime_eq,some_bind]
 cases hP : isP p with
 | false => simp
 | true =>
  have hp := isP_le hP
  simp only [if_true,Bool.true_and]
  by_cases hl : w.length ≤ 4
  ·simp only [show ((w.length : Int) ≤ 4) = True from eq_true (by omega),if_true,some_bind,i_field_is_eq (show 0 ≤ p by omega) (show p ≤ 1048576 by omega) hw,contains_eq hw,hl,decide_true,Bool.true_and]
   unfold hasZ
   cases nums p w <;> simp
  ·simp only [show ((w.length : Int) ≤ 4) = False from eq_false (by omega),if_false,some_bind,hl,decide_false,Bool.false_and]
theorem s_l11Size_eq {p : Int} {w : List Int} (h : w.length ≤ 4) : s_l11Size p w = some ((2 ^ w.length : Nat) : Int) := by
 unfold s_l11Size
 rw [wrap_k _ (by omega),chk_bind (by omega),shl_k _ (by omega)]
theorem i_Doubling_size_eq {p : Int} {w : List Int} (h : w.length ≤ 4) : i_Doubling_size p w = some ((2 ^ w.length : Nat) : Int) := by
 unfold i_Doubling_size
 rw [chk_bind (by omega),shl_k _ (by omega)]
theorem ieq_nat (a b : Nat) : ieq (a : Int) (b : Int) = decide (a = b) := by
 simp only [ieq]
 exact decide_eq_decide.2 ⟨Int.ofNat.inj,congrArg _⟩
theorem two_pos (n : Nat) : 0 < 2 ^ n := Nat.pow_pos (by decide)

section
variable {p : Int} {w : List Int} (hP : isP p = true) (hl : w.length ≤ 4)
include hP hl
end

theorem contains_loop {α : Type} (c : List α) (z : α) (f : α → Bool) (hc : c.length ≤ 1048576) (step : Int → Option (Int ⊕ (Unit ⊕ Int)))
  (hs : ∀ k (hk : k < c.length),step (k : Int) = if f (c.getD k z) = true then some (.inr (.inr (k : Int))) else some (.inl ((k + 1 : Nat) : Int))) (he : step (c.length : Int) = some (.inr (.inl ()))) :
  ((loop step BIG 0).bind fun x2 => (match x2 with | .inl _ => some (-1) | .inr t => some t : Option Int)).bind (fun v1 => some (ile 0 v1)) = some (c.any f) := by
 obtain ⟨b,h1,h2⟩ := any_loop step c.length (fun k => f (c.getD k z)) (fun k => (k : Int)) (by rw [BIG_val]; omega)
  (fun k hk hf => by rw [hs k hk,if_neg (by rw [hf]; simp)]) (fun k hk hf => by rw [hs k hk,if_pos hf]) he
 have e : c.any f = (List.range c.length).any fun k => f (c.getD k z) := (any_range c f z).symm
 rw [e,h1]
 rcases h2 with ⟨rfl,h3⟩ | ⟨k,hk,rfl,hf,h3,_⟩
 ·rw [h3]; simp [ile]
 ·rw [h3]; simp [ile]
section
variable {p : Int} {w : List Int} (hw : w.length ≤ 1048576)
include hw
end

/-! ### A table's image -/
section
variable {p : Int} {n : Nat} {m : List (List Int)} {v : List Int} (hp : 0 < p) (hp2 : p ≤ 13) (hn : n ≤ 1048576) (hm : Mat p n n m) (hv : Vec p n v)
include hp hp2 hn hm hv
end
theorem two_le {n : Nat} (h : n ≤ 4) : 2 ^ n ≤ 16 := by
 have : ∀ n,n ≤ 4 → 2 ^ n ≤ 16 := by decide
 exact this _ h
end Go.Vam

/- Plain laws: the product of a doubling. -/
namespace Go.Vam
open Go Go.RowKit
set_option linter.unusedSimpArgs false
set_option linter.unusedVariables false
set_option linter.unusedSectionVars false

theorem gI_take {x : List Int} {h k : Nat} (hk : k < h) : gI (x.take h) k = gI x k := by
 unfold gI; rw [List.getD_eq_getElem?_getD,List.getD_eq_getElem?_getD,List.getElem?_take_of_lt hk]
theorem gI_drop {x : List Int} {h k : Nat} : gI (x.drop h) k = gI x (h + k) := by
 unfold gI; rw [List.getD_eq_getElem?_getD,List.getD_eq_getElem?_getD,List.getElem?_drop]
theorem gI_append {x y : List Int} {k : Nat} : gI (x ++ y) k = if k < x.length then gI x k else gI y (k - x.length) := by
 unfold gI; rw [List.getD_eq_getElem?_getD,List.getElem?_append]
 split <;> rw [List.getD_eq_getElem?_getD]
theorem gI_set {x : List Int} {i j : Nat} {a : Int} (hi : i < x.length) : gI (x.set i a) j = if i = j then a else gI x j := by
 unfold gI
 simp only [List.getD_eq_getElem?_getD,List.getElem?_set]
 by_cases h : i = j
 ·subst h; simp [hi]
 ·simp [h]
theorem Vec.take {p : Int} {a b : Nat} {x : List Int} (h : Vec p (a + b) x) : Vec p a (x.take a) :=
 ⟨by rw [List.length_take,h.1]; omega,fun k hk => by rw [gI_take hk]; exact h.2 k (by omega)⟩
theorem Vec.drop {p : Int} {a b : Nat} {x : List Int} (h : Vec p (a + b) x) : Vec p b (x.drop a) :=
 ⟨by rw [List.length_drop,h.1]; omega,fun k hk => by rw [gI_drop]; exact h.2 _ (by omega)⟩
theorem Vec.append {p : Int} {a b : Nat} {x y : List Int} (hx : Vec p a x) (hy : Vec p b y) : Vec p (a + b) (x ++ y) :=
 ⟨by rw [List.length_append,hx.1,hy.1],fun k hk => by
  rw [gI_append,hx.1]
  split
  ·exact hx.2 k (by assumption)
  ·exact hy.2 _ (by omega)⟩
theorem Vec.set {p : Int} {n i : Nat} {x : List Int} {a : Int} (hx : Vec p n x) (hi : i < n) (ha : 0 ≤ a ∧ a < p) : Vec p n (x.set i a) :=
 ⟨by rw [List.length_set,hx.1],fun k hk => by
  rw [gI_set (by rw [hx.1]; exact hi)]
  split
  ·exact ha
  ·exact hx.2 k hk⟩
theorem scalev_congr {p : Int} {n : Nat} {a : List Int} {k l : Int} (h : k % p = l % p) : scalev p n a k = scalev p n a l := by
 unfold scalev
 refine vecN_congr fun i _ => ?_
 rw [Int.mul_emod,h,← Int.mul_emod]
def starv (p : Int) (n : Nat) (a : List Int) : List Int := (scalev p n a (-1)).set 0 (gI a 0)
section
variable {p : Int} {n : Nat} {a b : List Int} (hp : 3 ≤ p) (hp2 : p ≤ 13) (hn : n ≤ 1048576) (hn0 : 0 < n) (ha : Vec p n a) (hb : Vec p n b)
include hp hp2 hn
theorem s_l11Scale_eq {k : Int} (hk : 0 ≤ k) (hk2 : k ≤ 1000) (ha : Vec p n a) : s_l11Scale p k a = some (scalev p n a k) := by
 unfold s_l11Scale
 rw [map_loop _ n (fun i => (gI a i * k) % p) (by rw [BIG_val]; omega)]
 ·rfl
 ·intro i hi out ho
  unfold s_l11Scale_L0
  have e1 := ha.1
  have h1 := ha.get hi
  have h3 := mul_abs (a := gI a i) (b := k) (A := 12) (B := 1000) (by omega) (by omega)
  have h4 := Int.mul_nonneg h1.1 hk
  simp only [show (i : Int) < a.length by omega,if_true,idxI (show i < a.length by omega),some_bind]
  rw [Int.mul_comm k,w_in (x := gI a i * k) (by omega) (by omega),s_l01Mod_eq (by omega) (by omega) (by omega) (by omega),some_bind,chk_bind (by simp only [List.length_cons,List.length_nil]; omega),w_in (by omega) (by omega)]
  rfl
 ·intro out ho
  unfold s_l11Scale_L0
  have e1 := ha.1
  simp [e1]
theorem s_l11Add_eq (ha : Vec p n a) (hb : Vec p n b) : s_l11Add p a b = some (plusv p n a b 1) := by
 unfold s_l11Add
 rw [map_loop _ n (fun i => (gI a i + 1 * gI b i) % p) (by rw [BIG_val]; omega)]
 ·rfl
 ·intro i hi out ho
  unfold s_l11Add_L0
  have e1 := ha.1; have e2 := hb.1
  have h1 := ha.get hi; have h2 := hb.get hi
  simp only [show (i : Int) < a.length by omega,if_true,idxI (show i < a.length by omega),idxI (show i < b.length by omega),some_bind]
  rw [w_in (x := gI a i + gI b i) (by omega) (by omega),s_l01Mod_eq (by omega) (by omega) (by omega) (by omega),some_bind,chk_bind (by simp only [List.length_cons,List.length_nil]; omega),w_in (by omega) (by omega),Int.one_mul]
  rfl
 ·intro out ho
  unfold s_l11Add_L0
  have e1 := ha.1
  simp [e1]
include hn0
theorem starv_vec (ha : Vec p n a) : Vec p n (starv p n a) := (scalev_vec (by omega) ..).set hn0 (ha.get hn0)
theorem i_field_conjugate_eq (ha : Vec p n a) : i_field_conjugate p a = some (starv p n a) := by
 unfold i_field_conjugate starv
 have e1 := ha.1
 have e2 := (scalev_vec (p := p) (by omega) n a (-1)).1
 rw [i_field_scaled_eq (by omega) (by omega) hn (by omega) ha,some_bind,idxI0 (by omega),some_bind,idxI0 (by omega),some_bind]
theorem s_l11Star_eq (ha : Vec p n a) : s_l11Star p a = some (starv p n a) := by
 unfold s_l11Star starv
 have e1 := ha.1
 have e2 := (scalev_vec (p := p) (by omega) n a (-1)).1
 have e3 : scalev p n a (p - 1) = scalev p n a (-1) := scalev_congr (by
  have : p - 1 = -1 + p := by omega
  rw [this,Int.add_emod_right])
 rw [w_in (by omega) (by omega),s_l11Scale_eq hp hp2 hn (by omega) (by omega) ha,some_bind,idxI0 (by omega),some_bind,e3,idxI0 (by omega),some_bind]
end
theorem plusv_scalev {p : Int} {n : Nat} {a b : List Int} {k : Int} : plusv p n a (scalev p n b k) 1 = plusv p n a b k := by
 unfold plusv
 refine vecN_congr fun i hi => ?_
 unfold scalev
 rw [gI_vecN _ hi,Int.one_mul,Int.add_emod,Int.emod_emod_of_dvd _ (Int.dvd_refl p),← Int.add_emod,Int.mul_comm]

def mulr (p : Int) : Nat → List Int → List Int → List Int → List Int
 | 0,_,x,y => [gI x 0 * gI y 0 % p]
 | n + 1,w,x,y =>
  plusv p (2 ^ n) (mulr p n (w.take n) (x.take (2 ^ n)) (y.take (2 ^ n))) (mulr p n (w.take n) (starv p (2 ^ n) (y.drop (2 ^ n))) (x.drop (2 ^ n))) (gI w n) ++
  plusv p (2 ^ n) (mulr p n (w.take n) (y.drop (2 ^ n)) (x.take (2 ^ n))) (mulr p n (w.take n) (x.drop (2 ^ n)) (starv p (2 ^ n) (y.take (2 ^ n)))) 1
theorem mul_two {p : Int} (hp : 3 ≤ p) (hp2 : p ≤ 13) : ∀ (n : Nat) (w : List Int),n ≤ 8 → Vec p n w → ∀ N,n < N → ∀ x y,Vec p (2 ^ n) x → Vec p (2 ^ n) y →
  s_l11Mul N p w x y = some (mulr p n w x y) ∧ i_field_doubled N p w x y = some (mulr p n w x y) ∧ Vec p (2 ^ n) (mulr p n w x y) := by
 intro n
 induction n with
 | zero =>
  intro w _ hw N hN x y hx hy
  cases N with
  | zero => omega
  | succ N =>
   have h1 := hx.get (k := 0) (by decide)
   have h2 := hy.get (k := 0) (by decide)
   have e1 := hx.1; have e2 := hy.1; have e3 := hw.1
   have q := mul_abs (a := gI x 0) (b := gI y 0) (A := 13) (B := 13) (by omega) (by omega)
   unfold mulr
   refine ⟨?_,?_,⟨rfl,fun k hk => ?_⟩⟩
   ·show s_l11Mul_b (s_l11Mul N) p w x y = _
    unfold s_l11Mul_b
    rw [if_pos (by omega),idxI0 (by rw [e1]; decide),some_bind,idxI0 (by rw [e2]; decide),some_bind,w_in (by omega) (by omega),s_l01Mod_eq (by omega) (by omega) (by omega) (by omega),some_bind]
   ·show i_field_doubled_b (i_field_doubled N) p w x y = _
    unfold i_field_doubled_b
    rw [if_pos (by omega),idxI0 (by rw [e1]; decide),some_bind,idxI0 (by rw [e2]; decide),some_bind,w_in (by omega) (by omega),i_field_num_eq (by omega) (by omega) (by omega) (by omega),some_bind]
   ·have hk0 : k = 0 := by simpa using hk
    subst hk0
    exact mod_num (by omega)
 | succ n ih =>
  intro w hn hw N hN x y hx hy
  cases N with
  | zero => omega
  | succ N =>
   have h256 : 2 ^ n ≤ 256 := by
    have : ∀ n,n ≤ 8 → 2 ^ n ≤ 256 := by decide
    exact this n (by omega)
   have hpos := two_pos n
   have hpow : 2 ^ (n + 1) = 2 ^ n + 2 ^ n := by rw [Nat.pow_succ]; omega
   unfold mulr
   rw [hpow] at hx hy ⊢
   have ih' := ih (w.take n) (by omega) hw.take N (by omega)
   generalize 2 ^ n = h at h256 hpos hx hy ih' ⊢
   have hc := hw.get (k := n) (by omega)
   have e0 := hw.1; have e1 := hx.1; have e2 := hy.1
   have t1 : w64 ((x.length : Int).tdiv 2) = (h : Int) := by
    rw [Int.tdiv_eq_ediv_of_nonneg (by omega),w_in (by omega) (by omega)]; omega
   have t2 : w64 ((w.length : Int) - 1) = (n : Int) := by rw [w_in (by omega) (by omega)]; omega
   obtain ⟨a1,b1,c1⟩ := ih' _ _ hx.take hy.take
   generalize mulr p n (w.take n) (x.take h) (y.take h) = z1 at a1 b1 c1 ⊢
   have s1 := s_l11Star_eq hp hp2 (by omega) hpos hy.drop
   have s2 := i_field_conjugate_eq hp hp2 (by omega) hpos hy.drop
   have s3 := starv_vec hp hp2 (by omega) hpos hy.drop
   obtain ⟨a2,b2,c2⟩ := ih' _ _ s3 hx.drop
   generalize mulr p n (w.take n) (starv p h (y.drop h)) (x.drop h) = z2 at a2 b2 c2 ⊢
   have u1 := s_l11Scale_eq hp hp2 (by omega) (k := gI w n) hc.1 (by omega) c2
   have u2 := s_l11Add_eq hp hp2 (by omega) c1 (scalev_vec (p := p) (by omega) h z2 (gI w n))
   have u3 := i_field_plus_eq (p := p) (n := h) (a := z1) (b := z2) (k := gI w n) (by omega) (by omega) (by omega) (by omega) c1 c2
   obtain ⟨a3,b3,c3⟩ := ih' _ _ hy.drop hx.take
   generalize mulr p n (w.take n) (y.drop h) (x.take h) = z3 at a3 b3 c3 ⊢
   have s4 := s_l11Star_eq hp hp2 (by omega) hpos hy.take
   have s5 := i_field_conjugate_eq hp hp2 (by omega) hpos hy.take
   have s6 := starv_vec hp hp2 (by omega) hpos hy.take
   obtain ⟨a4,b4,c4⟩ := ih' _ _ hx.drop s6
   generalize mulr p n (w.take n) (x.drop h) (starv p h (y.take h)) = z4 at a4 b4 c4 ⊢
   have u4 := s_l11Add_eq hp hp2 (by omega) c3 c4
   have u5 := i_field_plus_eq (p := p) (n := h) (a := z3) (b := z4) (k := 1) (by omega) (by omega) (by omega) (by omega) c3 c4
   have v1 := plusv_vec (p := p) (by omega) h z1 z2 (gI w n)
   have v2 := plusv_vec (p := p) (by omega) h z3 z4 1
   have l1 := v1.1; have l2 := v2.1
   refine ⟨?_,?_,v1.append v2⟩
   ·show s_l11Mul_b (s_l11Mul N) p w x y = _
    unfold s_l11Mul_b
    simp only [show ((w.length : Int) = 0) = False from eq_false (by omega),if_false,t1,t2,chk_bind (show (0 : Int) ≤ (n : Int) ∧ (n : Int) ≤ (w.length : Int) by omega),chk_bind (show (0 : Int) ≤ (h : Int) ∧ (h : Int) ≤ (x.length : Int) by omega),chk_bind (show (0 : Int) ≤ (h : Int) ∧ (h : Int) ≤ (y.length : Int) by omega),
     idxI (show n < w.length by omega),some_bind,Int.toNat_natCast,a1,s1,a2,u1,u2,plusv_scalev,a3,s4,a4,u4,chk_bind (show (plusv p h z1 z2 (gI w n)).length + (plusv p h z3 z4 1).length ≤ 1099511627776 by omega)]
   ·show i_field_doubled_b (i_field_doubled N) p w x y = _
    unfold i_field_doubled_b
    simp only [show ((w.length : Int) = 0) = False from eq_false (by omega),if_false,t1,t2,chk_bind (show (0 : Int) ≤ (n : Int) ∧ (n : Int) ≤ (w.length : Int) by omega),chk_bind (show (0 : Int) ≤ (h : Int) ∧ (h : Int) ≤ (x.length : Int) by omega),chk_bind (show (0 : Int) ≤ (h : Int) ∧ (h : Int) ≤ (y.length : Int) by omega),
     idxI (show n < w.length by omega),some_bind,Int.toNat_natCast,b1,s2,b2,u3,b3,s5,b4,u5,chk_bind (show (plusv p h z1 z2 (gI w n)).length + (plusv p h z3 z4 1).length ≤ 1099511627776 by omega)]

def mulp (p : Int) (w x y : List Int) : List Int := mulr p w.length w x y
section
variable {p : Int} {w x y : List Int} (hP : isP p = true) (hl : w.length ≤ 4) (hw : Vec p w.length w) (hx : Vec p (2 ^ w.length) x) (hy : Vec p (2 ^ w.length) y)
include hP hl hw hx hy
theorem mul_facts : s_l11Mul BIG p w x y = some (mulp p w x y) ∧ i_field_doubled BIG p w x y = some (mulp p w x y) ∧ Vec p (2 ^ w.length) (mulp p w x y) := by
 have hp := isP_le hP
 exact mul_two hp.1 hp.2 w.length w (by omega) hw BIG (by rw [BIG_val]; omega) x y hx hy
theorem s_l11Times_eq : s_l11Times p w x y = some (mulp p w x y) := by
 unfold s_l11Times; rw [(mul_facts hP hl hw hx hy).1,some_bind]
theorem i_Doubling_times_eq : i_Doubling_times p w x y = some (mulp p w x y) := by
 unfold i_Doubling_times i_Doubling_field; rw [some_bind,(mul_facts hP hl hw hx hy).2.1,some_bind]
theorem mulp_vec : Vec p (2 ^ w.length) (mulp p w x y) := (mul_facts hP hl hw hx hy).2.2
end
end Go.Vam

/- Plain laws: commutators, associators, inner derivations. -/
namespace Go.Vam
open Go Go.RowKit
set_option linter.unusedSimpArgs false
set_option linter.unusedVariables false
set_option linter.unusedSectionVars false

section
variable {p : Int} {w a b c : List Int} (hP : isP p = true) (hl : w.length ≤ 4) (hw : Vec p w.length w) (ha : Vec p (2 ^ w.length) a) (hb : Vec p (2 ^ w.length) b) (hc : Vec p (2 ^ w.length) c)
include hP hl hw ha hb
include hc
end
def axis (n k : Nat) : List Int := (List.replicate n (0 : Int)).set k 1
theorem axis_vec {p : Int} (hp : 1 < p) {n k : Nat} (hk : k < n) : Vec p n (axis n k) := by
 have := (unitm_mat hp n).row hk
 unfold unitm at this
 rw [gR_vecN _ hk] at this
 exact this
theorem gR_unitm {n k : Nat} (hk : k < n) : gR (unitm n) k = axis n k := by unfold unitm; rw [gR_vecN _ hk]; rfl
theorem s_l11One_eq {p : Int} {w : List Int} (hl : w.length ≤ 4) {k : Nat} (hk : k < 2 ^ w.length) : s_l11One p w (k : Int) = some (axis (2 ^ w.length) k) := by
 have h16 := two_le hl
 unfold s_l11One axis
 rw [s_l11Size_eq hl,some_bind,chk_bind (by omega),some_bind,Int.toNat_natCast,idxI (by simpa using hk),some_bind,Int.toNat_natCast]
section
variable {p : Int} {n : Nat} {m : List (List Int)} (hn : n ≤ 1048576) (hm : Mat p n n m)
include hn hm
end
section
variable {p : Int} {w a b : List Int} (hP : isP p = true) (hl : w.length ≤ 4) (hw : Vec p w.length w) (ha : Vec p (2 ^ w.length) a) (hb : Vec p (2 ^ w.length) b)
include hP hl hw ha hb
end
end Go.Vam

/- Plain laws: the signed basis of a doubling. -/
namespace Go.Vam
open Go Go.RowKit
set_option linter.unusedSimpArgs false
set_option linter.unusedVariables false
set_option linter.unusedSectionVars false

theorem bxor_k : ∀ i : Nat,i < 16 → ∀ j : Nat,j < 16 → bxor .i64 (i : Int) (j : Int) = ((i ^^^ j : Nat) : Int) := by decide
theorem xor_lt {n i j : Nat} (hi : i < 2 ^ n) (hj : j < 2 ^ n) : i ^^^ j < 2 ^ n := Nat.xor_lt_two_pow hi hj
theorem lt_cast {a b : Nat} (h : a < b) : ((a : Int) < (b : Int)) = True := eq_true (Int.ofNat_lt.2 h)
theorem lt_cast_self (a : Nat) : ((a : Int) < (a : Int)) = False := eq_false (by omega)
section
variable {p : Int} {w : List Int} (hP : isP p = true) (hl : w.length ≤ 4) (hw : Vec p w.length w)
def axm (p : Int) (w : List Int) (i j : Nat) : List Int := mulp p w (axis (2 ^ w.length) i) (axis (2 ^ w.length) j)
def prodm (p : Int) (w : List Int) : List (List Int) := vecN (2 ^ w.length) fun i => vecN (2 ^ w.length) fun j => gI (axm p w i j) (i ^^^ j)
include hP hl hw
theorem axm_vec {i j : Nat} (hi : i < 2 ^ w.length) (hj : j < 2 ^ w.length) : Vec p (2 ^ w.length) (axm p w i j) :=
 mulp_vec hP hl hw (axis_vec (by have := isP_le hP; omega) hi) (axis_vec (by have := isP_le hP; omega) hj)
theorem prodm_mat : Mat p (2 ^ w.length) (2 ^ w.length) (prodm p w) := Mat.mk' fun i hi => Vec.mk' fun j hj => (axm_vec hP hl hw hi hj).get (xor_lt hi hj)
theorem s_l11Basis_eq : s_l11Basis p w = some (prodm p w) := by
 have hp := isP_le hP
 have h16 := two_le hl
 unfold s_l11Basis
 rw [map_loop _ (2 ^ w.length) (fun i => vecN (2 ^ w.length) fun j => gI (axm p w i j) (i ^^^ j)) (by rw [BIG_val]; omega)]
 ·rfl
 ·intro i hi out ho
  unfold s_l11Basis_L0
  simp only [s_l11Size_eq hl,some_bind,lt_cast hi,if_true]
  rw [map_loop _ (2 ^ w.length) (fun j => gI (axm p w i j) (i ^^^ j)) (by rw [BIG_val]; omega)]
  ·rw [some_bind,chk_bind (by simp only [List.length_cons,List.length_nil]; omega),w_in (by omega) (by omega)]; rfl
  ·intro j hj o2 ho2
   unfold s_l11Basis_L1
   have hi' := axis_vec (p := p) (by omega) hi
   have hj' := axis_vec (p := p) (by omega) hj
   have hx := xor_lt hi hj
   have e1 := (axm_vec hP hl hw hi hj).1
   simp only [s_l11Size_eq hl,some_bind,lt_cast hj,if_true,s_l11One_eq hl hi,s_l11One_eq hl hj,s_l11Times_eq hP hl hw hi' hj',bxor_k i (by omega) j (by omega)]
   rw [show mulp p w (axis (2 ^ w.length) i) (axis (2 ^ w.length) j) = axm p w i j from rfl,idxI (by omega),some_bind,chk_bind (by simp only [List.length_cons,List.length_nil]; omega),w_in (by omega) (by omega)]
   rfl
  ·intro o2 ho2
   unfold s_l11Basis_L1
   simp only [s_l11Size_eq hl,some_bind,lt_cast_self,if_false]
 ·intro out ho
  unfold s_l11Basis_L0
  simp only [s_l11Size_eq hl,some_bind,lt_cast_self,if_false]
theorem i_Doubling_products_eq : i_Doubling_products p w = some (prodm p w) := by
 have hp := isP_le hP
 have h16 := two_le hl
 have e0 := (unitm_mat (p := p) (by omega) (2 ^ w.length)).1
 unfold i_Doubling_products
 rw [i_Doubling_size_eq hl,some_bind,i_unit_eq (by omega),some_bind,map_loop _ (2 ^ w.length) (fun i => vecN (2 ^ w.length) fun j => gI (axm p w i j) (i ^^^ j)) (by rw [BIG_val]; omega)]
 ·rfl
 ·intro i hi out ho
  unfold i_Doubling_products_L0
  simp only [e0,lt_cast hi,if_true,idxR (show i < (unitm (2 ^ w.length)).length by omega),gR_unitm hi,some_bind,i_Doubling_size_eq hl,i_unit_eq (show 2 ^ w.length ≤ 1048576 by omega)]
  rw [map_loop _ (2 ^ w.length) (fun j => gI (axm p w i j) (i ^^^ j)) (by rw [BIG_val]; omega)]
  ·rw [some_bind,chk_bind (by simp only [List.length_cons,List.length_nil]; omega),w_in (by omega) (by omega)]; rfl
  ·intro j hj o2 ho2
   unfold i_Doubling_products_L1
   have hi' := axis_vec (p := p) (by omega) hi
   have hj' := axis_vec (p := p) (by omega) hj
   have hx := xor_lt hi hj
   have e1 := (axm_vec hP hl hw hi hj).1
   simp only [e0,lt_cast hj,if_true,idxR (show j < (unitm (2 ^ w.length)).length by omega),gR_unitm hj,some_bind,i_Doubling_times_eq hP hl hw hi' hj',bxor_k i (by omega) j (by omega)]
   rw [show mulp p w (axis (2 ^ w.length) i) (axis (2 ^ w.length) j) = axm p w i j from rfl,idxI (by omega),some_bind,chk_bind (by simp only [List.length_cons,List.length_nil]; omega),w_in (by omega) (by omega)]
   rfl
  ·intro o2 ho2
   unfold i_Doubling_products_L1
   simp only [e0,lt_cast_self,if_false]
 ·intro out ho
  unfold i_Doubling_products_L0
  simp only [e0,lt_cast_self,if_false]
end

def sgE (T : List (List Int)) (i j : Nat) : Int :=
 w64 (w64 (2 * bxor .i64 ((i / 2 : Nat) : Int) ((j / 2 : Nat) : Int)) + (if ¬ gI (gR T (i / 2)) (j / 2) = 1 then w64 (1 - (w64 ((i : Int) + (j : Int))).tmod 2) else (w64 ((i : Int) + (j : Int))).tmod 2))
def sgm (T : List (List Int)) (n : Nat) : List (List Int) := vecN (2 * n) fun i => vecN (2 * n) fun j => sgE T i j
section
variable {p : Int} {w : List Int} {T : List (List Int)} (hl : w.length ≤ 4) (hT : Mat p (2 ^ w.length) (2 ^ w.length) T)
include hl hT
theorem half_facts {i : Nat} (hi : i < 2 * 2 ^ w.length) : w64 ((i : Int).tdiv 2) = ((i / 2 : Nat) : Int) ∧ i / 2 < 2 ^ w.length := by
 have h16 := two_le hl
 rw [Int.tdiv_eq_ediv_of_nonneg (by omega),w_in (by omega) (by omega)]
 constructor <;> omega
theorem w2_size : w64 (2 * ((2 ^ w.length : Nat) : Int)) = ((2 * 2 ^ w.length : Nat) : Int) := by
 have h16 := two_le hl
 generalize 2 ^ w.length = n at h16
 rw [w_in (by omega) (by omega)]; omega
theorem s_signed : loop (s_SignedBasis_L1 p w T) BIG ([],0) = some (sgm T (2 ^ w.length)) := by
 have h16 := two_le hl
 have e0 := hT.1
 refine map_loop _ (2 * 2 ^ w.length) (fun i => vecN (2 * 2 ^ w.length) fun j => sgE T i j) (by rw [BIG_val]; omega) ?_ ?_
 ·intro i hi out ho
  unfold s_SignedBasis_L1
  simp only [s_l11Size_eq hl,some_bind,w2_size hl hT,lt_cast hi,if_true]
  rw [map_loop _ (2 * 2 ^ w.length) (fun j => sgE T i j) (by rw [BIG_val]; omega)]
  ·rw [some_bind,chk_bind (by simp only [List.length_cons,List.length_nil]; omega),w_in (by omega) (by omega)]; rfl
  ·intro j hj o2 ho2
   unfold s_SignedBasis_L2
   obtain ⟨h1,h2⟩ := half_facts hl hT hi
   obtain ⟨h3,h4⟩ := half_facts hl hT hj
   have e3 := (hT.row h2).1
   simp only [s_l11Size_eq hl,some_bind,w2_size hl hT,lt_cast hj,if_true,h1,h3,idxR (show i / 2 < T.length by omega),idxI (show j / 2 < (gR T (i / 2)).length by omega)]
   have hx : ((if ¬ gI (gR T (i / 2)) (j / 2) = 1 then some (w64 (1 - (w64 ((i : Int) + (j : Int))).tmod 2)) else some ((w64 ((i : Int) + (j : Int))).tmod 2)) : Option Int) = some (if ¬ gI (gR T (i / 2)) (j / 2) = 1 then w64 (1 - (w64 ((i : Int) + (j : Int))).tmod 2) else (w64 ((i : Int) + (j : Int))).tmod 2) := by split <;> rfl
   rw [hx,some_bind,chk_bind (by simp only [List.length_cons,List.length_nil]; omega),w_in (x := (j : Int) + 1) (by omega) (by omega)]
   rfl
  ·intro o2 ho2
   unfold s_SignedBasis_L2
   simp only [s_l11Size_eq hl,some_bind,w2_size hl hT,lt_cast_self,if_false]
 ·intro out ho
  unfold s_SignedBasis_L1
  simp only [s_l11Size_eq hl,some_bind,w2_size hl hT,lt_cast_self,if_false]
theorem i_signed : loop (i_SignedBasis_L0 p w T ((2 ^ w.length : Nat) : Int)) BIG ([],0) = some (sgm T (2 ^ w.length)) := by
 have h16 := two_le hl
 have e0 := hT.1
 refine map_loop _ (2 * 2 ^ w.length) (fun i => vecN (2 * 2 ^ w.length) fun j => sgE T i j) (by rw [BIG_val]; omega) ?_ ?_
 ·intro i hi out ho
  unfold i_SignedBasis_L0
  simp only [i_Doubling_size_eq hl,some_bind,w2_size hl hT,lt_cast hi,if_true]
  rw [map_loop _ (2 * 2 ^ w.length) (fun j => sgE T i j) (by rw [BIG_val]; omega)]
  ·rw [some_bind,chk_bind (by simp only [List.length_cons,List.length_nil]; omega),w_in (by omega) (by omega)]; rfl
  ·intro j hj o2 ho2
   unfold i_SignedBasis_L1
   obtain ⟨h1,h2⟩ := half_facts hl hT hi
   obtain ⟨h3,h4⟩ := half_facts hl hT hj
   have e3 := (hT.row h2).1
   simp only [some_bind,w2_size hl hT,lt_cast hj,if_true,h1,h3,idxR (show i / 2 < T.length by omega),idxI (show j / 2 < (gR T (i / 2)).length by omega)]
   have hx : ((if ¬ gI (gR T (i / 2)) (j / 2) = 1 then some (w64 (1 - (w64 ((i : Int) + (j : Int))).tmod 2)) else some ((w64 ((i : Int) + (j : Int))).tmod 2)) : Option Int) = some (if ¬ gI (gR T (i / 2)) (j / 2) = 1 then w64 (1 - (w64 ((i : Int) + (j : Int))).tmod 2) else (w64 ((i : Int) + (j : Int))).tmod 2) := by split <;> rfl
   rw [hx,some_bind,chk_bind (by simp only [List.length_cons,List.length_nil]; omega),w_in (x := (j : Int) + 1) (by omega) (by omega)]
   rfl
  ·intro o2 ho2
   unfold i_SignedBasis_L1
   simp only [some_bind,w2_size hl hT,lt_cast_self,if_false]
 ·intro out ho
  unfold i_SignedBasis_L0
  simp only [some_bind,w2_size hl hT,lt_cast_self,if_false]
end
def noSign (p x : Int) : Bool := !(decide (x = 1)) && !(ieq x (p - 1))
end Go.Vam

/- Plain laws: systems of equations. -/
namespace Go.Vam
open Go Go.RowKit
set_option linter.unusedSimpArgs false
set_option linter.unusedVariables false
set_option linter.unusedSectionVars false

theorem first_two {v : List Int} {q : Nat} (hv : v.length ≤ 1048576) (hq : q < v.length) (h : gI v q ≠ 0) : ∃ f : Nat,f ≤ q ∧ s_l02First v = some (f : Int) ∧ i_lead v = some (f : Int) ∧ gI v f ≠ 0 ∧ ∀ j,j < f → gI v j = 0 := by
 obtain ⟨b,h1,h2⟩ := any_loop (s_l02First_L0 v) v.length (fun k => !decide (gI v k = 0)) (fun k => (k : Int)) (by rw [BIG_val]; omega)
  (fun k hk hf => by
   unfold s_l02First_L0
   have : gI v k = 0 := by simpa using hf
   simp only [show (k : Int) < (v.length : Int) by omega,if_true,idxI hk,some_bind,this,not_true_eq_false,if_false]
   rw [w_in (by omega) (by omega)]; rfl) (fun k hk hf => by
   unfold s_l02First_L0
   have : ¬ gI v k = 0 := by simpa using hf
   simp only [show (k : Int) < (v.length : Int) by omega,if_true,idxI hk,some_bind,this,not_false_eq_true]) (by
   unfold s_l02First_L0
   simp)
 rcases h2 with ⟨rfl,h3⟩ | ⟨f,hf,rfl,h4,h5,h6⟩
 ·rw [List.any_eq_false] at h3
  have := h3 q (List.mem_range.2 hq)
  simp [h] at this
 ·have h4' : gI v f ≠ 0 := by simpa using h4
  have h6' : ∀ j,j < f → gI v j = 0 := fun j hj => by simpa using h6 j hj
  refine ⟨f,?_,?_,?_,h4',h6'⟩
  ·rcases Nat.lt_or_ge q f with hqf | hqf
   ·exact absurd (h6' q hqf) h
   ·exact hqf
  ·unfold s_l02First
   rw [h1]; rfl
  ·unfold i_lead
   rw [loop_for (b := (f : Int)) (s := 0) (fun k => (k : Int)) f (by rw [BIG_val]; omega) rfl]
   ·rfl
   ·intro k hk
    unfold i_lead_L0
    simp only [show (k : Int) < (v.length : Int) by omega,if_true,idxI (show k < v.length by omega),some_bind,h6' k hk,ieq_self]
    rw [w_in (by omega) (by omega)]; rfl
   ·unfold i_lead_L0
    have : ieq (gI v f) 0 = false := by simp [ieq,h4']
    simp only [show (f : Int) < (v.length : Int) by omega,if_true,idxI hf,some_bind,this,Bool.false_eq_true,if_false]

section
variable {p : Int} {r c : Nat} {m : List (List Int)} {v : List Int} (hP : isP p = true) (hr0 : 0 < r) (hr : r ≤ 1048000) (hc0 : 0 < c) (hc : c ≤ 1048000) (hm : Mat p r c m) (hv : Vec p r v)
include hP hr0 hr hc0 hc hm hv
end
end Go.Vam

/- Plain laws: isometries, orthogonal tables, their orders. -/
namespace Go.Vam
open Go Go.RowKit
set_option linter.unusedSimpArgs false
set_option linter.unusedVariables false
set_option linter.unusedSectionVars false

theorem sumN_mod {f g : Nat → Int} {p : Int} : ∀ {n : Nat},(∀ k,k < n → f k % p = g k % p) → sumN f n % p = sumN g n % p
 | 0,_ => rfl
 | n + 1,h => by
  simp only [sumN]
  rw [Int.add_emod,sumN_mod (n := n) fun k hk => h k (by omega),h n (by omega),← Int.add_emod]
def pairp (p : Int) (n : Nat) (w x y : List Int) : Int := sumN (fun k => gI x k * gI y k * gI w k) n % p
section
variable {p : Int} {n : Nat} {w x y : List Int} (hP : isP p = true) (hn : n ≤ 1048576) (hw : Vec p n w) (hx : Vec p n x) (hy : Vec p n y)
include hP hn hw hx hy
end

section
variable {p : Int} {w : List Int} {T : List (List Int)} (hP : isP p = true) (hn : w.length ≤ 1048576) (hw : Vec p w.length w) (hT : Mat p w.length w.length T)
include hP hn hw hT
end

/-! ### Orders -/
theorem s_l01Same_eq {a b : List Int} (h : a.length ≤ 1048576) : s_l01Same a b = some (decide (a = b)) := by
 unfold s_l01Same
 by_cases hl : a.length = b.length
 ·rw [if_neg (by omega)]
  obtain ⟨r,h1,h2⟩ := cmp_loop a b hl (by omega) (s_l01Same_L0 a b) (fun k hk he => by
    unfold s_l01Same_L0
    simp only [show (k : Int) < a.length by omega,if_true,idxk hk,idxk (hl ▸ hk),some_bind,he,not_true_eq_false,if_false]
    rw [w_in (by omega) (by omega)]; rfl) (fun k hk he => by
    unfold s_l01Same_L0
    simp only [show (k : Int) < a.length by omega,if_true,idxk hk,idxk (hl ▸ hk),some_bind,he,not_false_eq_true]) (by
    unfold s_l01Same_L0
    simp) (by rw [BIG_val]; omega)
  rw [h1,some_bind]
  rcases h2 with ⟨rfl,rfl⟩ | ⟨rfl,h3⟩
  ·simp
  ·simp [h3]
 ·rw [if_pos (by omega)]
  have : a ≠ b := fun e => hl (by rw [e])
  simp [this]
theorem slicesEqual_eq {a b : List Int} (h : a.length ≤ 1048576) : g_slices_Equal_LI_I a b = some (decide (a = b)) := s_l01Same_eq h
theorem i_sameRows_eq {a b : List (List Int)} (h : a.length ≤ 1048576) (hr : ∀ r ∈ a,r.length ≤ 1048576) : i_sameRows a b = some (decide (a = b)) := by
 unfold i_sameRows g_slices_EqualFunc_LLI_LLI_LI_LI_of_g_slices_Equal_LI_I
 by_cases hl : a.length = b.length
 ·rw [if_neg (by omega)]
  obtain ⟨r,h1,h2⟩ := cmp_loop a b hl (by omega) (g_slices_EqualFunc_LLI_LLI_LI_LI_of_g_slices_Equal_LI_I_L0 a b) (fun k hk he => by
    unfold g_slices_EqualFunc_LLI_LLI_LI_LI_of_g_slices_Equal_LI_I_L0
    simp only [show (k : Int) < a.length by omega,if_true,idxk hk,idxk (hl ▸ hk),some_bind]
    rw [slicesEqual_eq (hr _ (List.getElem_mem hk))]
    simp only [he,some_bind,decide_true,Bool.true_eq_false,if_false]
    rw [w_in (by omega) (by omega)]; rfl) (fun k hk he => by
    unfold g_slices_EqualFunc_LLI_LLI_LI_LI_of_g_slices_Equal_LI_I_L0
    simp only [show (k : Int) < a.length by omega,if_true,idxk hk,idxk (hl ▸ hk),some_bind]
    rw [slicesEqual_eq (hr _ (List.getElem_mem hk))]
    simp only [he,some_bind,decide_false,if_true]) (by
    unfold g_slices_EqualFunc_LLI_LLI_LI_LI_of_g_slices_Equal_LI_I_L0
    simp) (by rw [BIG_val]; omega)
  rw [h1,some_bind]
  rcases h2 with ⟨rfl,rfl⟩ | ⟨rfl,h3⟩
  ·simp
  ·simp [h3]
 ·rw [if_pos (by omega)]
  have : a ≠ b := fun e => hl (by rw [e])
  simp [this]

section
variable {p : Int} {w : List Int} {m x : List (List Int)} {k : Nat} (hw : w.length ≤ 1048576) (h0 : 0 < w.length) (hp : 3 ≤ p) (hp2 : p ≤ 13) (hm : Mat p w.length w.length m) (hx : Mat p w.length w.length x) (hk : k ≤ 100000)
include hw h0 hp hp2 hm hx hk
end
end Go.Vam

/- Plain laws: products of axes; derivations. -/
namespace Go.Vam
open Go Go.RowKit
set_option linter.unusedSimpArgs false
set_option linter.unusedVariables false
set_option linter.unusedSectionVars false

theorem xor_hi : ∀ n,n < 4 → ∀ i,i < 2 ^ n → ∀ j,j < 2 ^ n → i ^^^ (2 ^ n + j) = 2 ^ n + (i ^^^ j) ∧ (2 ^ n + i) ^^^ j = 2 ^ n + (i ^^^ j) ∧ (2 ^ n + i) ^^^ (2 ^ n + j) = i ^^^ j := by decide
theorem gI_axis {n k q : Nat} (hk : k < n) : gI (axis n k) q = if q = k then 1 else 0 := by
 unfold axis
 rw [gI_set (by simpa using hk)]
 by_cases h : k = q
 ·rw [if_pos h,if_pos h.symm]
 ·rw [if_neg h,if_neg (fun e => h e.symm)]
  unfold gI
  rw [List.getD_eq_getElem?_getD,List.getElem?_replicate]
  split <;> rfl
theorem sumN_one {f : Nat → Int} {n k : Nat} (hk : k < n) (h : ∀ q,q < n → q ≠ k → f q = 0) : sumN f n = f k := by
 have key : ∀ m,m ≤ n → sumN f m = if k < m then f k else 0 := by
  intro m
  induction m with
  | zero => intro _; rfl
  | succ m ih =>
   intro hm
   rw [sumN,ih (by omega)]
   by_cases h1 : k < m
   ·rw [if_pos h1,if_pos (by omega),h m (by omega) (by omega),Int.add_zero]
   ·rw [if_neg h1]
    by_cases h2 : m = k
    ·subst h2; rw [if_pos (by omega),Int.zero_add]
    ·rw [if_neg (by omega),h m (by omega) h2,Int.add_zero]
 rw [key n (Nat.le_refl _),if_pos hk]
section
variable {p : Int} {n k : Nat} {m : List (List Int)} (hn : n ≤ 1048576) (hm : Mat p n n m) (hk : k < n)
include hn hm hk
end
/-! ### Derivations -/
section
variable {p : Int} {w : List Int} {m : List (List Int)} (hP : isP p = true) (hl : w.length ≤ 4) (hw : Vec p w.length w) (hm : Mat p (2 ^ w.length) (2 ^ w.length) m)
include hP hl hw hm
end
end Go.Vam

/- Plain laws: the norms of axes; tables skew for the norm, tables that keep it. -/
namespace Go.Vam
open Go Go.RowKit
set_option linter.unusedSimpArgs false
set_option linter.unusedVariables false
set_option linter.unusedSectionVars false

/-! ### The sign of a product of axes -/
def sgs (j : Nat) : Int := if j = 0 then 1 else -1
def axS : Nat → List Int → Nat → Nat → Int
 | 0,_,_,_ => 1
 | n + 1,w,i,j =>
  if i < 2 ^ n then (if j < 2 ^ n then axS n (w.take n) i j else axS n (w.take n) (j - 2 ^ n) i)
  else (if j < 2 ^ n then sgs j * axS n (w.take n) (i - 2 ^ n) j else gI w n * (sgs (j - 2 ^ n) * axS n (w.take n) (j - 2 ^ n) (i - 2 ^ n)))
theorem plusv_at {p : Int} {n q : Nat} {a b : List Int} {k : Int} (hq : q < n) : gI (plusv p n a b k) q = (gI a q + k * gI b q) % p := by
 unfold plusv; rw [gI_vecN _ hq]
theorem emm (a p : Int) : a % p % p = a % p := Int.emod_emod_of_dvd _ (Int.dvd_refl p)
theorem mul_mod_l {p a b c : Int} (h : a % p = b % p) : (a * c) % p = (b * c) % p := by rw [Int.mul_emod,h,← Int.mul_emod]
theorem starv_at {p : Int} {n q : Nat} {a : List Int} (hq : q < n) : gI (starv p n a) q % p = (gI a q * sgs q) % p := by
 unfold starv
 rw [gI_set (by unfold scalev; simp; omega)]
 unfold sgs
 by_cases h : q = 0
 ·subst h; simp
 ·rw [if_neg (fun e => h e.symm),if_neg h]
  unfold scalev; rw [gI_vecN _ hq,emm]
section
variable {p : Int} {w : List Int} (hP : isP p = true) (hl : w.length ≤ 4) (hw : Vec p w.length w)
include hP hl hw
end

/-! ### Skew for the norm -/
section
variable {p : Int} {w : List Int} {m : List (List Int)} (hP : isP p = true) (hl : w.length ≤ 4) (hw : Vec p w.length w) (hm : Mat p (2 ^ w.length) (2 ^ w.length) m)
include hP hl hw hm
end
/-! ### Keeping the norm -/
section
variable {p : Int} {w : List Int} {m : List (List Int)} (hP : isP p = true) (hl : w.length ≤ 4) (hw : Vec p w.length w) (hm : Mat p (2 ^ w.length) (2 ^ w.length) m)
include hP hl hw
include hm
end
end Go.Vam

/- Plain laws: when a table sends something but nothing to nothing. -/
namespace Go.Vam
open Go Go.RowKit
set_option linter.unusedSimpArgs false
set_option linter.unusedVariables false
set_option linter.unusedSectionVars false

def rd (n : Nat) (a : List Int) (x : Nat → Int) : Int := sumN (fun k => gI a k * x k) n
def KerP (p : Int) (r n : Nat) (m : List (List Int)) (x : Nat → Int) : Prop := ∀ i,i < r → p ∣ rd n (gR m i) x
theorem dvd_congr {p u v : Int} (h : u % p = v % p) : p ∣ u ↔ p ∣ v := by rw [Int.dvd_iff_emod_eq_zero,Int.dvd_iff_emod_eq_zero,h]
theorem sumN_lin (f g : Nat → Int) (k : Int) : ∀ n,sumN (fun q => f q + k * g q) n = sumN f n + k * sumN g n
 | 0 => by simp [sumN]
 | n + 1 => by simp only [sumN,sumN_lin f g k n,Int.mul_add]; omega
theorem sumN_zero : ∀ n,sumN (fun _ => (0 : Int)) n = 0
 | 0 => rfl
 | n + 1 => by simp [sumN,sumN_zero n]
theorem rd_plusv {p : Int} {n : Nat} {a b : List Int} {k : Int} (x : Nat → Int) : rd n (plusv p n a b k) x % p = (rd n a x + k * rd n b x) % p := by
 unfold rd
 rw [← sumN_lin]
 refine sumN_mod fun q hq => ?_
 rw [plusv_at hq,mul_mod_l (emm _ _),Int.add_mul,Int.mul_assoc]
end Go.Vam

/- Plain laws (2): a determinant is 0 just where the table sends something to nothing. -/
namespace Go.Vam
open Go Go.RowKit
set_option linter.unusedSimpArgs false
set_option linter.unusedVariables false
set_option linter.unusedSectionVars false

def clp (p : Int) (c k : Nat) (R v : List Int) : List Int := plusv p c v R ((p - gI v k) * invp p (gI R k) % p)
section
variable {p : Int} {r : Nat} (hP : isP p = true) (hr : r ≤ 1048576)
include hP hr
end

section
variable {p : Int} {r k : Nat} {M y : List (List Int)} {R : List Int} (hP : isP p = true) (hk : k < r) (hM : Mat p r r M) (hMk : gR M k = R) (hR : gI R k ≠ 0)
 (hy : ∀ j,j < r → gR y j = if k < j then clp p r k R (gR M j) else gR M j)
include hP hk hM hMk hR hy
end
section
variable {p : Int} {r : Nat} (hP : isP p = true) (hr : r ≤ 1048576)
include hP hr
end
end Go.Vam

/- Plain laws: reduced rows, one put to the others at a time. -/
namespace Go.Vam
open Go Go.RowKit
set_option linter.unusedSimpArgs false
set_option linter.unusedVariables false
set_option linter.unusedSectionVars false

theorem s_l12First_lead (v : List Int) : s_l12First v = i_lead v := rfl
structure Ech (p : Int) (n : Nat) (B : List (List Int)) (ld : Nat → Nat) : Prop where
 mat : Mat p B.length n B
 lt : ∀ j,j < B.length → ld j < n
 one : ∀ j,j < B.length → gI (gR B j) (ld j) = 1
 pre : ∀ j,j < B.length → ∀ q,q < ld j → gI (gR B j) q = 0
 col : ∀ j,j < B.length → ∀ i,i < B.length → i ≠ j → gI (gR B i) (ld j) = 0
 srt : ∀ i j,i < j → j < B.length → ld i < ld j
theorem Ech.first {p : Int} {n : Nat} {B : List (List Int)} {ld : Nat → Nat} (h : Ech p n B ld) (hn : n ≤ 1048576) {j : Nat} (hj : j < B.length) : s_l12First (gR B j) = some (ld j : Int) := by
 have e := (h.mat.row hj).1
 obtain ⟨f,f1,_,f3,f4,f5⟩ := first_two (v := gR B j) (q := ld j) (by omega) (by have := h.lt j hj; omega) (by rw [h.one j hj]; omega)
 have : f = ld j := by
  rcases Nat.lt_or_ge f (ld j) with hlt | hge
  ·exact absurd (h.pre j hj f hlt) f4
  ·omega
 rw [s_l12First_lead,f3,this]
section
variable {p : Int} {n : Nat} {B : List (List Int)} {ld : Nat → Nat} (hp : 3 ≤ p) (hp2 : p ≤ 13) (hn : n ≤ 1048576) (hB : Ech p n B ld) (hBl : B.length ≤ 1048576)
include hp hp2 hn hB hBl
end

def lessv (p : Int) (n f : Nat) (R v : List Int) : List Int := plusv p n v R (gI v f * -1)
section
variable {p : Int} {n f : Nat} {B : List (List Int)} {R : List Int} {ld : Nat → Nat} (hp : 3 ≤ p) (hp2 : p ≤ 13) (hn : n ≤ 1048576) (hB : Ech p n B ld) (hBl : B.length ≤ 1048575) (hR : Vec p n R) (hf : f < n)
include hp hp2 hn hB hBl hR hf
end
end Go.Vam

/- Plain laws: reduced rows in order; they are told by what they send to nothing. -/
namespace Go.Vam
open Go Go.RowKit
set_option linter.unusedSimpArgs false
set_option linter.unusedVariables false
set_option linter.unusedSectionVars false

def Kr (p : Int) (n : Nat) (B : List (List Int)) (u : Nat → Int) : Prop := ∀ j,j < B.length → p ∣ rd n (gR B j) u
theorem lessv_at {p : Int} {n f q : Nat} {R v : List Int} (hq : q < n) : gI (lessv p n f R v) q = (gI v q + (gI v f * -1) * gI R q) % p := plusv_at hq
theorem lessv_vec {p : Int} (hp : 0 < p) (n f : Nat) (R v : List Int) : Vec p n (lessv p n f R v) := plusv_vec hp ..
theorem lessv_idle {p : Int} {n f q : Nat} {R v : List Int} (hv : Vec p n v) (hq : q < n) (h : gI R q = 0 ∨ gI v f = 0) : gI (lessv p n f R v) q = gI v q := by
 rw [lessv_at hq]
 have e := hv.get hq
 have : gI v f * -1 * gI R q = 0 := by rcases h with h | h <;> rw [h] <;> simp
 rw [this,Int.add_zero,mod_small e.1 e.2]
theorem Ech.put {p : Int} {n f pos : Nat} {B B' : List (List Int)} {R : List Int} {ld : Nat → Nat} (hp : 1 < p) (hB : Ech p n B ld) (hR : Vec p n R) (hf : f < n)
  (hR1 : gI R f = 1) (hRp : ∀ q,q < f → gI R q = 0) (hRl : ∀ j,j < B.length → gI R (ld j) = 0)
  (hpos : pos ≤ B.length) (hlo : ∀ j,j < pos → ld j < f) (hhi : ∀ j,pos ≤ j → j < B.length → f < ld j)
  (hl : B'.length = B.length + 1) (hg : ∀ j,j < B.length + 1 → gR B' j = if j < pos then lessv p n f R (gR B j) else if j = pos then R else lessv p n f R (gR B (j - 1))) :
  Ech p n B' (fun j => if j < pos then ld j else if j = pos then f else ld (j - 1)) ∧ ∀ u,Kr p n B' u ↔ Kr p n B u ∧ p ∣ rd n R u := by
 have hne : ∀ j,j < B.length → ld j ≠ f := by
  intro j hj
  by_cases h : j < pos
  ·have := hlo j h; omega
  ·have := hhi j (by omega) hj; omega
 have l1 : ∀ j,j < B.length → gI (lessv p n f R (gR B j)) (ld j) = 1 := by
  intro j hj
  rw [lessv_idle (hB.mat.row hj) (hB.lt j hj) (.inl (hRl j hj))]; exact hB.one j hj
 have l2 : ∀ j,j < B.length → ∀ i,i < B.length → i ≠ j → gI (lessv p n f R (gR B i)) (ld j) = 0 := by
  intro j hj i hi hij
  rw [lessv_idle (hB.mat.row hi) (hB.lt j hj) (.inl (hRl j hj))]; exact hB.col j hj i hi hij
 have l3 : ∀ j,j < B.length → ∀ q,q < ld j → gI (lessv p n f R (gR B j)) q = 0 := by
  intro j hj q hq
  have hln := hB.lt j hj
  by_cases h : f < ld j
  ·rw [lessv_idle (hB.mat.row hj) (by omega) (.inr (hB.pre j hj f h))]; exact hB.pre j hj q hq
  ·rw [lessv_idle (hB.mat.row hj) (by omega) (.inl (hRp q (by omega)))]; exact hB.pre j hj q hq
 have l4 : ∀ j,j < B.length → gI (lessv p n f R (gR B j)) f = 0 := by
  intro j hj
  rw [lessv_at hf,hR1]
  have : gI (gR B j) f + gI (gR B j) f * -1 * 1 = 0 := by omega
  rw [this]; rfl
 have l5 : ∀ j u,p ∣ rd n R u → (p ∣ rd n (lessv p n f R (gR B j)) u ↔ p ∣ rd n (gR B j) u) := by
  intro j u hu
  unfold lessv
  rw [dvd_congr (rd_plusv u)]
  exact Int.dvd_add_left (Int.dvd_mul_of_dvd_right hu)
 constructor
 ·constructor
  ·refine ⟨by omega,fun j hj => ?_⟩
   show Vec p n (gR B' j)
   rw [hg j (by omega)]
   split
   ·exact lessv_vec (by omega) ..
   ·split
    ·exact hR
    ·exact lessv_vec (by omega) ..
  ·intro j hj
   try simp only []
   split
   ·exact hB.lt j (by omega)
   ·split
    ·exact hf
    ·exact hB.lt (j - 1) (by omega)
  ·intro j hj
   try simp only []
   rw [hg j (by omega)]
   by_cases h1 : j < pos
   ·simp only [h1,if_true]; exact l1 j (by omega)
   ·by_cases h2 : j = pos
    ·simp only [h1,h2,if_false,if_true,Nat.lt_irrefl]; exact hR1
    ·simp only [h1,h2,if_false]; exact l1 (j - 1) (by omega)
  ·intro j hj q hq
   try simp only [] at hq
   rw [hg j (by omega)]
   by_cases h1 : j < pos
   ·simp only [h1,if_true] at hq ⊢; exact l3 j (by omega) q hq
   ·by_cases h2 : j = pos
    ·simp only [h1,h2,if_false,if_true,Nat.lt_irrefl] at hq ⊢; exact hRp q hq
    ·simp only [h1,h2,if_false] at hq ⊢; exact l3 (j - 1) (by omega) q hq
  ·intro j hj i hi hij
   try simp only []
   rw [hg i (by omega)]
   by_cases h1 : j < pos
   ·rw [if_pos h1]
    by_cases g1 : i < pos
    ·rw [if_pos g1]; exact l2 j (by omega) i (by omega) hij
    ·rw [if_neg g1]
     by_cases g2 : i = pos
     ·rw [if_pos g2]; exact hRl j (by omega)
     ·rw [if_neg g2]; exact l2 j (by omega) (i - 1) (by omega) (by omega)
   ·rw [if_neg h1]
    by_cases h2 : j = pos
    ·rw [if_pos h2]
     by_cases g1 : i < pos
     ·rw [if_pos g1]; exact l4 i (by omega)
     ·rw [if_neg g1,if_neg (by omega)]; exact l4 (i - 1) (by omega)
    ·rw [if_neg h2]
     by_cases g1 : i < pos
     ·rw [if_pos g1]; exact l2 (j - 1) (by omega) i (by omega) (by omega)
     ·rw [if_neg g1]
      by_cases g2 : i = pos
      ·rw [if_pos g2]; exact hRl (j - 1) (by omega)
      ·rw [if_neg g2]; exact l2 (j - 1) (by omega) (i - 1) (by omega) (by omega)
  ·intro i j hij hj
   try simp only []
   by_cases h1 : j < pos
   ·rw [if_pos h1,if_pos (by omega)]; exact hB.srt i j hij (by omega)
   ·by_cases h2 : j = pos
    ·rw [if_neg h1,if_pos h2,if_pos (by omega)]; exact hlo i (by omega)
    ·rw [if_neg h1,if_neg h2]
     by_cases g1 : i < pos
     ·rw [if_pos g1]; exact hB.srt i (j - 1) (by omega) (by omega)
     ·rw [if_neg g1]
      by_cases g2 : i = pos
      ·rw [if_pos g2]; exact hhi (j - 1) (by omega) (by omega)
      ·rw [if_neg g2]; exact hB.srt (i - 1) (j - 1) (by omega) (by omega)
 ·intro u
  constructor
  ·intro h
   have hRu : p ∣ rd n R u := by
    have := h pos (by omega)
    rwa [hg pos (by omega),if_neg (by omega),if_pos rfl] at this
   refine ⟨fun j hj => ?_,hRu⟩
   by_cases h1 : j < pos
   ·have := h j (by omega)
    rw [hg j (by omega),if_pos h1] at this
    exact (l5 j u hRu).1 this
   ·have := h (j + 1) (by omega)
    rw [hg (j + 1) (by omega),if_neg (by omega),if_neg (by omega)] at this
    exact (l5 j u hRu).1 this
  ·intro ⟨h,hRu⟩ j hj
   rw [hg j (by omega)]
   split
   ·exact (l5 j u hRu).2 (h j (by omega))
   ·split
    ·exact hRu
    ·exact (l5 (j - 1) u hRu).2 (h (j - 1) (by omega))

theorem Ech.ge {p : Int} {n : Nat} {B : List (List Int)} {ld : Nat → Nat} (h : Ech p n B ld) : ∀ j,j < B.length → j ≤ ld j := by
 intro j
 induction j with
 | zero => intro _; omega
 | succ j ih =>
  intro hj
  have h1 := ih (by omega)
  have h2 := h.srt j (j + 1) (by omega) hj
  omega
theorem Ech.le {p : Int} {n : Nat} {B : List (List Int)} {ld : Nat → Nat} (h : Ech p n B ld) : B.length ≤ n := by
 by_cases h0 : B.length = 0
 ·omega
 ·have h1 := h.ge (B.length - 1) (by omega)
  have h2 := h.lt (B.length - 1) (by omega)
  omega
def isLd (k : Nat) (ld : Nat → Nat) (q : Nat) : Bool := (List.range k).any fun j => decide (ld j = q)
theorem isLd_iff {k : Nat} {ld : Nat → Nat} {q : Nat} : isLd k ld q = true ↔ ∃ j,j < k ∧ ld j = q := by
 unfold isLd
 simp only [List.any_eq_true,List.mem_range,decide_eq_true_eq]
def rowOf (ld : Nat → Nat) (q : Nat) : Nat → Nat
 | 0 => 0
 | k + 1 => if ld k = q then k else rowOf ld q k
theorem rowOf_spec {ld : Nat → Nat} {q : Nat} : ∀ {k : Nat},(∃ j,j < k ∧ ld j = q) → rowOf ld q k < k ∧ ld (rowOf ld q k) = q
 | 0,⟨j,h,_⟩ => by omega
 | k + 1,⟨j,h,e⟩ => by
  unfold rowOf
  by_cases hk : ld k = q
  ·rw [if_pos hk]; exact ⟨by omega,hk⟩
  ·rw [if_neg hk]
   have hj : j < k := by
    rcases Nat.lt_succ_iff_lt_or_eq.1 h with h | h
    ·exact h
    ·rw [h] at e; exact absurd e hk
   have := rowOf_spec ⟨j,hj,e⟩
   exact ⟨by omega,this.2⟩
theorem Ech.inj {p : Int} {n : Nat} {B : List (List Int)} {ld : Nat → Nat} (h : Ech p n B ld) {i j : Nat} (hi : i < B.length) (hj : j < B.length) (e : ld i = ld j) : i = j := by
 rcases Nat.lt_trichotomy i j with h1 | h1 | h1
 ·have := h.srt i j h1 hj; omega
 ·exact h1
 ·have := h.srt j i h1 hi; omega
end Go.Vam

/- Plain laws: both programs' reduced bases are reduced rows in order, and send the same to nothing. -/
namespace Go.Vam
open Go Go.RowKit
set_option linter.unusedSimpArgs false
set_option linter.unusedVariables false
set_option linter.unusedSectionVars false

section
variable {p : Int} {r c k d x : Nat} {m : List (List Int)} {piv : Nat → Nat} {R : List Int} (hP : isP p = true) (hm : Mat p r c m) (hk : k < c) (hd : d < r) (hdx : d ≤ x) (hx : x < r)
 (hne : gI (gR m x) k ≠ 0) (hRe : R = scalev p c (gR m x) (invp p (gI (gR m x) k)))
include hP hm hk hd hdx hx hne hRe
end
section
variable {p : Int} {r c : Nat} (hP : isP p = true) (hr0 : 0 < r) (hr : r ≤ 1048576) (hc : c ≤ 1048576)
include hP hr0 hr hc
end
end Go.Vam

/- Plain laws: rows reduced one at a time; IsAutomorphism. -/
namespace Go.Vam
open Go Go.RowKit
set_option linter.unusedSimpArgs false
set_option linter.unusedVariables false
set_option linter.unusedSectionVars false

section
variable {p : Int} {n : Nat} (hP : isP p = true) (hn : n ≤ 1048000)
include hP hn
end

section
variable {p : Int} {w : List Int} {m : List (List Int)} (hP : isP p = true) (hl : w.length ≤ 4) (hw : Vec p w.length w) (hm : Mat p (2 ^ w.length) (2 ^ w.length) m)
include hP hl hw hm
end
end Go.Vam

/- Plain laws: kernels; both programs make the same reduced basis of what a table sends to nothing. -/
namespace Go.Vam
open Go Go.RowKit
set_option linter.unusedSimpArgs false
set_option linter.unusedVariables false
set_option linter.unusedSectionVars false

theorem Ech.nil (p : Int) (n : Nat) : Ech p n [] (fun _ => 0) :=
 ⟨⟨rfl,fun i hi => by simp at hi⟩,fun j hj => by simp at hj,fun j hj => by simp at hj,fun j hj => by simp at hj,fun j hj => by simp at hj,fun i j _ hj => by simp at hj⟩
section
variable {p : Int} {n : Nat} {B : List (List Int)} {ld : Nat → Nat} (hP : isP p = true) (hn : n ≤ 1048000) (hB : Ech p n B ld)
include hP hn hB
end
end Go.Vam

/- Plain law: the reduced rows that a table sends to nothing. -/
namespace Go.Vam
open Go Go.RowKit
set_option linter.unusedSimpArgs false
set_option linter.unusedVariables false
set_option linter.unusedSectionVars false

section
variable {p : Int} {n : Nat} {B : List (List Int)} {ld : Nat → Nat} (hP : isP p = true) (hn : n ≤ 1048000) (hB : Ech p n B ld)
include hP hn hB
end
end Go.Vam

/- Plain laws: ranks, kernels and how many vectors they have. -/
namespace Go.Vam
open Go Go.RowKit
set_option linter.unusedSimpArgs false
set_option linter.unusedVariables false
set_option linter.unusedSectionVars false

theorem sumN_add (f g : Nat → Int) (n : Nat) : sumN (fun q => f q + g q) n = sumN f n + sumN g n := by
 have := sumN_lin f g 1 n
 simp only [Int.one_mul] at this
 exact this
theorem sumN_mulL (k : Int) (f : Nat → Int) (n : Nat) : sumN (fun q => k * f q) n = k * sumN f n := by
 have := sumN_lin (fun _ => 0) f k n
 simp only [Int.zero_add,sumN_zero] at this
 exact this
theorem sumN_comm (f : Nat → Nat → Int) (m : Nat) : ∀ n,sumN (fun i => sumN (fun j => f i j) m) n = sumN (fun j => sumN (fun i => f i j) n) m
 | 0 => by simp only [sumN]; rw [sumN_zero]
 | n + 1 => by
  simp only [sumN]
  rw [sumN_add,sumN_comm f m n]
section
variable {p : Int} {n : Nat} {B : List (List Int)} {ld : Nat → Nat} (h : Ech p n B ld)
include h
theorem Ech.at_lead (g : Nat → Int) (q : Nat) : sumN (fun j => if ld j = q then g j else 0) B.length = if isLd B.length ld q = true then g (rowOf ld q B.length) else 0 := by
 by_cases hq : isLd B.length ld q = true
 ·rw [if_pos hq]
  obtain ⟨a1,a2⟩ := rowOf_spec (isLd_iff.1 hq)
  rw [sumN_one a1 (fun j hj hne => if_neg fun e => hne (h.inj hj a1 (by rw [e,a2]))),if_pos a2]
 ·rw [if_neg hq,sumN_congr (g := fun _ => 0) fun j hj => if_neg fun e => hq (isLd_iff.2 ⟨j,hj,e⟩)]
  exact sumN_zero _
theorem Ech.split (g : Nat → Int) : sumN g n = sumN (fun q => if isLd B.length ld q = true then 0 else g q) n + sumN (fun j => g (ld j)) B.length := by
 have e1 : sumN (fun j => g (ld j)) B.length = sumN (fun j => sumN (fun q => if ld j = q then g q else 0) n) B.length :=
  sumN_congr fun j hj => by rw [sumN_one (h.lt j hj) (fun q _ hq => if_neg fun e => hq e.symm),if_pos rfl]
 rw [e1,sumN_comm,← sumN_add]
 refine sumN_congr fun q hq => ?_
 have e2 : sumN (fun j => if ld j = q then g q else 0) B.length = if isLd B.length ld q = true then g q else 0 := h.at_lead (fun _ => g q) q
 rw [e2]
 split <;> omega
end
end Go.Vam

/- Plain laws: the equations of derivations; both programs' bases of derivations are one. -/
namespace Go.Vam
open Go Go.RowKit
set_option linter.unusedSimpArgs false
set_option linter.unusedVariables false
set_option linter.unusedSectionVars false

theorem gR_append {x y : List (List Int)} {k : Nat} : gR (x ++ y) k = if k < x.length then gR x k else gR y (k - x.length) := by
 unfold gR
 rw [List.getD_eq_getElem?_getD,List.getElem?_append]
 by_cases h : k < x.length
 ·rw [if_pos h,if_pos h,List.getD_eq_getElem?_getD]
 ·rw [if_neg h,if_neg h,List.getD_eq_getElem?_getD]
theorem Mat.append {p : Int} {a b c : Nat} {x y : List (List Int)} (hx : Mat p a c x) (hy : Mat p b c y) : Mat p (a + b) c (x ++ y) := by
 have h1 := hx.1
 refine ⟨by rw [List.length_append,hx.1,hy.1],fun i hi => ?_⟩
 rw [gR_append]
 split
 ·exact hx.2 i (by omega)
 ·exact hy.2 (i - x.length) (by omega)
section
variable {p : Int} {w : List Int} (hP : isP p = true) (hl : w.length ≤ 4) (hw : Vec p w.length w)
include hP hl hw
end
end Go.Vam

/- Plain laws: what is drawn from a code. -/
namespace Go.Vam
open Go Go.RowKit
set_option linter.unusedSimpArgs false
set_option linter.unusedVariables false
set_option linter.unusedSectionVars false

structure Src (c : List Int) (a : Int) : Prop where
 len : c.length ≤ 4096
 byte : ∀ x ∈ c,0 ≤ x ∧ x ≤ 255
 pos : 0 ≤ a
 le : a ≤ c.length

theorem band_le (h : Int) : 0 ≤ w64 (band .u64 h 16777215) ∧ w64 (band .u64 h 16777215) ≤ 16777215 := by
 have h1 : ((BitVec.ofInt 64 h &&& BitVec.ofInt 64 16777215).toNat : Nat) ≤ 16777215 := by
  rw [BitVec.toNat_and]
  exact Nat.le_trans Nat.and_le_right (by decide)
 have h2 : band .u64 h 16777215 = ((BitVec.ofInt 64 h &&& BitVec.ofInt 64 16777215).toNat : Int) := by
  unfold band
  show IntKind.u64.wrap ((BitVec.ofInt 64 h &&& BitVec.ofInt 64 16777215).toNat : Int) = _
  generalize (BitVec.ofInt 64 h &&& BitVec.ofInt 64 16777215).toNat = n at h1
  simp only [IntKind.wrap,IntKind.signed,IntKind.bits]
  simp
  omega
 rw [h2,w_in (by omega) (by omega)]
 omega
theorem next_eq {c : List Int} {a h n : Int} (hS : Src c a) (hn : 1 ≤ n) (hn2 : n ≤ 4611686018427387904) :
  ∃ r a' h',s_l01Next c a h n = some (r,(c,a',h')) ∧ 0 ≤ r ∧ r < n ∧ Src c a' := by
 unfold s_l01Next
 rw [if_neg (by omega)]
 by_cases hlt : a < (c.length : Int)
 ·obtain ⟨k,rfl⟩ := Int.eq_ofNat_of_zero_le hS.pos
  have hk : k < c.length := by omega
  rw [if_pos (by omega),idxI hk,some_bind,some_bind,chk_bind (by omega)]
  have hb := hS.byte (gI c k) (by rw [show gI c k = c[k] from by unfold gI; simp [hk]]; exact List.getElem_mem hk)
  obtain ⟨b1,b2⟩ := band_le (shr .u64 (IntKind.u64.wrap ((IntKind.u64.wrap (h * 6364136223846793005)) + 1442695040888963407)) 33)
  refine ⟨_,_,_,rfl,?_,?_,hS.len,hS.byte,?_,?_⟩
  ·simp only []
   rw [w_in (x := gI c k) (by omega) (by omega),w_in (by omega) (by omega),tmod_nn (by omega)]
   exact Int.emod_nonneg _ (by omega)
  ·simp only []
   rw [w_in (x := gI c k) (by omega) (by omega),w_in (by omega) (by omega),tmod_nn (by omega)]
   exact Int.emod_lt_of_pos _ (by omega)
  ·simp only []; have := hS.len; rw [w_in (by omega) (by omega)]; omega
  ·simp only []; have := hS.len; rw [w_in (by omega) (by omega)]; omega
 ·rw [if_neg hlt,some_bind,chk_bind (by omega)]
  obtain ⟨b1,b2⟩ := band_le (shr .u64 (IntKind.u64.wrap ((IntKind.u64.wrap (h * 6364136223846793005)) + 1442695040888963407)) 33)
  refine ⟨_,_,_,rfl,?_,?_,hS⟩
  ·simp only []
   rw [tmod_nn (by omega)]
   exact Int.emod_nonneg _ (by omega)
  ·simp only []
   rw [tmod_nn (by omega)]
   exact Int.emod_lt_of_pos _ (by omega)
theorem pick_eq {c : List Int} {a h : Int} {l : List Int} (hS : Src c a) (hl : 1 ≤ l.length) (hl2 : l.length ≤ 100) :
  ∃ x a' h',s_l01Pick c a h l = some (x,(c,a',h')) ∧ x ∈ l ∧ Src c a' := by
 unfold s_l01Pick
 obtain ⟨r,a',h',e,r1,r2,r3⟩ := next_eq (h := h) (n := (l.length : Int)) hS (by omega) (by omega)
 rw [e,some_bind]
 obtain ⟨k,rfl⟩ := Int.eq_ofNat_of_zero_le r1
 have hk : k < l.length := by omega
 rw [idxk hk,some_bind]
 exact ⟨_,_,_,rfl,List.getElem_mem hk,r3⟩
theorem from_eq {c : List Int} (hc : c.length ≤ 4096) (hb : ∀ x ∈ c,0 ≤ x ∧ x ≤ 255) : ∃ h',s_l01From c = some (c,0,h') ∧ Src c 0 := by
 unfold s_l01From
 obtain ⟨b,h1,h',rfl⟩ := loop_inv (step := s_l01From_L0 c) (fun s => ∃ (k : Nat) (h' : Int),s = (c,0,h',(k : Int)) ∧ k ≤ c.length) (fun s => c.length - s.2.2.2.toNat)
  (fun b => ∃ h' : Int,b = (c,(0 : Int),h')) (s := (c,0,IntKind.u64.wrap (4409 + (IntKind.u64.wrap ((c.length : Int)))),0)) ⟨0,_,rfl,by omega⟩ (by rw [BIG_val]; simp only []; omega) (by
   rintro s ⟨k,h',rfl,hk⟩
   unfold s_l01From_L0
   by_cases hkn : k < c.length
   ·refine .inl ?_
    simp only [lt_cast hkn,if_true,some_bind,ilt_true (show (k : Int) < 4096 by omega),idxI hkn]
    rw [w_in (by omega) (by omega)]
    exact ⟨_,rfl,⟨k + 1,_,rfl,by omega⟩,by simp only []; omega⟩
   ·have : k = c.length := by omega
    subst this
    refine .inr ⟨(c,0,h'),?_,h',rfl⟩
    simp)
 rw [h1,some_bind]
 exact ⟨h',rfl,hc,hb,by omega,by omega⟩
end Go.Vam

/- Plain laws: reflections keep the products of vectors. -/
namespace Go.Vam
open Go Go.RowKit
set_option linter.unusedSimpArgs false
set_option linter.unusedVariables false
set_option linter.unusedSectionVars false

end Go.Vam

/- Plain laws: decompositions into reflections; HasSquareNorm. -/
namespace Go.Vam
open Go Go.RowKit
set_option linter.unusedSimpArgs false
set_option linter.unusedVariables false
set_option linter.unusedSectionVars false

section
variable {p : Int} {n : Nat} {w u : List Int} (hP : isP p = true) (hn0 : 0 < n) (hn : n ≤ 1000) (hwl : w.length = n) (hw : Vec p n w) (hu : Vec p n u) (hQ : pairp p n w u u ≠ 0)
include hP hn0 hn hwl hw hu hQ
end
section
variable {p : Int} {n : Nat} {w : List Int} (hP : isP p = true) (hn0 : 0 < n) (hn : n ≤ 1000) (hwl : w.length = n) (hw : Vec p n w) (hz : ∀ k,k < n → gI w k ≠ 0)
include hP hn0 hn hwl hw hz
end
end Go.Vam

/- Plain laws: systems of equations and spans. -/
namespace Go.Vam
open Go Go.RowKit
set_option linter.unusedSimpArgs false
set_option linter.unusedVariables false
set_option linter.unusedSectionVars false

theorem likeI_self {v : List Int} (h : v.length ≤ 1048576) : l_likeInts v v = some true := by
 unfold l_likeInts
 simp only [not_true_eq_false,if_false]
 obtain ⟨b,h1,h2⟩ := any_loop (l_likeInts_L0 v v) v.length (fun _ => false) (fun _ => true) (by rw [BIG_val]; omega)
  (fun k hk _ => by
   unfold l_likeInts_L0
   simp only [lt_cast hk,if_true,idxI hk,some_bind,not_true_eq_false,if_false]
   rw [w_in (by omega) (by omega)]; rfl) (fun k hk hf => by cases hf) (by
   unfold l_likeInts_L0
   simp only [lt_cast_self,if_false])
 rcases h2 with ⟨rfl,_⟩ | ⟨k,_,_,hf,_⟩
 ·rw [h1,some_bind]
 ·cases hf
end Go.Vam

/- Plain law: FnKernels. -/
namespace Go.Vam
open Go Go.RowKit
set_option linter.unusedSimpArgs false
set_option linter.unusedVariables false
set_option linter.unusedSectionVars false

end Go.Vam

/- Plain laws: determinants of numbers, by expansion; they are multiplied with tables. -/
namespace Go.Vam
open Go Go.RowKit
set_option linter.unusedSimpArgs false
set_option linter.unusedVariables false
set_option linter.unusedSectionVars false

end Go.Vam

/- Plain laws: the programs' determinant is the expansion's. -/
namespace Go.Vam
open Go Go.RowKit
set_option linter.unusedSimpArgs false
set_option linter.unusedVariables false
set_option linter.unusedSectionVars false

section
variable {p : Int} {r : Nat} (hP : isP p = true) (hr : r ≤ 1048576)
include hP hr
end
end Go.Vam

/- Plain laws: products are associative; turned products; ranks and determinants of products. -/
namespace Go.Vam
open Go Go.RowKit
set_option linter.unusedSimpArgs false
set_option linter.unusedVariables false
set_option linter.unusedSectionVars false

end Go.Vam

/- Plain laws: powers, exponents are added. -/
namespace Go.Vam
open Go Go.RowKit
set_option linter.unusedSimpArgs false
set_option linter.unusedVariables false
set_option linter.unusedSectionVars false

end Go.Vam

/- Plain laws: norms of elements; ConjugationBy. -/
namespace Go.Vam
open Go Go.RowKit
set_option linter.unusedSimpArgs false
set_option linter.unusedVariables false
set_option linter.unusedSectionVars false

theorem sumN_split (f : Nat → Int) (a b : Nat) : sumN f (a + b) = sumN f a + sumN (fun k => f (a + k)) b := by
 induction b with
 | zero => simp [sumN]
 | succ b ih => rw [← Nat.add_assoc]; simp only [sumN]; rw [ih]; omega
section
variable {p : Int} {w x : List Int} (hP : isP p = true) (hl : w.length ≤ 4) (hw : Vec p w.length w) (hx : Vec p (2 ^ w.length) x)
include hP hl hw hx
end
section
variable {p : Int} {w a b : List Int} (hP : isP p = true) (hl : w.length ≤ 4) (hw : Vec p w.length w) (ha : Vec p (2 ^ w.length) a) (hb : Vec p (2 ^ w.length) b)
include hP hl hw ha hb
end
end Go.Vam

/- Plain law: FnMatrixProducts. -/
namespace Go.Vam
open Go Go.RowKit
set_option linter.unusedSimpArgs false
set_option linter.unusedVariables false
set_option linter.unusedSectionVars false

theorem below_is : g_p_laws_dice_below = s_l01Next := rfl
theorem below_eq {c : List Int} {a h n : Int} (hS : Src c a) (hn : 1 ≤ n) (hn2 : n ≤ 4611686018427387904) :
  ∃ r a' h',g_p_laws_dice_below c a h n = some (r,(c,a',h')) ∧ 0 ≤ r ∧ r < n ∧ Src c a' := by rw [below_is]; exact next_eq hS hn hn2
theorem roll_eq {c : List Int} (k : Int) (hc : c.length ≤ 4096) (hb : ∀ x ∈ c,0 ≤ x ∧ x ≤ 255) : ∃ h',l_roll c k = some (c,0,h') ∧ Src c 0 := by
 unfold l_roll
 obtain ⟨b,h1,h',rfl⟩ := loop_inv (step := l_roll_L0 c) (fun s => ∃ (k : Nat) (h' : Int),s = (c,0,h',(k : Int)) ∧ k ≤ c.length) (fun s => c.length - s.2.2.2.toNat)
  (fun b => ∃ h' : Int,b = (c,(0 : Int),h')) (s := (c,0,IntKind.u64.wrap ((IntKind.u64.wrap (k * 7681)) + (IntKind.u64.wrap ((c.length : Int)))),0)) ⟨0,_,rfl,by omega⟩ (by rw [BIG_val]; simp only []; omega) (by
   rintro s ⟨k,h',rfl,hk⟩
   unfold l_roll_L0
   by_cases hkn : k < c.length
   ·refine .inl ?_
    simp only [lt_cast hkn,if_true,some_bind,idxI hkn]
    rw [w_in (by omega) (by omega)]
    exact ⟨_,rfl,⟨k + 1,_,rfl,by omega⟩,by simp only []; omega⟩
   ·have : k = c.length := by omega
    subst this
    refine .inr ⟨(c,0,h'),?_,h',rfl⟩
    simp)
 rw [h1,some_bind]
 exact ⟨h',rfl,hc,hb,by omega,by omega⟩
section
variable {p : Int} {r n c : Nat} {a b : List (List Int)} (hP : isP p = true) (ha : Mat p r n a) (hr0 : 1 ≤ r) (hr : r ≤ 16) (hn0 : 1 ≤ n) (hn : n ≤ 16)
include hP ha hr0 hr hn0 hn
end
end Go.Vam

/- Plain laws: inverses of tables. -/
namespace Go.Vam
open Go Go.RowKit
set_option linter.unusedSimpArgs false
set_option linter.unusedVariables false
set_option linter.unusedSectionVars false

def widem (n : Nat) (a : List (List Int)) : List (List Int) := vecN n fun i => gR a i ++ axis n i
section
variable {p : Int} {n : Nat} {a : List (List Int)} (hp : 1 < p) (hn : n ≤ 1000) (ha : Mat p n n a)
include hp hn ha
end
section
variable {p : Int} {n : Nat} {a B : List (List Int)} {ld : Nat → Nat} (hP : isP p = true) (hn0 : 1 ≤ n) (hn : n ≤ 1000) (ha : Mat p n n a) (hB : Ech p (n + n) B ld) (hk : ∀ u,Kr p (n + n) B u ↔ KerP p n (n + n) (widem n a) u)
include hP hn0 hn ha hB hk
end

section
variable {p : Int} {n : Nat} {a : List (List Int)} (hP : isP p = true) (hn0 : 1 ≤ n) (hn : n ≤ 16) (ha : Mat p n n a)
include hP hn0 hn ha
end
end Go.Vam

/- Plain laws: the coordinates of a product; pure elements of few steps anticommute up to their pairing. -/
namespace Go.Vam
open Go Go.RowKit
set_option linter.unusedSimpArgs false
set_option linter.unusedVariables false
set_option linter.unusedSectionVars false

theorem sum_xor (f : Nat → Int) : ∀ n,n ≤ 4 → ∀ m,m < 2 ^ n → ∀ s,sumN (fun i => f (s + (i ^^^ m))) (2 ^ n) = sumN (fun i => f (s + i)) (2 ^ n)
 | 0,_,m,hm,s => by
  have : m = 0 := by simpa using hm
  subst this; simp [sumN]
 | n + 1,hn,m,hm,s => by
  have hpow : 2 ^ (n + 1) = 2 ^ n + 2 ^ n := by rw [Nat.pow_succ]; omega
  have hX := xor_hi n (by omega)
  have ih := sum_xor f n (by omega)
  rw [hpow] at hm ⊢
  rw [sumN_split,sumN_split]
  rcases Nat.lt_or_ge m (2 ^ n) with h | h
  ·congr 1
   ·exact ih m h s
   ·have e : sumN (fun k => f (s + ((2 ^ n + k) ^^^ m))) (2 ^ n) = sumN (fun k => f (s + 2 ^ n + (k ^^^ m))) (2 ^ n) := sumN_congr fun k hk => by rw [(hX k hk m h).2.1,Nat.add_assoc]
    rw [e,ih m h (s + 2 ^ n)]
    exact sumN_congr fun k hk => by rw [Nat.add_assoc]
  ·obtain ⟨m',rfl⟩ := Nat.exists_eq_add_of_le h
   have hm' : m' < 2 ^ n := by omega
   have e1 : sumN (fun k => f (s + (k ^^^ (2 ^ n + m')))) (2 ^ n) = sumN (fun k => f (s + 2 ^ n + (k ^^^ m'))) (2 ^ n) := sumN_congr fun k hk => by rw [(hX k hk m' hm').1,Nat.add_assoc]
   have e2 : sumN (fun k => f (s + ((2 ^ n + k) ^^^ (2 ^ n + m')))) (2 ^ n) = sumN (fun k => f (s + (k ^^^ m'))) (2 ^ n) := sumN_congr fun k hk => by rw [(hX k hk m' hm').2.2]
   rw [e1,e2,ih m' hm' (s + 2 ^ n),ih m' hm' s,Int.add_comm]
   congr 1
   exact sumN_congr fun k hk => by rw [Nat.add_assoc]
theorem sum_xor0 (f : Nat → Int) {n m : Nat} (hn : n ≤ 4) (hm : m < 2 ^ n) : sumN (fun i => f (i ^^^ m)) (2 ^ n) = sumN f (2 ^ n) := by
 have := sum_xor f n hn m hm 0
 simpa only [Nat.zero_add] using this
theorem xor_back (i m : Nat) : (i ^^^ m) ^^^ m = i := by rw [Nat.xor_assoc,Nat.xor_self,Nat.xor_zero]

theorem mulr_gen {p : Int} : ∀ (n : Nat),n ≤ 4 → ∀ (w x y : List Int) (m : Nat),m < 2 ^ n → gI (mulr p n w x y) m % p = sumN (fun i => gI x i * gI y (i ^^^ m) * axS n w i (i ^^^ m)) (2 ^ n) % p
 | 0,_,w,x,y,m,hm => by
  have : m = 0 := by simpa using hm
  subst this
  unfold mulr
  show gI x 0 * gI y 0 % p % p = _
  rw [emm]
  simp [sumN,axS]
 | n + 1,hn,w,x,y,m,hm => by
  have hpow : 2 ^ (n + 1) = 2 ^ n + 2 ^ n := by rw [Nat.pow_succ]; omega
  have hX := xor_hi n (by omega)
  have hlt : ∀ a b,a < 2 ^ n → b < 2 ^ n → a ^^^ b < 2 ^ n := fun a b ha hb => xor_lt ha hb
  have hre : ∀ (f : Nat → Int) (m : Nat),m < 2 ^ n → sumN (fun i => f (i ^^^ m)) (2 ^ n) = sumN f (2 ^ n) := fun f m h => sum_xor0 f (by omega) h
  have ih := mulr_gen (p := p) n (by omega) (w.take n)
  unfold mulr
  rw [hpow] at hm
  rw [hpow,sumN_split]
  generalize hd : 2 ^ n = d at hm hX hlt hre ih ⊢
  have hl : ∀ u v k,(plusv p d u v k).length = d := fun u v k => by unfold plusv; rw [vecN_len]
  rcases Nat.lt_or_ge m d with h | h
  ·rw [gI_append,if_pos (by rw [hl]; exact h),plusv_at h,emm,Int.add_emod,ih _ _ m h,Int.mul_emod,ih _ _ m h,← Int.mul_emod]
   have e1 : sumN (fun i => gI (x.take d) i * gI (y.take d) (i ^^^ m) * axS n (w.take n) i (i ^^^ m)) d = sumN (fun i => gI x i * gI y (i ^^^ m) * axS (n + 1) w i (i ^^^ m)) d := by
    refine sumN_congr fun i hi => ?_
    have hx := hlt i m hi h
    rw [gI_take hi,gI_take hx]
    conv => rhs; unfold axS
    rw [hd,if_pos hi,if_pos hx]
   have e2 : (gI w n * sumN (fun i => gI (starv p d (y.drop d)) i * gI (x.drop d) (i ^^^ m) * axS n (w.take n) i (i ^^^ m)) d) % p = sumN (fun i => gI x (d + i) * gI y ((d + i) ^^^ m) * axS (n + 1) w (d + i) ((d + i) ^^^ m)) d % p := by
    rw [← hre (fun i => gI (starv p d (y.drop d)) i * gI (x.drop d) (i ^^^ m) * axS n (w.take n) i (i ^^^ m)) m h,← sumN_mulL]
    refine sumN_mod fun i hi => ?_
    have hx := hlt i m hi h
    have hb := xor_back i m
    conv => rhs; unfold axS
    rw [hd,(hX i hi m h).2.1,if_neg (by omega),if_neg (by omega),Nat.add_sub_cancel_left,Nat.add_sub_cancel_left,hb,gI_drop]
    have hs := starv_at (p := p) (a := y.drop d) hx
    rw [gI_drop] at hs
    have a1 : gI w n * (gI (starv p d (y.drop d)) (i ^^^ m) * gI x (d + i) * axS n (w.take n) (i ^^^ m) i) = gI (starv p d (y.drop d)) (i ^^^ m) * (gI w n * gI x (d + i) * axS n (w.take n) (i ^^^ m) i) := by grind
    rw [a1,mul_mod_l hs]
    congr 1
    grind
   rw [e2,e1,← Int.add_emod]
  ·obtain ⟨m',rfl⟩ := Nat.exists_eq_add_of_le h
   have hm' : m' < d := by omega
   rw [gI_append,if_neg (by rw [hl]; omega),hl,Nat.add_sub_cancel_left,plusv_at hm',emm,Int.add_emod,ih _ _ m' hm',Int.mul_emod,ih _ _ m' hm',← Int.mul_emod,Int.one_mul]
   have e1 : sumN (fun i => gI (y.drop d) i * gI (x.take d) (i ^^^ m') * axS n (w.take n) i (i ^^^ m')) d = sumN (fun i => gI x i * gI y (i ^^^ (d + m')) * axS (n + 1) w i (i ^^^ (d + m'))) d := by
    rw [← hre (fun i => gI (y.drop d) i * gI (x.take d) (i ^^^ m') * axS n (w.take n) i (i ^^^ m')) m' hm']
    refine sumN_congr fun i hi => ?_
    have hx := hlt i m' hi hm'
    have hb := xor_back i m'
    conv => rhs; unfold axS
    rw [hd,(hX i hi m' hm').1,if_pos hi,if_neg (by omega),Nat.add_sub_cancel_left,hb,gI_drop,gI_take hi]
    grind
   have e2 : sumN (fun i => gI (x.drop d) i * gI (starv p d (y.take d)) (i ^^^ m') * axS n (w.take n) i (i ^^^ m')) d % p = sumN (fun i => gI x (d + i) * gI y ((d + i) ^^^ (d + m')) * axS (n + 1) w (d + i) ((d + i) ^^^ (d + m'))) d % p := by
    refine sumN_mod fun i hi => ?_
    have hx := hlt i m' hi hm'
    conv => rhs; unfold axS
    rw [hd,(hX i hi m' hm').2.2,if_neg (by omega),if_pos hx,Nat.add_sub_cancel_left,gI_drop]
    have hs := starv_at (p := p) (a := y.take d) hx
    rw [gI_take hx] at hs
    have a1 : gI x (d + i) * gI (starv p d (y.take d)) (i ^^^ m') * axS n (w.take n) i (i ^^^ m') = gI (starv p d (y.take d)) (i ^^^ m') * (gI x (d + i) * axS n (w.take n) i (i ^^^ m')) := by grind
    rw [a1,mul_mod_l hs]
    congr 1
    grind
   rw [e2,e1,← Int.add_emod]

/-! ### The sign of a product of axes, apart from the steps' numbers -/
def sgF : Nat → Nat → Nat → Int
 | 0,_,_ => 1
 | n + 1,i,j =>
  if i < 2 ^ n then (if j < 2 ^ n then sgF n i j else sgF n (j - 2 ^ n) i)
  else (if j < 2 ^ n then sgs j * sgF n (i - 2 ^ n) j else sgs (j - 2 ^ n) * sgF n (j - 2 ^ n) (i - 2 ^ n))
def wpF (w : List Int) : Nat → Nat → Int
 | 0,_ => 1
 | n + 1,m => (if m < 2 ^ n then 1 else gI w n) * wpF w n (m % 2 ^ n)
theorem wpF_take {w : List Int} {N : Nat} : ∀ n,n ≤ N → ∀ m,wpF (w.take N) n m = wpF w n m
 | 0,_,_ => rfl
 | n + 1,h,m => by
  unfold wpF
  rw [wpF_take n (by omega),gI_take (by omega)]
theorem and_lt' : ∀ n,n ≤ 4 → ∀ i,i < 2 ^ n → ∀ j,j < 2 ^ n → i &&& j < 2 ^ n := fun n _ i hi j hj => Nat.lt_of_le_of_lt Nat.and_le_left hi
theorem and_hi : ∀ n,n < 4 → ∀ i,i < 2 ^ n → ∀ j,j < 2 ^ n → i &&& (2 ^ n + j) = (i &&& j) ∧ (2 ^ n + i) &&& j = (i &&& j) ∧ (2 ^ n + i) &&& (2 ^ n + j) = 2 ^ n + (i &&& j) := by decide
theorem axS_split : ∀ n,n ≤ 4 → ∀ (w : List Int) i j,i < 2 ^ n → j < 2 ^ n → axS n w i j = sgF n i j * wpF w n (i &&& j)
 | 0,_,w,i,j,_,_ => rfl
 | n + 1,hn,w,i,j,hi,hj => by
  have hpow : 2 ^ (n + 1) = 2 ^ n + 2 ^ n := by rw [Nat.pow_succ]; omega
  rw [hpow] at hi hj
  have ih := axS_split n (by omega) (w.take n)
  have hA := and_hi n (by omega)
  have hL := and_lt' n (by omega)
  have hw := wpF_take (w := w) (N := n) n (Nat.le_refl _)
  unfold axS sgF wpF
  generalize hd : 2 ^ n = d at hi hj ih hA hL ⊢
  rcases Nat.lt_or_ge i d with h1 | h1 <;> rcases Nat.lt_or_ge j d with h2 | h2
  ·have h3 := hL i h1 j h2
   rw [if_pos h1,if_pos h2,if_pos h1,if_pos h2,if_pos h3,Int.one_mul,Nat.mod_eq_of_lt h3,ih i j h1 h2,hw]
  ·obtain ⟨j',rfl⟩ := Nat.exists_eq_add_of_le h2
   have h3 := hL i h1 j' (by omega)
   rw [if_pos h1,if_neg (by omega),if_pos h1,if_neg (by omega),Nat.add_sub_cancel_left,(hA i h1 j' (by omega)).1,if_pos h3,Int.one_mul,Nat.mod_eq_of_lt h3,ih j' i (by omega) h1,hw,Nat.and_comm]
  ·obtain ⟨i',rfl⟩ := Nat.exists_eq_add_of_le h1
   have h3 := hL i' (by omega) j h2
   rw [if_neg (by omega),if_pos h2,if_neg (by omega),if_pos h2,Nat.add_sub_cancel_left,(hA i' (by omega) j h2).2.1,if_pos h3,Int.one_mul,Nat.mod_eq_of_lt h3,ih i' j (by omega) h2,hw,Int.mul_assoc]
  ·obtain ⟨i',rfl⟩ := Nat.exists_eq_add_of_le h1
   obtain ⟨j',rfl⟩ := Nat.exists_eq_add_of_le h2
   have h3 := hL i' (by omega) j' (by omega)
   have h4 : (d + (i' &&& j')) % d = i' &&& j' := by rw [Nat.add_mod_left,Nat.mod_eq_of_lt h3]
   rw [if_neg (by omega),if_neg (by omega),if_neg (by omega),if_neg (by omega),Nat.add_sub_cancel_left,Nat.add_sub_cancel_left,(hA i' (by omega) j' (by omega)).2.2,if_neg (by omega),h4,ih j' i' (by omega) (by omega),hw,Nat.and_comm j' i']
   grind
end Go.Vam

/- Plain law: FnMultiplicationMatrices. -/
namespace Go.Vam
open Go Go.RowKit
set_option linter.unusedSimpArgs false
set_option linter.unusedVariables false
set_option linter.unusedSectionVars false

section
variable {p : Int} {w x : List Int} (hP : isP p = true) (hl : w.length ≤ 4) (hw : Vec p w.length w) (hx : Vec p (2 ^ w.length) x)
include hP hl hw hx
end
end Go.Vam

/- Plain law: FnMultiplicationMatrices, the end. -/
namespace Go.Vam
open Go Go.RowKit
set_option linter.unusedSimpArgs false
set_option linter.unusedVariables false
set_option linter.unusedSectionVars false

section
variable {p : Int} {w x : List Int} (hw : w.length ≤ 1048576) (hx : x.length ≤ 1048576)
include hw hx
end
section
variable {p : Int} {w x : List Int} (hD : isDb p w = true) (hx : Vec p (2 ^ w.length) x)
include hD hx
end
section
variable {p : Int} {w a b : List Int} (hP : isP p = true) (hl : w.length ≤ 3) (hw : Vec p w.length w) (ha : Vec p (2 ^ w.length) a) (hb : Vec p (2 ^ w.length) b) (ha0 : gI a 0 = 0) (hb0 : gI b 0 = 0)
include hP hl hw ha hb ha0 hb0
end
end Go.Vam

/- Plain law: FnInverses. -/
namespace Go.Vam
open Go Go.RowKit
set_option linter.unusedSimpArgs false
set_option linter.unusedVariables false
set_option linter.unusedSectionVars false

end Go.Vam

/- Plain laws: triples. -/
namespace Go.Vam
open Go Go.RowKit
set_option linter.unusedSimpArgs false
set_option linter.unusedVariables false
set_option linter.unusedSectionVars false

/-! ### The laws' helpers -/
section
variable {a b c : List (List Int)}
end

/-! ### UnitTriple -/
section
variable {p : Int} {w a b : List Int} (hP : isP p = true) (hl : w.length ≤ 4) (hw : Vec p w.length w) (ha : Vec p (2 ^ w.length) a) (hb : Vec p (2 ^ w.length) b)
include hP hl hw ha hb
end
abbrev gT3 (l : List (List (List Int) × List (List Int) × List (List Int))) (k : Nat) : List (List Int) × List (List Int) × List (List Int) := l.getD k ([],[],[])
def szTs (l : List (List (List Int) × List (List Int) × List (List Int))) : Prop := l.length ≤ 1024 ∧ ∀ x ∈ l,szM x.1 ∧ szM x.2.1 ∧ szM x.2.2
theorem szTs.at {l : List (List (List Int) × List (List Int) × List (List Int))} (h : szTs l) {k : Nat} (hk : k < l.length) : szM (gT3 l k).1 ∧ szM (gT3 l k).2.1 ∧ szM (gT3 l k).2.2 := by
 have := h.2 _ (List.getElem_mem hk)
 rwa [getD_get hk ([],[],[])] at this
section
variable {p : Int} {w : List Int} {l : List (List (List Int) × List (List Int) × List (List Int))} (hw : w.length ≤ 1048576) (hz : szTs l)
include hw hz
end
end Go.Vam

/- Plain laws: triples, turned and multiplied. -/
namespace Go.Vam
open Go Go.RowKit
set_option linter.unusedSimpArgs false
set_option linter.unusedVariables false
set_option linter.unusedSectionVars false

end Go.Vam
