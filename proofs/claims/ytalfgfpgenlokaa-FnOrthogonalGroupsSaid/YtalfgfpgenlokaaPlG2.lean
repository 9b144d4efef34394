import Derived.Test.YtalfgfpgenlokaaPlG1
/- Plain laws: what stands in the lists of orthogonal tables; products; determinants. -/
namespace Go.Vam
open Go Go.RowKit
set_option linter.unusedSimpArgs false
set_option linter.unusedVariables false
set_option linter.unusedSectionVars false

theorem likeI_ex {a b : List Int} (ha : a.length ≤ 1048576) : ∃ r,l_likeInts a b = some r := by
 unfold l_likeInts
 by_cases hl : a.length = b.length
 ·rw [if_neg (by omega)]
  obtain ⟨r,h1,h2⟩ := any_loop (l_likeInts_L0 a b) a.length (fun k => !decide (gI a k = gI b k)) (fun _ => false) (by rw [BIG_val]; omega)
   (fun k hk hf => by
    unfold l_likeInts_L0
    rw [if_pos (by omega),idxI hk,some_bind,idxI (by omega),some_bind,if_neg (by simpa using hf),w_in (by omega) (by omega)]; rfl) (fun k hk hf => by
    unfold l_likeInts_L0
    rw [if_pos (by omega),idxI hk,some_bind,idxI (by omega),some_bind,if_pos (by simpa using hf)]) (by
    unfold l_likeInts_L0
    rw [if_neg (by omega)])
  rw [h1,some_bind]
  cases r <;> exact ⟨_,rfl⟩
 ·rw [if_pos (by omega)]; exact ⟨_,rfl⟩
theorem likeR_ex {a b : List (List Int)} (h : szM a) : ∃ r,l_likeRows5 a b = some r := by
 unfold l_likeRows5
 have h1 := h.1
 by_cases hl : a.length = b.length
 ·rw [if_neg (by omega)]
  have hr : ∀ k,k < a.length → ∃ r,l_likeInts (gR a k) (gR b k) = some r := fun k hk => likeI_ex (h.2 _ (by rw [← gR_get hk]; exact List.getElem_mem hk))
  obtain ⟨f,hf⟩ : ∃ f : Nat → Bool,∀ k,k < a.length → l_likeInts (gR a k) (gR b k) = some (!f k) := by
   refine ⟨fun k => !((l_likeInts (gR a k) (gR b k)).getD false),fun k hk => ?_⟩
   obtain ⟨r,hr⟩ := hr k hk
   dsimp only
   rw [hr]; simp
  obtain ⟨r,h1,h2⟩ := any_loop (l_likeRows5_L0 a b) a.length f (fun _ => false) (by rw [BIG_val]; omega)
   (fun k hk hk2 => by
    unfold l_likeRows5_L0
    rw [if_pos (by omega),idxR hk,some_bind,idxR (by omega),some_bind,hf k hk,some_bind,hk2,if_neg (by simp),w_in (by omega) (by omega)]; rfl) (fun k hk hk2 => by
    unfold l_likeRows5_L0
    rw [if_pos (by omega),idxR hk,some_bind,idxR (by omega),some_bind,hf k hk,some_bind,hk2,if_pos (by simp)]) (by
    unfold l_likeRows5_L0
    rw [if_neg (by omega)])
  rw [h1,some_bind]
  cases r <;> exact ⟨_,rfl⟩
 ·rw [if_pos (by omega)]; exact ⟨_,rfl⟩

def PG (p : Int) (n : Nat) (w : List Int) (C : List (List Int)) : Prop := RowsV p n C ∧ ∀ i j,i < C.length → j < C.length → pairp p n w (gR C i) (gR C j) = if i = j then gI w i else 0
section
variable {p : Int} {n : Nat} {w : List Int}
theorem fitB_iff {s : Int} {C : List (List Int)} {x : List Int} : fitB p n w s C x = true ↔ pairp p n w x x = s ∧ ∀ i,i < C.length → pairp p n w x (gR C i) = 0 := by
 unfold fitB
 rw [Bool.and_eq_true,List.all_eq_true,decide_eq_true_eq]
 exact and_congr Iff.rfl ⟨fun h i hi => of_decide_eq_true (h i (List.mem_range.2 hi)),fun h i hi => decide_eq_true (h i (List.mem_range.1 hi))⟩
theorem PG.snoc {C : List (List Int)} {x : List Int} (h : PG p n w C) (hx : Vec p n x) (hf : fitB p n w (gI w C.length) C x = true) : PG p n w (C ++ [x]) := by
 obtain ⟨f1,f2⟩ := fitB_iff.1 hf
 refine ⟨fun r hr => ?_,fun i j hi hj => ?_⟩
 ·rcases List.mem_append.1 hr with h' | h'
  ·exact h.1 r h'
  ·rw [List.mem_singleton.1 h']; exact hx
 ·rw [List.length_append,List.length_singleton] at hi hj
  have hx0 : gR [x] (C.length - C.length) = x := by rw [Nat.sub_self]; rfl
  rw [gR_append,gR_append]
  by_cases h1 : i < C.length <;> by_cases h2 : j < C.length
  ·rw [if_pos h1,if_pos h2]; exact h.2 i j h1 h2
  ·have : j = C.length := by omega
   subst this
   rw [if_pos h1,if_neg h2,hx0,pairp_comm,f2 i h1,if_neg (by omega)]
  ·have : i = C.length := by omega
   subst this
   rw [if_neg h1,if_pos h2,hx0,f2 j h2,if_neg (by omega)]
  ·have e1 : i = C.length := by omega
   have e2 : j = C.length := by omega
   subst e1
   rw [e2,if_neg (by omega),hx0,if_pos rfl,f1]
variable (hp : 3 ≤ p) (hp2 : p ≤ 13)
include hp hp2
theorem grow_sound : ∀ (j : Nat) (C : List (List Int)),C.length + j = n → PG p n w C → ∀ D ∈ growC p n w (allV p n) j C,D.length = n ∧ PG p n w D
 | 0,C,hl,h,D,hD => by
  simp only [growC,List.mem_singleton] at hD
  subst hD
  exact ⟨by omega,h⟩
 | j + 1,C,hl,h,D,hD => by
  simp only [growC,List.mem_flatMap,List.mem_filter] at hD
  obtain ⟨x,⟨hx,hf⟩,hD⟩ := hD
  exact grow_sound j (C ++ [x]) (by simp; omega) (h.snoc ((mem_allV hp hp2).1 hx) hf) D hD
theorem grow_full {D : List (List Int)} (hl : D.length = n) (h : PG p n w D) : ∀ j,j ≤ n → D ∈ growC p n w (allV p n) j (D.take (n - j))
 | 0,_ => by
  rw [Nat.sub_zero,← hl,List.take_length]
  simp [growC]
 | j + 1,hj => by
  have hk : n - (j + 1) < D.length := by omega
  have hlen : (D.take (n - (j + 1))).length = n - (j + 1) := by rw [List.length_take]; omega
  have ht : D.take (n - (j + 1)) ++ [gR D (n - (j + 1))] = D.take (n - j) := by
   rw [show n - j = n - (j + 1) + 1 by omega,List.take_succ_eq_append_getElem hk,gR_get hk]
  have hgt : ∀ i,i < n - (j + 1) → gR (D.take (n - (j + 1))) i = gR D i := fun i hi => by
   unfold gR
   rw [List.getD_eq_getElem?_getD,List.getD_eq_getElem?_getD,List.getElem?_take_of_lt hi]
  have hv := h.1.gR hk
  simp only [growC,List.mem_flatMap,List.mem_filter]
  refine ⟨gR D (n - (j + 1)),⟨(mem_allV hp hp2).2 hv,fitB_iff.2 ⟨?_,fun i hi => ?_⟩⟩,?_⟩
  ·rw [hlen,h.2 _ _ hk hk,if_pos rfl]
  ·rw [hlen] at hi
   rw [hgt i hi,h.2 _ _ hk (by omega),if_neg (by omega)]
  ·rw [ht]
   exact grow_full hl h j (by omega)
theorem PG.nil : PG p n w [] := ⟨fun r hr => (by cases hr),fun i j hi _ => absurd hi (Nat.not_lt_zero _)⟩
theorem mem_grow {D : List (List Int)} : D ∈ growC p n w (allV p n) n [] ↔ D.length = n ∧ PG p n w D := by
 refine ⟨fun h => grow_sound hp hp2 n [] (by simp) (PG.nil hp hp2) D h,fun h => ?_⟩
 have := grow_full hp hp2 h.1 h.2 n (Nat.le_refl _)
 rwa [Nat.sub_self,List.take_zero] at this
end
section
variable {p : Int} {n : Nat} {w : List Int} (hP : isP p = true) (hn0 : 1 ≤ n) (hn : n ≤ 6) (hwl : w.length = n) (hs : isSp p w = true) (hw : Vec p n w) (hw0 : ∀ i,i < n → gI w i ≠ 0)
include hP hn0 hn hw hw0 hwl hs
theorem PG.mat {C : List (List Int)} (hl : C.length = n) (h : PG p n w C) : Mat p n n C ∧ GramR p n w w C :=
 ⟨⟨hl,fun i hi => h.1.gR (by omega)⟩,fun i j hi hj => h.2 i j (by omega) (by omega)⟩
theorem grow_mul {C1 C2 : List (List Int)} (h1 : C1 ∈ growC p n w (allV p n) n []) (h2 : C2 ∈ growC p n w (allV p n) n []) : ∃ D ∈ growC p n w (allV p n) n [],timesm p n n n (turnm n n C1) (turnm n n C2) = turnm n n D := by
 have hp := isP_le hP
 obtain ⟨l1,g1⟩ := (mem_grow hp.1 hp.2).1 h1
 obtain ⟨l2,g2⟩ := (mem_grow hp.1 hp.2).1 h2
 obtain ⟨m1,q1⟩ := PG.mat hP hn0 hn hwl hs hw hw0 l1 g1
 obtain ⟨m2,q2⟩ := PG.mat hP hn0 hn hwl hs hw hw0 l2 g2
 have hr : ∀ j,j < n → gR (vecN n fun j => applyv p n n (turnm n n C1) (gR C2 j)) j = applyv p n n (turnm n n C1) (gR C2 j) := fun j hj => gR_vecN _ hj
 obtain ⟨D,hD⟩ : ∃ D,D = vecN n fun j => applyv p n n (turnm n n C1) (gR C2 j) := ⟨_,rfl⟩
 rw [← hD] at hr
 have hDl : D.length = n := by rw [hD]; exact vecN_len _ _
 have hDR : RowsV p n D := fun r hr => by
  rw [hD] at hr
  unfold vecN at hr
  rw [List.mem_map] at hr
  obtain ⟨j,_,rfl⟩ := hr
  exact applyv_vec (by omega) ..
 have hDm : Mat p n n D := ⟨hDl,fun i hi => hDR.gR (by omega)⟩
 refine ⟨D,(mem_grow hp.1 hp.2).2 ⟨hDl,hDR,fun i j hi hj => ?_⟩,?_⟩
 ·rw [hDl] at hi hj
  rw [hr i hi,hr j hj,keeps_pair hP hn0 hn hw hw0 hw m1 q1 (m2.row hi) (m2.row hj)]
  exact q2 i j hi hj
 ·have hT := timesm_mat (p := p) (by omega) n n n (turnm n n C1) (turnm n n C2)
  have hTT := turnm_mat hDm
  refine (extR (f := fun i => gR (turnm n n D) i) hT.1 fun i hi => ?_).trans (extR hTT.1 fun _ _ => rfl).symm
  refine (extI (f := fun k => gI (gR (turnm n n D) i) k) (hT.row hi).1 fun k hk => ?_).trans (extI (hTT.row hi).1 fun _ _ => rfl).symm
  rw [timesm_at hi hk,turnm_at hk hi,hr k hk]
  unfold applyv
  rw [gI_vecN _ hi]
  unfold dotp
  congr 1
  exact sumN_congr fun j hj => by rw [turnm_at hk hj]
theorem proper_eq {C : List (List Int)} (h1 : C ∈ growC p n w (allV p n) n []) : i_IsProper p w (turnm n n C) = some (decide (detL n (turnm n n C) % p = 1),0) := by
 have hp := isP_le hP
 obtain ⟨l1,g1⟩ := (mem_grow hp.1 hp.2).1 h1
 obtain ⟨m1,q1⟩ := PG.mat hP hn0 hn hwl hs hw hw0 l1 g1
 have hM := turnm_mat m1
 have hz := hM.sz (show n ≤ 1048576 by omega) (show n ≤ 1048576 by omega)
 obtain ⟨b,_,b2,_⟩ := Isometry_eq hs hz
 have t := iso_true hP hn0 hn hw hw0 hw m1 q1 hs hs hwl hwl
 obtain ⟨d,_,d1,_,d2,d3,d4⟩ := Det_val hP (show n ≤ 1048576 by omega) hM
 have hb : b = true := by
  unfold i_IsIsometry at t
  rw [checkSpaces_eq (by simp) (by intro x hx; simp at hx; rcases hx with rfl | rfl <;> simp only <;> omega),some_bind] at t
  simp only [List.any_cons,List.any_nil,hs,Bool.not_true,Bool.or_self,Bool.false_eq_true,if_false,not_true_eq_false,some_bind,b2,Option.some.injEq,Prod.mk.injEq,and_true] at t
  simpa using t
 have hzz : hasZ w = false := by
  rw [Bool.eq_false_iff]
  intro h
  unfold hasZ at h
  rw [List.any_eq_true] at h
  obtain ⟨x,hx,h0⟩ := h
  obtain ⟨i,hi,rfl⟩ := List.getElem_of_mem hx
  exact hw0 i (by omega) (by rw [← gI_get hi]; exact (of_decide_eq_true h0).symm)
 unfold i_IsProper i_checkOrthogonal i_Space_field
 rw [i_IsSpace_eq (by omega),some_bind,hs,if_neg (by simp),i_Space_regular_eq (by omega),some_bind,hzz,if_neg (by simp),b2,some_bind,hb,if_neg (by simp),some_bind,if_neg (by simp),some_bind,d1,some_bind]
 have e : detL n (turnm n n C) % p = d := by
  obtain ⟨m,hm⟩ := d4
  rw [show detL n (turnm n n C) = d + p * (-m) by rw [Int.mul_neg]; omega,Int.add_mul_emod_self_left,Int.emod_eq_of_lt d2 d3]
 rw [e]
 rfl
end
end Go.Vam

/- Plain laws: how many orthogonal tables there are, by evaluation. -/
namespace Go.Vam
open Go Go.RowKit
set_option linter.unusedSimpArgs false
set_option linter.unusedVariables false
set_option linter.unusedSectionVars false
set_option maxRecDepth 100000

/-! ### Sums over lists -/
noncomputable def sumR {α : Type} (f : α → Nat) (l : List α) : Nat := List.rec (motive := fun _ => Nat) 0 (fun x _ r => Nat.add (f x) r) l
noncomputable def filR {α : Type} (f : α → Bool) (l : List α) : List α := List.rec (motive := fun _ => List α) [] (fun x _ r => Bool.rec r (x :: r) (f x)) l
theorem sumR_nil {α : Type} (f : α → Nat) : sumR f [] = 0 := rfl
theorem sumR_cons {α : Type} (f : α → Nat) (x : α) (l : List α) : sumR f (x :: l) = f x + sumR f l := rfl
theorem sumR_append {α : Type} (f : α → Nat) (l m : List α) : sumR f (l ++ m) = sumR f l + sumR f m := by
 induction l with
 | nil => rw [List.nil_append,sumR_nil,Nat.zero_add]
 | cons x l ih => rw [List.cons_append,sumR_cons,sumR_cons,ih,Nat.add_assoc]
theorem sumR_congr {α : Type} {f g : α → Nat} {l : List α} (h : ∀ x ∈ l,f x = g x) : sumR f l = sumR g l := by
 induction l with
 | nil => rfl
 | cons x l ih => rw [sumR_cons,sumR_cons,h x (by simp),ih fun y hy => h y (by simp [hy])]
theorem sumR_map {α β : Type} (f : β → Nat) (g : α → β) (l : List α) : sumR f (l.map g) = sumR (fun x => f (g x)) l := by
 induction l with
 | nil => rfl
 | cons x l ih => rw [List.map_cons,sumR_cons,sumR_cons,ih]
theorem sumR_flatMap {α β : Type} (f : β → Nat) (g : α → List β) (l : List α) : sumR f (l.flatMap g) = sumR (fun x => sumR f (g x)) l := by
 induction l with
 | nil => rfl
 | cons x l ih => rw [List.flatMap_cons,sumR_append,sumR_cons,ih]
theorem sumR_filter {α : Type} (f : α → Nat) (b : α → Bool) (l : List α) : sumR f (l.filter b) = sumR (fun x => if b x = true then f x else 0) l := by
 induction l with
 | nil => rfl
 | cons x l ih =>
  rw [sumR_cons,← ih]
  cases h : b x with
  | true => rw [List.filter_cons_of_pos h,sumR_cons,if_pos rfl]
  | false => rw [List.filter_cons_of_neg (by simp [h]),if_neg (by simp),Nat.zero_add]
theorem sumR_filR {α : Type} (f : α → Nat) (b : α → Bool) (l : List α) : sumR f (filR b l) = sumR (fun x => if b x = true then f x else 0) l := by
 have : filR b l = l.filter b := by
  induction l with
  | nil => rfl
  | cons x l ih =>
   show @Bool.rec (fun _ => List α) (filR b l) (x :: filR b l) (b x) = _
   rw [ih]
   cases h : b x with
   | true => rw [List.filter_cons_of_pos h]
   | false => rw [List.filter_cons_of_neg (by simp [h])]
 rw [this,sumR_filter]
theorem sumR_len {α : Type} (b : α → Bool) (B : Nat) (l : List α) : sumR (fun x => if b x = true then B + 1 else 1) l = l.length + B * l.countP b := by
 induction l with
 | nil => simp [sumR_nil]
 | cons x l ih =>
  rw [sumR_cons,ih,List.length_cons]
  cases h : b x with
  | true => rw [List.countP_cons_of_pos h,if_pos rfl,Nat.mul_add]; omega
  | false => rw [List.countP_cons_of_neg (by simp [h]),if_neg (by simp)]; omega
theorem sumR_le {α : Type} {f : α → Nat} {b : Nat} {l : List α} (h : ∀ x ∈ l,f x ≤ b) : sumR f l ≤ l.length * b := by
 induction l with
 | nil => simp [sumR_nil]
 | cons x l ih =>
  rw [sumR_cons,List.length_cons,Nat.succ_mul]
  have h1 := h x (by simp)
  have h2 := ih fun y hy => h y (by simp [hy])
  omega
theorem len_sum {α : Type} (l : List α) : l.length = sumR (fun _ => 1) l := by
 induction l with
 | nil => rfl
 | cons x l ih => rw [sumR_cons,List.length_cons,ih]; omega
theorem grow_len {p : Int} {n : Nat} {w : List Int} {V : List (List Int)} : ∀ (j : Nat) (C : List (List Int)),(growC p n w V j C).length ≤ V.length ^ j
 | 0,C => by simp [growC]
 | j + 1,C => by
  simp only [growC]
  rw [len_sum,sumR_flatMap,Nat.pow_succ,Nat.mul_comm]
  refine Nat.le_trans (sumR_le (b := V.length ^ j) fun x _ => ?_) (Nat.mul_le_mul_right _ (List.length_filter_le _ _))
  rw [← len_sum]
  exact grow_len j _

/-! ### Three dimensions -/
def T3 (p : Nat) : List (Nat × Nat × Nat) := (List.range p).flatMap fun a => (List.range p).flatMap fun b => (List.range p).map fun c => (a,b,c)
def dt3 (a b c : Nat) (x y : Nat × Nat × Nat) : Nat := Nat.add (Nat.mul a (Nat.mul x.1 y.1)) (Nat.add (Nat.mul b (Nat.mul x.2.1 y.2.1)) (Nat.mul c (Nat.mul x.2.2 y.2.2)))
def or3 (p a b c : Nat) (x y : Nat × Nat × Nat) : Bool := Nat.beq (Nat.mod (dt3 a b c x y) p) 0
def no3 (p a b c s : Nat) (x : Nat × Nat × Nat) : Bool := Nat.beq (Nat.mod (dt3 a b c x x) p) s
def dp3 (x y z : Nat × Nat × Nat) : Nat := Nat.add (Nat.mul x.1 (Nat.mul y.2.1 z.2.2)) (Nat.add (Nat.mul x.2.1 (Nat.mul y.2.2 z.1)) (Nat.mul x.2.2 (Nat.mul y.1 z.2.1)))
def dm3 (x y z : Nat × Nat × Nat) : Nat := Nat.add (Nat.mul x.1 (Nat.mul y.2.2 z.2.1)) (Nat.add (Nat.mul x.2.1 (Nat.mul y.1 z.2.2)) (Nat.mul x.2.2 (Nat.mul y.2.1 z.1)))
noncomputable def E3 (p a b c : Nat) : Nat :=
 sumR (fun x => sumR (fun y => Bool.rec 0 (sumR (fun z => Bool.rec 0 (Bool.rec 0 (Bool.rec 1 10000001 (Nat.beq (Nat.mod (dp3 x y z) p) (Nat.mod (Nat.add (dm3 x y z) 1) p))) (or3 p a b c z y)) (or3 p a b c z x)) (filR (no3 p a b c c) (T3 p))) (or3 p a b c y x)) (filR (no3 p a b c b) (T3 p))) (filR (no3 p a b c a) (T3 p))
def toV3 (x : Nat × Nat × Nat) : List Int := [Int.ofNat x.1,Int.ofNat x.2.1,Int.ofNat x.2.2]
def wtD (p : Int) (n : Nat) (C : List (List Int)) : Nat := if decide (detL n (turnm n n C) % p = 1) = true then 10000000 + 1 else 1
theorem mod_one_iff {p dp dm : Nat} (hp : 3 ≤ p) : ((dp : Int) - dm) % (p : Int) = 1 ↔ dp % p = (dm + 1) % p := by
 have h1 : (1 : Int) = 1 % (p : Int) := (Int.emod_eq_of_lt (by omega) (by omega)).symm
 have e1 : ((dp : Int) - dm) % (p : Int) = 1 ↔ ((dp : Int) - dm - 1) % (p : Int) = 0 := by
  conv => lhs; rhs; rw [h1]
  exact Int.emod_eq_emod_iff_emod_sub_eq_zero
 have e2 : (dp : Int) % (p : Int) = ((dm + 1 : Nat) : Int) % (p : Int) ↔ ((dp : Int) - ((dm + 1 : Nat) : Int)) % (p : Int) = 0 := Int.emod_eq_emod_iff_emod_sub_eq_zero
 rw [e1,show (dp : Int) - dm - 1 = (dp : Int) - ((dm + 1 : Nat) : Int) by omega,← e2]
 omega
theorem pair3 (p a b c : Nat) (x y : Nat × Nat × Nat) : pairp (p : Int) 3 [Int.ofNat a,Int.ofNat b,Int.ofNat c] (toV3 x) (toV3 y) = ((dt3 a b c x y % p : Nat) : Int) := by
 unfold pairp dt3 toV3
 simp only [sumN,gI,List.getD_cons_zero,List.getD_cons_succ,Nat.mul_eq,Nat.add_eq,Int.ofNat_eq_natCast,Int.natCast_emod,Int.natCast_add,Int.natCast_mul]
 congr 1
 grind
theorem det3 {p : Nat} (hp : 3 ≤ p) (x y z : Nat × Nat × Nat) : wtD (p : Int) 3 [toV3 x,toV3 y,toV3 z] = Bool.rec 1 10000001 (Nat.beq (Nat.mod (dp3 x y z) p) (Nat.mod (Nat.add (dm3 x y z) 1) p)) := by
 have hd : detL 3 (turnm 3 3 [toV3 x,toV3 y,toV3 z]) = (dp3 x y z : Int) - (dm3 x y z : Int) := by
  unfold detL dp3 dm3 toV3
  simp only [detN,asN,turnm,vecN,sumN,sgnN,skipN,gR,gI,List.range,List.range.loop,List.map_cons,List.map_nil,List.getD_cons_zero,List.getD_cons_succ,Nat.mul_eq,Nat.add_eq,Int.ofNat_eq_natCast,Int.natCast_add,Int.natCast_mul]
  simp
  grind
 unfold wtD
 rw [hd]
 have hb : decide (((dp3 x y z : Int) - (dm3 x y z : Int)) % (p : Int) = 1) = Nat.beq (Nat.mod (dp3 x y z) p) (Nat.mod (Nat.add (dm3 x y z) 1) p) := by
  rw [Bool.eq_iff_iff,decide_eq_true_eq,mod_one_iff hp,Nat.beq_eq]
  rfl
 rw [hb]
 cases Nat.beq (Nat.mod (dp3 x y z) p) (Nat.mod (Nat.add (dm3 x y z) 1) p) <;> rfl
theorem beq_cast (m s : Nat) : decide ((m : Int) = Int.ofNat s) = Nat.beq m s := by
 rw [Bool.eq_iff_iff,decide_eq_true_eq,Nat.beq_eq,Int.ofNat_eq_natCast]
 omega
theorem beq_cast0 (m : Nat) : decide ((m : Int) = 0) = Nat.beq m 0 := beq_cast m 0
theorem fit30 (p a b c : Nat) (x : Nat × Nat × Nat) : fitB (p : Int) 3 [Int.ofNat a,Int.ofNat b,Int.ofNat c] (gI [Int.ofNat a,Int.ofNat b,Int.ofNat c] 0) [] (toV3 x) = no3 p a b c a x := by
 unfold fitB no3
 rw [pair3]
 show (decide _ && true) = _
 rw [Bool.and_true]
 exact beq_cast _ a
theorem fit31 (p a b c : Nat) (x y : Nat × Nat × Nat) : fitB (p : Int) 3 [Int.ofNat a,Int.ofNat b,Int.ofNat c] (gI [Int.ofNat a,Int.ofNat b,Int.ofNat c] (0 + 1)) [toV3 x] (toV3 y) = (no3 p a b c b y && or3 p a b c y x) := by
 unfold fitB no3 or3
 rw [pair3]
 show (decide _ && (decide (pairp _ 3 _ (toV3 y) (toV3 x) = 0) && true)) = _
 rw [Bool.and_true,pair3,beq_cast0]
 exact congrArg (· && _) (beq_cast _ b)
theorem fit32 (p a b c : Nat) (x y z : Nat × Nat × Nat) : fitB (p : Int) 3 [Int.ofNat a,Int.ofNat b,Int.ofNat c] (gI [Int.ofNat a,Int.ofNat b,Int.ofNat c] (0 + 1 + 1)) [toV3 x,toV3 y] (toV3 z) = (no3 p a b c c z && (or3 p a b c z x && or3 p a b c z y)) := by
 unfold fitB no3 or3
 rw [pair3]
 show (decide _ && (decide (pairp _ 3 _ (toV3 z) (toV3 x) = 0) && (decide (pairp _ 3 _ (toV3 z) (toV3 y) = 0) && true))) = _
 rw [Bool.and_true,pair3,pair3,beq_cast0,beq_cast0]
 exact congrArg (· && _) (beq_cast _ c)
theorem grow3 {p : Nat} (hp : 3 ≤ p) (a b c : Nat) : sumR (wtD (p : Int) 3) (growC (p : Int) 3 [Int.ofNat a,Int.ofNat b,Int.ofNat c] ((T3 p).map toV3) 3 []) = E3 p a b c := by
 unfold E3
 simp only [growC,sumR_flatMap,sumR_filter,sumR_filR,sumR_map,List.length_nil,List.length_cons,List.nil_append,List.cons_append,sumR_cons,sumR_nil,Nat.add_zero]
 refine sumR_congr fun x _ => ?_
 rw [fit30]
 cases no3 p a b c a x with
 | false => rfl
 | true =>
  rw [if_pos rfl,if_pos rfl]
  refine sumR_congr fun y _ => ?_
  rw [fit31]
  cases no3 p a b c b y with
  | false => rfl
  | true =>
   cases or3 p a b c y x with
   | false => rfl
   | true =>
    refine Eq.trans (if_pos rfl) (sumR_congr fun z _ => ?_)
    rw [fit32]
    cases no3 p a b c c z with
    | false => rfl
    | true =>
     cases or3 p a b c z x with
     | false => rfl
     | true =>
      cases or3 p a b c z y with
      | false => rfl
      | true => exact Eq.trans (if_pos rfl) (det3 hp x y z)

/-! ### Two dimensions -/
def T2 (p : Nat) : List (Nat × Nat) := (List.range p).flatMap fun a => (List.range p).map fun b => (a,b)
def dt2 (a b : Nat) (x y : Nat × Nat) : Nat := Nat.add (Nat.mul a (Nat.mul x.1 y.1)) (Nat.mul b (Nat.mul x.2 y.2))
def or2 (p a b : Nat) (x y : Nat × Nat) : Bool := Nat.beq (Nat.mod (dt2 a b x y) p) 0
def no2 (p a b s : Nat) (x : Nat × Nat) : Bool := Nat.beq (Nat.mod (dt2 a b x x) p) s
noncomputable def E2 (p a b : Nat) : Nat :=
 sumR (fun x => sumR (fun y => Bool.rec 0 (Bool.rec 1 10000001 (Nat.beq (Nat.mod (Nat.mul x.1 y.2) p) (Nat.mod (Nat.add (Nat.mul x.2 y.1) 1) p))) (or2 p a b y x)) (filR (no2 p a b b) (T2 p))) (filR (no2 p a b a) (T2 p))
def toV2 (x : Nat × Nat) : List Int := [Int.ofNat x.1,Int.ofNat x.2]
theorem pair2 (p a b : Nat) (x y : Nat × Nat) : pairp (p : Int) 2 [Int.ofNat a,Int.ofNat b] (toV2 x) (toV2 y) = ((dt2 a b x y % p : Nat) : Int) := by
 unfold pairp dt2 toV2
 simp only [sumN,gI,List.getD_cons_zero,List.getD_cons_succ,Nat.mul_eq,Nat.add_eq,Int.ofNat_eq_natCast,Int.natCast_emod,Int.natCast_add,Int.natCast_mul]
 congr 1
 grind
theorem det2 {p : Nat} (hp : 3 ≤ p) (x y : Nat × Nat) : wtD (p : Int) 2 [toV2 x,toV2 y] = Bool.rec 1 10000001 (Nat.beq (Nat.mod (Nat.mul x.1 y.2) p) (Nat.mod (Nat.add (Nat.mul x.2 y.1) 1) p)) := by
 have hd : detL 2 (turnm 2 2 [toV2 x,toV2 y]) = ((Nat.mul x.1 y.2 : Nat) : Int) - ((Nat.mul x.2 y.1 : Nat) : Int) := by
  unfold detL toV2
  simp only [detN,asN,turnm,vecN,sumN,sgnN,skipN,gR,gI,List.range,List.range.loop,List.map_cons,List.map_nil,List.getD_cons_zero,List.getD_cons_succ,Nat.mul_eq,Nat.add_eq,Int.ofNat_eq_natCast,Int.natCast_add,Int.natCast_mul]
  simp
  grind
 unfold wtD
 rw [hd]
 have hb : decide ((((Nat.mul x.1 y.2 : Nat) : Int) - ((Nat.mul x.2 y.1 : Nat) : Int)) % (p : Int) = 1) = Nat.beq (Nat.mod (Nat.mul x.1 y.2) p) (Nat.mod (Nat.add (Nat.mul x.2 y.1) 1) p) := by
  rw [Bool.eq_iff_iff,decide_eq_true_eq,mod_one_iff hp,Nat.beq_eq]
  rfl
 rw [hb]
 cases Nat.beq (Nat.mod (Nat.mul x.1 y.2) p) (Nat.mod (Nat.add (Nat.mul x.2 y.1) 1) p) <;> rfl
theorem fit20 (p a b : Nat) (x : Nat × Nat) : fitB (p : Int) 2 [Int.ofNat a,Int.ofNat b] (gI [Int.ofNat a,Int.ofNat b] 0) [] (toV2 x) = no2 p a b a x := by
 unfold fitB no2
 rw [pair2]
 show (decide _ && true) = _
 rw [Bool.and_true]
 exact beq_cast _ a
theorem fit21 (p a b : Nat) (x y : Nat × Nat) : fitB (p : Int) 2 [Int.ofNat a,Int.ofNat b] (gI [Int.ofNat a,Int.ofNat b] (0 + 1)) [toV2 x] (toV2 y) = (no2 p a b b y && or2 p a b y x) := by
 unfold fitB no2 or2
 rw [pair2]
 show (decide _ && (decide (pairp _ 2 _ (toV2 y) (toV2 x) = 0) && true)) = _
 rw [Bool.and_true,pair2,beq_cast0]
 exact congrArg (· && _) (beq_cast _ b)
theorem grow2 {p : Nat} (hp : 3 ≤ p) (a b : Nat) : sumR (wtD (p : Int) 2) (growC (p : Int) 2 [Int.ofNat a,Int.ofNat b] ((T2 p).map toV2) 2 []) = E2 p a b := by
 unfold E2
 simp only [growC,sumR_flatMap,sumR_filter,sumR_filR,sumR_map,List.length_nil,List.length_cons,List.nil_append,List.cons_append,sumR_cons,sumR_nil,Nat.add_zero]
 refine sumR_congr fun x _ => ?_
 rw [fit20]
 cases no2 p a b a x with
 | false => rfl
 | true =>
  rw [if_pos rfl,if_pos rfl]
  refine sumR_congr fun y _ => ?_
  rw [fit21]
  cases no2 p a b b y with
  | false => rfl
  | true =>
   cases or2 p a b y x with
   | false => rfl
   | true => exact Eq.trans (if_pos rfl) (det2 hp x y)

/-! ### One dimension -/
def no1 (p a : Nat) (x : Nat) : Bool := Nat.beq (Nat.mod (Nat.mul a (Nat.mul x x)) p) a
noncomputable def E1 (p a : Nat) : Nat := sumR (fun x => Bool.rec 1 10000001 (Nat.beq (Nat.mod x p) 1)) (filR (no1 p a) (List.range p))
def toV1 (x : Nat) : List Int := [Int.ofNat x]
theorem det1 {p : Nat} (x : Nat) : wtD (p : Int) 1 [toV1 x] = Bool.rec 1 10000001 (Nat.beq (Nat.mod x p) 1) := by
 have hd : detL 1 (turnm 1 1 [toV1 x]) = (x : Int) := by
  unfold detL toV1
  simp only [detN,asN,turnm,vecN,sumN,sgnN,skipN,gR,gI,List.range,List.range.loop,List.map_cons,List.map_nil,List.getD_cons_zero,List.getD_cons_succ,Nat.mul_eq,Nat.add_eq,Int.ofNat_eq_natCast,Int.natCast_add,Int.natCast_mul]
  simp
 unfold wtD
 rw [hd]
 have hb : decide ((x : Int) % (p : Int) = 1) = Nat.beq (Nat.mod x p) 1 := by
  rw [Bool.eq_iff_iff,decide_eq_true_eq,Nat.beq_eq]
  show (x : Int) % (p : Int) = 1 ↔ x % p = 1
  omega
 rw [hb]
 cases Nat.beq (Nat.mod x p) 1 <;> rfl
theorem fit10 (p a : Nat) (x : Nat) : fitB (p : Int) 1 [Int.ofNat a] (gI [Int.ofNat a] 0) [] (toV1 x) = no1 p a x := by
 have hp1 : pairp (p : Int) 1 [Int.ofNat a] (toV1 x) (toV1 x) = ((Nat.mod (Nat.mul a (Nat.mul x x)) p : Nat) : Int) := by
  unfold pairp toV1
  simp only [sumN,gI,List.getD_cons_zero,List.getD_cons_succ,Nat.mul_eq,Nat.add_eq,Int.ofNat_eq_natCast]
  show _ = ((a * (x * x) % p : Nat) : Int)
  rw [Int.natCast_emod,Int.natCast_mul,Int.natCast_mul]
  congr 1
  grind
 unfold fitB no1
 rw [hp1]
 show (decide _ && true) = _
 rw [Bool.and_true]
 exact beq_cast _ a
theorem grow1 {p : Nat} (a : Nat) : sumR (wtD (p : Int) 1) (growC (p : Int) 1 [Int.ofNat a] ((List.range p).map toV1) 1 []) = E1 p a := by
 unfold E1
 simp only [growC,sumR_flatMap,sumR_filter,sumR_filR,sumR_map,List.length_nil,List.length_cons,List.nil_append,List.cons_append,sumR_cons,sumR_nil,Nat.add_zero]
 refine sumR_congr fun x _ => ?_
 rw [fit10]
 cases no1 p a x with
 | false => rfl
 | true =>
  rw [if_pos rfl,if_pos rfl]
  exact det1 x
end Go.Vam

/- Plain laws: the evaluations: how many orthogonal tables, how many proper ones; both programs' counts. -/
namespace Go.Vam
open Go Go.RowKit
set_option linter.unusedSimpArgs false
set_option linter.unusedVariables false
set_option linter.unusedSectionVars false
set_option maxRecDepth 100000

theorem allV3_3 : allV 3 3 = (T3 3).map toV3 := by kernel_rfl
theorem allV5_3 : allV 5 3 = (T3 5).map toV3 := by kernel_rfl
theorem allV3_2 : allV 3 2 = (T2 3).map toV2 := by kernel_rfl
theorem allV5_2 : allV 5 2 = (T2 5).map toV2 := by kernel_rfl
theorem allV7_2 : allV 7 2 = (T2 7).map toV2 := by kernel_rfl
theorem allV11_2 : allV 11 2 = (T2 11).map toV2 := by kernel_rfl
theorem allV13_2 : allV 13 2 = (T2 13).map toV2 := by kernel_rfl
theorem allV3_1 : allV 3 1 = (List.range 3).map toV1 := by kernel_rfl
theorem allV5_1 : allV 5 1 = (List.range 5).map toV1 := by kernel_rfl
theorem allV7_1 : allV 7 1 = (List.range 7).map toV1 := by kernel_rfl
theorem allV11_1 : allV 11 1 = (List.range 11).map toV1 := by kernel_rfl
theorem allV13_1 : allV 13 1 = (List.range 13).map toV1 := by kernel_rfl

noncomputable def ok3 (p N a b c : Nat) : Bool := Nat.beq c 0 || Nat.beq (E3 p a b c) (N + 5000000 * N)
noncomputable def ev3 (p N a : Nat) : Bool := Nat.beq a 0 || (List.range p).all fun b => Nat.beq b 0 || (List.range p).all fun c => ok3 p N a b c
theorem ev3_3 : ((List.range 3).all fun a => ev3 3 48 a) = true := by kernel_rfl
theorem ev3_51 : ev3 5 240 1 = true := by kernel_rfl
theorem ev3_52 : ev3 5 240 2 = true := by kernel_rfl
theorem ev3_53 : ev3 5 240 3 = true := by kernel_rfl
theorem ev3_54 : ev3 5 240 4 = true := by kernel_rfl
def cntOk (i s : Option Int) (E : Nat) : Bool := match i,s with
 | some m,some m' => decide (m = m') && (decide (2 ≤ m) && (decide (m ≤ 500) && Nat.beq E (m.toNat + 5000000 * m.toNat)))
 | _,_ => false
noncomputable def ok2 (p a b : Nat) : Bool := Nat.beq b 0 || cntOk (i_Space_countOrthogonal (Int.ofNat p) [Int.ofNat a,Int.ofNat b]) (s_l08Count (Int.ofNat p) [Int.ofNat a,Int.ofNat b]) (E2 p a b)
noncomputable def ev2 (p : Nat) : Bool := (List.range p).all fun a => Nat.beq a 0 || (List.range p).all fun b => ok2 p a b
theorem ev2_3 : ev2 3 = true := by kernel_rfl
theorem ev2_5 : ev2 5 = true := by kernel_rfl
theorem ev2_7 : ev2 7 = true := by kernel_rfl
theorem ev2_11 : ev2 11 = true := by kernel_rfl
theorem ev2_13 : ev2 13 = true := by kernel_rfl
noncomputable def ev1 (p : Nat) : Bool := (List.range p).all fun a => Nat.beq a 0 || Nat.beq (E1 p a) (2 + 5000000 * 2)
theorem ev1_all : (ev1 3 && (ev1 5 && (ev1 7 && (ev1 11 && ev1 13)))) = true := by kernel_rfl
theorem cnt1 {p a : Int} (hP : isP p = true) : i_Space_countOrthogonal p [a] = some 2 ∧ s_l08Count p [a] = some 2 := by
 rcases isP_cases hP with rfl | rfl | rfl | rfl | rfl <;> exact ⟨by kernel_rfl,by kernel_rfl⟩
theorem cnt3 {p a b c : Int} (hP : isP p = true) : i_Space_countOrthogonal p [a,b,c] = some (2 * p * (p * p - 1)) ∧ s_l08Count p [a,b,c] = some (2 * p * (p * p - 1)) := by
 rcases isP_cases hP with rfl | rfl | rfl | rfl | rfl <;> exact ⟨by kernel_rfl,by kernel_rfl⟩
end Go.Vam

/- Plain laws: FnIsometries. -/
namespace Go.Vam
open Go Go.RowKit
set_option linter.unusedSimpArgs false
set_option linter.unusedVariables false
set_option linter.unusedSectionVars false

/-! ### Draws -/
theorem any3_eq {c : List Int} {a h N : Int} (hS : Src c a) (h1 : 1 ≤ N) (h2 : N ≤ 100) : ∃ (p : Int) (ws : List Int) (a' h' : Int),s_l03Any c a h N = some ((p,ws),(c,a',h')) ∧ isP p = true ∧ 1 ≤ ws.length ∧ (ws.length : Int) ≤ N ∧ Src c a' := by
 unfold s_l03Any s_l01DrawPrime
 obtain ⟨p,a1,g1,e1,m1,S1⟩ := pick_eq (h := h) (l := [3,5,7,11,13,3,5,7]) hS (by simp) (by simp)
 have hP : isP p = true := by
  simp only [List.mem_cons,List.not_mem_nil,or_false] at m1
  rcases m1 with rfl | rfl | rfl | rfl | rfl | rfl | rfl | rfl <;> rfl
 have hp := isP_le hP
 obtain ⟨r,a2,g2,e2,p2,q2,S2⟩ := next_eq (h := g1) (n := N) S1 h1 (by omega)
 obtain ⟨m,rfl⟩ : ∃ m : Nat,r = (m : Int) := ⟨r.toNat,by omega⟩
 obtain ⟨b,f1,a3,g3,ws,rfl,f2,f3⟩ := loop_inv (step := s_l03Any_L0 (p,(c,a1,g1))) (fun s => ∃ (j : Nat) (a' h' : Int) (out : List Int),s = (c,a',h',p,out,((m + 1 - j : Nat) : Int)) ∧ j ≤ m + 1 ∧ out.length = j ∧ Src c a') (fun s => s.2.2.2.2.2.toNat)
  (fun b => ∃ (a' h' : Int) (out : List Int),b = (c,a',h',p,out) ∧ out.length = m + 1 ∧ Src c a') (s := (c,a2,g2,p,[],((m + 1 : Nat) : Int))) ⟨0,a2,g2,[],rfl,by omega,rfl,S2⟩ (by rw [BIG_val]; simp only []; omega) (by
   rintro s ⟨j,a',h',out,rfl,hj,ho,hS'⟩
   unfold s_l03Any_L0
   dsimp only
   by_cases hjm : j < m + 1
   ·refine .inl ?_
    obtain ⟨r1,a4,g4,e4,_,_,S4⟩ := next_eq (h := h') (n := p - 1) hS' (by omega) (by omega)
    obtain ⟨x,a5,g5,e5,_,S5⟩ := pick_eq (h := g4) (l := [1,p - 1,w64 (1 + r1),1]) S4 (by simp) (by simp)
    obtain ⟨r3,a6,g6,e6,_,_,S6⟩ := next_eq (h := g5) (n := 10) S5 (by omega) (by omega)
    rw [if_pos (by omega),w_in (x := p - 1) (by omega) (by omega),e4,some_bind]
    simp only [e5,e6,some_bind]
    obtain ⟨z,hz⟩ : ∃ z : Int,((if r3 = 0 then some 0 else some x) : Option Int) = some z := by split <;> exact ⟨_,rfl⟩
    rw [hz,some_bind,chk_bind (by simp only [List.length_cons,List.length_nil]; omega),w_in (by omega) (by omega)]
    exact ⟨_,rfl,⟨j + 1,a6,g6,out ++ [z],by congr 5; omega,by omega,by simp [ho],S6⟩,by simp only []; omega⟩
   ·have : j = m + 1 := by omega
    subst this
    refine .inr ⟨(c,a',h',p,out),?_,a',h',out,rfl,ho,hS'⟩
    rw [if_neg (by omega)])
 rw [e1,some_bind]
 dsimp only
 rw [some_bind,e2,some_bind]
 dsimp only
 have e9 : w64 (1 + (m : Int)) = ((m + 1 : Nat) : Int) := by rw [w_in (by omega) (by omega)]; omega
 rw [e9,f1,some_bind]
 exact ⟨p,ws,a3,g3,rfl,hP,by omega,by omega,f3⟩
end Go.Vam

/- Plain laws: FnOrthogonalGroups. -/
namespace Go.Vam
open Go Go.RowKit
set_option linter.unusedSimpArgs false
set_option linter.unusedVariables false
set_option linter.unusedSectionVars false
set_option maxRecDepth 100000

def prop1 (p : Int) (n : Nat) (C : List (List Int)) : Bool := decide (detL n (turnm n n C) % p = 1)
theorem decode {p : Int} {n N : Nat} {L : List (List (List Int))} (h : sumR (wtD p n) L = N + 5000000 * N) (hl : L.length ≤ 4000000) (hN : N ≤ 500) : L.length = N ∧ 2 * L.countP (prop1 p n) = N := by
 have e : sumR (wtD p n) L = L.length + 10000000 * L.countP (prop1 p n) := sumR_len (prop1 p n) 10000000 L
 omega
def Cnt (p : Int) (w : List Int) (N : Int) : Prop := 2 ≤ N ∧ ((growC p w.length w (allV p w.length) w.length []).length : Int) = N ∧ 2 * (((growC p w.length w (allV p w.length) w.length []).countP (prop1 p w.length) : Nat) : Int) = N
theorem use3 {p a b c N : Nat} (hp : 3 ≤ p) (hV : allV (p : Int) 3 = (T3 p).map toV3) (hl : (T3 p).length ^ 3 ≤ 4000000) (hE : Nat.beq (E3 p a b c) (N + 5000000 * N) = true) (hN : N ≤ 500) (h2 : 2 ≤ N) : Cnt (p : Int) [Int.ofNat a,Int.ofNat b,Int.ofNat c] (N : Int) := by
 have e := (grow3 hp a b c).trans (Nat.eq_of_beq_eq_true hE)
 have l := grow_len (p := (p : Int)) (n := 3) (w := [Int.ofNat a,Int.ofNat b,Int.ofNat c]) (V := (T3 p).map toV3) 3 []
 rw [List.length_map] at l
 obtain ⟨d1,d2⟩ := decode e (Nat.le_trans l hl) hN
 rw [← hV] at d1 d2
 exact ⟨by omega,congrArg Int.ofNat d1,by have := congrArg Int.ofNat d2; simpa using this⟩
theorem use2 {p a b N : Nat} (hp : 3 ≤ p) (hV : allV (p : Int) 2 = (T2 p).map toV2) (hl : (T2 p).length ^ 2 ≤ 4000000) (hE : Nat.beq (E2 p a b) (N + 5000000 * N) = true) (hN : N ≤ 500) (h2 : 2 ≤ N) : Cnt (p : Int) [Int.ofNat a,Int.ofNat b] (N : Int) := by
 have e := (grow2 hp a b).trans (Nat.eq_of_beq_eq_true hE)
 have l := grow_len (p := (p : Int)) (n := 2) (w := [Int.ofNat a,Int.ofNat b]) (V := (T2 p).map toV2) 2 []
 rw [List.length_map] at l
 obtain ⟨d1,d2⟩ := decode e (Nat.le_trans l hl) hN
 rw [← hV] at d1 d2
 exact ⟨by omega,congrArg Int.ofNat d1,by have := congrArg Int.ofNat d2; simpa using this⟩
theorem use1 {p a N : Nat} (hV : allV (p : Int) 1 = (List.range p).map toV1) (hl : p ^ 1 ≤ 4000000) (hE : Nat.beq (E1 p a) (N + 5000000 * N) = true) (hN : N ≤ 500) (h2 : 2 ≤ N) : Cnt (p : Int) [Int.ofNat a] (N : Int) := by
 have e := (grow1 (p := p) a).trans (Nat.eq_of_beq_eq_true hE)
 have l := grow_len (p := (p : Int)) (n := 1) (w := [Int.ofNat a]) (V := (List.range p).map toV1) 1 []
 rw [List.length_map,List.length_range] at l
 obtain ⟨d1,d2⟩ := decode e (Nat.le_trans l hl) hN
 rw [← hV] at d1 d2
 exact ⟨by omega,congrArg Int.ofNat d1,by have := congrArg Int.ofNat d2; simpa using this⟩
theorem beq0 {a : Nat} (h : 0 < a) : Nat.beq a 0 = false := by
 rw [Bool.eq_false_iff]
 intro e
 have := Nat.eq_of_beq_eq_true e
 omega
theorem all_rng0 {p a : Nat} {f : Nat → Bool} (h : ((List.range p).all fun a => Nat.beq a 0 || f a) = true) (h0 : 0 < a) (h1 : a < p) : f a = true := by
 have := List.all_eq_true.1 h a (List.mem_range.2 h1)
 rw [beq0 h0,Bool.false_or] at this
 exact this
theorem ev1_use {p a : Nat} (hP : isP (p : Int) = true) (h0 : 0 < a) (h1 : a < p) : Cnt (p : Int) [Int.ofNat a] 2 := by
 have h := ev1_all
 simp only [Bool.and_eq_true] at h
 have key : allV (p : Int) 1 = (List.range p).map toV1 ∧ ev1 p = true ∧ p ≤ 13 := by
  have : p = 3 ∨ p = 5 ∨ p = 7 ∨ p = 11 ∨ p = 13 := by have := isP_cases hP; omega
  rcases this with rfl | rfl | rfl | rfl | rfl
  ·exact ⟨allV3_1,h.1,by decide⟩
  ·exact ⟨allV5_1,h.2.1,by decide⟩
  ·exact ⟨allV7_1,h.2.2.1,by decide⟩
  ·exact ⟨allV11_1,h.2.2.2.1,by decide⟩
  ·exact ⟨allV13_1,h.2.2.2.2,by decide⟩
 exact use1 key.1 (by rw [Nat.pow_one]; omega) (all_rng0 (f := fun a => Nat.beq (E1 p a) (2 + 5000000 * 2)) key.2.1 h0 h1) (by decide) (by decide)
theorem ev2_use {p a b : Nat} (hP : isP (p : Int) = true) (ha : 0 < a) (ha1 : a < p) (hb : 0 < b) (hb1 : b < p) : ∃ N : Nat,i_Space_countOrthogonal (p : Int) [Int.ofNat a,Int.ofNat b] = some (N : Int) ∧ s_l08Count (p : Int) [Int.ofNat a,Int.ofNat b] = some (N : Int) ∧ Cnt (p : Int) [Int.ofNat a,Int.ofNat b] (N : Int) := by
 have key : allV (p : Int) 2 = (T2 p).map toV2 ∧ ev2 p = true ∧ 3 ≤ p ∧ (T2 p).length ^ 2 ≤ 4000000 := by
  have : p = 3 ∨ p = 5 ∨ p = 7 ∨ p = 11 ∨ p = 13 := by have := isP_cases hP; omega
  rcases this with rfl | rfl | rfl | rfl | rfl
  ·exact ⟨allV3_2,ev2_3,by decide,by decide⟩
  ·exact ⟨allV5_2,ev2_5,by decide,by decide⟩
  ·exact ⟨allV7_2,ev2_7,by decide,by decide⟩
  ·exact ⟨allV11_2,ev2_11,by decide,by decide⟩
  ·exact ⟨allV13_2,ev2_13,by decide,by decide⟩
 obtain ⟨hV,hE,h3,hl⟩ := key
 have h := all_rng0 (f := fun b => cntOk (i_Space_countOrthogonal (Int.ofNat p) [Int.ofNat a,Int.ofNat b]) (s_l08Count (Int.ofNat p) [Int.ofNat a,Int.ofNat b]) (E2 p a b)) (all_rng0 hE ha ha1) hb hb1
 unfold cntOk at h
 split at h
 ·rename_i m m' e1 e2
  simp only [Bool.and_eq_true,decide_eq_true_eq] at h
  obtain ⟨rfl,q1,q2,q3⟩ := h
  obtain ⟨N,rfl⟩ := Int.eq_ofNat_of_zero_le (show 0 ≤ m by omega)
  refine ⟨N,e1,e2,use2 h3 hV hl ?_ (by omega) (by omega)⟩
  simpa using q3
 ·cases h
theorem ev3_use {p a b c : Nat} (hp : p = 3 ∨ p = 5) (ha : 0 < a) (ha1 : a < p) (hb : 0 < b) (hb1 : b < p) (hc : 0 < c) (hc1 : c < p) : Cnt (p : Int) [Int.ofNat a,Int.ofNat b,Int.ofNat c] ((2 * p * (p * p - 1) : Nat) : Int) := by
 have key : allV (p : Int) 3 = (T3 p).map toV3 ∧ ev3 p (2 * p * (p * p - 1)) a = true ∧ 3 ≤ p ∧ (T3 p).length ^ 3 ≤ 4000000 ∧ 2 * p * (p * p - 1) ≤ 500 ∧ 2 ≤ 2 * p * (p * p - 1) := by
  rcases hp with rfl | rfl
  ·exact ⟨allV3_3,List.all_eq_true.1 ev3_3 a (List.mem_range.2 ha1),by decide,by decide,by decide,by decide⟩
  ·have : ev3 5 240 a = true := by
    rcases (show a = 1 ∨ a = 2 ∨ a = 3 ∨ a = 4 by omega) with rfl | rfl | rfl | rfl
    ·exact ev3_51
    ·exact ev3_52
    ·exact ev3_53
    ·exact ev3_54
   exact ⟨allV5_3,this,by decide,by decide,by decide,by decide⟩
 obtain ⟨hV,hE,h3,hl,hN,h2⟩ := key
 unfold ev3 at hE
 rw [beq0 ha,Bool.false_or] at hE
 have h1 := all_rng0 (f := fun b => (List.range p).all fun c => ok3 p (2 * p * (p * p - 1)) a b c) hE hb hb1
 have h4 := all_rng0 (f := fun c => Nat.beq (E3 p a b c) (2 * p * (p * p - 1) + 5000000 * (2 * p * (p * p - 1)))) h1 hc hc1
 exact use3 h3 hV hl h4 hN h2
theorem orth_counts {p : Int} {w : List Int} (hs : isSp p w = true) (hz : hasZ w = false) (hl : w.length ≤ 3) : ∃ N : Int,i_Space_countOrthogonal p w = some N ∧ s_l08Count p w = some N ∧ (N ≤ 500 → Cnt p w N) := by
 obtain ⟨hP,l1,_,hw⟩ := isSp_iff hs
 have hp := isP_le hP
 obtain ⟨P,rfl⟩ := Int.eq_ofNat_of_zero_le (show 0 ≤ p by omega)
 have hx : ∀ i,i < w.length → ∃ a : Nat,gI w i = Int.ofNat a ∧ 0 < a ∧ a < P := fun i hi => by
  have h1 := hw.2 i hi
  have h2 := hasZ_get hz hi
  exact ⟨(gI w i).toNat,by rw [Int.ofNat_eq_natCast]; omega,by omega,by omega⟩
 match w,l1,hl,hx with
 | [a],_,_,hx =>
  obtain ⟨a',e,a0,a1⟩ := hx 0 (by simp)
  obtain rfl : a = Int.ofNat a' := e
  obtain ⟨c1,c2⟩ := cnt1 (a := Int.ofNat a') hP
  exact ⟨2,c1,c2,fun _ => ev1_use hP a0 a1⟩
 | [a,b],_,_,hx =>
  obtain ⟨a',e,a0,a1⟩ := hx 0 (by simp)
  obtain ⟨b',f,b0,b1⟩ := hx 1 (by simp)
  obtain rfl : a = Int.ofNat a' := e
  obtain rfl : b = Int.ofNat b' := f
  obtain ⟨N,c1,c2,c3⟩ := ev2_use hP a0 a1 b0 b1
  exact ⟨N,c1,c2,fun _ => c3⟩
 | [a,b,c],_,_,hx =>
  obtain ⟨a',e,a0,a1⟩ := hx 0 (by simp)
  obtain ⟨b',f,b0,b1⟩ := hx 1 (by simp)
  obtain ⟨c',g,g0,g1⟩ := hx 2 (by simp)
  obtain rfl : a = Int.ofNat a' := e
  obtain rfl : b = Int.ofNat b' := f
  obtain rfl : c = Int.ofNat c' := g
  obtain ⟨c1,c2⟩ := cnt3 (a := Int.ofNat a') (b := Int.ofNat b') (c := Int.ofNat c') hP
  refine ⟨_,c1,c2,fun hN => ?_⟩
  have h35 : P = 3 ∨ P = 5 := by
   have : P = 3 ∨ P = 5 ∨ P = 7 ∨ P = 11 ∨ P = 13 := by have := isP_cases hP; omega
   rcases this with h | h | h | h | h
   ·exact .inl h
   ·exact .inr h
   ·subst h; revert hN; decide
   ·subst h; revert hN; decide
   ·subst h; revert hN; decide
  have h := ev3_use h35 a0 a1 b0 b1 g0 g1
  rcases h35 with rfl | rfl
  ·exact h
  ·exact h
 | [],l1,_,_ => exact absurd l1 (by simp)
 | _ :: _ :: _ :: _ :: _,_,hl,_ => exact absurd hl (by simp)

/-! ### Both programs' lists -/
theorem Orth_bad {p : Int} {w : List Int} (hl : w.length ≤ 3) (hs : isSp p w = false) :
  i_AllOrthogonal p w = some ([],1) ∧ s_AllOrthogonal p w = some ([],1) ∧ i_CountOrthogonal p w = some (0,1) ∧ s_CountOrthogonal p w = some (0,1) := by
 have c : i_CountOrthogonal p w = some (0,1) := by
  unfold i_CountOrthogonal
  rw [i_IsSpace_eq (by omega),hs,some_bind,if_pos rfl]
 refine ⟨?_,?_,c,?_⟩
 ·unfold i_AllOrthogonal
  rw [c,some_bind,if_pos (by simp)]
 ·unfold s_AllOrthogonal
  rw [s_l03Is_eq (by omega),hs,some_bind,if_pos rfl]
 ·unfold s_CountOrthogonal
  rw [s_l03Is_eq (by omega),hs,some_bind,if_pos rfl]
theorem Orth_sing {p : Int} {w : List Int} (hl : w.length ≤ 3) (hs : isSp p w = true) (hz : hasZ w = true) :
  i_AllOrthogonal p w = some ([],5) ∧ s_AllOrthogonal p w = some ([],5) ∧ i_CountOrthogonal p w = some (0,5) ∧ s_CountOrthogonal p w = some (0,5) := by
 obtain ⟨hP,l1,_,hw⟩ := isSp_iff hs
 obtain ⟨d,d1,d2⟩ := s_l03Disc_eq hP hw (by omega)
 have c : i_CountOrthogonal p w = some (0,5) := by
  unfold i_CountOrthogonal
  rw [i_IsSpace_eq (by omega),hs,some_bind,if_neg (by simp),i_Space_regular_eq (by omega),some_bind,hz,if_pos (show (!true) = false from rfl)]
 refine ⟨?_,?_,c,?_⟩
 ·unfold i_AllOrthogonal
  rw [c,some_bind,if_pos (by simp)]
 ·unfold s_AllOrthogonal
  rw [s_l03Is_eq (by omega),hs,some_bind,if_neg (by simp),d1,some_bind,if_pos (d2.2 hz)]
 ·unfold s_CountOrthogonal
  rw [s_l03Is_eq (by omega),hs,some_bind,if_neg (by simp),d1,some_bind,if_pos (d2.2 hz)]
def allO (p : Int) (w : List Int) : List (List (List Int)) := (growC p w.length w (allV p w.length) w.length []).map (turnm w.length w.length)
theorem Orth_reg {p : Int} {w : List Int} (hl : w.length ≤ 3) (hs : isSp p w = true) (hz : hasZ w = false) :
  ∃ N,i_CountOrthogonal p w = some (N,0) ∧ s_CountOrthogonal p w = some (N,0) ∧ (500 < N → i_AllOrthogonal p w = some ([],3) ∧ s_AllOrthogonal p w = some ([],3)) ∧
   (N ≤ 500 → Cnt p w N ∧ i_AllOrthogonal p w = some (allO p w,0) ∧ s_AllOrthogonal p w = some (allO p w,0)) := by
 obtain ⟨hP,l1,_,hw⟩ := isSp_iff hs
 obtain ⟨d,d1,d2⟩ := s_l03Disc_eq hP hw (by omega)
 have hd : ¬ d = 0 := fun e => by rw [d2.1 e] at hz; cases hz
 obtain ⟨N,c1,c2,c3⟩ := orth_counts hs hz hl
 have c : i_CountOrthogonal p w = some (N,0) := by
  unfold i_CountOrthogonal
  rw [i_IsSpace_eq (by omega),hs,some_bind,if_neg (by simp),i_Space_regular_eq (by omega),some_bind,hz,if_neg (by simp),c1,some_bind]
 refine ⟨N,c,?_,fun hN => ⟨?_,?_⟩,fun hN => ⟨c3 hN,?_,?_⟩⟩
 ·unfold s_CountOrthogonal
  rw [s_l03Is_eq (by omega),hs,some_bind,if_neg (by simp),d1,some_bind,if_neg hd,c2,some_bind]
 ·unfold i_AllOrthogonal
  rw [c,some_bind,if_neg (by simp),if_pos hN]
 ·unfold s_AllOrthogonal
  rw [s_l03Is_eq (by omega),hs,some_bind,if_neg (by simp),d1,some_bind,if_neg hd,c2,some_bind,if_pos hN]
 all_goals
  obtain ⟨k1,k2,k3⟩ := c3 hN
  have hlen : (growC p w.length w (allV p w.length) w.length []).length ≤ 500 := by omega
 ·unfold i_AllOrthogonal
  rw [c,some_bind,if_neg (by simp),if_neg (by simp only; omega)]
  rw [i_grow_eq hP l1 (by omega) rfl hw w.length BIG [] [] (by simp) (fun r hr => by cases hr) (by rw [BIG_val]; omega) (by simp only [List.length_nil]; omega)]
  rfl
 ·unfold s_AllOrthogonal
  rw [s_l03Is_eq (by omega),hs,some_bind,if_neg (by simp),d1,some_bind,if_neg hd,c2,some_bind,if_neg (by omega)]
  rw [s_grow_eq hP l1 (by omega) rfl hw (fun i hi => hasZ_get hz hi) w.length BIG [] [] (by simp) (fun r hr => by cases hr) (by rw [BIG_val]; omega) (by simp only [List.length_nil]; omega)]
  rfl

/-! ### The law -/
theorem DrawAll_eq {c : List Int} (hc : c.length ≤ 4096) (hb : ∀ x ∈ c,0 ≤ x ∧ x ≤ 255) : ∃ (p : Int) (w : List Int),s_DrawAllOrthogonal c = some (p,w) ∧ w.length ≤ 3 := by
 unfold s_DrawAllOrthogonal
 obtain ⟨h0,e0,S0⟩ := from_eq hc hb
 obtain ⟨p,ws,a1,g1,e1,p1,p2,p3,S1⟩ := any3_eq (h := h0) (N := 3) S0 (by decide) (by decide)
 obtain ⟨r,a2,g2,e2,_,_,S2⟩ := next_eq (h := g1) (n := 3) S1 (by omega) (by omega)
 simp only [e0,e1,e2,some_bind]
 by_cases h : 0 < r
 ·rw [if_pos h]
  obtain ⟨b,f1,us,rfl,f2⟩ := loop_inv (step := s_DrawAllOrthogonal_L0) (fun s => ∃ (us : List Int) (k : Nat),s = (3,us,(k : Int)) ∧ us.length = ws.length ∧ k ≤ ws.length) (fun s => ws.length - s.2.2.toNat)
   (fun b => ∃ us : List Int,b = ((3 : Int),us) ∧ us.length = ws.length) (s := (3,ws,0)) ⟨ws,0,rfl,rfl,by omega⟩ (by rw [BIG_val]; simp only; omega) (by
    rintro s ⟨us,k,rfl,hu,hk⟩
    unfold s_DrawAllOrthogonal_L0
    dsimp only
    by_cases hkl : k < ws.length
    ·rw [if_pos (by omega),idxI (by omega),some_bind]
     exact .inl ⟨_,rfl,⟨us.set ((k : Int)).toNat _,k + 1,by rw [w_in (x := (k : Int) + 1) (by omega) (by omega)]; rfl,by rw [List.length_set]; exact hu,by omega⟩,by simp only; rw [w_in (by omega) (by omega)]; omega⟩
    ·rw [if_neg (by omega)]
     exact .inr ⟨_,rfl,us,rfl,hu⟩)
  rw [f1,some_bind,some_bind]
  exact ⟨3,us,rfl,by omega⟩
 ·rw [if_neg h,some_bind]
  exact ⟨p,ws,rfl,by omega⟩
theorem idxT {m : List (List (List Int))} {k : Nat} (h : k < m.length) : idx m (k : Int) = some (m.getD k []) := idxD h []
section
variable {p : Int} {w : List Int} (hs : isSp p w = true) (hz : hasZ w = false) (hN : (allO p w).length ≤ 500)
include hs hz hN
theorem allO_at {k : Nat} (hk : k < (allO p w).length) : ∃ C ∈ growC p w.length w (allV p w.length) w.length [],(allO p w).getD k [] = turnm w.length w.length C ∧ (growC p w.length w (allV p w.length) w.length []).take (k + 1) = (growC p w.length w (allV p w.length) w.length []).take k ++ [C] := by
 have hk2 : k < (growC p w.length w (allV p w.length) w.length []).length := by unfold allO at hk; rwa [List.length_map] at hk
 refine ⟨(growC p w.length w (allV p w.length) w.length [])[k],List.getElem_mem _,?_,List.take_succ_eq_append_getElem hk2⟩
 unfold allO
 rw [List.getD_eq_getElem?_getD,List.getElem?_map,List.getElem?_eq_getElem hk2]
 rfl
theorem allO_mat {C : List (List Int)} (hC : C ∈ growC p w.length w (allV p w.length) w.length []) : Mat p w.length w.length (turnm w.length w.length C) := by
 obtain ⟨hP,l1,l6,hw⟩ := isSp_iff hs
 have hp := isP_le hP
 obtain ⟨a1,a2⟩ := (mem_grow hp.1 hp.2).1 hC
 exact turnm_mat (PG.mat hP l1 l6 rfl hs hw (fun i hi => hasZ_get hz hi) a1 a2).1
theorem even_loop : loop (l_FnOrthogonalGroups_L0 (p,w) (allO p w,0) (allO p w,0)) BIG (0,0) = some (.inl (((growC p w.length w (allV p w.length) w.length []).countP (prop1 p w.length) : Nat) : Int)) := by
 obtain ⟨hP,l1,l6,hw⟩ := isSp_iff hs
 have hlen : (allO p w).length = (growC p w.length w (allV p w.length) w.length []).length := by unfold allO; rw [List.length_map]
 have hcb : ∀ k,((growC p w.length w (allV p w.length) w.length []).take k).countP (prop1 p w.length) ≤ k := fun k => Nat.le_trans List.countP_le_length (by rw [List.length_take]; omega)
 have key := loop_for (step := l_FnOrthogonalGroups_L0 (p,w) (allO p w,0) (allO p w,0)) (fun k => (((((growC p w.length w (allV p w.length) w.length []).take k).countP (prop1 p w.length) : Nat) : Int),(k : Int))) (allO p w).length (s := (0,0)) (b := .inl (((growC p w.length w (allV p w.length) w.length []).countP (prop1 p w.length) : Nat) : Int))
  (by rw [BIG_val]; omega) (by simp) (fun k hk => by
   obtain ⟨C,hC,hg,ht⟩ := allO_at hs hz hN hk
   have hM := allO_mat hs hz hN hC
   have hb := hcb k
   unfold l_FnOrthogonalGroups_L0
   dsimp only
   rw [if_pos (by omega),idxT hk,some_bind,some_bind,hg,likeR_self (hM.sz (by omega) (by omega)),some_bind,if_neg (by simp),proper_eq hP l1 l6 rfl hs hw (fun i hi => hasZ_get hz hi) hC,some_bind]
   dsimp only
   rw [if_neg (by simp),ht,List.countP_append]
   have e : [C].countP (prop1 p w.length) = if prop1 p w.length C = true then 1 else 0 := by
    rw [List.countP_singleton]
   rw [e]
   have h1 : decide (detL w.length (turnm w.length w.length C) % p = 1) = prop1 p w.length C := rfl
   rw [h1]
   cases prop1 p w.length C with
   | true =>
    rw [if_pos rfl,if_pos rfl,some_bind]
    dsimp only
    rw [w_in (by omega) (by omega),w_in (by omega) (by omega)]
    rfl
   | false =>
    rw [if_neg (by simp),if_neg (by simp),some_bind]
    dsimp only
    rw [w_in (by omega) (by omega)]
    rfl) (by
   unfold l_FnOrthogonalGroups_L0
   dsimp only
   rw [if_neg (by omega),hlen,List.take_length])
 exact key
theorem found_loop {C : List (List Int)} (hC : C ∈ growC p w.length w (allV p w.length) w.length []) : loop (l_FnOrthogonalGroups_L1 (allO p w,0) (turnm w.length w.length C,0)) BIG (false,0) = some true := by
 obtain ⟨hP,l1,l6,hw⟩ := isSp_iff hs
 obtain ⟨i0,hi0,hg0⟩ : ∃ i,i < (allO p w).length ∧ (allO p w).getD i [] = turnm w.length w.length C := by
  have : turnm w.length w.length C ∈ allO p w := List.mem_map.2 ⟨C,hC,rfl⟩
  obtain ⟨i,hi,e⟩ := List.getElem_of_mem this
  exact ⟨i,hi,by rw [List.getD_eq_getElem?_getD,List.getElem?_eq_getElem hi,e]; rfl⟩
 obtain ⟨b,f1,f2⟩ := loop_inv (step := l_FnOrthogonalGroups_L1 (allO p w,0) (turnm w.length w.length C,0)) (fun s => ∃ (fd : Bool) (k : Nat),s = (fd,(k : Int)) ∧ k ≤ (allO p w).length ∧ (i0 < k → fd = true)) (fun s => (allO p w).length - s.2.toNat)
  (fun b => b = true) (s := (false,0)) ⟨false,0,rfl,by omega,fun h => absurd h (Nat.not_lt_zero _)⟩ (by rw [BIG_val]; simp only; omega) (by
   rintro s ⟨fd,k,rfl,hk,hi⟩
   unfold l_FnOrthogonalGroups_L1
   dsimp only
   by_cases hkl : k < (allO p w).length
   ·obtain ⟨D,hD,hg,_⟩ := allO_at hs hz hN hkl
    have hM := allO_mat hs hz hN hD
    rw [if_pos (by omega)]
    obtain ⟨b,hb,hbi⟩ : ∃ b,((if fd = true then some true else (idx (allO p w) (k : Int)).bind fun v56 => (l_likeRows5 v56 (turnm w.length w.length C)).bind fun v57 => some v57) : Option Bool) = some b ∧ (i0 < k + 1 → b = true) := by
     by_cases hf : fd = true
     ·exact ⟨true,if_pos hf,fun _ => rfl⟩
     ·rw [if_neg hf,idxT hkl,some_bind,hg]
      obtain ⟨b,hb⟩ := likeR_ex (b := turnm w.length w.length C) (hM.sz (show w.length ≤ 1048576 by omega) (show w.length ≤ 1048576 by omega))
      refine ⟨b,by rw [hb]; rfl,fun h => ?_⟩
      by_cases h2 : i0 < k
      ·exact absurd (hi h2) hf
      ·have : i0 = k := by omega
       subst this
       rw [← hg,hg0,likeR_self ((allO_mat hs hz hN hC).sz (by omega) (by omega))] at hb
       exact (Option.some.inj hb).symm
    rw [hb,some_bind]
    exact .inl ⟨_,rfl,⟨b,k + 1,by rw [w_in (by omega) (by omega)]; rfl,by omega,hbi⟩,by simp only; rw [w_in (by omega) (by omega)]; omega⟩
   ·rw [if_neg (by omega)]
    exact .inr ⟨fd,rfl,hi (by omega)⟩)
 rw [f1,f2]
end
theorem LawOrthogonalGroups {c : List Int} (hl : lenI c) (hb : ∀ x ∈ c,0 ≤ x ∧ x ≤ 255) : l_FnOrthogonalGroups c = some true := by
 unfold l_FnOrthogonalGroups l_big
 rw [some_bind]
 by_cases hbig : (4096 : Int) < (c.length : Int)
 ·rw [if_pos (by simp [ilt,hbig])]
 rw [if_neg (by simp [ilt]; omega)]
 have hc : c.length ≤ 4096 := by omega
 obtain ⟨p,w,e0,b1⟩ := DrawAll_eq hc hb
 rw [e0,some_bind]
 dsimp only
 cases hs : isSp p w with
 | false =>
  obtain ⟨k1,k2,k3,k4⟩ := Orth_bad b1 hs
  simp only [k1,k2,k3,k4,some_bind]
  rfl
 | true =>
  cases hz : hasZ w with
  | true =>
   obtain ⟨k1,k2,k3,k4⟩ := Orth_sing b1 hs hz
   simp only [k1,k2,k3,k4,some_bind]
   rfl
  | false =>
   obtain ⟨hP,l1,l6,hw⟩ := isSp_iff hs
   obtain ⟨N,k1,k2,k3,k4⟩ := Orth_reg b1 hs hz
   by_cases hN : N ≤ 500
   ·obtain ⟨⟨q1,q2,q3⟩,k5,k6⟩ := k4 hN
    have hlen : (allO p w).length = (growC p w.length w (allV p w.length) w.length []).length := by unfold allO; rw [List.length_map]
    have hle : (allO p w).length ≤ 500 := by omega
    have hNl : N = ((allO p w).length : Int) := by omega
    obtain ⟨h',r1,S1⟩ := roll_eq (c := c) 841 hc hb
    obtain ⟨x,a3,g3,r2,x0,x1,S2⟩ := below_eq (h := h') (n := N) S1 (by omega) (by omega)
    obtain ⟨y,a4,g4,r3,y0,y1,S3⟩ := below_eq (h := g3) (n := N) S2 (by omega) (by omega)
    obtain ⟨i,rfl⟩ := Int.eq_ofNat_of_zero_le x0
    obtain ⟨j,rfl⟩ := Int.eq_ofNat_of_zero_le y0
    have hi : i < (allO p w).length := by omega
    have hj : j < (allO p w).length := by omega
    obtain ⟨C1,m1,z1,_⟩ := allO_at hs hz hle hi
    obtain ⟨C2,m2,z2,_⟩ := allO_at hs hz hle hj
    obtain ⟨D,m3,z3⟩ := grow_mul hP l1 l6 rfl hs hw (fun i hi => hasZ_get hz hi) m1 m2
    have t1 := mul_ok hP (allO_mat hs hz hle m1) l1 (by omega) l1 (by omega) (allO_mat hs hz hle m2) l1 (by omega)
    rw [z3] at t1
    have t2 := even_loop hs hz hle
    have t3 := found_loop hs hz hle m3
    simp only [k1,k2,k5,k6,some_bind,not_true_eq_false,if_false,if_true,bne_self_eq_false,ieq_self,Bool.not_true,Bool.false_eq_true,← hNl,t2,r1,r2,r3]
    rw [if_neg (by simp [ilt]; omega),idxT hi,some_bind,idxT hj,some_bind,z1,z2,t1,some_bind,t3,some_bind]
    dsimp only
    rw [if_pos rfl,if_pos rfl,q3,w_in (by omega) (by omega),ieq_self,some_bind]
   ·obtain ⟨k5,k6⟩ := k3 (by omega)
    have hN5 : ilt 500 N = true := by simp [ilt]; omega
    simp only [k1,k2,k5,k6,some_bind]
    simp [ieq,hN5]
end Go.Vam
