import Derived.Test.YtijmfifejmgeaaaPlG1
/- Plain laws: IsometryOf, both programs. -/
namespace Go.Vam
open Go Go.RowKit
set_option linter.unusedSimpArgs false
set_option linter.unusedVariables false
set_option linter.unusedSectionVars false

def Inv (p : Int) (n : Nat) (w u : List Int) (k : Nat) (C : List (List Int)) : Prop :=
 C.length = k ∧ RowsV p n C ∧ ∃ q b,Fam p n u q b ∧ (∀ i,i < k → b i = gR C i ∧ q i = gI w i) ∧ parB p q n = parB p (gI w) n
theorem xor_cancel {a b c d : Bool} (h : xor a b = xor c d) (h2 : a = c) : b = d := by subst h2; revert h; cases a <;> cases b <;> cases d <;> simp
section
variable {p : Int} {n : Nat} {w u : List Int} (hP : isP p = true) (hw : Vec p n w) (hw0 : ∀ i,i < n → gI w i ≠ 0)
include hP hw hw0
theorem Inv.start (hu : Vec p n u) (hu0 : ∀ i,i < n → gI u i ≠ 0) (hpar : parB p (gI u) n = parB p (gI w) n) : Inv p n w u 0 [] := by
 have hp := isP_le hP
 refine ⟨rfl,fun r hr => absurd hr List.not_mem_nil,gI u,axis n,⟨fun i hi => axis_vec (by omega) hi,fun i j hi hj => ?_,fun i hi => ?_⟩,fun i hi => by omega,hpar⟩
 ·rw [pairS_axis hj,gI_axis hi]
  by_cases h : i = j
  ·subst h; rw [if_pos rfl,if_pos rfl]; exact ⟨0,by omega⟩
  ·rw [if_neg (fun e => h e.symm),if_neg h]; exact ⟨0,by omega⟩
 ·have := hu.2 i hi
  have := hu0 i hi
  omega
theorem Inv.with {k : Nat} {C : List (List Int)} (h : Inv p n w u k C) (hk : k < n) :
  ∃ q b,Fam p n u q b ∧ (∀ i,i < k → b i = gR C i) ∧ (∀ i,i ≤ k → q i = gI w i) ∧ parB p q n = parB p (gI w) n := by
 have hp := isP_le hP
 obtain ⟨hl,hR,q,b,hF,hi,hpar⟩ := h
 have hwk := hw.2 k hk
 have hwk0 := hw0 k hk
 have hqk := hF.2.2 k hk
 by_cases h1 : k + 1 < n
 ·have hqk' := hF.2.2 (k + 1) h1
  obtain ⟨q',b',g1,g2,g3,g4⟩ := hF.two hP h1 (s := gI w k) (by omega)
  refine ⟨q',b',g1,fun i hik => ?_,fun i hik => ?_,?_⟩
  ·rw [(g3 i (by omega) (by omega)).1,(hi i hik).1]
  ·rcases Nat.lt_or_eq_of_le hik with h2 | rfl
   ·rw [(g3 i (by omega) (by omega)).2,(hi i h2).2]
   ·exact g2
  ·rw [← hpar]
   have m1 := mod_num (p := p) (a := q k * q (k + 1)) (by omega)
   have z1 : q k * q (k + 1) % p ≠ 0 := fun h0 => by
    rw [mul_zero_mod hP ⟨by omega,by omega⟩ ⟨by omega,by omega⟩] at h0; omega
   refine parB_two (k := k) ?_ h1 fun i hin h2 h3 => (g3 i h2 h3).2
   rw [g2,g4,sqb_mul hP m1 hwk z1 hwk0,sqb_mul hP ⟨by omega,by omega⟩ ⟨by omega,by omega⟩ (by omega) (by omega)]
   generalize sqb p (q k) = x
   generalize sqb p (q (k + 1)) = y
   generalize sqb p (gI w k) = z
   cases x <;> cases y <;> cases z <;> rfl
 ·have hn : n = k + 1 := by omega
  subst hn
  have hq : sqb p (q k * gI w k % p) = true := by
   rw [sqb_mul hP ⟨by omega,by omega⟩ hwk (by omega) hwk0]
   simp only [parB] at hpar
   have := xor_cancel hpar (parB_congr fun i hik => (hi i hik).2)
   revert this
   generalize sqb p (q k) = x
   generalize sqb p (gI w k) = y
   cases x <;> cases y <;> simp
  obtain ⟨q',b',g1,g2,g3⟩ := hF.one hP hk (s := gI w k) (by omega) hq
  refine ⟨q',b',g1,fun i hik => ?_,fun i hik => ?_,?_⟩
  ·rw [(g3 i (by omega)).1,(hi i hik).1]
  ·rcases Nat.lt_or_eq_of_le hik with h2 | rfl
   ·rw [(g3 i (by omega)).2,(hi i h2).2]
   ·exact g2
  ·refine parB_congr fun i hin => ?_
   rcases Nat.lt_or_eq_of_le (Nat.le_of_lt_succ hin) with h2 | rfl
   ·rw [(g3 i (by omega)).2,(hi i h2).2]
   ·exact g2
theorem Inv.fit {k : Nat} {C : List (List Int)} (h : Inv p n w u k C) (hk : k < n) : ∃ x,Vec p n x ∧ fitB p n u (gI w k) C x = true := by
 have hp := isP_le hP
 obtain ⟨q,b,hF,h1,h2,h3⟩ := h.with hP hw hw0 hk
 have hwk := hw.2 k hk
 refine ⟨b k,hF.1 k hk,?_⟩
 unfold fitB
 rw [Bool.and_eq_true,List.all_eq_true]
 refine ⟨decide_eq_true ?_,fun i hi => decide_eq_true ?_⟩
 ·have := hF.2.1 k k hk hk
  rw [if_pos rfl,h2 k (Nat.le_refl _)] at this
  exact (pair_eq_iff hwk).2 this
 ·rw [List.mem_range,h.1] at hi
  have := hF.2.1 k i hk (by omega)
  rw [if_neg (by omega),Int.sub_zero,h1 i hi] at this
  exact pair_zero_iff.2 this
theorem Inv.next {k : Nat} {C : List (List Int)} (h : Inv p n w u k C) (hk : k < n) {v : List Int} (hv : Vec p n v) (hf : fitB p n u (gI w k) C v = true) : Inv p n w u (k + 1) (C ++ [v]) := by
 have hp := isP_le hP
 obtain ⟨q,b,hF,h1,h2,h3⟩ := h.with hP hw hw0 hk
 obtain ⟨hl,hR,_⟩ := h
 unfold fitB at hf
 rw [Bool.and_eq_true,List.all_eq_true] at hf
 obtain ⟨f1,f2⟩ := hf
 obtain ⟨b',g1,g2,g3⟩ := hF.turn hP hk hv ((of_decide_eq_true f1).trans (h2 k (Nat.le_refl _)).symm) fun i hi => by
  rw [h1 i hi]
  exact of_decide_eq_true (f2 i (by rw [List.mem_range]; omega))
 refine ⟨by simp [hl],fun r hr => ?_,q,b',g1,fun i hi => ?_,h3⟩
 ·rw [List.mem_append,List.mem_singleton] at hr
  rcases hr with h | rfl
  ·exact hR r h
  ·exact hv
 ·refine ⟨?_,h2 i (by omega)⟩
  rcases Nat.lt_or_eq_of_le (Nat.le_of_lt_succ hi) with h4 | rfl
  ·rw [g3 i h4,h1 i h4]
   unfold gR
   rw [List.getD_eq_getElem?_getD,List.getD_eq_getElem?_getD,List.getElem?_append_left (by omega)]
  ·rw [g2,← hl]
   unfold gR
   rw [List.getD_eq_getElem?_getD,List.getElem?_append_right (Nat.le_refl _)]
   simp
end
def GramR (p : Int) (n : Nat) (w u : List Int) (C : List (List Int)) : Prop := ∀ i j,i < n → j < n → pairp p n u (gR C i) (gR C j) = if i = j then gI w i else 0
theorem Inv.gram {p : Int} {n : Nat} {w u : List Int} {C : List (List Int)} (hP : isP p = true) (hw : Vec p n w) (h : Inv p n w u n C) : Mat p n n C ∧ GramR p n w u C := by
 have hp := isP_le hP
 obtain ⟨hl,hR,q,b,hF,hi,_⟩ := h
 refine ⟨⟨hl,fun i hin => hR.gR (by omega)⟩,fun i j hin hjn => ?_⟩
 have := hF.2.1 i j hin hjn
 rw [(hi i hin).1,(hi j hjn).1,(hi i hin).2] at this
 have hb : (0 : Int) ≤ (if i = j then gI w i else 0) ∧ (if i = j then gI w i else 0) < p := by
  have := hw.2 i hin
  split <;> omega
 exact (pair_eq_iff hb).2 this
section
variable {p : Int} {n : Nat} {w u : List Int} (hP : isP p = true) (hn : n ≤ 6) (hwl : w.length = n) (hul : u.length = n) (hw : Vec p n w) (hw0 : ∀ i,i < n → gI w i ≠ 0) (hu : Vec p n u)
include hP hn hw hw0 hu hwl hul
theorem iso_loops (h0 : Inv p n w u 0 []) : ∃ C,loop (i_IsometryOf_L0 w p u) BIG ([],0) = some C ∧ loop (s_IsometryOf_L0 p w p u) BIG ([],0) = some C ∧ Inv p n w u n C := by
 have hp := isP_le hP
 refine loop_two (S := List (List Int) × Int) (B := List (List Int)) (f := i_IsometryOf_L0 w p u) (g := s_IsometryOf_L0 p w p u) (s := ([],0)) (fun s => ∃ k : Nat,s.2 = (k : Int) ∧ k ≤ n ∧ Inv p n w u k s.1) (fun s => n - s.2.toNat) _ ⟨0,rfl,by omega,h0⟩ (by rw [BIG_val]; simp only; omega) ?_
 rintro ⟨C,k'⟩ ⟨k,e,hk,hI⟩
 simp only at e hI
 subst e
 unfold i_IsometryOf_L0 s_IsometryOf_L0
 dsimp only
 rw [hwl]
 by_cases hkn : k < n
 ·refine .inl ?_
  obtain ⟨x,hx,hf⟩ := hI.fit hP hw hw0 hkn
  have hCl : C.length = k := hI.1
  obtain ⟨r,r1,r2⟩ := i_search hP hn hul hu hI.2.1 (by omega) hx hf
  obtain ⟨r',r3,r4⟩ := s_search hP hn hul hu hI.2.1 (by omega) (by rw [hwl]; exact hkn) hwl (hw0 k hkn) hx hf
  have hrr := r2.uniq hP r4
  subst hrr
  rw [if_pos (by omega),if_pos (by omega),idxI (k := k) (by rw [hwl]; exact hkn),some_bind,r1,some_bind,chk_bind ⟨by omega,by omega⟩,Int.toNat_natCast,r3,some_bind,chk_bind (by simp; omega),w_in (by omega) (by omega)]
  exact ⟨_,rfl,rfl,⟨k + 1,rfl,by omega,hI.next hP hw hw0 hkn r2.1 r2.2.1⟩,by simp only; omega⟩
 ·refine .inr ⟨C,?_,?_,?_⟩
  ·rw [if_neg (by omega)]
  ·rw [if_neg (by omega)]
  ·have : k = n := by omega
   subst this
   exact hI
end
theorem hasMany_eq {p : Int} {w : List Int} (hp : 3 ≤ p) (hp2 : p ≤ 13) (hn : w.length ≤ 6) : ∃ b,i_Space_hasMany p w = some b ∧ s_l03Many p w = some b := by
 have hpw : ∀ k,k ≤ 6 → 0 ≤ p ^ k ∧ p ^ k ≤ 4826809 := fun k hk => by
  refine ⟨Int.pow_nonneg (by omega),?_⟩
  have h1 : ∀ n : Nat,p ^ n ≤ 13 ^ n := fun n => by
   induction n with
   | zero => simp
   | succ n ih =>
    rw [Int.pow_succ,Int.pow_succ]
    exact Int.mul_le_mul ih (by omega) (by omega) (Int.pow_nonneg (by decide))
  have key : ∀ k : Nat,k < 7 → (13 : Int) ^ k ≤ 4826809 := by decide
  have := key k (by omega)
  have := h1 k
  omega
 have h : i_Space_hasMany p w = some (ilt 5000 (p ^ w.length)) := by
  unfold i_Space_hasMany
  rw [loop_for (b := p ^ w.length) (fun k => (p ^ k,(k : Int))) w.length (by rw [BIG_val]; omega) (by simp)]
  ·rfl
  ·intro k hk
   have a := hpw (k + 1) (by omega)
   unfold i_Space_hasMany_L0
   dsimp only
   have e1 : p ^ k * p = p ^ (k + 1) := (Int.pow_succ p k).symm
   rw [if_pos (by omega),e1,w_in (by omega) (by omega),w_in (by omega) (by omega)]
   rfl
  ·unfold i_Space_hasMany_L0
   dsimp only
   rw [if_neg (by omega)]
 exact ⟨_,h,h⟩
theorem hasZ_get {w : List Int} (h : hasZ w = false) {i : Nat} (hi : i < w.length) : gI w i ≠ 0 := by
 intro e
 have : hasZ w = true := by
  unfold hasZ
  rw [List.any_eq_true]
  exact ⟨w[i],List.getElem_mem hi,by rw [gI_get hi,e]; rfl⟩
 rw [this] at h; cases h
theorem IsometryOf_eq {p q : Int} {w u : List Int} (hwl : w.length ≤ 1048576) (hul : u.length ≤ 1048576) :
  ∃ M c,i_IsometryOf p w q u = some (M,c) ∧ s_IsometryOf p w q u = some (M,c) ∧ ((isSp p w && isSp q u) = false → c = 1) ∧ ((isSp p w && isSp q u) = true → (c = 4 → isoQ p w q u = false) ∧ (c = 0 → isoQ p w q u = true)) ∧ (c ≠ 0 → M = []) ∧
   (c = 0 → isSp p w = true ∧ isSp q u = true ∧ hasZ w = false ∧ hasZ u = false ∧ p = q ∧ w.length = u.length ∧ ∃ C,M = turnm w.length w.length C ∧ Mat p w.length w.length C ∧ GramR p w.length w u C) := by
 unfold i_IsometryOf s_IsometryOf
 rw [s_l03Is_eq hwl,s_l03Is_eq hul,checkSpaces_eq (by simp) (by intro x hx; simp at hx; rcases hx with rfl | rfl <;> assumption),some_bind,some_bind,some_bind]
 cases h1 : isSp p w with
 | false => exact ⟨[],1,by simp [h1],by simp,by simp,by simp,by simp,by simp⟩
 | true =>
  cases h2 : isSp q u with
  | false => exact ⟨[],1,by simp [h1,h2],by simp,by simp,by simp,by simp,by simp⟩
  | true =>
   obtain ⟨hP,l1,l6,hw⟩ := isSp_iff h1
   obtain ⟨hQ,k1,k6,hu⟩ := isSp_iff h2
   have hp := isP_le hP
   obtain ⟨d,d1,d2⟩ := s_l03Disc_eq hP hw hwl
   obtain ⟨d',d3,d4⟩ := s_l03Disc_eq hQ hu hul
   obtain ⟨bm,bm1,bm2⟩ := hasMany_eq (w := w) hp.1 hp.2 l6
   simp only [List.any_cons,List.any_nil,h1,h2,Bool.not_true,Bool.or_self,Bool.false_eq_true,if_false,not_true_eq_false,Bool.true_eq_false,some_bind,d1,d3,i_Space_regular_eq hwl,i_Space_regular_eq hul,i_isometric_eq h1 h2,s_isometric_eq h1 h2,bm1,bm2]
   cases z1 : hasZ w with
   | true =>
    have : d = 0 := d2.2 z1
    exact ⟨[],5,by simp,by simp [this],by simp,by simp,by simp,by simp⟩
   | false =>
    have e1 : ¬ d = 0 := fun e => by rw [d2.1 e] at z1; cases z1
    cases z2 : hasZ u with
    | true =>
     have : d' = 0 := d4.2 z2
     exact ⟨[],5,by simp,by simp [e1,this,ieq],by simp,by simp,by simp,by simp⟩
    | false =>
     have e2 : ¬ d' = 0 := fun e => by rw [d4.1 e] at z2; cases z2
     have e3 : ieq d' 0 = false := by simp [ieq,e2]
     simp only [e1,e3,if_false,Bool.not_false,Bool.not_true,Bool.true_eq_false,Bool.false_eq_true,some_bind]
     cases hq : isoQ p w q u with
     | false => exact ⟨[],4,by simp,by simp,by simp,by simp,by simp,by simp⟩
     | true =>
      cases bm with
      | true => exact ⟨[],3,by simp,by simp,by simp,by simp,by simp,by simp⟩
      | false =>
       obtain ⟨rfl,hl,_⟩ := iso_count h1 h2 hq
       have hu' : Vec p w.length u := by rw [hl]; exact hu
       have hw0 : ∀ i,i < w.length → gI w i ≠ 0 := fun i hi => hasZ_get z1 hi
       have hu0 : ∀ i,i < w.length → gI u i ≠ 0 := fun i hi => hasZ_get z2 (by omega)
       have hpar : parB p (gI u) w.length = parB p (gI w) w.length := by
        have hq' := hq
        simp only [isoQ,Bool.and_eq_true,decide_eq_true_eq] at hq'
        have h3 := hq'.2
        rw [sqb_prN hP hw hu' (Nat.le_refl _),eN_par hw0,eN_par hu0] at h3
        simpa using (beq_iff_eq.1 h3).symm
       obtain ⟨C,c1,c2,c3⟩ := iso_loops hP l6 rfl hl.symm hw hw0 hu' (Inv.start hP hw hw0 hu' hu0 hpar)
       obtain ⟨g1,g2⟩ := c3.gram hP hw
       simp only [Bool.true_eq_false,Bool.false_eq_true,if_false,c1,c2,some_bind,s_l02Turn_eq (show 0 < w.length by omega) (show w.length ≤ 1048576 by omega) (show w.length ≤ 1048576 by omega) g1,i_transpose_eq (show 0 < w.length by omega) (show w.length ≤ 1048576 by omega) (show w.length ≤ 1048576 by omega) g1]
       exact ⟨_,0,rfl,rfl,by simp,by simp,by simp,fun _ => ⟨by trivial,by trivial,by trivial,by trivial,by trivial,hl,C,rfl,g1,g2⟩⟩
end Go.Vam

/- Plain laws: the isometry that is found is one, and it keeps the products. -/
namespace Go.Vam
open Go Go.RowKit
set_option linter.unusedSimpArgs false
set_option linter.unusedVariables false
set_option linter.unusedSectionVars false

section
variable {p : Int} {n : Nat} {w u : List Int} {C : List (List Int)} (hP : isP p = true) (hn0 : 1 ≤ n) (hn : n ≤ 6) (hw : Vec p n w) (hw0 : ∀ i,i < n → gI w i ≠ 0) (hu : Vec p n u) (hC : Mat p n n C) (hG : GramR p n w u C)
include hP hn0 hn hw hw0 hu hC hG
theorem gram_sum (x : Nat → Int) (y : List Int) (z : List Int) (hz : ∀ i,i < n → p ∣ gI z i - sumN (fun k => gI (gR C k) i * x k) n) : p ∣ pairS n u z y - sumN (fun k => x k * pairS n u (gR C k) y) n := by
 have e : sumN (fun k => x k * pairS n u (gR C k) y) n = sumN (fun i => sumN (fun k => gI (gR C k) i * x k) n * (gI y i * gI u i)) n := by
  have : ∀ k,x k * pairS n u (gR C k) y = sumN (fun i => x k * (gI (gR C k) i * gI y i * gI u i)) n := fun k => (sumN_mulL _ _ _).symm
  simp only [this]
  rw [sumN_comm]
  refine sumN_congr fun i _ => ?_
  rw [← sumN_mulR]
  refine sumN_congr fun k _ => ?_
  generalize gI (gR C k) i = a
  generalize x k = b
  generalize gI y i = c
  generalize gI u i = d
  grind
 rw [e]
 unfold pairS
 rw [← sumN_sub]
 refine sumN_dvd fun i hi => ?_
 obtain ⟨m,hm⟩ := hz i hi
 refine ⟨m * (gI y i * gI u i),?_⟩
 rw [Int.mul_assoc,← Int.sub_mul,hm,Int.mul_assoc]
theorem gram_dvd {k j : Nat} (hk : k < n) (hj : j < n) : p ∣ pairS n u (gR C k) (gR C j) - if k = j then gI w k else 0 := by
 have hb : (0 : Int) ≤ (if k = j then gI w k else 0) ∧ (if k = j then gI w k else 0) < p := by
  have hp := isP_le hP
  have := hw.2 k hk
  split <;> omega
 exact (pair_eq_iff hb).1 (hG k j hk hj)
theorem gram_out {j : Nat} (hj : j < n) (x : Nat → Int) : p ∣ sumN (fun k => x k * pairS n u (gR C k) (gR C j)) n - x j * gI w j := by
 have e : x j * gI w j = sumN (fun k => x k * (if k = j then gI w k else 0)) n := by
  rw [sumN_one hj (fun q _ hq => by rw [if_neg hq,Int.mul_zero]),if_pos rfl]
 rw [e,← sumN_sub]
 refine sumN_dvd fun k hk => ?_
 rw [← Int.mul_sub]
 exact Int.dvd_mul_of_dvd_right (gram_dvd hP hn0 hn hw hw0 hu hC hG hk hj)
theorem not_Sg : ¬ Sg p n n (turnm n n C) := by
 rintro ⟨x,⟨j,hj,hxj⟩,hK⟩
 have hp := isP_le hP
 have h1 := gram_sum hP hn0 hn hw hw0 hu hC hG x (gR C j) (List.replicate n 0) fun i hi => by
  have := hK i hi
  unfold rd at this
  rw [sumN_congr (g := fun k => gI (gR C k) i * x k) fun k hk => by rw [turnm_at hk hi]] at this
  rw [show gI (List.replicate n (0 : Int)) i = 0 by rw [← gI_get (by simpa using hi)]; simp,Int.zero_sub]
  exact Int.dvd_neg.2 this
 have h2 : pairS n u (List.replicate n 0) (gR C j) = 0 := by
  unfold pairS
  rw [sumN_congr (g := fun _ => 0) fun q hq => by rw [show gI (List.replicate n (0 : Int)) q = 0 by rw [← gI_get (by simpa using hq)]; simp]; simp]
  exact sumN_zero n
 have h3 := gram_out hP hn0 hn hw hw0 hu hC hG hj x
 rw [h2,Int.zero_sub] at h1
 have h4 : p ∣ x j * gI w j := by
  obtain ⟨a,ha⟩ := h1
  obtain ⟨b,hb⟩ := h3
  exact ⟨-a - b,by grind⟩
 rcases (prime_dvd hP).1 h4 with h | h
 ·exact hxj h
 ·have a := hw.2 j hj
  have b := hw0 j hj
  have := Int.le_of_dvd (by omega) h
  omega
theorem keeps_pair {x y : List Int} (hx : Vec p n x) (hy : Vec p n y) : pairp p n u (applyv p n n (turnm n n C) x) (applyv p n n (turnm n n C) y) = pairp p n w x y := by
 have hp := isP_le hP
 have ha : ∀ x : List Int,∀ i,i < n → p ∣ gI (applyv p n n (turnm n n C) x) i - sumN (fun k => gI (gR C k) i * gI x k) n := fun x i hi => by
  unfold applyv
  rw [gI_vecN _ hi]
  unfold dotp
  rw [← mod_dvd,emm]
  congr 1
  exact sumN_congr fun k hk => by rw [turnm_at hk hi]
 rw [pairp_S,pairp_S,mod_dvd]
 have h1 := gram_sum hP hn0 hn hw hw0 hu hC hG (fun k => gI x k) (applyv p n n (turnm n n C) y) (applyv p n n (turnm n n C) x) (ha x)
 have h2 : ∀ k,k < n → p ∣ pairS n u (gR C k) (applyv p n n (turnm n n C) y) - gI y k * gI w k := fun k hk => by
  have a := gram_sum hP hn0 hn hw hw0 hu hC hG (fun k => gI y k) (gR C k) (applyv p n n (turnm n n C) y) (ha y)
  have b := gram_out hP hn0 hn hw hw0 hu hC hG hk (fun k => gI y k)
  rw [pairS_comm]
  obtain ⟨m1,g1⟩ := a
  obtain ⟨m2,g2⟩ := b
  exact ⟨m1 + m2,by rw [Int.mul_add,← g1,← g2]; omega⟩
 have h3 : p ∣ sumN (fun k => gI x k * pairS n u (gR C k) (applyv p n n (turnm n n C) y)) n - pairS n w x y := by
  unfold pairS at *
  rw [← sumN_sub]
  refine sumN_dvd fun k hk => ?_
  rw [Int.mul_assoc (gI x k),← Int.mul_sub]
  exact Int.dvd_mul_of_dvd_right (h2 k hk)
 obtain ⟨m1,g1⟩ := h1
 obtain ⟨m2,g2⟩ := h3
 exact ⟨m1 + m2,by rw [Int.mul_add,← g1,← g2]; omega⟩
theorem iso_true (hs : isSp p w = true) (hs2 : isSp p u = true) (hwl : w.length = n) (hul : u.length = n) : i_IsIsometry p w p u (turnm n n C) = some (true,0) := by
 subst hwl
 have hp := isP_le hP
 have hM := turnm_mat hC
 have hz := hM.sz (show w.length ≤ 1048576 by omega) (show w.length ≤ 1048576 by omega)
 have hi := (isMat_of hP hM hn0 (by omega) hn0 (by omega)).1
 have hlM : (turnm w.length w.length C).length = w.length := hM.1
 have hw1 : (gR (turnm w.length w.length C) 0).length = w.length := (hM.row (show 0 < w.length by omega)).1
 obtain ⟨d,_,d1,d2⟩ := Det_iff hP (show w.length ≤ 1048576 by omega) hM
 have hd : ieq d 0 = false := by
  have : ¬ d = 0 := fun e => not_Sg hP hn0 hn hw hw0 hu hC hG (d2.1 e)
  simp [ieq,this]
 have t1 := i_transpose_eq (p := p) (r := w.length) (c := w.length) (m := turnm w.length w.length C) (by omega) (by omega) (by omega) hM
 have hTT := turnm_mat hM
 have l2 := i_iso2_loop hP (by omega) hw hu hTT
 have hall : ((List.range w.length).all fun i => (List.range w.length).all (iso2 p w u (turnm w.length w.length (turnm w.length w.length C)) i)) = true := by
  rw [List.all_eq_true]
  intro i hi
  rw [List.all_eq_true]
  intro j hj
  rw [List.mem_range] at hi hj
  have hr : ∀ k,k < w.length → gR (turnm w.length w.length (turnm w.length w.length C)) k = gR C k := fun k hk => by
   rw [extI (hC.row hk).1 fun q _ => rfl]
   refine extI (hTT.row hk).1 fun q hq => ?_
   rw [turnm_at hq hk,turnm_at hk hq]
  unfold iso2
  rw [hr i hi,hr j hj]
  exact decide_eq_true (hG i j hi hj)
 rw [hall,if_pos rfl] at l2
 unfold i_IsIsometry i_isIsometry i_Space_dim i_Space_field
 rw [checkSpaces_eq (by simp) (by intro x hx; simp at hx; rcases hx with rfl | rfl <;> simp only <;> omega),some_bind]
 simp only [List.any_cons,List.any_nil,hs,hs2,Bool.not_true,Bool.or_self,Bool.false_eq_true,if_false,not_true_eq_false,some_bind,hul,i_field_isMatrix_eq hP hz,hi,Bool.true_eq_false,hlM,idxR0 (show 0 < (turnm w.length w.length C).length by omega),hw1,d1,hd,t1,l2]
end
end Go.Vam

/- Plain laws: FnIsometries. -/
namespace Go.Vam
open Go Go.RowKit
set_option linter.unusedSimpArgs false
set_option linter.unusedVariables false
set_option linter.unusedSectionVars false

theorem PairOf_eq {p : Int} {w x y : List Int} (hs : isSp p w = true) (hx : Vec p w.length x) (hy : Vec p w.length y) : i_PairOf p w x y = some (pairp p w.length w x y,0) := by
 obtain ⟨hP,l1,l6,hw⟩ := isSp_iff hs
 have hp := isP_le hP
 have hc : ∀ v,Vec p w.length v → i_checkVectors_c1 v p w = some false := fun v hv => by
  unfold i_checkVectors_c1 i_Space_isVector i_Space_dim i_Space_field
  have e := hv.1
  rw [some_bind,if_pos (by omega),some_bind,i_field_is_eq (by omega) (by omega) (by omega),hv.nums]
  rfl
 have hcv : i_checkVectors p w [x,y] = some 0 := by
  unfold i_checkVectors g_slices_ContainsFunc_LLI_LI_of_i_checkVectors_c1 g_slices_IndexFunc_LLI_LI_of_i_checkVectors_c1
  rw [i_IsSpace_eq (by omega),hs,some_bind,if_neg (by simp)]
  obtain ⟨b,h1,h2⟩ := any_loop (g_slices_IndexFunc_LLI_LI_of_i_checkVectors_c1_L0 [x,y] p w) 2 (fun _ => false) (fun k => (k : Int)) (by rw [BIG_val]; omega)
   (fun k hk _ => by
    unfold g_slices_IndexFunc_LLI_LI_of_i_checkVectors_c1_L0
    have hr : i_checkVectors_c1 (gR [x,y] k) p w = some false := by
     rcases (show k = 0 ∨ k = 1 by omega) with rfl | rfl
     ·exact hc x hx
     ·exact hc y hy
    rw [if_pos (by simp only [List.length_cons,List.length_nil]; omega),idxR (m := [x,y]) (by simpa using hk),some_bind,hr,some_bind,if_neg (by simp),w_in (by omega) (by omega)]; rfl) (fun k hk hf => by cases hf) (by
    unfold g_slices_IndexFunc_LLI_LI_of_i_checkVectors_c1_L0
    rw [if_neg (by simp)])
  rcases h2 with ⟨rfl,_⟩ | ⟨k,_,_,hf,_⟩
  ·rw [h1,some_bind]
   rfl
  ·cases hf
 unfold i_PairOf
 rw [hcv,some_bind,if_neg (by simp),i_Space_pair_eq hP (by omega) hw hx hy,some_bind]

/-! ### Draws -/
theorem any3_eq {c : List Int} {a h N : Int} (hS : Src c a) (h1 : 1 ≤ N) (h2 : N ≤ 100) : ∃ (p : Int) (ws : List Int) (a' h' : Int),s_l03Any c a h N = some ((p,ws),(c,a',h')) ∧ isP p = true ∧ 1 ≤ ws.length ∧ (ws.length : Int) ≤ N ∧ Src c a' := by
 unfold s_l03Any s_l01DrawPrime
 obtain ⟨p,a1,g1,e1,m1,S1⟩ := pick_eq (h := h) (l := [3,5,7,11,13,3,5,7]) hS (by simp) (by simp)
 have hP : isP p = true := by
  simp only [List.mem_cons,List.not_mem_nil,or_false] at m1
  rcases m1 with rfl | rfl | rfl | rfl | rfl | rfl | rfl | rfl <;> rfl
 have hp := isP_le hP
 obtain ⟨r,a2,g2,e2,p2,q2,S2⟩ := next_eq (h := g1) (n := N) S1 h1 (by omega)
 obtain ⟨m,rfl⟩ : ∃ m : Nat,r = (m : Int) := ⟨r.toNat,by omega⟩
 obtain ⟨b,f1,a3,g3,ws,rfl,f2,f3⟩ := loop_inv (step := s_l03Any_L0 (p,(c,a1,g1))) (fun s => ∃ (j : Nat) (a' h' : Int) (out : List Int),s = (c,a',h',p,out,((m + 1 - j : Nat) : Int)) ∧ j ≤ m + 1 ∧ out.length = j ∧ Src c a') (fun s => s.2.2.2.2.2.toNat)
  (fun b => ∃ (a' h' : Int) (out : List Int),b = (c,a',h',p,out) ∧ out.length = m + 1 ∧ Src c a') (s := (c,a2,g2,p,[],((m + 1 : Nat) : Int))) ⟨0,a2,g2,[],rfl,by omega,rfl,S2⟩ (by rw [BIG_val]; simp only []; omega) (by
   rintro s ⟨j,a',h',out,rfl,hj,ho,hS'⟩
   unfold s_l03Any_L0
   dsimp only
   by_cases hjm : j < m + 1
   ·refine .inl ?_
    obtain ⟨r1,a4,g4,e4,_,_,S4⟩ := next_eq (h := h') (n := p - 1) hS' (by omega) (by omega)
    obtain ⟨x,a5,g5,e5,_,S5⟩ := pick_eq (h := g4) (l := [1,p - 1,w64 (1 + r1),1]) S4 (by simp) (by simp)
    obtain ⟨r3,a6,g6,e6,_,_,S6⟩ := next_eq (h := g5) (n := 10) S5 (by omega) (by omega)
    rw [if_pos (by omega),w_in (x := p - 1) (by omega) (by omega),e4,some_bind]
    simp only [e5,e6,some_bind]
    obtain ⟨z,hz⟩ : ∃ z : Int,((if r3 = 0 then some 0 else some x) : Option Int) = some z := by split <;> exact ⟨_,rfl⟩
    rw [hz,some_bind,chk_bind (by simp only [List.length_cons,List.length_nil]; omega),w_in (by omega) (by omega)]
    exact ⟨_,rfl,⟨j + 1,a6,g6,out ++ [z],by congr 5; omega,by omega,by simp [ho],S6⟩,by simp only []; omega⟩
   ·have : j = m + 1 := by omega
    subst this
    refine .inr ⟨(c,a',h',p,out),?_,a',h',out,rfl,ho,hS'⟩
    rw [if_neg (by omega)])
 rw [e1,some_bind]
 dsimp only
 rw [some_bind,e2,some_bind]
 dsimp only
 have e9 : w64 (1 + (m : Int)) = ((m + 1 : Nat) : Int) := by rw [w_in (by omega) (by omega)]; omega
 rw [e9,f1,some_bind]
 exact ⟨p,ws,a3,g3,rfl,hP,by omega,by omega,f3⟩
theorem draw3_eq {c : List Int} {a h : Int} (hS : Src c a) : ∃ (p : Int) (ws : List Int) (a' h' : Int),s_l03Draw c a h = some ((p,ws),(c,a',h')) ∧ isP p = true ∧ 1 ≤ ws.length ∧ ws.length ≤ 6 ∧ Src c a' := by
 unfold s_l03Draw
 obtain ⟨x,a1,g1,e1,m1,S1⟩ := pick_eq (h := h) (l := [2,3,3,4,6]) hS (by simp) (by simp)
 simp only [List.mem_cons,List.not_mem_nil,or_false] at m1
 obtain ⟨p,ws,a2,g2,e2,p1,p2,p3,S2⟩ := any3_eq (h := g1) (N := x) S1 (by omega) (by omega)
 simp only [e1,e2,some_bind]
 exact ⟨p,ws,a2,g2,rfl,p1,p2,by omega,S2⟩
theorem spoil3_loop (p : Int) : ∀ (ws : List Int),ws.length ≤ 6 → ∃ us,loop s_l03Spoil_L0 BIG (p,ws) = some (p,us) ∧ us.length ≤ 7 := by
 intro ws hw
 obtain ⟨b,h1,us,rfl,h2⟩ := loop_inv (step := s_l03Spoil_L0) (fun s => ∃ out : List Int,s = (p,out) ∧ out.length ≤ 7) (fun s => 7 - s.2.length) (fun b => ∃ out : List Int,b = (p,out) ∧ out.length ≤ 7) (s := (p,ws)) ⟨ws,rfl,by omega⟩ (by rw [BIG_val]; simp only []; omega) (by
  rintro s ⟨out,rfl,ho⟩
  unfold s_l03Spoil_L0
  dsimp only
  by_cases h : out.length < 7
  ·refine .inl ?_
   rw [if_pos (by omega),chk_bind (by simp only [List.length_cons,List.length_nil]; omega)]
   exact ⟨_,rfl,⟨_,rfl,by simp; omega⟩,by simp; omega⟩
  ·rw [if_neg (by omega)]
   exact .inr ⟨_,rfl,out,rfl,ho⟩)
 exact ⟨us,h1,h2⟩
theorem spoil3_eq {c : List Int} {a h : Int} (hS : Src c a) : ∃ (p : Int) (ws : List Int) (a' h' : Int),s_l03Spoil c a h = some ((p,ws),(c,a',h')) ∧ ws.length ≤ 7 ∧ Src c a' := by
 unfold s_l03Spoil
 obtain ⟨p,ws,a1,g1,e1,p1,p2,p3,S1⟩ := draw3_eq (h := h) hS
 obtain ⟨r,a2,g2,e2,_,_,S2⟩ := next_eq (h := g1) (n := 40) S1 (by omega) (by omega)
 simp only [e1,e2,some_bind]
 by_cases h0 : r = 0
 ·obtain ⟨x,a3,g3,e3,_,S3⟩ := pick_eq (h := g2) (l := [4,1,17,0]) S2 (by simp) (by simp)
  simp only [h0,if_true,e3,some_bind]
  exact ⟨x,ws,a3,g3,rfl,by omega,S3⟩
 ·by_cases h1 : r = 1
  ·obtain ⟨x,a3,g3,e3,_,S3⟩ := pick_eq (h := g2) (l := [-1,p]) S2 (by simp) (by simp)
   simp only [h1,if_true,e3,some_bind,idxI0 (show 0 < ws.length by omega),show ¬ ((1 : Int) = 0) by omega,if_false]
   exact ⟨p,ws.set 0 x,a3,g3,rfl,by rw [List.length_set]; omega,S3⟩
  ·by_cases h2 : r = 2
   ·simp only [h2,if_true,some_bind,show ¬ ((2 : Int) = 0) by omega,show ¬ ((2 : Int) = 1) by omega,if_false]
    exact ⟨p,[],a2,g2,rfl,by simp,S2⟩
   ·by_cases h3 : r = 3
    ·obtain ⟨us,u1,u2⟩ := spoil3_loop p ws p3
     simp only [h3,if_true,some_bind,show ¬ ((3 : Int) = 0) by omega,show ¬ ((3 : Int) = 1) by omega,show ¬ ((3 : Int) = 2) by omega,if_false,u1]
     exact ⟨p,us,a2,g2,rfl,u2,S2⟩
    ·simp only [h0,h1,h2,h3,if_false,some_bind]
     exact ⟨p,ws,a2,g2,rfl,by omega,S2⟩
theorem two3_eq {c : List Int} {a h N : Int} (hS : Src c a) (h1 : 1 ≤ N) (h2 : N ≤ 10) : ∃ (p q : Int) (w u : List Int) (a' h' : Int),s_l03Two c a h N = some (((p,w),(q,u)),(c,a',h')) ∧ w.length ≤ 16 ∧ u.length ≤ 16 ∧ Src c a' := by
 unfold s_l03Two
 obtain ⟨p,ws,a1,g1,e1,p1,p2,p3,S1⟩ := any3_eq (h := h) hS h1 (by omega)
 have hp := isP_le p1
 rw [e1,some_bind]
 obtain ⟨b,f1,a3,g3,us,rfl,f2,f3⟩ := loop_inv (step := s_l03Two_L0 ((p,ws),(c,a1,g1))) (fun s => ∃ (j : Nat) (a' h' : Int) (out : List Int),s = (c,a',h',p,out,(j : Int)) ∧ j ≤ ws.length ∧ out.length = j ∧ Src c a') (fun s => ws.length - s.2.2.2.2.2.toNat)
  (fun b => ∃ (a' h' : Int) (out : List Int),b = (c,a',h',p,out) ∧ out.length = ws.length ∧ Src c a') (s := (c,a1,g1,p,[],0)) ⟨0,a1,g1,[],rfl,by omega,rfl,S1⟩ (by rw [BIG_val]; simp only []; omega) (by
   rintro s ⟨j,a',h',out,rfl,hj,ho,hS'⟩
   unfold s_l03Two_L0
   dsimp only
   by_cases hjm : j < ws.length
   ·refine .inl ?_
    obtain ⟨r1,a4,g4,e4,_,_,S4⟩ := next_eq (h := h') (n := p - 1) hS' (by omega) (by omega)
    obtain ⟨x,a5,g5,e5,_,S5⟩ := pick_eq (h := g4) (l := [1,p - 1,w64 (1 + r1)]) S4 (by simp) (by simp)
    obtain ⟨r3,a6,g6,e6,_,_,S6⟩ := next_eq (h := g5) (n := 3) S5 (by omega) (by omega)
    rw [if_pos (by omega),w_in (x := p - 1) (by omega) (by omega),e4,some_bind]
    simp only [e5,e6,some_bind]
    obtain ⟨z,a7,g7,hz,S7⟩ : ∃ (z a7 g7 : Int),((if 0 < r3 then (idx ws (j : Int)).bind fun v15 => (s_l01Next c a6 g6 p).bind fun v16 => (if 0 < v16.1 then (chk (¬ p = 0)).bind fun _ => (chk (¬ p = 0)).bind fun _ => some (v16.2.1,v16.2.2.1,v16.2.2.2,(w64 (((w64 (v15 * v16.1)).tmod p) * v16.1)).tmod p) else some (v16.2.1,v16.2.2.1,v16.2.2.2,v15)) else some (c,a6,g6,x)) : Option ((List Int) × Int × Int × Int)) = some (c,a7,g7,z) ∧ Src c a7 := by
     by_cases h0 : 0 < r3
     ·obtain ⟨r8,a8,g8,e8,_,_,S8⟩ := next_eq (h := g6) (n := p) S6 (by omega) (by omega)
      rw [if_pos h0,idxI hjm,some_bind,e8,some_bind]
      dsimp only
      by_cases h9 : 0 < r8
      ·rw [if_pos h9,chk_bind (by omega),chk_bind (by omega)]
       exact ⟨_,a8,g8,rfl,S8⟩
      ·rw [if_neg h9]
       exact ⟨_,a8,g8,rfl,S8⟩
     ·rw [if_neg h0]
      exact ⟨x,a6,g6,rfl,S6⟩
    rw [hz,some_bind,chk_bind (by simp only [List.length_cons,List.length_nil]; omega),w_in (by omega) (by omega)]
    exact ⟨_,rfl,⟨j + 1,a7,g7,out ++ [z],rfl,by omega,by simp [ho],S7⟩,by simp only []; omega⟩
   ·have : j = ws.length := by omega
    subst this
    refine .inr ⟨(c,a',h',p,out),?_,a',h',out,rfl,ho,hS'⟩
    rw [if_neg (by omega)])
 dsimp only
 rw [f1,some_bind]
 obtain ⟨r4,a4,g4,e4,p4,q4,S4⟩ := next_eq (h := g3) (n := (us.length : Int)) f3 (by omega) (by omega)
 have hd : (us.drop r4.toNat).length ≤ 16 := by rw [List.length_drop]; omega
 have ho : s_l01Own (us.drop r4.toNat) = some (us.drop r4.toNat) := by
  unfold s_l01Own
  rw [chk_bind (by simp only [List.length_nil]; omega)]
  rfl
 have ht : (us.take r4.toNat).length ≤ 16 := by rw [List.length_take]; omega
 have hdt : (us.drop r4.toNat ++ us.take r4.toNat).length ≤ 16 := by rw [List.length_append,List.length_drop,List.length_take]; omega
 simp only [e4,some_bind]
 rw [chk_bind (by omega),ho,some_bind,chk_bind (by omega),chk_bind (by omega)]
 obtain ⟨r5,a5,g5,e5,_,_,S5⟩ := next_eq (h := g4) (n := 24) S4 (by omega) (by omega)
 rw [e5,some_bind]
 dsimp only
 obtain ⟨q,vs,a6,g6,e6,v1,S6⟩ := spoil3_eq (h := g5) S5
 by_cases c0 : r5 = 0
 ·rw [if_pos c0,e6,some_bind]
  exact ⟨_,_,_,_,_,_,rfl,by omega,by simp only; omega,S6⟩
 ·rw [if_neg c0]
  by_cases c1 : r5 = 1
  ·rw [if_pos c1,e6,some_bind]
   exact ⟨_,_,_,_,_,_,rfl,by simp only; omega,hdt,S6⟩
  ·rw [if_neg c1]
   exact ⟨_,_,_,_,_,_,rfl,by omega,hdt,S5⟩
theorem DrawIsometryOf_eq {c : List Int} (hc : c.length ≤ 4096) (hb : ∀ x ∈ c,0 ≤ x ∧ x ≤ 255) : ∃ (p q : Int) (w u : List Int),s_DrawIsometryOf c = some ((p,w),(q,u)) ∧ w.length ≤ 16 ∧ u.length ≤ 16 := by
 unfold s_DrawIsometryOf
 obtain ⟨h0,e0,S0⟩ := from_eq hc hb
 obtain ⟨x,a1,g1,e1,m1,S1⟩ := pick_eq (h := h0) (l := [2,3,3,4]) S0 (by simp) (by simp)
 simp only [List.mem_cons,List.not_mem_nil,or_false] at m1
 obtain ⟨p,q,w,u,a2,g2,e2,b1,b2,_⟩ := two3_eq (h := g1) (N := x) S1 (by omega) (by omega)
 simp only [e0,e1,e2,some_bind]
 exact ⟨p,q,w,u,rfl,b1,b2⟩

theorem count_loop {p q : Int} {w u : List Int} (hs : isSp p w = true) (hs2 : isSp q u = true) (h : isoQ p w q u = true) : loop (l_FnIsometries_L0 ((p,w),(q,u))) BIG 0 = some (.inl ()) := by
 obtain ⟨rfl,hl,hc⟩ := iso_count hs hs2 h
 obtain ⟨hP,_⟩ := isSp_iff hs
 have hp := isP_le hP
 obtain ⟨b,h1,h2⟩ := any_loop (l_FnIsometries_L0 ((p,w),(p,u))) p.toNat (fun _ => false) (fun _ => .inr false) (by rw [BIG_val]; omega)
  (fun k hk _ => by
   unfold l_FnIsometries_L0
   dsimp only
   rw [if_pos (by omega),CountVectors_eq hs ⟨by omega,by omega⟩,CountVectors_eq hs2 ⟨by omega,by omega⟩,some_bind,some_bind]
   dsimp only
   rw [if_neg (by simp),if_neg (by simp),some_bind,hc,ieq_self,if_neg (by simp),w_in (by omega) (by omega)]; rfl) (fun k hk hf => by cases hf) (by
   unfold l_FnIsometries_L0
   dsimp only
   rw [if_neg (by omega)])
 rcases h2 with ⟨rfl,_⟩ | ⟨k,_,_,hf,_⟩
 ·exact h1
 ·cases hf
theorem LawIsometries {c : List Int} (hl : lenI c) (hb : ∀ x ∈ c,0 ≤ x ∧ x ≤ 255) : l_FnIsometries c = some true := by
 unfold l_FnIsometries l_big
 rw [some_bind]
 by_cases hbig : (4096 : Int) < (c.length : Int)
 ·rw [if_pos (by simp [ilt,hbig])]
 rw [if_neg (by simp [ilt]; omega)]
 have hc : c.length ≤ 4096 := by omega
 obtain ⟨p,q,w,u,e0,b1,b2⟩ := DrawIsometryOf_eq hc hb
 obtain ⟨M,cd,e1,e2,k1,k2,k3,k4⟩ := IsometryOf_eq (p := p) (q := q) (w := w) (u := u) (by omega) (by omega)
 obtain ⟨a1,a2⟩ := AreIsometric_eq (p := p) (q := q) (w := w) (u := u) (by omega) (by omega)
 have hM : szM M := by
  by_cases h : cd = 0
  ·obtain ⟨hs,_,_,_,_,_,C,rfl,hC,_⟩ := k4 h
   obtain ⟨_,l1,l6,_⟩ := isSp_iff hs
   exact (turnm_mat hC).sz (by omega) (by omega)
  ·rw [k3 h]; exact ⟨by simp,by simp⟩
 rw [e0,some_bind]
 simp only [e1,e2,a1,a2,some_bind,likeR_self hM,not_true_eq_false,if_false,Bool.true_eq_false,bne_self_eq_false,Bool.false_eq_true]
 cases hss : (isSp p w && isSp q u) with
 | false =>
  rw [k1 hss]
  simp [ieq]
 | true =>
  obtain ⟨k5,k6⟩ := k2 hss
  obtain ⟨hs,hs2⟩ := Bool.and_eq_true_iff.1 hss
  simp only [if_true,not_true_eq_false,if_false]
  have hx : ((if isoQ p w q u = true then (loop (l_FnIsometries_L0 ((p,w),(q,u))) BIG 0).bind fun x23 => (match x23 with | .inl y25 => some (.inl ()) | .inr t => some t) else some (.inl ())) : Option (Unit ⊕ Bool)) = some (.inl ()) := by
   cases hq : isoQ p w q u with
   | false => rfl
   | true => rw [if_pos rfl,count_loop hs hs2 hq,some_bind]
  refine (congrArg (fun z => Option.bind z _) hx).trans ?_
  rw [some_bind]
  dsimp only
  have hy : ((if cd = 4 then (if isoQ p w q u = true then some true else (if cd = 0 then some (!isoQ p w q u) else some false)) else (if cd = 0 then some (!isoQ p w q u) else some false)) : Option Bool) = some false := by
   by_cases h4 : cd = 4
   ·rw [if_pos h4,k5 h4,if_neg (by simp),if_neg (by omega)]
   ·rw [if_neg h4]
    by_cases h0 : cd = 0
    ·rw [if_pos h0,k6 h0]; rfl
    ·rw [if_neg h0]
  rw [hy,some_bind,if_neg (by simp)]
  by_cases h0 : cd = 0
  ·rw [if_neg (by simp [h0])]
   obtain ⟨_,_,z1,z2,rfl,hlw,C,rfl,hC,hG⟩ := k4 h0
   obtain ⟨hP,l1,l6,hw⟩ := isSp_iff hs
   obtain ⟨_,_,_,hu⟩ := isSp_iff hs2
   have hp := isP_le hP
   have hu' : Vec p w.length u := by rw [hlw]; exact hu
   have hw0 : ∀ i,i < w.length → gI w i ≠ 0 := fun i hi => hasZ_get z1 hi
   have t1 := iso_true hP l1 l6 hw hw0 hu' hC hG hs hs2 rfl hlw.symm
   obtain ⟨h',r1,S1⟩ := roll_eq (c := c) 835 hc hb
   obtain ⟨x,a3,g3,r2,hx2,S2⟩ := list5_eq (h := h') (p := p) (n := w.length) S1 (by omega) (by omega) (by omega)
   obtain ⟨y,a4,g4,r3,hy2,S3⟩ := list5_eq (h := g3) (p := p) (n := w.length) S2 (by omega) (by omega) (by omega)
   have hMm := turnm_mat hC
   have p1 := apply_ok hP l1 (by omega) hMm hx2
   have p2 := apply_ok hP l1 (by omega) hMm hy2
   have p3 := PairOf_eq hs hx2 hy2
   have p4 := PairOf_eq hs2 (x := applyv p w.length w.length (turnm w.length w.length C) x) (y := applyv p w.length w.length (turnm w.length w.length C) y) (by rw [← hlw]; exact applyv_vec (by omega) ..) (by rw [← hlw]; exact applyv_vec (by omega) ..)
   rw [← hlw,keeps_pair hP l1 l6 hw hw0 hu' hC hG hx2 hy2] at p4
   simp only [t1,r1,r2,r3,p1,p2,p3,p4,some_bind,if_true,ieq_self]
  ·rw [if_pos h0]
end Go.Vam
