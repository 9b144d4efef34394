import Derived.Test.YtijmfifejmgeaaaFmG0
import Derived.Test.YtijmfifejmgeaaaPlG0
/- Plain laws: what is drawn from a code. -/
namespace Go.Vam
open Go Go.RowKit
set_option linter.unusedSimpArgs false
set_option linter.unusedVariables false
set_option linter.unusedSectionVars false

structure Src (c : List Int) (a : Int) : Prop where
 len : c.length ≤ 4096
 byte : ∀ x ∈ c,0 ≤ x ∧ x ≤ 255
 pos : 0 ≤ a
 le : a ≤ c.length

theorem band_le (h : Int) : 0 ≤ w64 (band .u64 h 16777215) ∧ w64 (band .u64 h 16777215) ≤ 16777215 := by
 have h1 : ((BitVec.ofInt 64 h &&& BitVec.ofInt 64 16777215).toNat : Nat) ≤ 16777215 := by
  rw [BitVec.toNat_and]
  exact Nat.le_trans Nat.and_le_right (by decide)
 have h2 : band .u64 h 16777215 = ((BitVec.ofInt 64 h &&& BitVec.ofInt 64 16777215).toNat : Int) := by
  unfold band
  show IntKind.u64.wrap ((BitVec.ofInt 64 h &&& BitVec.ofInt 64 16777215).toNat : Int) = _
  generalize (BitVec.ofInt 64 h &&& BitVec.ofInt 64 16777215).toNat = n at h1
  simp only [IntKind.wrap,IntKind.signed,IntKind.bits]
  simp
  omega
 rw [h2,w_in (by omega) (by omega)]
 omega
theorem next_eq {c : List Int} {a h n : Int} (hS : Src c a) (hn : 1 ≤ n) (hn2 : n ≤ 4611686018427387904) :
  ∃ r a' h',s_l01Next c a h n = some (r,(c,a',h')) ∧ 0 ≤ r ∧ r < n ∧ Src c a' := by
 unfold s_l01Next
 rw [if_neg (by omega)]
 by_cases hlt : a < (c.length : Int)
 ·obtain ⟨k,rfl⟩ := Int.eq_ofNat_of_zero_le hS.pos
  have hk : k < c.length := by omega
  rw [if_pos (by omega),idxI hk,some_bind,some_bind,chk_bind (by omega)]
  have hb := hS.byte (gI c k) (by rw [show gI c k = c[k] from by unfold gI; simp [hk]]; exact List.getElem_mem hk)
  obtain ⟨b1,b2⟩ := band_le (shr .u64 (IntKind.u64.wrap ((IntKind.u64.wrap (h * 6364136223846793005)) + 1442695040888963407)) 33)
  refine ⟨_,_,_,rfl,?_,?_,hS.len,hS.byte,?_,?_⟩
  ·simp only []
   rw [w_in (x := gI c k) (by omega) (by omega),w_in (by omega) (by omega),tmod_nn (by omega)]
   exact Int.emod_nonneg _ (by omega)
  ·simp only []
   rw [w_in (x := gI c k) (by omega) (by omega),w_in (by omega) (by omega),tmod_nn (by omega)]
   exact Int.emod_lt_of_pos _ (by omega)
  ·simp only []; have := hS.len; rw [w_in (by omega) (by omega)]; omega
  ·simp only []; have := hS.len; rw [w_in (by omega) (by omega)]; omega
 ·rw [if_neg hlt,some_bind,chk_bind (by omega)]
  obtain ⟨b1,b2⟩ := band_le (shr .u64 (IntKind.u64.wrap ((IntKind.u64.wrap (h * 6364136223846793005)) + 1442695040888963407)) 33)
  refine ⟨_,_,_,rfl,?_,?_,hS⟩
  ·simp only []
   rw [tmod_nn (by omega)]
   exact Int.emod_nonneg _ (by omega)
  ·simp only []
   rw [tmod_nn (by omega)]
   exact Int.emod_lt_of_pos _ (by omega)
theorem pick_eq {c : List Int} {a h : Int} {l : List Int} (hS : Src c a) (hl : 1 ≤ l.length) (hl2 : l.length ≤ 100) :
  ∃ x a' h',s_l01Pick c a h l = some (x,(c,a',h')) ∧ x ∈ l ∧ Src c a' := by
 unfold s_l01Pick
 obtain ⟨r,a',h',e,r1,r2,r3⟩ := next_eq (h := h) (n := (l.length : Int)) hS (by omega) (by omega)
 rw [e,some_bind]
 obtain ⟨k,rfl⟩ := Int.eq_ofNat_of_zero_le r1
 have hk : k < l.length := by omega
 rw [idxk hk,some_bind]
 exact ⟨_,_,_,rfl,List.getElem_mem hk,r3⟩
theorem vec_one {p r : Int} (h1 : 0 ≤ r) (h2 : r < p) : Vec p 1 [r] := ⟨rfl,fun k hk => by
 have : k = 0 := by omega
 subst this
 exact ⟨h1,h2⟩⟩
theorem list_eq {c : List Int} {a h p : Int} {n : Nat} (hS : Src c a) (hp : 1 ≤ p) (hp2 : p ≤ 100) (hn : n ≤ 1000) : ∃ v a' h',s_l01List c a h p (n : Int) = some (v,(c,a',h')) ∧ Vec p n v ∧ Src c a' := by
 unfold s_l01List
 obtain ⟨b,h1,v,a',h',rfl,h3,h4⟩ := loop_inv (step := s_l01List_L0 p) (fun s => ∃ (k : Nat) (a' h' : Int) (out : List Int),s = (c,a',h',((n - k : Nat) : Int),out) ∧ k ≤ n ∧ Vec p k out ∧ Src c a') (fun s => s.2.2.2.1.toNat)
  (fun b => ∃ v a' h',b = (c,a',h',v) ∧ Vec p n v ∧ Src c a') (s := (c,a,h,(n : Int),[])) ⟨0,a,h,[],rfl,by omega,⟨rfl,by simp⟩,hS⟩ (by rw [BIG_val]; simp only []; omega) (by
   rintro s ⟨k,a',h',out,rfl,hk,hv,hS'⟩
   unfold s_l01List_L0
   by_cases hkn : k < n
   ·refine .inl ?_
    obtain ⟨r,a2,h2,e,r1,r2,S2⟩ := next_eq (h := h') (n := p) hS' hp (by omega)
    have e3 := hv.1
    simp only [show (0 : Int) < ((n - k : Nat) : Int) by omega,if_true,e,some_bind]
    rw [chk_bind (by simp only [List.length_cons,List.length_nil]; omega),w_in (by omega) (by omega)]
    refine ⟨_,rfl,⟨k + 1,a2,h2,out ++ [r],by congr 4; omega,by omega,hv.append (y := [r]) (vec_one r1 r2),S2⟩,by simp only []; omega⟩
   ·have : k = n := by omega
    subst this
    refine .inr ⟨(c,a',h',out),?_,out,a',h',rfl,hv,hS'⟩
    simp)
 rw [h1,some_bind]
 exact ⟨v,a',h',rfl,h3,h4⟩
theorem from_eq {c : List Int} (hc : c.length ≤ 4096) (hb : ∀ x ∈ c,0 ≤ x ∧ x ≤ 255) : ∃ h',s_l01From c = some (c,0,h') ∧ Src c 0 := by
 unfold s_l01From
 obtain ⟨b,h1,h',rfl⟩ := loop_inv (step := s_l01From_L0 c) (fun s => ∃ (k : Nat) (h' : Int),s = (c,0,h',(k : Int)) ∧ k ≤ c.length) (fun s => c.length - s.2.2.2.toNat)
  (fun b => ∃ h' : Int,b = (c,(0 : Int),h')) (s := (c,0,IntKind.u64.wrap (4409 + (IntKind.u64.wrap ((c.length : Int)))),0)) ⟨0,_,rfl,by omega⟩ (by rw [BIG_val]; simp only []; omega) (by
   rintro s ⟨k,h',rfl,hk⟩
   unfold s_l01From_L0
   by_cases hkn : k < c.length
   ·refine .inl ?_
    simp only [lt_cast hkn,if_true,some_bind,ilt_true (show (k : Int) < 4096 by omega),idxI hkn]
    rw [w_in (by omega) (by omega)]
    exact ⟨_,rfl,⟨k + 1,_,rfl,by omega⟩,by simp only []; omega⟩
   ·have : k = c.length := by omega
    subst this
    refine .inr ⟨(c,0,h'),?_,h',rfl⟩
    simp)
 rw [h1,some_bind]
 exact ⟨h',rfl,hc,hb,by omega,by omega⟩
end Go.Vam

/- Plain laws: reflections keep the products of vectors. -/
namespace Go.Vam
open Go Go.RowKit
set_option linter.unusedSimpArgs false
set_option linter.unusedVariables false
set_option linter.unusedSectionVars false

def pairS (n : Nat) (w x y : List Int) : Int := sumN (fun k => gI x k * gI y k * gI w k) n
theorem pairp_S (p : Int) (n : Nat) (w x y : List Int) : pairp p n w x y = pairS n w x y % p := rfl
theorem pairS_comm (n : Nat) (w x y : List Int) : pairS n w x y = pairS n w y x := by
 unfold pairS
 exact sumN_congr fun k _ => by rw [Int.mul_comm (gI x k)]
theorem pairS_lin {p : Int} {n : Nat} {w x x' u y : List Int} {c : Int} (h : ∀ k,k < n → gI x' k % p = (gI x k + c * gI u k) % p) : pairS n w x' y % p = (pairS n w x y + c * pairS n w u y) % p := by
 unfold pairS
 rw [← sumN_lin]
 refine sumN_mod fun k hk => ?_
 rw [Int.mul_assoc,mul_mod_l (h k hk)]
 congr 1
 rw [Int.add_mul,Int.mul_assoc,Int.mul_assoc,Int.mul_assoc]
def reflv (p : Int) (n : Nat) (w u v : List Int) : List Int := plusv p n v u (-2 * pairS n w u v * invp p (pairp p n w u u))
theorem reflv_vec {p : Int} (hp : 0 < p) (n : Nat) (w u v : List Int) : Vec p n (reflv p n w u v) := plusv_vec hp ..
theorem reflv_at {p : Int} {n k : Nat} {w u v : List Int} (hk : k < n) : gI (reflv p n w u v) k = (gI v k + (-2 * pairS n w u v * invp p (pairp p n w u u)) * gI u k) % p := plusv_at hk
theorem inv_dvd {p a : Int} (hP : isP p = true) (h0 : a % p ≠ 0) : p ∣ invp p (a % p) * a - 1 := by
 have hp := isP_le hP
 have hn := mod_num (a := a) (p := p) (by omega)
 obtain ⟨_,_,i3⟩ := inv_facts (a := a % p) hP (by omega) hn.2
 rw [← mod_dvd,Int.emod_eq_of_lt (show (0 : Int) ≤ 1 by omega) (by omega),Int.mul_comm,← i3]
 exact (mul_mod_l (emm a p)).symm
theorem reflv_pair {p : Int} {n : Nat} {w u : List Int} (hP : isP p = true) (hu : pairp p n w u u ≠ 0) (x y : List Int) :
  pairp p n w (reflv p n w u x) (reflv p n w u y) = pairp p n w x y := by
 rw [pairp_S,pairp_S]
 have ht := inv_dvd hP (a := pairS n w u u) hu
 rw [← pairp_S] at ht
 have hx : ∀ k,k < n → gI (reflv p n w u x) k % p = (gI x k + (-2 * pairS n w u x * invp p (pairp p n w u u)) * gI u k) % p := fun k hk => by rw [reflv_at hk,emm]
 have hy : ∀ k,k < n → gI (reflv p n w u y) k % p = (gI y k + (-2 * pairS n w u y * invp p (pairp p n w u u)) * gI u k) % p := fun k hk => by rw [reflv_at hk,emm]
 have h1 := mod_dvd.1 (pairS_lin (w := w) (y := reflv p n w u y) hx)
 have h2 := mod_dvd.1 (pairS_lin (w := w) (y := x) hy)
 have h3 := mod_dvd.1 (pairS_lin (w := w) (y := u) hy)
 rw [pairS_comm n w x (reflv p n w u y),pairS_comm n w u (reflv p n w u y)] at h1
 rw [pairS_comm n w y x,pairS_comm n w u x] at *
 rw [pairS_comm n w y u] at h3
 generalize hX : pairS n w x u = X at *
 generalize hY : pairS n w u y = Y at *
 generalize invp p (pairp p n w u u) = t at *
 generalize pairS n w u u = Q at *
 generalize pairS n w x y = Z at *
 generalize pairS n w (reflv p n w u x) (reflv p n w u y) = A at *
 generalize pairS n w (reflv p n w u y) x = B at *
 generalize pairS n w (reflv p n w u y) u = C at *
 rw [mod_dvd]
 obtain ⟨k1,e1⟩ := h1
 obtain ⟨k2,e2⟩ := h2
 obtain ⟨k3,e3⟩ := h3
 obtain ⟨k4,e4⟩ := ht
 exact ⟨k1 + k2 + (-2 * X * t) * k3 + 4 * X * Y * t * k4,by grind⟩
theorem pairS_axis {n k : Nat} {w u : List Int} (hk : k < n) : pairS n w u (axis n k) = gI u k * gI w k := by
 unfold pairS
 rw [sumN_one hk (fun q hq hqk => by rw [gI_axis hk,if_neg hqk]; simp),gI_axis hk,if_pos rfl,Int.mul_one]
theorem sum_norm {p : Int} {n : Nat} {w x y : List Int} (hP : isP p = true) (h1 : pairp p n w x x = pairp p n w y y) (h2 : pairp p n w y y ≠ 0) (h3 : pairp p n w (plusv p n x y (-1)) (plusv p n x y (-1)) = 0) :
  pairp p n w (plusv p n x y 1) (plusv p n x y 1) ≠ 0 := by
 have hp := isP_le hP
 intro h4
 have lin : ∀ c : Int,p ∣ pairS n w (plusv p n x y c) (plusv p n x y c) - (pairS n w x x + 2 * c * pairS n w x y + c * c * pairS n w y y) := by
  intro c
  have hx : ∀ k,k < n → gI (plusv p n x y c) k % p = (gI x k + c * gI y k) % p := fun k hk => by rw [plusv_at hk,emm]
  have a1 := mod_dvd.1 (pairS_lin (w := w) (y := plusv p n x y c) hx)
  have a2 := mod_dvd.1 (pairS_lin (w := w) (y := x) hx)
  have a3 := mod_dvd.1 (pairS_lin (w := w) (y := y) hx)
  rw [pairS_comm n w x (plusv p n x y c),pairS_comm n w y (plusv p n x y c)] at a1
  rw [pairS_comm n w y x] at a2
  obtain ⟨k1,e1⟩ := a1
  obtain ⟨k2,e2⟩ := a2
  obtain ⟨k3,e3⟩ := a3
  exact ⟨k1 + k2 + c * k3,by grind⟩
 have l1 := lin 1
 have l2 := lin (-1)
 have d1 : p ∣ pairS n w (plusv p n x y 1) (plusv p n x y 1) := Int.dvd_of_emod_eq_zero h4
 have d2 : p ∣ pairS n w (plusv p n x y (-1)) (plusv p n x y (-1)) := Int.dvd_of_emod_eq_zero h3
 have d3 : p ∣ pairS n w x x - pairS n w y y := mod_dvd.1 h1
 have h5 : p ∣ 4 * pairS n w y y := by
  obtain ⟨k1,e1⟩ := l1
  obtain ⟨k2,e2⟩ := l2
  obtain ⟨k3,e3⟩ := d1
  obtain ⟨k4,e4⟩ := d2
  obtain ⟨k5,e5⟩ := d3
  exact ⟨k3 + k4 - k1 - k2 - 2 * k5,by grind⟩
 rcases (prime_dvd hP).1 h5 with h | h
 ·have : p ∣ (2 : Int) := by
   have : p ∣ (2 : Int) * 2 := h
   rcases (prime_dvd hP).1 this with h | h <;> exact h
  have := Int.le_of_dvd (by omega) this
  omega
 ·exact h2 (Int.emod_eq_zero_of_dvd h)
end Go.Vam

/- Plain laws: decompositions into reflections; HasSquareNorm. -/
namespace Go.Vam
open Go Go.RowKit
set_option linter.unusedSimpArgs false
set_option linter.unusedVariables false
set_option linter.unusedSectionVars false

section
variable {p : Int} {n : Nat} {w u : List Int} (hP : isP p = true) (hn0 : 0 < n) (hn : n ≤ 1000) (hwl : w.length = n) (hw : Vec p n w) (hu : Vec p n u) (hQ : pairp p n w u u ≠ 0)
include hP hn0 hn hwl hw hu hQ
end
def RowsV (p : Int) (n : Nat) (L : List (List Int)) : Prop := ∀ r ∈ L,Vec p n r
section
variable {p : Int} {n : Nat} {w : List Int} (hP : isP p = true) (hn0 : 0 < n) (hn : n ≤ 1000) (hwl : w.length = n) (hw : Vec p n w) (hz : ∀ k,k < n → gI w k ≠ 0)
include hP hn0 hn hwl hw hz
end
theorem root_two {p a : Int} (hP : isP p = true) : ∃ r b,s_l01Root p a = some r ∧ i_field_isSquare p a = some b ∧ ile 0 r = b := by
 have hp := isP_le hP
 obtain ⟨N,hN⟩ : ∃ N : Nat,p = (N : Int) := ⟨p.toNat,by omega⟩
 unfold s_l01Root i_field_isSquare i_field_root
 obtain ⟨x,y,h1,h2,h3⟩ := loop_ends (S := Int) (f := s_l01Root_L0 p a) (g := i_field_root_L0 p a) (s := 0) (fun s => ∃ k : Nat,s = (k : Int) ∧ k ≤ N) (fun s => N - s.toNat)
  (fun (x : Unit ⊕ Int) (y : Unit ⊕ (Int × Bool)) => (x = .inl () ∧ y = .inl ()) ∨ ∃ k : Nat,x = .inr (k : Int) ∧ y = .inr ((k : Int),true)) ⟨0,rfl,by omega⟩ (by rw [BIG_val]; omega) (by
   rintro s ⟨k,rfl,hk⟩
   unfold s_l01Root_L0 i_field_root_L0
   by_cases hkn : k < N
   ·have q1 := mul_abs (a := (k : Int)) (b := (k : Int)) (A := 13) (B := 13) (by omega) (by omega)
    have q2 := Int.mul_nonneg (a := (k : Int)) (b := (k : Int)) (by omega) (by omega)
    have w1 : w64 ((k : Int) * (k : Int)) = (k : Int) * (k : Int) := w_in (by omega) (by omega)
    have t1 : ((k : Int) * (k : Int)).tmod p = (k : Int) * (k : Int) % p := tmod_nn (by omega)
    have f1 := i_field_num_eq (p := p) (n := (k : Int) * (k : Int)) (by omega) (by omega) (by omega) (by omega)
    simp only [show (k : Int) < p by omega,if_true,chk_bind (show ¬ p = 0 by omega),w1,t1,f1,some_bind]
    by_cases he : (k : Int) * (k : Int) % p = a
    ·refine .inr ⟨.inr (k : Int),.inr ((k : Int),true),by rw [if_pos he],fun n hn => ?_,.inr ⟨k,rfl,rfl⟩⟩
     cases n with
     | zero => omega
     | succ n =>
      rw [loop_succ]
      simp only [show (k : Int) < p by omega,if_true,w1,f1,some_bind,he]
    ·refine .inl ⟨((k + 1 : Nat) : Int),?_,?_,⟨k + 1,rfl,by omega⟩,by simp only [Int.toNat_natCast]; omega⟩
     ·rw [if_neg he,w_in (by omega) (by omega)]; rfl
     ·rw [if_neg he,w_in (by omega) (by omega)]; rfl
   ·refine .inr ⟨.inl (),.inl (),?_,fun n hn => ?_,.inl ⟨rfl,rfl⟩⟩
    ·rw [if_neg (by omega)]
    ·cases n with
     | zero => omega
     | succ n =>
      rw [loop_succ]
      simp only [show ¬ (k : Int) < p by omega,if_false])
 rw [h1,h2,some_bind,some_bind]
 rcases h3 with ⟨rfl,rfl⟩ | ⟨k,rfl,rfl⟩
 ·exact ⟨_,_,rfl,rfl,rfl⟩
 ·refine ⟨_,_,rfl,rfl,?_⟩
  simp [ile]
end Go.Vam

/- Plain laws: systems of equations and spans. -/
namespace Go.Vam
open Go Go.RowKit
set_option linter.unusedSimpArgs false
set_option linter.unusedVariables false
set_option linter.unusedSectionVars false

theorem likeI_self {v : List Int} (h : v.length ≤ 1048576) : l_likeInts v v = some true := by
 unfold l_likeInts
 simp only [not_true_eq_false,if_false]
 obtain ⟨b,h1,h2⟩ := any_loop (l_likeInts_L0 v v) v.length (fun _ => false) (fun _ => true) (by rw [BIG_val]; omega)
  (fun k hk _ => by
   unfold l_likeInts_L0
   simp only [lt_cast hk,if_true,idxI hk,some_bind,not_true_eq_false,if_false]
   rw [w_in (by omega) (by omega)]; rfl) (fun k hk hf => by cases hf) (by
   unfold l_likeInts_L0
   simp only [lt_cast_self,if_false])
 rcases h2 with ⟨rfl,_⟩ | ⟨k,_,_,hf,_⟩
 ·rw [h1,some_bind]
 ·cases hf
end Go.Vam

/- Plain law: FnKernels. -/
namespace Go.Vam
open Go Go.RowKit
set_option linter.unusedSimpArgs false
set_option linter.unusedVariables false
set_option linter.unusedSectionVars false

theorem likeR_self {m : List (List Int)} (h : szM m) : l_likeRows5 m m = some true := by
 unfold l_likeRows5
 simp only [not_true_eq_false,if_false]
 have h1 := h.1
 obtain ⟨b,h1,h2⟩ := any_loop (l_likeRows5_L0 m m) m.length (fun _ => false) (fun _ => true) (by rw [BIG_val]; omega)
  (fun k hk _ => by
   unfold l_likeRows5_L0
   have hr : (gR m k).length ≤ 1048576 := h.2 _ (by rw [← gR_get hk]; exact List.getElem_mem hk)
   simp only [lt_cast hk,if_true,idxR hk,some_bind,likeI_self hr,Bool.true_eq_false,if_false]
   rw [w_in (by omega) (by omega)]; rfl) (fun k hk hf => by cases hf) (by
   unfold l_likeRows5_L0
   simp only [lt_cast_self,if_false])
 rcases h2 with ⟨rfl,_⟩ | ⟨k,_,_,hf,_⟩
 ·rw [h1,some_bind]
 ·cases hf
end Go.Vam

/- Plain laws: determinants of numbers, by expansion; they are multiplied with tables. -/
namespace Go.Vam
open Go Go.RowKit
set_option linter.unusedSimpArgs false
set_option linter.unusedVariables false
set_option linter.unusedSectionVars false

end Go.Vam

/- Plain laws: the programs' determinant is the expansion's. -/
namespace Go.Vam
open Go Go.RowKit
set_option linter.unusedSimpArgs false
set_option linter.unusedVariables false
set_option linter.unusedSectionVars false

section
variable {p : Int} {r : Nat} (hP : isP p = true) (hr : r ≤ 1048576)
include hP hr
end
end Go.Vam

/- Plain laws: products are associative; turned products; ranks and determinants of products. -/
namespace Go.Vam
open Go Go.RowKit
set_option linter.unusedSimpArgs false
set_option linter.unusedVariables false
set_option linter.unusedSectionVars false

end Go.Vam

/- Plain laws: powers, exponents are added. -/
namespace Go.Vam
open Go Go.RowKit
set_option linter.unusedSimpArgs false
set_option linter.unusedVariables false
set_option linter.unusedSectionVars false

end Go.Vam

/- Plain laws: norms of elements; ConjugationBy. -/
namespace Go.Vam
open Go Go.RowKit
set_option linter.unusedSimpArgs false
set_option linter.unusedVariables false
set_option linter.unusedSectionVars false

section
variable {p : Int} {w x : List Int} (hP : isP p = true) (hl : w.length ≤ 4) (hw : Vec p w.length w) (hx : Vec p (2 ^ w.length) x)
include hP hl hw hx
end
section
variable {p : Int} {w a b : List Int} (hP : isP p = true) (hl : w.length ≤ 4) (hw : Vec p w.length w) (ha : Vec p (2 ^ w.length) a) (hb : Vec p (2 ^ w.length) b)
include hP hl hw ha hb
end
end Go.Vam

/- Plain law: FnMatrixProducts. -/
namespace Go.Vam
open Go Go.RowKit
set_option linter.unusedSimpArgs false
set_option linter.unusedVariables false
set_option linter.unusedSectionVars false

theorem list5_is : l_list5 = fun c a h n p => s_l01List c a h p n := rfl
theorem list5_eq {c : List Int} {a h p : Int} {n : Nat} (hS : Src c a) (hp : 1 ≤ p) (hp2 : p ≤ 100) (hn : n ≤ 1000) : ∃ v a' h',l_list5 c a h (n : Int) p = some (v,(c,a',h')) ∧ Vec p n v ∧ Src c a' := by rw [list5_is]; exact list_eq hS hp hp2 hn
theorem roll_eq {c : List Int} (k : Int) (hc : c.length ≤ 4096) (hb : ∀ x ∈ c,0 ≤ x ∧ x ≤ 255) : ∃ h',l_roll c k = some (c,0,h') ∧ Src c 0 := by
 unfold l_roll
 obtain ⟨b,h1,h',rfl⟩ := loop_inv (step := l_roll_L0 c) (fun s => ∃ (k : Nat) (h' : Int),s = (c,0,h',(k : Int)) ∧ k ≤ c.length) (fun s => c.length - s.2.2.2.toNat)
  (fun b => ∃ h' : Int,b = (c,(0 : Int),h')) (s := (c,0,IntKind.u64.wrap ((IntKind.u64.wrap (k * 7681)) + (IntKind.u64.wrap ((c.length : Int)))),0)) ⟨0,_,rfl,by omega⟩ (by rw [BIG_val]; simp only []; omega) (by
   rintro s ⟨k,h',rfl,hk⟩
   unfold l_roll_L0
   by_cases hkn : k < c.length
   ·refine .inl ?_
    simp only [lt_cast hkn,if_true,some_bind,idxI hkn]
    rw [w_in (by omega) (by omega)]
    exact ⟨_,rfl,⟨k + 1,_,rfl,by omega⟩,by simp only []; omega⟩
   ·have : k = c.length := by omega
    subst this
    refine .inr ⟨(c,0,h'),?_,h',rfl⟩
    simp)
 rw [h1,some_bind]
 exact ⟨h',rfl,hc,hb,by omega,by omega⟩
theorem isMat_of {p : Int} {r c : Nat} {m : List (List Int)} (hP : isP p = true) (hm : Mat p r c m) (hr0 : 1 ≤ r) (hr : r ≤ 16) (hc0 : 1 ≤ c) (hc : c ≤ 16) : isMat p m = true ∧ m.length = r ∧ wid m = c := by
 have e1 := hm.1
 have e2 : wid m = c := (hm.row (i := 0) (by omega)).1
 refine ⟨isMat_iff.2 ⟨hP,by omega,by omega,by omega,by omega,by rw [e1,e2]; exact hm⟩,e1,e2⟩
section
variable {p : Int} {r n c : Nat} {a b : List (List Int)} (hP : isP p = true) (ha : Mat p r n a) (hr0 : 1 ≤ r) (hr : r ≤ 16) (hn0 : 1 ≤ n) (hn : n ≤ 16)
include hP ha hr0 hr hn0 hn
end
end Go.Vam

/- Plain laws: inverses of tables. -/
namespace Go.Vam
open Go Go.RowKit
set_option linter.unusedSimpArgs false
set_option linter.unusedVariables false
set_option linter.unusedSectionVars false

def widem (n : Nat) (a : List (List Int)) : List (List Int) := vecN n fun i => gR a i ++ axis n i
section
variable {p : Int} {n : Nat} {a : List (List Int)} (hp : 1 < p) (hn : n ≤ 1000) (ha : Mat p n n a)
include hp hn ha
end
section
variable {p : Int} {n : Nat} {a B : List (List Int)} {ld : Nat → Nat} (hP : isP p = true) (hn0 : 1 ≤ n) (hn : n ≤ 1000) (ha : Mat p n n a) (hB : Ech p (n + n) B ld) (hk : ∀ u,Kr p (n + n) B u ↔ KerP p n (n + n) (widem n a) u)
include hP hn0 hn ha hB hk
end

section
variable {p : Int} {n : Nat} {a : List (List Int)} (hP : isP p = true) (hn0 : 1 ≤ n) (hn : n ≤ 16) (ha : Mat p n n a)
include hP hn0 hn ha
end
end Go.Vam

/- Plain laws: the coordinates of a product; pure elements of few steps anticommute up to their pairing. -/
namespace Go.Vam
open Go Go.RowKit
set_option linter.unusedSimpArgs false
set_option linter.unusedVariables false
set_option linter.unusedSectionVars false

end Go.Vam

/- Plain law: FnMultiplicationMatrices. -/
namespace Go.Vam
open Go Go.RowKit
set_option linter.unusedSimpArgs false
set_option linter.unusedVariables false
set_option linter.unusedSectionVars false

section
variable {p : Int} {w x : List Int} (hP : isP p = true) (hl : w.length ≤ 4) (hw : Vec p w.length w) (hx : Vec p (2 ^ w.length) x)
include hP hl hw hx
end
end Go.Vam

/- Plain law: FnMultiplicationMatrices, the end. -/
namespace Go.Vam
open Go Go.RowKit
set_option linter.unusedSimpArgs false
set_option linter.unusedVariables false
set_option linter.unusedSectionVars false

section
variable {p : Int} {w x : List Int} (hw : w.length ≤ 1048576) (hx : x.length ≤ 1048576)
include hw hx
end
section
variable {p : Int} {w x : List Int} (hD : isDb p w = true) (hx : Vec p (2 ^ w.length) x)
include hD hx
end
theorem apply_ok {p : Int} {n : Nat} {m : List (List Int)} {v : List Int} (hP : isP p = true) (hn0 : 1 ≤ n) (hn : n ≤ 16) (hm : Mat p n n m) (hv : Vec p n v) : i_ApplyMatrix p m v = some (applyv p n n m v,0) := by
 obtain ⟨x1,x2,x3⟩ := isMat_of hP hm hn0 hn hn0 hn
 have e := hv.1
 rw [i_ApplyMatrix_eq (hm.sz (by omega) (by omega)) (by omega)]
 unfold apV apC
 rw [if_pos x1,if_pos x1,if_pos ⟨by omega,hv.nums⟩,if_pos ⟨by omega,hv.nums⟩,x2,x3]
section
variable {p : Int} {w a b : List Int} (hP : isP p = true) (hl : w.length ≤ 3) (hw : Vec p w.length w) (ha : Vec p (2 ^ w.length) a) (hb : Vec p (2 ^ w.length) b) (ha0 : gI a 0 = 0) (hb0 : gI b 0 = 0)
include hP hl hw ha hb ha0 hb0
end
end Go.Vam

/- Plain law: FnInverses. -/
namespace Go.Vam
open Go Go.RowKit
set_option linter.unusedSimpArgs false
set_option linter.unusedVariables false
set_option linter.unusedSectionVars false

end Go.Vam

/- Plain laws: triples. -/
namespace Go.Vam
open Go Go.RowKit
set_option linter.unusedSimpArgs false
set_option linter.unusedVariables false
set_option linter.unusedSectionVars false

/-! ### The laws' helpers -/
section
variable {a b c : List (List Int)}
end

/-! ### UnitTriple -/
section
variable {p : Int} {w a b : List Int} (hP : isP p = true) (hl : w.length ≤ 4) (hw : Vec p w.length w) (ha : Vec p (2 ^ w.length) a) (hb : Vec p (2 ^ w.length) b)
include hP hl hw ha hb
end
abbrev gT3 (l : List (List (List Int) × List (List Int) × List (List Int))) (k : Nat) : List (List Int) × List (List Int) × List (List Int) := l.getD k ([],[],[])
def szTs (l : List (List (List Int) × List (List Int) × List (List Int))) : Prop := l.length ≤ 1024 ∧ ∀ x ∈ l,szM x.1 ∧ szM x.2.1 ∧ szM x.2.2
theorem szTs.at {l : List (List (List Int) × List (List Int) × List (List Int))} (h : szTs l) {k : Nat} (hk : k < l.length) : szM (gT3 l k).1 ∧ szM (gT3 l k).2.1 ∧ szM (gT3 l k).2.2 := by
 have := h.2 _ (List.getElem_mem hk)
 rwa [getD_get hk ([],[],[])] at this
section
variable {p : Int} {w : List Int} {l : List (List (List Int) × List (List Int) × List (List Int))} (hw : w.length ≤ 1048576) (hz : szTs l)
include hw hz
end
end Go.Vam

/- Plain laws: triples, turned and multiplied. -/
namespace Go.Vam
open Go Go.RowKit
set_option linter.unusedSimpArgs false
set_option linter.unusedVariables false
set_option linter.unusedSectionVars false

end Go.Vam

/- Plain laws: loops: whether a table is one; its nucleus and its centre. -/
namespace Go.Vam
open Go Go.RowKit
set_option linter.unusedSimpArgs false
set_option linter.unusedVariables false
set_option linter.unusedSectionVars false

section
variable {a : List (List Int)} (hn : a.length ≤ 128) (hl : ∀ i,i < a.length → (gR a i).length = a.length)
include hn hl
end
section
variable {a : List (List Int)} (hn : a.length ≤ 128) (hm : Mat (a.length : Int) a.length a.length a)
include hn hm
end

section
variable {a : List (List Int)} (hn : a.length ≤ 128) (hm : Mat (a.length : Int) a.length a.length a)
include hn hm
end

end Go.Vam

/- Plain laws: AutomorphismFrom. -/
namespace Go.Vam
open Go Go.RowKit
set_option linter.unusedSimpArgs false
set_option linter.unusedVariables false
set_option linter.unusedSectionVars false

section
variable {p : Int} {w : List Int} (hP : isP p = true) (hl : w.length ≤ 4) (hw : Vec p w.length w)
include hP hl hw
end
section
variable {p : Int} {w : List Int} {a : List (List Int)} (hP : isP p = true) (hl : w.length ≤ 3) (hw : Vec p w.length w) (hal : a.length = w.length) (ha : ∀ k,k < a.length → Vec p (2 ^ w.length) (gR a k))
include hP hl hw hal ha
end

end Go.Vam

/- Plain laws: the decomposition of an orthogonal matrix. -/
namespace Go.Vam
open Go Go.RowKit
set_option linter.unusedSimpArgs false
set_option linter.unusedVariables false

end Go.Vam

/- Plain laws: counts of norms, the search of units. -/
namespace Go.Vam
open Go Go.RowKit
set_option linter.unusedSimpArgs false
set_option linter.unusedVariables false
set_option linter.unusedSectionVars false

/-! ### How many lists have a sum of squares -/
def cntU (p : Int) : List Int → Int → Int
 | [],n => if n % p = 0 then 1 else 0
 | d :: r,n => sumN (fun a => cntU p r (n - d * (a : Int) * (a : Int))) p.toNat
theorem sub_mod_eq {p n m e : Int} (h : n % p = m % p) : (n - e) % p = (m - e) % p := by rw [Int.sub_emod,h,← Int.sub_emod]
theorem cntU_mod {p : Int} : ∀ {l : List Int} {n m : Int},n % p = m % p → cntU p l n = cntU p l m
 | [],n,m,h => by unfold cntU; rw [h]
 | d :: r,n,m,h => by unfold cntU; exact sumN_congr fun a _ => cntU_mod (sub_mod_eq h)
theorem cntU_le {p : Int} (hp : 0 ≤ p) (hp2 : p ≤ 13) : ∀ (l : List Int) (n : Int),0 ≤ cntU p l n ∧ cntU p l n ≤ 13 ^ l.length
 | [],n => by unfold cntU; split <;> simp
 | d :: r,n => by
  unfold cntU
  have := sumN_bound (f := fun a => cntU p r (n - d * (a : Int) * (a : Int))) (b := 13 ^ r.length) (n := p.toNat) fun a _ => cntU_le hp hp2 r _
  refine ⟨this.1,Int.le_trans this.2 ?_⟩
  rw [List.length_cons,Int.pow_succ]
  have h1 : (0 : Int) ≤ 13 ^ r.length := Int.pow_nonneg (by decide)
  exact Int.mul_le_mul_of_nonneg_left (by omega) h1
theorem cntU_snoc {p : Int} (d : Int) : ∀ (l : List Int) (n : Int),cntU p (l ++ [d]) n = sumN (fun a => cntU p l (n - d * (a : Int) * (a : Int))) p.toNat
 | [],n => rfl
 | e :: r,n => by
  show sumN (fun b => cntU p (r ++ [d]) (n - e * (b : Int) * (b : Int))) p.toNat = sumN (fun a => sumN (fun b => cntU p r (n - d * (a : Int) * (a : Int) - e * (b : Int) * (b : Int))) p.toNat) p.toNat
  rw [sumN_comm]
  refine sumN_congr fun b _ => ?_
  rw [cntU_snoc d r]
  refine sumN_congr fun a _ => ?_
  congr 1
  omega

/-! ### Scattering -/
def scB (p d : Int) (c : Nat → Int) (n a k : Nat) : Int := if ((n : Int) + d * (a : Int) * (a : Int)) % p = (k : Int) then c n else 0
def scA (p d : Int) (c : Nat → Int) (n a k : Nat) : Int := sumN (fun b => scB p d c n b k) a
def scO (p d : Int) (c : Nat → Int) (n k : Nat) : Int := sumN (fun m => scA p d c m p.toNat k) n
theorem scO_all {p d : Int} (hp : 0 < p) (c : Nat → Int) {k : Nat} (hk : k < p.toNat) : scO p d c p.toNat k = sumN (fun a => c (((k : Int) - d * (a : Int) * (a : Int)) % p).toNat) p.toNat := by
 unfold scO scA
 rw [sumN_comm]
 refine sumN_congr fun a _ => ?_
 have hm := mod_num (p := p) (a := (k : Int) - d * (a : Int) * (a : Int)) hp
 have hmt : (((k : Int) - d * (a : Int) * (a : Int)) % p).toNat < p.toNat := by omega
 rw [sumN_one hmt]
 ·unfold scB
  rw [if_pos]
  rw [show ((((k : Int) - d * (a : Int) * (a : Int)) % p).toNat : Int) = ((k : Int) - d * (a : Int) * (a : Int)) % p by omega,Int.emod_add_emod]
  rw [show (k : Int) - d * (a : Int) * (a : Int) + d * (a : Int) * (a : Int) = k by omega]
  exact Int.emod_eq_of_lt (by omega) (by omega)
 ·intro q hq hne
  unfold scB
  rw [if_neg]
  intro h
  apply hne
  have h1 : ((k : Int) - d * (a : Int) * (a : Int)) % p = (q : Int) := by
   rw [← h,Int.emod_sub_emod]
   rw [show (q : Int) + d * (a : Int) * (a : Int) - d * (a : Int) * (a : Int) = q by omega]
   exact Int.emod_eq_of_lt (by omega) (by omega)
  omega
theorem scA_le {p d : Int} {c : Nat → Int} {n : Nat} {b : Int} (hb : 0 ≤ b) (hc : 0 ≤ c n ∧ c n ≤ b) (a k : Nat) : 0 ≤ scA p d c n a k ∧ scA p d c n a k ≤ b * a :=
 sumN_bound fun q _ => by unfold scB; split <;> omega
theorem scO_le {p d : Int} {c : Nat → Int} {b : Int} (hb : 0 ≤ b) (n : Nat) (hc : ∀ m,m < n → 0 ≤ c m ∧ c m ≤ b) (k : Nat) : 0 ≤ scO p d c n k ∧ scO p d c n k ≤ b * p.toNat * n :=
 sumN_bound fun m hm => scA_le hb (hc m hm) _ _
theorem vecN_bump {n q : Nat} {f : Nat → Int} {c : Int} : (vecN n f).set q (f q + c) = vecN n fun k => f k + if q = k then c else 0 := by
 refine extI (by simp) fun k hk => ?_
 rw [← gI_get (by simpa using hk),List.getElem_set]
 split
 ·rename_i e; subst e; simp
 ·rename_i e
  rw [vecN_get]; simp [e]
def rwU (p : Int) (l : List Int) : List Int := vecN p.toNat fun k => cntU p l (k : Int)
theorem rwU_step {p d : Int} (hp : 0 < p) (l : List Int) (l' : List Int) (h : ∀ n,cntU p l' n = sumN (fun a => cntU p l (n - d * (a : Int) * (a : Int))) p.toNat) :
  (vecN p.toNat fun k => scO p d (fun n => cntU p l (n : Int)) p.toNat k) = rwU p l' := by
 refine vecN_congr fun k hk => ?_
 rw [scO_all hp _ hk,h]
 refine sumN_congr fun a _ => cntU_mod ?_
 have hm := mod_num (p := p) (a := (k : Int) - d * (a : Int) * (a : Int)) hp
 rw [show ((((k : Int) - d * (a : Int) * (a : Int)) % p).toNat : Int) = ((k : Int) - d * (a : Int) * (a : Int)) % p by omega,emm]

theorem dsq {d a : Int} (h1 : 0 ≤ d) (h2 : d ≤ 13) (h3 : 0 ≤ a) (h4 : a ≤ 13) : 0 ≤ d * a ∧ d * a ≤ 169 ∧ 0 ≤ d * a * a ∧ d * a * a ≤ 2197 := by
 have e1 : 0 ≤ d * a := Int.mul_nonneg h1 h3
 have e2 : d * a ≤ 13 * 13 := Int.mul_le_mul h2 h4 h3 (by decide)
 have e3 : 0 ≤ d * a * a := Int.mul_nonneg e1 h3
 have e4 : d * a * a ≤ 169 * 13 := Int.mul_le_mul (by omega) h4 h3 (by decide)
 omega
theorem vecN_zero (n : Nat) : vecN n (fun _ => (0 : Int)) = List.replicate n 0 := by simp [vecN,List.map_const']

section
variable {p : Int} (hP : isP p = true)
include hP
theorem rwU_nil : (List.replicate p.toNat (0 : Int)).set 0 1 = rwU p [] := by
 have hp := isP_le hP
 refine extI (by simp) fun k hk => ?_
 rw [gI_set (by simp; omega)]
 unfold cntU
 by_cases h : k = 0
 ·subst h; simp
 ·have : (k : Int) % p = k := Int.emod_eq_of_lt (by omega) (by omega)
  rw [if_neg (fun e => h e.symm),this,if_neg (by omega),← gI_get (by simp; omega)]
  simp
theorem cnt_small {l : List Int} (hl : l.length ≤ 8) (n : Int) : 0 ≤ cntU p l n ∧ cntU p l n ≤ 815730721 := by
 have hp := isP_le hP
 have h := cntU_le (by omega) hp.2 l n
 have key : ∀ k : Nat,k < 9 → (13 : Int) ^ k ≤ 815730721 := by decide
 have := key l.length (by omega)
 omega
theorem sc_small {d : Int} {c : Nat → Int} (hc : ∀ m,m < p.toNat → 0 ≤ c m ∧ c m ≤ 815730721) {n a : Nat} (hn : n < p.toNat) (ha : a ≤ p.toNat) (k : Nat) :
  0 ≤ scO p d c n k + scA p d c n a k ∧ scO p d c n k + scA p d c n a k ≤ 1000000000000 := by
 have hp := isP_le hP
 have h1 := scO_le (p := p) (d := d) (b := 815730721) (by decide) n (fun m hm => hc m (by omega)) k
 have h2 := scA_le (p := p) (d := d) (b := 815730721) (by decide) (hc n hn) a k
 have e1 : (815730721 * (p.toNat : Int)) * (n : Int) ≤ (815730721 * 13) * 13 := Int.mul_le_mul (Int.mul_le_mul_of_nonneg_left (by omega) (by decide)) (by omega) (by omega) (by decide)
 omega
variable {w : List Int} (hl : w.length ≤ 3) (hw : Vec p w.length w)
include hl hw
end
end Go.Vam

/- How many vectors have a norm: the program's count, and what it depends on. -/
namespace Go.Vam
open Go Go.RowKit
set_option linter.unusedSimpArgs false
set_option linter.unusedVariables false

theorem CountVectors_eq {p : Int} {w : List Int} {a0 : Int} (hs : isSp p w = true) (ha : 0 ≤ a0 ∧ a0 < p) : i_CountVectors p w a0 = some (cntU p w a0,0) := by
 obtain ⟨hP,hl1,hl6,hd⟩ := isSp_iff hs
 have hp := isP_le hP
 unfold i_CountVectors i_Space_field
 have his : i_field_is p [a0] = some true := by
  rw [i_field_is_eq (by omega) (by omega) (by simp)]
  simp [nums,isNum]
  omega
 rw [i_IsSpace_eq (by omega),hs,some_bind]
 simp only [Bool.true_eq_false,if_false,some_bind,his]
 rw [chk_bind ⟨by omega,by omega⟩,idxI0 (by simp; omega),some_bind,rwU_nil hP]
 rw [loop_for (b := rwU p w) (fun i => (rwU p (w.take i),(i : Int))) w.length (by rw [BIG_val]; omega) (by simp)]
 ·rw [some_bind]
  obtain ⟨k,rfl⟩ : ∃ k : Nat,a0 = (k : Int) := ⟨a0.toNat,by omega⟩
  have hk : k < p.toNat := by omega
  rw [idxI (k := k) (by unfold rwU; simpa using hk),some_bind]
  unfold rwU
  rw [gI_vecN _ hk]
 ·intro i hi
  unfold i_CountVectors_L0
  have hdi := hd.get hi
  have hc : ∀ m,m < p.toNat → 0 ≤ cntU p (w.take i) (m : Int) ∧ cntU p (w.take i) (m : Int) ≤ 815730721 := fun m _ => cnt_small hP (by simp; omega) _
  simp only [lt_cast hi,if_true,idxI hi,some_bind]
  rw [chk_bind ⟨by omega,by omega⟩]
  rw [loop_for (b := rwU p (w.take (i + 1))) (fun n => (vecN p.toNat (scO p (gI w i) (fun n => cntU p (w.take i) (n : Int)) n),(n : Int))) p.toNat (by rw [BIG_val]; omega) (by
   rw [← vecN_zero]; rfl)]
  ·rw [some_bind,w_in (by omega) (by omega)]; rfl
  ·intro n hn
   unfold i_CountVectors_L1
   have hln : (rwU p (w.take i)).length = p.toNat := by unfold rwU; simp
   have e1 : gI (rwU p (w.take i)) n = cntU p (w.take i) (n : Int) := by unfold rwU; rw [gI_vecN _ hn]
   rw [if_pos (by simp only [hln]; omega)]
   simp only [idxI (k := n) (show n < (rwU p (w.take i)).length by rw [hln]; exact hn),some_bind,e1]
   rw [loop_for (b := vecN p.toNat (scO p (gI w i) (fun n => cntU p (w.take i) (n : Int)) (n + 1))) (fun a => (vecN p.toNat (fun k => scO p (gI w i) (fun n => cntU p (w.take i) (n : Int)) n k + scA p (gI w i) (fun n => cntU p (w.take i) (n : Int)) n a k),(a : Int))) p.toNat (by rw [BIG_val]; omega) (by
    simp [scA,sumN])]
   ·rw [some_bind,w_in (by omega) (by omega)]; rfl
   ·intro a ha
    unfold i_CountVectors_L2 i_Space_field
    have hs := dsq hdi.1 (by omega) (a := (a : Int)) (by omega) (by omega)
    have hq := mul_abs (a := (a : Int)) (b := (a : Int)) (A := 13) (B := 13) (by omega) (by omega)
    have hq0 := Int.mul_nonneg (a := (a : Int)) (b := (a : Int)) (by omega) (by omega)
    rw [if_pos (by omega),some_bind]
    have er : (a : Int) * (a : Int) * gI w i = gI w i * (a : Int) * (a : Int) := by rw [Int.mul_comm,← Int.mul_assoc]
    rw [w_in (x := (a : Int) * (a : Int)) (by omega) (by omega),er,w_in (x := gI w i * (a : Int) * (a : Int)) (by omega) (by omega),w_in (x := (n : Int) + gI w i * (a : Int) * (a : Int)) (by omega) (by omega),i_field_num_eq (by omega) (by omega) (by omega) (by omega),some_bind]
    obtain ⟨q,hq,hqP⟩ : ∃ q : Nat,((n : Int) + gI w i * (a : Int) * (a : Int)) % p = (q : Int) ∧ q < p.toNat := by
     have hm := mod_num (p := p) (a := (n : Int) + gI w i * (a : Int) * (a : Int)) (by omega)
     exact ⟨(((n : Int) + gI w i * (a : Int) * (a : Int)) % p).toNat,by omega,by omega⟩
    rw [hq,idxI (k := q) (by simpa using hqP),some_bind,gI_vecN _ hqP]
    have b1 := sc_small hP (d := gI w i) hc hn (a := a) (by omega) q
    have b2 := hc n hn
    rw [w_in (by omega) (by omega),Int.toNat_natCast,w_in (x := (a : Int) + 1) (by omega) (by omega),vecN_bump (f := fun k => scO p (gI w i) (fun n => cntU p (w.take i) (n : Int)) n k + scA p (gI w i) (fun n => cntU p (w.take i) (n : Int)) n a k)]
    congr 3
    refine vecN_congr fun k hk => ?_
    have e2 : scA p (gI w i) (fun n => cntU p (w.take i) (n : Int)) n (a + 1) k = scA p (gI w i) (fun n => cntU p (w.take i) (n : Int)) n a k + (if q = k then cntU p (w.take i) (n : Int) else 0) := by
     show scA p (gI w i) (fun n => cntU p (w.take i) (n : Int)) n a k + scB p (gI w i) (fun n => cntU p (w.take i) (n : Int)) n a k = _
     congr 1
     unfold scB
     rw [hq]
     simp only [Int.natCast_inj]
    rw [e2]
    omega
   ·unfold i_CountVectors_L2
    rw [if_neg (by omega)]
    rfl
  ·unfold i_CountVectors_L1
   have hln : (rwU p (w.take i)).length = p.toNat := by unfold rwU; simp
   rw [if_neg (by simp only [hln]; omega),rwU_step (p := p) (d := gI w i) (by omega) (w.take i) (w.take (i + 1))]
   intro m
   rw [← cntU_snoc]
   congr 1
   rw [List.take_add_one,List.getElem?_eq_getElem hi,gI_get hi]
   rfl
 ·unfold i_CountVectors_L0
  simp only [lt_cast_self,if_false,List.take_length]

end Go.Vam

/- Plain laws: how many vectors have a norm depends on the dimension, the number of zeros and the product's square class. -/
namespace Go.Vam
open Go Go.RowKit
set_option linter.unusedSimpArgs false
set_option linter.unusedVariables false
set_option linter.unusedSectionVars false

def cvp (p d : Int) (f : Int → Int) : Int → Int := fun n => sumN (fun a => f (n - d * (a : Int) * (a : Int))) p.toNat
def Per (p : Int) (f : Int → Int) : Prop := ∀ n m,n % p = m % p → f n = f m
theorem cvp_comm (p d e : Int) (f : Int → Int) : cvp p d (cvp p e f) = cvp p e (cvp p d f) := by
 funext n
 unfold cvp
 rw [sumN_comm]
 refine sumN_congr fun a _ => sumN_congr fun b _ => ?_
 congr 1
 omega
def rTab (p d : Int) (c : Nat) : Int := sumN (fun a => if d * (a : Int) * (a : Int) % p = (c : Int) then 1 else 0) p.toNat
theorem push_sum {p : Int} (hp : 0 < p) {f : Int → Int} (hf : Per p f) (m : Nat) (φ : Nat → Int) (n : Int) :
  sumN (fun a => f (n - φ a)) m = sumN (fun c => sumN (fun a => if φ a % p = (c : Int) then 1 else 0) m * f (n - (c : Int))) p.toNat := by
 have h1 : ∀ c : Nat,sumN (fun a => if φ a % p = (c : Int) then 1 else 0) m * f (n - (c : Int)) = sumN (fun a => (if φ a % p = (c : Int) then 1 else 0) * f (n - (c : Int))) m := fun c => (sumN_mulR _ _ _).symm
 simp only [h1]
 rw [sumN_comm]
 refine sumN_congr fun a _ => ?_
 have hm := mod_num (p := p) (a := φ a) hp
 have ht : (φ a % p).toNat < p.toNat := by omega
 rw [sumN_one ht]
 ·rw [if_pos (by omega),Int.one_mul]
  refine hf _ _ ?_
  rw [show (((φ a % p).toNat : Nat) : Int) = φ a % p by omega,Int.sub_emod n (φ a),Int.sub_emod n (φ a % p),Int.emod_emod]
 ·intro q hq hne
  rw [if_neg (fun h => hne (by omega)),Int.zero_mul]
theorem cvp_tab {p : Int} (hp : 0 < p) {f : Int → Int} (hf : Per p f) (d n : Int) : cvp p d f n = sumN (fun c => rTab p d c * f (n - (c : Int))) p.toNat :=
 push_sum hp hf p.toNat (fun a => d * (a : Int) * (a : Int)) n
def r2Tab (p d e : Int) (c : Nat) : Int := sumN (fun a => sumN (fun b => if (d * (a : Int) * (a : Int) + e * (b : Int) * (b : Int)) % p = (c : Int) then 1 else 0) p.toNat) p.toNat
theorem cvp2_tab {p : Int} (hp : 0 < p) {f : Int → Int} (hf : Per p f) (d e n : Int) : cvp p d (cvp p e f) n = sumN (fun c => r2Tab p d e c * f (n - (c : Int))) p.toNat := by
 have h1 : ∀ c : Nat,r2Tab p d e c * f (n - (c : Int)) = sumN (fun a => sumN (fun b => if (d * (a : Int) * (a : Int) + e * (b : Int) * (b : Int)) % p = (c : Int) then 1 else 0) p.toNat * f (n - (c : Int))) p.toNat := fun c => (sumN_mulR _ _ _).symm
 simp only [h1]
 rw [sumN_comm]
 unfold cvp
 refine sumN_congr fun a _ => ?_
 rw [← push_sum hp hf p.toNat (fun b => d * (a : Int) * (a : Int) + e * (b : Int) * (b : Int)) n]
 refine sumN_congr fun b _ => ?_
 congr 1
 omega
theorem cvp_same {p d d' : Int} (hp : 0 < p) {f : Int → Int} (hf : Per p f) (h : ∀ c,c < p.toNat → rTab p d c = rTab p d' c) : cvp p d f = cvp p d' f := by
 funext n
 rw [cvp_tab hp hf,cvp_tab hp hf]
 exact sumN_congr fun c hc => by rw [h c hc]
theorem cvp2_same {p d e d' e' : Int} (hp : 0 < p) {f : Int → Int} (hf : Per p f) (h : ∀ c,c < p.toNat → r2Tab p d e c = r2Tab p d' e' c) : cvp p d (cvp p e f) = cvp p d' (cvp p e' f) := by
 funext n
 rw [cvp2_tab hp hf,cvp2_tab hp hf]
 exact sumN_congr fun c hc => by rw [h c hc]

/-! ### Squares -/
def sqb (p d : Int) : Bool := (List.range p.toNat).any fun x => decide ((x : Int) * (x : Int) % p = d)
def gOf (p : Int) : Int := if p = 7 then 3 else 2
def okP (p : Int) : Bool :=
 ((List.range p.toNat).all fun d => decide (d = 0) || (List.range p.toNat).all fun c => decide (rTab p (d : Int) c = rTab p (if sqb p (d : Int) then 1 else gOf p) c)) &&
 ((List.range p.toNat).all fun c => decide (r2Tab p (gOf p) (gOf p) c = r2Tab p 1 1 c)) &&
 ((List.range p.toNat).all fun d => (List.range p.toNat).all fun e => decide (d = 0) || decide (e = 0) || (sqb p ((d : Int) * (e : Int) % p) == (sqb p (d : Int) == sqb p (e : Int))))
theorem okP_all {p : Int} (hP : isP p = true) : okP p = true := by
 rcases isP_cases hP with rfl | rfl | rfl | rfl | rfl <;> kernel_rfl

section
variable {p : Int} (hP : isP p = true)
include hP
theorem okP_spec : (∀ d : Nat,d < p.toNat → d ≠ 0 → ∀ c,c < p.toNat → rTab p (d : Int) c = rTab p (if sqb p (d : Int) then 1 else gOf p) c) ∧
  (∀ c,c < p.toNat → r2Tab p (gOf p) (gOf p) c = r2Tab p 1 1 c) ∧
  (∀ d : Nat,d < p.toNat → ∀ e : Nat,e < p.toNat → d ≠ 0 → e ≠ 0 → sqb p ((d : Int) * (e : Int) % p) = (sqb p (d : Int) == sqb p (e : Int))) := by
 have h := okP_all hP
 simp only [okP,Bool.and_eq_true,List.all_eq_true,List.mem_range,Bool.or_eq_true,decide_eq_true_eq,beq_iff_eq] at h
 obtain ⟨⟨h1,h2⟩,h3⟩ := h
 refine ⟨fun d hd h0 c hc => ?_,h2,fun d hd e he h0 h0' => ?_⟩
 ·rcases h1 d hd with h | h
  ·exact absurd h h0
  ·exact h c hc
 ·rcases h3 d hd e he with (h | h) | h
  ·exact absurd h h0
  ·exact absurd h h0'
  ·exact h
theorem sqb_mul {a b : Int} (ha : 0 ≤ a ∧ a < p) (hb : 0 ≤ b ∧ b < p) (h0 : a ≠ 0) (h1 : b ≠ 0) : sqb p (a * b % p) = (sqb p a == sqb p b) := by
 obtain ⟨x,rfl⟩ : ∃ x : Nat,a = (x : Int) := ⟨a.toNat,by omega⟩
 obtain ⟨y,rfl⟩ : ∃ y : Nat,b = (y : Int) := ⟨b.toNat,by omega⟩
 exact (okP_spec hP).2.2 x (by omega) y (by omega) (by omega) (by omega)
theorem cvp_class {d : Int} (hd : 0 ≤ d ∧ d < p) (h0 : d ≠ 0) {f : Int → Int} (hf : Per p f) : cvp p d f = cvp p (if sqb p d then 1 else gOf p) f := by
 have hp := isP_le hP
 obtain ⟨x,rfl⟩ : ∃ x : Nat,d = (x : Int) := ⟨d.toNat,by omega⟩
 exact cvp_same (by omega) hf fun c hc => (okP_spec hP).1 x (by omega) (by omega) c hc
theorem cvp_gg {f : Int → Int} (hf : Per p f) : cvp p (gOf p) (cvp p (gOf p) f) = cvp p 1 (cvp p 1 f) := by
 have hp := isP_le hP
 exact cvp2_same (by omega) hf (okP_spec hP).2.1
end

/-! ### A form for counts -/
def itN {α : Type} (g : α → α) : Nat → α → α
 | 0,x => x
 | n + 1,x => g (itN g n x)
theorem itN_comm {α : Type} {g h : α → α} (hc : ∀ x,g (h x) = h (g x)) (n : Nat) (x : α) : h (itN g n x) = itN g n (h x) := by
 induction n with
 | zero => rfl
 | succ n ih => show h (g (itN g n x)) = g (itN g n (h x)); rw [← hc,ih]
theorem itN_in {α : Type} (g : α → α) (n : Nat) (x : α) : itN g n (g x) = itN g (n + 1) x := (itN_comm (fun _ => rfl) n x).symm
def zcN (w : List Int) : Nat → Nat
 | 0 => 0
 | k + 1 => zcN w k + if gI w k = 0 then 1 else 0
def eN (p : Int) (w : List Int) : Nat → Bool
 | 0 => false
 | k + 1 => xor (eN p w k) (decide (gI w k ≠ 0) && !sqb p (gI w k))
def nfC (p : Int) (z s : Nat) (e : Bool) : Int → Int := itN (cvp p 0) z (itN (cvp p 1) s (if e then cvp p (gOf p) (cntU p []) else cntU p []))
theorem cntU_per (p : Int) (l : List Int) : Per p (cntU p l) := fun _ _ h => cntU_mod h
theorem cnt_form {p : Int} (hP : isP p = true) {w : List Int} (hw : Vec p w.length w) : ∀ k,k ≤ w.length → ∃ s,cntU p (w.take k) = nfC p (zcN w k) s (eN p w k) ∧ zcN w k + s + (if eN p w k then 1 else 0) = k
 | 0,_ => ⟨0,by simp [nfC,zcN,eN,itN],by simp [zcN,eN]⟩
 | k + 1,hk => by
  obtain ⟨s,h1,h2⟩ := cnt_form hP hw k (by omega)
  have hk' : k < w.length := by omega
  have ht : w.take (k + 1) = w.take k ++ [gI w k] := by
   rw [List.take_add_one,List.getElem?_eq_getElem hk',gI_get hk']; rfl
  have hs : cntU p (w.take (k + 1)) = cvp p (gI w k) (cntU p (w.take k)) := by
   funext n
   rw [ht,cntU_snoc]
   rfl
  have hd := hw.get hk'
  by_cases h0 : gI w k = 0
  ·have e1 : eN p w (k + 1) = eN p w k := by simp [eN,h0]
   have e2 : zcN w (k + 1) = zcN w k + 1 := by simp [zcN,h0]
   refine ⟨s,?_,by rw [e1,e2]; omega⟩
   rw [hs,h1,h0,e1,e2]
   rfl
  ·have e2 : zcN w (k + 1) = zcN w k := by simp [zcN,h0]
   have hc := cvp_class hP hd h0 (cntU_per p (w.take k))
   rw [hs,hc,h1,e2]
   cases hq : sqb p (gI w k) with
   | true =>
    have e1 : eN p w (k + 1) = eN p w k := by simp [eN,hq]
    refine ⟨s + 1,?_,by rw [e1]; omega⟩
    rw [e1]
    unfold nfC
    rw [if_pos rfl,itN_comm (fun x => cvp_comm p 0 1 x)]
    rfl
   | false =>
    have e1 : eN p w (k + 1) = !eN p w k := by simp [eN,hq,h0]
    rw [e1]
    rw [if_neg (by simp)]
    unfold nfC
    rw [itN_comm (fun x => cvp_comm p 0 _ x),itN_comm (fun x => cvp_comm p 1 _ x)]
    cases he : eN p w k with
    | false =>
     rw [he] at h2
     exact ⟨s,by simp,by simp at h2 ⊢; omega⟩
    | true =>
     rw [he] at h2
     refine ⟨s + 2,?_,by simp at h2 ⊢; omega⟩
     simp only [if_true,Bool.not_true,Bool.false_eq_true,if_false]
     rw [cvp_gg hP (cntU_per p []),itN_in,itN_in]
theorem cnt_same {p : Int} (hP : isP p = true) {w u : List Int} (hw : Vec p w.length w) (hu : Vec p u.length u) (hl : w.length = u.length) (hz : zcN w w.length = zcN u w.length) (he : eN p w w.length = eN p u w.length) :
  cntU p w = cntU p u := by
 obtain ⟨s,h1,h2⟩ := cnt_form hP hw w.length (Nat.le_refl _)
 obtain ⟨s',h3,h4⟩ := cnt_form hP hu w.length (by omega)
 rw [List.take_length] at h1
 rw [hl,List.take_length] at h3
 rw [← hl] at h3
 have : s = s' := by rw [hz,he] at h2; omega
 rw [h1,h3,hz,he,this]

/-! ### Both programs' tests -/
def nzI (x : Int) : Int := if x = 0 then 1 else x
def prN (p : Int) (w u : List Int) : Nat → Int
 | 0 => 1
 | k + 1 => (prN p w u k * nzI (gI w k) % p) * nzI (gI u k) % p
section
variable {p : Int} {w u : List Int} (hP : isP p = true) (hw : Vec p w.length w) (hu : Vec p w.length u)
include hP hw hu
theorem nzI_num {v : List Int} {k : Nat} (hv : Vec p w.length v) (hk : k < w.length) : 0 < nzI (gI v k) ∧ nzI (gI v k) < p := by
 have hp := isP_le hP
 have := hv.2 k hk
 unfold nzI
 split <;> omega
theorem prN_num : ∀ {k : Nat},k ≤ w.length → 0 < prN p w u k ∧ prN p w u k < p
 | 0,_ => by have hp := isP_le hP; simp only [prN]; omega
 | k + 1,hk => by
  have hp := isP_le hP
  have h := prN_num (k := k) (by omega)
  have a := nzI_num hP hw hu hw (k := k) (by omega)
  have b := nzI_num hP hw hu hu (k := k) (by omega)
  have m1 := mod_num (p := p) (a := prN p w u k * nzI (gI w k)) (by omega)
  have z1 : prN p w u k * nzI (gI w k) % p ≠ 0 := fun h0 => by
   rw [mul_zero_mod hP ⟨by omega,by omega⟩ ⟨by omega,by omega⟩] at h0; omega
  have m2 := mod_num (p := p) (a := (prN p w u k * nzI (gI w k) % p) * nzI (gI u k)) (by omega)
  have z2 : (prN p w u k * nzI (gI w k) % p) * nzI (gI u k) % p ≠ 0 := fun h0 => by
   rw [mul_zero_mod hP m1 ⟨by omega,by omega⟩] at h0; omega
  simp only [prN]
  omega
theorem sqb_one : sqb p 1 = true := by
 have hp := isP_le hP
 unfold sqb
 rw [List.any_eq_true]
 refine ⟨1,by simp; omega,decide_eq_true ?_⟩
 show (1 : Int) * 1 % p = 1
 rw [Int.one_mul]
 exact Int.emod_eq_of_lt (by omega) (by omega)
theorem sqb_prN : ∀ {k : Nat},k ≤ w.length → sqb p (prN p w u k) = (eN p w k == eN p u k)
 | 0,_ => by simp only [prN,eN]; rw [sqb_one hP hw hu]; rfl
 | k + 1,hk => by
  have hp := isP_le hP
  have ih := sqb_prN (k := k) (by omega)
  have h := prN_num hP hw hu (k := k) (by omega)
  have a := nzI_num hP hw hu hw (k := k) (by omega)
  have b := nzI_num hP hw hu hu (k := k) (by omega)
  have m1 := mod_num (p := p) (a := prN p w u k * nzI (gI w k)) (by omega)
  have z1 : prN p w u k * nzI (gI w k) % p ≠ 0 := fun h0 => by
   rw [mul_zero_mod hP ⟨by omega,by omega⟩ ⟨by omega,by omega⟩] at h0; omega
  have hn : ∀ v : List Int,sqb p (nzI (gI v k)) = !(decide (gI v k ≠ 0) && !sqb p (gI v k)) := fun v => by
   unfold nzI
   by_cases h0 : gI v k = 0
   ·simp [h0,sqb_one hP hw hu]
   ·simp [h0]
  simp only [prN,eN]
  rw [sqb_mul hP m1 ⟨by omega,by omega⟩ z1 (by omega),sqb_mul hP ⟨by omega,by omega⟩ ⟨by omega,by omega⟩ (by omega) (by omega),ih,hn w,hn u]
  generalize (decide (gI w k ≠ 0) && !sqb p (gI w k)) = x
  generalize (decide (gI u k ≠ 0) && !sqb p (gI u k)) = y
  cases eN p w k <;> cases eN p u k <;> cases x <;> cases y <;> rfl
end
end Go.Vam

/- Plain laws: isometries between two spaces. -/
namespace Go.Vam
open Go Go.RowKit
set_option linter.unusedSimpArgs false
set_option linter.unusedVariables false
set_option linter.unusedSectionVars false

abbrev gP (l : List (Int × List Int)) (k : Nat) : Int × List Int := l.getD k (0,[])
theorem idxP {l : List (Int × List Int)} {k : Nat} (h : k < l.length) : idx l (k : Int) = some (gP l k) := idxD h (0,[])
theorem checkSpaces_eq {l : List (Int × List Int)} (hl : l.length ≤ 1048576) (hs : ∀ x ∈ l,x.2.length ≤ 1048576) :
  i_checkSpaces l = some (if (l.any fun x => !isSp x.1 x.2) then 1 else 0) := by
 unfold i_checkSpaces g_slices_ContainsFunc_Limpl_Space_impl_Space_of_i_checkSpaces_c1 g_slices_IndexFunc_Limpl_Space_impl_Space_of_i_checkSpaces_c1
 have hget : ∀ k,k < l.length → (gP l k).2.length ≤ 1048576 := fun k hk => by
  have := hs _ (List.getElem_mem hk)
  rwa [getD_get hk (0,[])] at this
 have core : ∀ k,k < l.length → i_checkSpaces_c1 (gP l k).1 (gP l k).2 = some (!isSp (gP l k).1 (gP l k).2) := fun k hk => by
  unfold i_checkSpaces_c1
  rw [i_IsSpace_eq (hget k hk),some_bind]
 obtain ⟨b,h1,h2⟩ := any_loop (g_slices_IndexFunc_Limpl_Space_impl_Space_of_i_checkSpaces_c1_L0 l) l.length (fun k => !isSp (gP l k).1 (gP l k).2) (fun k => (k : Int)) (by rw [BIG_val]; omega)
  (fun k hk hf => by
   unfold g_slices_IndexFunc_Limpl_Space_impl_Space_of_i_checkSpaces_c1_L0
   simp only [show (k : Int) < (l.length : Int) by omega,if_true,idxP hk,some_bind,core k hk,hf,Bool.false_eq_true,if_false]
   rw [w_in (by omega) (by omega)]; rfl) (fun k hk hf => by
   unfold g_slices_IndexFunc_Limpl_Space_impl_Space_of_i_checkSpaces_c1_L0
   simp only [show (k : Int) < (l.length : Int) by omega,if_true,idxP hk,some_bind,core k hk,hf]) (by
   unfold g_slices_IndexFunc_Limpl_Space_impl_Space_of_i_checkSpaces_c1_L0
   simp)
 have e : (l.any fun x => !isSp x.1 x.2) = (List.range l.length).any fun k => !isSp (gP l k).1 (gP l k).2 := (any_range l (fun x => !isSp x.1 x.2) (0,[])).symm
 rw [e,h1]
 rcases h2 with ⟨rfl,h3⟩ | ⟨k,hk,rfl,hf,h3,_⟩
 ·rw [h3]; simp [ile]
 ·rw [h3]; simp [ile]

def iso2 (p : Int) (w u : List Int) (T : List (List Int)) (i j : Nat) : Bool := decide (pairp p w.length u (gR T i) (gR T j) = if i = j then gI w i else 0)
section
variable {p : Int} {w u : List Int} {T : List (List Int)} (hP : isP p = true) (hn : w.length ≤ 1048576) (hw : Vec p w.length w) (hu : Vec p w.length u) (hT : Mat p w.length w.length T)
include hP hn hw hu hT
theorem i_iso2_loop : loop (i_isIsometry_L0 w p u T) BIG 0 = some (if (List.range w.length).all fun i => (List.range w.length).all (iso2 p w u T i) then .inl () else .inr false) := by
 have e1 := hT.1
 have inner : ∀ i,i < w.length → loop (i_isIsometry_L1 w p u T (i : Int) (gR T i)) BIG 0 = some (if (List.range w.length).all (iso2 p w u T i) then .inl () else .inr (.inr (.inr false))) := by
  intro i hi
  have core : ∀ j,j < w.length → i_isIsometry_L1 w p u T (i : Int) (gR T i) (j : Int) = if iso2 p w u T i j = true then some (.inl ((j + 1 : Nat) : Int)) else some (.inr (.inr (.inr (.inr false)))) := by
   intro j hj
   unfold i_isIsometry_L1
   have hpr := i_Space_pair_eq hP hn hu (hT.row hi) (hT.row hj)
   have he : ((if (i : Int) = (j : Int) then (idx w (i : Int)).bind fun v38 => some v38 else some 0) : Option Int) = some (if i = j then gI w i else 0) := by
    by_cases h : i = j
    ·subst h; simp only [if_true,idxI hi,some_bind]
    ·rw [if_neg (by omega),if_neg h]
   rw [if_pos (by omega),he,idxR (by omega),some_bind,some_bind,hpr,some_bind,w_in (by omega) (by omega)]
   unfold iso2
   by_cases h : pairp p w.length u (gR T i) (gR T j) = if i = j then gI w i else 0
   ·rw [if_neg (by simp [h]),if_pos (by simp [h])]; rfl
   ·rw [if_pos h,if_neg (by simp [h])]
  refine all_loop _ w.length (iso2 p w u T i) _ (by rw [BIG_val]; omega) ?_ ?_ ?_
  ·intro j hj hf
   rw [core j hj,if_pos hf]
  ·intro j hj hf
   rw [core j hj,if_neg (by simp [hf])]
  ·unfold i_isIsometry_L1
   simp [e1]
 refine all_loop _ w.length (fun i => (List.range w.length).all (iso2 p w u T i)) false (by rw [BIG_val]; omega) ?_ ?_ ?_
 ·intro i hi hf
  unfold i_isIsometry_L0
  rw [if_pos (by omega),idxR (by omega),some_bind,inner i hi,hf,w_in (by omega) (by omega)]; rfl
 ·intro i hi hf
  unfold i_isIsometry_L0
  rw [if_pos (by omega),idxR (by omega),some_bind,inner i hi,hf]; rfl
 ·unfold i_isIsometry_L0
  simp [e1]
end

end Go.Vam

/- Plain laws: both tests of isometric spaces; AreIsometric. -/
namespace Go.Vam
open Go Go.RowKit
set_option linter.unusedSimpArgs false
set_option linter.unusedVariables false
set_option linter.unusedSectionVars false

theorem l01Root_eq {p a : Int} (hP : isP p = true) : ∃ r,s_l01Root p a = some r ∧ ile 0 r = sqb p a := by
 have hp := isP_le hP
 unfold s_l01Root
 obtain ⟨b,h1,h2⟩ := any_loop (s_l01Root_L0 p a) p.toNat (fun k => decide ((k : Int) * (k : Int) % p = a)) (fun k => (k : Int)) (by rw [BIG_val]; omega)
  (fun k hk hf => by
   unfold s_l01Root_L0
   have q1 := mul_abs (a := (k : Int)) (b := (k : Int)) (A := 13) (B := 13) (by omega) (by omega)
   have q2 := Int.mul_nonneg (a := (k : Int)) (b := (k : Int)) (by omega) (by omega)
   have hf : ¬ (k : Int) * (k : Int) % p = a := by simpa using hf
   simp only [show (k : Int) < p by omega,if_true,chk_bind (show ¬ p = 0 by omega),w_in (x := (k : Int) * (k : Int)) (by omega) (by omega),tmod_nn (a := (k : Int) * (k : Int)) (b := p) (by omega),hf,if_false]
   rw [w_in (by omega) (by omega)]; rfl) (fun k hk hf => by
   unfold s_l01Root_L0
   have q1 := mul_abs (a := (k : Int)) (b := (k : Int)) (A := 13) (B := 13) (by omega) (by omega)
   have q2 := Int.mul_nonneg (a := (k : Int)) (b := (k : Int)) (by omega) (by omega)
   have hf : (k : Int) * (k : Int) % p = a := by simpa using hf
   simp only [show (k : Int) < p by omega,if_true,chk_bind (show ¬ p = 0 by omega),w_in (x := (k : Int) * (k : Int)) (by omega) (by omega),tmod_nn (a := (k : Int) * (k : Int)) (b := p) (by omega),hf]) (by
   unfold s_l01Root_L0
   rw [if_neg (by omega)])
 rw [h1,some_bind]
 unfold sqb
 rcases h2 with ⟨rfl,h3⟩ | ⟨k,hk,rfl,hf,h3,_⟩
 ·exact ⟨_,rfl,by rw [h3]; rfl⟩
 ·exact ⟨_,rfl,by rw [h3]; simp [ile]⟩
theorem isSquare_eq {p a : Int} (hP : isP p = true) : i_field_isSquare p a = some (sqb p a) := by
 obtain ⟨r,b,h1,h2,h3⟩ := root_two (a := a) hP
 obtain ⟨r',h4,h5⟩ := l01Root_eq (a := a) hP
 rw [h1,Option.some.injEq] at h4
 rw [h2,← h3,h4,h5]

def isoQ (p : Int) (w : List Int) (q : Int) (u : List Int) : Bool :=
 decide (p = q) && decide (w.length = u.length) && decide (zcN w w.length = zcN u w.length) && sqb p (prN p w u w.length)
theorem zcN_le (w : List Int) : ∀ k,zcN w k ≤ k
 | 0 => Nat.le_refl _
 | k + 1 => by have := zcN_le w k; unfold zcN; split <;> omega
section
variable {p : Int} {w u : List Int} (hP : isP p = true) (hn : w.length ≤ 6) (hw : Vec p w.length w) (hu : Vec p w.length u)
include hP hn hw hu
theorem prod_bd {a b : Int} (ha : 0 ≤ a ∧ a < p) (hb : 0 ≤ b ∧ b < p) : 0 ≤ a * b ∧ a * b ≤ 169 := by
 have hp := isP_le hP
 have h1 := mul_abs (a := a) (b := b) (A := 13) (B := 13) (by omega) (by omega)
 have h2 := Int.mul_nonneg ha.1 hb.1
 omega
theorem s_iso_fold : loop (s_l03Isometric_L0 p w u) BIG (1,0,0,0) = some (prN p w u w.length,(zcN w w.length : Int),(zcN u w.length : Int)) := by
 have hp := isP_le hP
 rw [loop_for (b := (prN p w u w.length,(zcN w w.length : Int),(zcN u w.length : Int))) (fun k => (prN p w u k,(zcN w k : Int),(zcN u k : Int),(k : Int))) w.length (by rw [BIG_val]; omega) (by simp [prN,zcN])]
 ·intro k hk
  unfold s_l03Isometric_L0
  have hul : k < u.length := by rw [hu.1]; exact hk
  have a1 := hw.2 k hk
  have b1 := hu.2 k hk
  have hr := prN_num hP hw hu (k := k) (by omega)
  have z1 := zcN_le w k
  have z2 := zcN_le u k
  have hk1 : w64 ((k : Int) + 1) = ((k + 1 : Nat) : Int) := by rw [w_in (by omega) (by omega)]; rfl
  have c1 := prod_bd hP hn hw hu (a := prN p w u k) (b := gI w k) (by omega) a1
  have e1 : (if gI w k = 0 then some (prN p w u k,w64 ((zcN w k : Int) + 1)) else (chk (¬ p = 0)).bind fun _ => some ((w64 (prN p w u k * gI w k)).tmod p,(zcN w k : Int)) : Option (Int × Int)) = some (prN p w u k * nzI (gI w k) % p,((zcN w (k + 1) : Nat) : Int)) := by
   by_cases h0 : gI w k = 0
   ·rw [if_pos h0,w_in (by omega) (by omega)]
    simp only [zcN,nzI,h0,if_true,Int.mul_one]
    rw [Int.emod_eq_of_lt (by omega) (by omega)]
    rfl
   ·rw [if_neg h0,chk_bind (by omega),w_in (by omega) (by omega),tmod_nn (by omega)]
    simp only [zcN,nzI,h0,if_false]
    rfl
  have m1 := mod_num (p := p) (a := prN p w u k * nzI (gI w k)) (by omega)
  have c2 := prod_bd hP hn hw hu (a := prN p w u k * nzI (gI w k) % p) (b := gI u k) m1 b1
  have e2 : (if gI u k = 0 then some (prN p w u k * nzI (gI w k) % p,((zcN w (k + 1) : Nat) : Int),w64 ((zcN u k : Int) + 1)) else (chk (¬ p = 0)).bind fun _ => some ((w64 (prN p w u k * nzI (gI w k) % p * gI u k)).tmod p,((zcN w (k + 1) : Nat) : Int),(zcN u k : Int)) : Option (Int × Int × Int)) = some (prN p w u (k + 1),((zcN w (k + 1) : Nat) : Int),((zcN u (k + 1) : Nat) : Int)) := by
   by_cases h0 : gI u k = 0
   ·rw [if_pos h0,w_in (by omega) (by omega)]
    simp only [prN,zcN,nzI,h0,if_true,Int.mul_one,Int.emod_emod]
    rfl
   ·rw [if_neg h0,chk_bind (by omega),w_in (by omega) (by omega),tmod_nn (by omega)]
    simp only [prN,zcN,nzI,h0,if_false]
    rfl
  simp only [lt_cast hk,if_true,idxI hk,idxI hul,some_bind,e1,e2,hk1]
 ·unfold s_l03Isometric_L0
  simp only [lt_cast_self,if_false]
theorem i_iso_fold : loop (i_isometric_L0 p w u) BIG (0,1,0) = some ((zcN w w.length : Int) - (zcN u w.length : Int),prN p w u w.length) := by
 have hp := isP_le hP
 rw [loop_for (b := ((zcN w w.length : Int) - (zcN u w.length : Int),prN p w u w.length)) (fun k => ((zcN w k : Int) - (zcN u k : Int),prN p w u k,(k : Int))) w.length (by rw [BIG_val]; omega) (by simp [prN,zcN])]
 ·intro k hk
  unfold i_isometric_L0
  have hul : k < u.length := by rw [hu.1]; exact hk
  have a1 := hw.2 k hk
  have b1 := hu.2 k hk
  have hr := prN_num hP hw hu (k := k) (by omega)
  have z1 := zcN_le w k
  have z2 := zcN_le u k
  have hk1 : w64 ((k : Int) + 1) = ((k + 1 : Nat) : Int) := by rw [w_in (by omega) (by omega)]; rfl
  have c1 := prod_bd hP hn hw hu (a := prN p w u k) (b := gI w k) (by omega) a1
  have m1 := mod_num (p := p) (a := prN p w u k * nzI (gI w k)) (by omega)
  have c2 := prod_bd hP hn hw hu (a := prN p w u k * nzI (gI w k) % p) (b := gI u k) m1 b1
  have m2 := mod_num (p := p) (a := prN p w u k * nzI (gI w k) % p * nzI (gI u k)) (by omega)
  have s0 : i_isometric_L1 p w (gI w k) (gI u k) ((zcN w k : Int) - (zcN u k : Int),prN p w u k,0) = some (.inl ((zcN w (k + 1) : Int) - (zcN u k : Int),prN p w u k * nzI (gI w k) % p,1)) := by
   unfold i_isometric_L1 i_Space_field
   dsimp only
   rw [if_pos (by decide),show idx ([gI w k,gI u k] : List Int) 0 = some (gI w k) from rfl,some_bind]
   by_cases h0 : gI w k = 0
   ·rw [if_pos h0,some_bind]
    simp only [zcN,nzI,h0,if_true,Int.mul_one]
    rw [show w64 ((1 : Int) - w64 (2 * 0)) = 1 from rfl,w_in (by omega) (by omega),Int.emod_eq_of_lt (by omega) (by omega),show w64 ((0 : Int) + 1) = 1 from rfl]
    congr 3
    omega
   ·rw [if_neg h0,some_bind]
    simp only [zcN,nzI,h0,if_false,Nat.add_zero]
    rw [w_in (by omega) (by omega),i_field_num_eq (by omega) (by omega) (by omega) (by omega),some_bind,some_bind,show w64 ((0 : Int) + 1) = 1 from rfl]
  have s1 : i_isometric_L1 p w (gI w k) (gI u k) ((zcN w (k + 1) : Int) - (zcN u k : Int),prN p w u k * nzI (gI w k) % p,1) = some (.inl ((zcN w (k + 1) : Int) - (zcN u (k + 1) : Int),prN p w u (k + 1),2)) := by
   have z3 := zcN_le w (k + 1)
   unfold i_isometric_L1 i_Space_field
   dsimp only
   rw [if_pos (by decide),show idx ([gI w k,gI u k] : List Int) 1 = some (gI u k) from rfl,some_bind]
   by_cases h0 : gI u k = 0
   ·rw [if_pos h0,some_bind]
    have e3 : prN p w u (k + 1) = prN p w u k * nzI (gI w k) % p := by simp only [prN,nzI,h0,if_true,Int.mul_one,Int.emod_emod]
    have e4 : zcN u (k + 1) = zcN u k + 1 := by simp only [zcN,h0,if_true]
    rw [e3,e4,show w64 ((1 : Int) - w64 (2 * 1)) = -1 from rfl,w_in (by omega) (by omega),show w64 ((1 : Int) + 1) = 2 from rfl]
    congr 3
    omega
   ·rw [if_neg h0,some_bind]
    have e3 : prN p w u (k + 1) = prN p w u k * nzI (gI w k) % p * gI u k % p := by simp only [prN,nzI,h0,if_false]
    have e4 : zcN u (k + 1) = zcN u k := by simp only [zcN,h0,if_false,Nat.add_zero]
    rw [e3,e4,w_in (by omega) (by omega),i_field_num_eq (by omega) (by omega) (by omega) (by omega),some_bind,some_bind,show w64 ((1 : Int) + 1) = 2 from rfl]
  have s2 : i_isometric_L1 p w (gI w k) (gI u k) ((zcN w (k + 1) : Int) - (zcN u (k + 1) : Int),prN p w u (k + 1),2) = some (.inr ((zcN w (k + 1) : Int) - (zcN u (k + 1) : Int),prN p w u (k + 1))) := by
   unfold i_isometric_L1
   dsimp only
   rw [if_neg (by decide)]
  have inner : loop (i_isometric_L1 p w (gI w k) (gI u k)) BIG ((zcN w k : Int) - (zcN u k : Int),prN p w u k,0) = some ((zcN w (k + 1) : Int) - (zcN u (k + 1) : Int),prN p w u (k + 1)) := by
   obtain ⟨N,hN⟩ : ∃ N,BIG = N + 3 := ⟨4611686018427387901,rfl⟩
   rw [hN,loop_succ,s0]
   show loop _ (N + 2) _ = _
   rw [loop_succ,s1]
   show loop _ (N + 1) _ = _
   rw [loop_succ,s2]
  simp only [lt_cast hk,if_true,idxI hk,idxI hul,some_bind,inner,hk1]
 ·unfold i_isometric_L0
  simp only [lt_cast_self,if_false]
end
theorem s_isometric_eq {p q : Int} {w u : List Int} (hs : isSp p w = true) (hs2 : isSp q u = true) : s_l03Isometric p w q u = some (isoQ p w q u) := by
 obtain ⟨hP,l1,l6,hw⟩ := isSp_iff hs
 obtain ⟨hQ,k1,k6,hu⟩ := isSp_iff hs2
 unfold s_l03Isometric isoQ
 by_cases hpq : p = q
 ·subst hpq
  by_cases hl : w.length = u.length
  ·rw [if_neg (by simp),some_bind]
   rw [show ieq (w.length : Int) (u.length : Int) = true by simp [ieq,hl],if_neg (by simp)]
   have hu' : Vec p w.length u := by rw [hl]; exact hu
   rw [s_iso_fold hP l6 hw hu',some_bind]
   obtain ⟨r,r1,r2⟩ := l01Root_eq (a := prN p w u w.length) hP
   rw [hl] at r1 r2
   simp only [Int.natCast_inj,r1,some_bind,r2,hl,decide_true,Bool.true_and]
   split <;> rename_i h <;> simp [h]
  ·rw [if_neg (by simp),some_bind]
   rw [show ieq (w.length : Int) (u.length : Int) = false by simp [ieq]; omega,if_pos (by simp)]
   simp [hl]
 ·rw [if_pos hpq,some_bind,if_pos rfl]
  simp [hpq]
theorem i_isometric_eq {p q : Int} {w u : List Int} (hs : isSp p w = true) (hs2 : isSp q u = true) : i_isometric p w q u = some (isoQ p w q u) := by
 obtain ⟨hP,l1,l6,hw⟩ := isSp_iff hs
 obtain ⟨hQ,k1,k6,hu⟩ := isSp_iff hs2
 unfold i_isometric isoQ i_Space_dim i_Space_field
 by_cases hpq : p = q
 ·subst hpq
  by_cases hl : w.length = u.length
  ·rw [if_neg (by simp),some_bind,some_bind,some_bind]
   rw [show ieq (w.length : Int) (u.length : Int) = true by simp [ieq,hl],if_neg (by simp)]
   have hu' : Vec p w.length u := by rw [hl]; exact hu
   rw [i_iso_fold hP l6 hw hu',some_bind]
   simp only [isSquare_eq hP,some_bind,hl,decide_true,Bool.true_and]
   by_cases h : zcN w u.length = zcN u u.length
   ·rw [if_pos (by omega),some_bind]
    simp [h]
   ·rw [if_neg (by omega),some_bind]
    simp [h]
  ·rw [if_neg (by simp),some_bind,some_bind,some_bind]
   rw [show ieq (w.length : Int) (u.length : Int) = false by simp [ieq]; omega,if_pos (by simp)]
   simp [hl]
 ·rw [if_pos hpq,some_bind,if_pos rfl]
  simp [hpq]
theorem iso_count {p q : Int} {w u : List Int} (hs : isSp p w = true) (hs2 : isSp q u = true) (h : isoQ p w q u = true) : p = q ∧ w.length = u.length ∧ cntU p w = cntU p u := by
 obtain ⟨hP,l1,l6,hw⟩ := isSp_iff hs
 obtain ⟨hQ,k1,k6,hu⟩ := isSp_iff hs2
 simp only [isoQ,Bool.and_eq_true,decide_eq_true_eq] at h
 obtain ⟨⟨⟨rfl,hl⟩,hz⟩,hq⟩ := h
 refine ⟨rfl,hl,cnt_same hP hw hu hl (by rw [hz,hl]) ?_⟩
 rw [sqb_prN hP hw (by rw [hl]; exact hu) (Nat.le_refl _)] at hq
 simpa using hq
theorem AreIsometric_eq {p q : Int} {w u : List Int} (hw : w.length ≤ 1048576) (hu : u.length ≤ 1048576) :
  s_AreIsometric p w q u = some (if isSp p w && isSp q u then (isoQ p w q u,0) else (false,1)) ∧ i_AreIsometric p w q u = some (if isSp p w && isSp q u then (isoQ p w q u,0) else (false,1)) := by
 unfold s_AreIsometric i_AreIsometric
 rw [s_l03Is_eq hw,s_l03Is_eq hu,checkSpaces_eq (by simp) (by intro x hx; simp at hx; rcases hx with rfl | rfl <;> assumption),some_bind,some_bind,some_bind]
 cases h1 : isSp p w with
 | false => simp [h1]
 | true =>
  cases h2 : isSp q u with
  | false => simp [h1,h2]
  | true => simp [h1,h2,s_isometric_eq h1 h2,i_isometric_eq h1 h2]
end Go.Vam

/- Plain laws: vectors one after the other. -/
namespace Go.Vam
open Go Go.RowKit
set_option linter.unusedSimpArgs false
set_option linter.unusedVariables false
set_option linter.unusedSectionVars false

def incL (p : Int) (l : List Int) : Nat → Option (List Int)
 | 0 => none
 | k + 1 => if gI l k = p - 1 then incL p (l.set k 0) k else some (l.set k (gI l k + 1))
def vlN (p : Int) (l : List Int) : Nat → Int
 | 0 => 0
 | k + 1 => vlN p l k * p + gI l k
theorem vlN_congr {p : Int} {l l' : List Int} : ∀ {k : Nat},(∀ j,j < k → gI l j = gI l' j) → vlN p l k = vlN p l' k
 | 0,_ => rfl
 | k + 1,h => by simp only [vlN]; rw [vlN_congr (k := k) fun j hj => h j (by omega),h k (by omega)]
theorem gI_setn {l : List Int} {k j : Nat} {x : Int} (h : k ≠ j) : gI (l.set k x) j = gI l j := by
 unfold gI
 rw [List.getD_eq_getElem?_getD,List.getD_eq_getElem?_getD,List.getElem?_set_ne h]
theorem gI_sete {l : List Int} {k : Nat} {x : Int} (h : k < l.length) : gI (l.set k x) k = x := by
 unfold gI
 rw [List.getD_eq_getElem?_getD,List.getElem?_set_self h]; rfl
theorem Vec.setk {p : Int} {n k : Nat} {l : List Int} {x : Int} (h : Vec p n l) (hx : 0 ≤ x ∧ x < p) : Vec p n (l.set k x) := by
 refine ⟨by rw [List.length_set,h.1],fun j hj => ?_⟩
 by_cases e : k = j
 ·subst e; rw [gI_sete (by rw [h.1]; exact hj)]; exact hx
 ·rw [gI_setn e]; exact h.2 j hj
section
variable {p : Int} {n : Nat} (hp : 3 ≤ p) (hp2 : p ≤ 13)
include hp hp2
theorem incL_some : ∀ (k : Nat) (l l' : List Int),k ≤ n → Vec p n l → incL p l k = some l' → Vec p n l' ∧ vlN p l' k = vlN p l k + 1 ∧ ∀ j,k ≤ j → gI l' j = gI l j
 | 0,l,l',_,_,h => by cases h
 | k + 1,l,l',hk,hl,h => by
  unfold incL at h
  split at h
  ·rename_i h9
   obtain ⟨a1,a2,a3⟩ := incL_some k _ l' (by omega) (hl.setk ⟨by omega,by omega⟩) h
   refine ⟨a1,?_,fun j hj => ?_⟩
   ·simp only [vlN]
    rw [a2,a3 k (Nat.le_refl _),gI_sete (by rw [hl.1]; omega),h9,vlN_congr (l := l.set k 0) (l' := l) fun j hj => gI_setn (by omega),Int.add_mul]
    omega
   ·rw [a3 j (by omega),gI_setn (by omega)]
  ·rename_i h9
   simp only [Option.some.injEq] at h
   subst h
   have := hl.2 k (by omega)
   refine ⟨hl.setk ⟨by omega,by omega⟩,?_,fun j hj => gI_setn (by omega)⟩
   simp only [vlN]
   rw [gI_sete (by rw [hl.1]; omega),vlN_congr (l := l.set k _) (l' := l) fun j hj => gI_setn (by omega)]
   omega
theorem incL_none : ∀ (k : Nat) (l : List Int),k ≤ n → Vec p n l → incL p l k = none → vlN p l k = p ^ k - 1
 | 0,l,_,_,_ => by simp [vlN]
 | k + 1,l,hk,hl,h => by
  unfold incL at h
  split at h
  ·rename_i h9
   have a := incL_none k _ (by omega) (hl.setk (k := k) ⟨by omega,by omega⟩) h
   rw [vlN_congr (l := l.set k 0) (l' := l) fun j hj => gI_setn (by omega)] at a
   simp only [vlN]
   rw [a,h9,Int.sub_mul,Int.pow_succ]
   omega
  ·cases h
theorem vlN_bd {l : List Int} (hl : Vec p n l) : ∀ k,k ≤ n → 0 ≤ vlN p l k ∧ vlN p l k ≤ p ^ k - 1
 | 0,_ => by simp [vlN]
 | k + 1,hk => by
  have a := vlN_bd hl k (by omega)
  have b := hl.2 k (by omega)
  simp only [vlN]
  have h1 : 0 ≤ vlN p l k * p := Int.mul_nonneg a.1 (by omega)
  have h2 : vlN p l k * p ≤ (p ^ k - 1) * p := Int.mul_le_mul_of_nonneg_right a.2 (by omega)
  have h3 : p ^ (k + 1) = p ^ k * p := Int.pow_succ p k
  rw [Int.sub_mul] at h2
  omega
theorem vlN_inj {x y : List Int} (hx : Vec p n x) (hy : Vec p n y) : ∀ k,k ≤ n → vlN p x k = vlN p y k → ∀ j,j < k → gI x j = gI y j
 | 0,_,_,j,hj => by omega
 | k + 1,hk,h,j,hj => by
  have a := hx.2 k (by omega)
  have b := hy.2 k (by omega)
  simp only [vlN] at h
  have h1 : gI x k = gI y k := by
   have e := congrArg (· % p) h
   simp only [Int.mul_comm _ p,Int.add_emod,Int.mul_emod_right,Int.zero_add,Int.emod_emod] at e
   rwa [Int.emod_eq_of_lt a.1 a.2,Int.emod_eq_of_lt b.1 b.2] at e
  rw [h1] at h
  have h2 : vlN p x k * p = vlN p y k * p := by omega
  have h3 := Int.eq_of_mul_eq_mul_right (by omega) h2
  rcases Nat.lt_succ_iff_lt_or_eq.1 hj with h4 | rfl
  ·exact vlN_inj hx hy k (by omega) h3 j h4
  ·exact h1
theorem vl_eq {x y : List Int} (hx : Vec p n x) (hy : Vec p n y) (h : vlN p x n = vlN p y n) : x = y := by
 rw [extI hx.1 fun k _ => rfl,extI hy.1 fun k _ => rfl]
 exact vecN_congr fun k hk => vlN_inj hp hp2 hx hy n (Nat.le_refl _) h k hk
theorem zeroV : Vec p n (List.replicate n 0) := ⟨by simp,fun k hk => by
 have : gI (List.replicate n (0 : Int)) k = 0 := by rw [← gI_get (by simpa using hk)]; simp
 omega⟩
theorem vl_zero : ∀ k,k ≤ n → vlN p (List.replicate n (0 : Int)) k = 0
 | 0,_ => rfl
 | k + 1,hk => by
  simp only [vlN]
  rw [vl_zero k (by omega),← gI_get (by simp; omega)]
  simp

/-! ### Both programs' steps -/
theorem s_next_loop : ∀ (k N : Nat) (l : List Int),k ≤ n → n ≤ 100 → k < N → Vec p n l → ∃ r,loop (s_l03Next_L0 p) N (l,(k : Int) - 1) = some r ∧ ((∃ l',incL p l k = some l' ∧ r = .inr (true,l')) ∨ (incL p l k = none ∧ ∃ y,r = .inl y))
 | 0,N,l,_,hn,hN,hl => by
  obtain ⟨N,rfl⟩ : ∃ M,N = M + 1 := ⟨N - 1,by omega⟩
  refine ⟨.inl l,?_,.inr ⟨rfl,_,rfl⟩⟩
  rw [loop_succ]
  unfold s_l03Next_L0
  dsimp only
  rw [if_neg (by omega)]
 | k + 1,N,l,hk,hn,hN,hl => by
  obtain ⟨N,rfl⟩ : ∃ M,N = M + 1 := ⟨N - 1,by omega⟩
  have hd := hl.2 k (by omega)
  have hkl : k < l.length := by rw [hl.1]; omega
  have ek : ((k + 1 : Nat) : Int) - 1 = (k : Int) := by omega
  rw [loop_succ,ek]
  have st : s_l03Next_L0 p (l,(k : Int)) = if gI l k = p - 1 then some (.inl (l.set k 0,(k : Int) - 1)) else some (.inr (.inr (true,l.set k (gI l k + 1)))) := by
   unfold s_l03Next_L0
   dsimp only
   rw [if_pos (by omega),idxI hkl,some_bind,some_bind,w_in (by omega) (by omega),Int.toNat_natCast,idxI (k := k) (by rw [List.length_set]; exact hkl),some_bind,gI_sete hkl,List.set_set,w_in (by omega) (by omega)]
   by_cases h : gI l k = p - 1
   ·rw [if_neg (by omega),if_pos h]
   ·rw [if_pos (by omega),if_neg h]
  rw [st]
  unfold incL
  by_cases h : gI l k = p - 1
  ·simp only [h,if_true]
   exact s_next_loop k N _ (by omega) hn (by omega) (hl.setk ⟨by omega,by omega⟩)
  ·simp only [h,if_false]
   exact ⟨_,rfl,.inl ⟨_,rfl,rfl⟩⟩
theorem s_next_eq {l : List Int} (hn : n ≤ 100) (hl : Vec p n l) : (∃ l',incL p l n = some l' ∧ s_l03Next p l = some (true,l')) ∨ (incL p l n = none ∧ ∃ y,s_l03Next p l = some (false,y)) := by
 unfold s_l03Next
 obtain ⟨r,h1,h2⟩ := s_next_loop hp hp2 n BIG l (Nat.le_refl _) hn (by rw [BIG_val]; omega) hl
 rw [w_in (by rw [hl.1]; omega) (by rw [hl.1]; omega),hl.1,h1,some_bind]
 rcases h2 with ⟨l',h2,rfl⟩ | ⟨h2,y,rfl⟩
 ·exact .inl ⟨l',h2,rfl⟩
 ·exact .inr ⟨h2,y,rfl⟩
theorem i_next_loop : ∀ (k N : Nat) (l : List Int),k ≤ n → n ≤ 100 → k < N → Vec p n l → ∃ m j,loop (i_Space_vectors_of_i_IsometryOf_c1_L1 p) N (l,(k : Int) - 1) = some (m,j) ∧
  ((incL p l k = none ∧ j < 0) ∨ ∃ q : Nat,j = (q : Int) ∧ q < n ∧ Vec p n m ∧ incL p l k = some (m.set q (gI m q + 1)))
 | 0,N,l,_,hn,hN,hl => by
  obtain ⟨N,rfl⟩ : ∃ M,N = M + 1 := ⟨N - 1,by omega⟩
  refine ⟨l,-1,?_,.inl ⟨rfl,by omega⟩⟩
  rw [loop_succ]
  unfold i_Space_vectors_of_i_IsometryOf_c1_L1
  dsimp only
  rw [if_neg (by omega),some_bind,if_neg (by simp)]
  rfl
 | k + 1,N,l,hk,hn,hN,hl => by
  obtain ⟨N,rfl⟩ : ∃ M,N = M + 1 := ⟨N - 1,by omega⟩
  have hd := hl.2 k (by omega)
  have hkl : k < l.length := by rw [hl.1]; omega
  have ek : ((k + 1 : Nat) : Int) - 1 = (k : Int) := by omega
  rw [loop_succ,ek]
  have st : i_Space_vectors_of_i_IsometryOf_c1_L1 p (l,(k : Int)) = if gI l k = p - 1 then some (.inl (l.set k 0,(k : Int) - 1)) else some (.inr (l,(k : Int))) := by
   unfold i_Space_vectors_of_i_IsometryOf_c1_L1
   dsimp only
   rw [if_pos (by omega),idxI hkl,some_bind,some_bind,w_in (x := p - 1) (by omega) (by omega),w_in (by omega) (by omega),Int.toNat_natCast,some_bind]
   by_cases h : gI l k = p - 1
   ·rw [if_pos (by simp [ieq,h]),if_pos h]
   ·rw [if_neg (by simp [ieq,h]),if_neg h]
  rw [st]
  unfold incL
  by_cases h : gI l k = p - 1
  ·simp only [h,if_true]
   exact i_next_loop k N _ (by omega) hn (by omega) (hl.setk ⟨by omega,by omega⟩)
  ·simp only [h,if_false]
   exact ⟨_,_,rfl,.inr ⟨k,rfl,by omega,hl,rfl⟩⟩
end
end Go.Vam

/- Plain laws: both searches find the first vector that fits. -/
namespace Go.Vam
open Go Go.RowKit
set_option linter.unusedSimpArgs false
set_option linter.unusedVariables false
set_option linter.unusedSectionVars false

def fitB (p : Int) (n : Nat) (u : List Int) (s : Int) (C : List (List Int)) (x : List Int) : Bool :=
 decide (pairp p n u x x = s) && (List.range C.length).all fun i => decide (pairp p n u x (gR C i) = 0)
def Fst (p : Int) (n : Nat) (u : List Int) (s : Int) (C : List (List Int)) (r : List Int) : Prop :=
 Vec p n r ∧ fitB p n u s C r = true ∧ ∀ x,Vec p n x → vlN p x n < vlN p r n → fitB p n u s C x = false
theorem RowsV.gR {p : Int} {n : Nat} {C : List (List Int)} (h : RowsV p n C) {k : Nat} (hk : k < C.length) : Vec p n (gR C k) := h _ (by rw [← gR_get hk]; exact List.getElem_mem _)
section
variable {p : Int} {n : Nat} {u : List Int} (hP : isP p = true) (hn : n ≤ 6) (hul : u.length = n) (hu : Vec p n u) {C : List (List Int)} (hC : RowsV p n C) (hCl : C.length ≤ 100)
include hP hn hu hC hCl hul
theorem i_contains_eq {x : List Int} (hx : Vec p n x) : g_slices_ContainsFunc_LLI_LI_of_i_IsometryOf_c1_c1 C p u x = some (!((List.range C.length).all fun i => decide (pairp p n u x (gR C i) = 0))) := by
 unfold g_slices_ContainsFunc_LLI_LI_of_i_IsometryOf_c1_c1 g_slices_IndexFunc_LLI_LI_of_i_IsometryOf_c1_c1
 have hc : ∀ k,k < C.length → i_IsometryOf_c1_c1 (gR C k) p u x = some (!decide (pairp p n u x (gR C k) = 0)) := fun k hk => by
  unfold i_IsometryOf_c1_c1
  rw [i_Space_pair_eq hP (by omega) hu hx (hC.gR hk),some_bind]
  congr 2
 obtain ⟨b,h1,h2⟩ := any_loop (g_slices_IndexFunc_LLI_LI_of_i_IsometryOf_c1_c1_L0 C p u x) C.length (fun k => !decide (pairp p n u x (gR C k) = 0)) (fun k => (k : Int)) (by rw [BIG_val]; omega)
  (fun k hk hf => by
   unfold g_slices_IndexFunc_LLI_LI_of_i_IsometryOf_c1_c1_L0
   rw [if_pos (by omega),idxR hk,some_bind,hc k hk,some_bind,hf,if_neg (by simp),w_in (by omega) (by omega)]; rfl) (fun k hk hf => by
   unfold g_slices_IndexFunc_LLI_LI_of_i_IsometryOf_c1_c1_L0
   rw [if_pos (by omega),idxR hk,some_bind,hc k hk,some_bind,hf,if_pos rfl]) (by
   unfold g_slices_IndexFunc_LLI_LI_of_i_IsometryOf_c1_c1_L0
   rw [if_neg (by omega)])
 have e : (!((List.range C.length).all fun i => decide (pairp p n u x (gR C i) = 0))) = (List.range C.length).any fun k => !decide (pairp p n u x (gR C k) = 0) := by
  rw [List.not_all_eq_any_not]
 rw [e,h1,some_bind]
 rcases h2 with ⟨rfl,h3⟩ | ⟨k,hk,rfl,hf,h3,_⟩
 ·rw [h3]; rfl
 ·rw [h3]; simp [ile]
theorem i_c1_eq {x : List Int} (hx : Vec p n x) (s : Int) : i_IsometryOf_c1 x p u s C = some (fitB p n u s C x,s,if fitB p n u s C x then C ++ [x] else C) := by
 unfold i_IsometryOf_c1 i_Space_norm
 rw [i_Space_pair_eq hP (by omega) hu hx hx,some_bind,some_bind]
 unfold fitB
 by_cases h : pairp p n u x x = s
 ·rw [if_pos h,i_contains_eq hP hn hul hu hC hCl hx,some_bind,some_bind]
  simp only [h,decide_true,Bool.true_and,Bool.not_not]
  cases hq : (List.range C.length).all fun i => decide (pairp p n u x (gR C i) = 0) with
  | true =>
   rw [if_pos rfl,if_pos rfl]
   unfold g_slices_Clone_LI_I
   rw [chk_bind (by rw [hx.1]; omega),some_bind,chk_bind (by simp; omega),some_bind]
  | false => rw [if_neg (by simp),if_neg (by simp),some_bind]
 ·rw [if_neg h,some_bind,if_neg (by simp),some_bind]
  simp [h]
theorem pw_bd : p ^ n ≤ 4826809 := by
 have hp := isP_le hP
 have h1 : p ^ n ≤ 13 ^ n := by
  clear hn hul hu hC
  induction n with
  | zero => simp
  | succ n ih =>
   rw [Int.pow_succ,Int.pow_succ]
   exact Int.mul_le_mul ih (by omega) (by omega) (Int.pow_nonneg (by decide))
 have key : ∀ k : Nat,k < 7 → (13 : Int) ^ k ≤ 4826809 := by decide
 have := key n (by omega)
 omega
theorem i_search {s : Int} {x0 : List Int} (h0 : Vec p n x0) (hf : fitB p n u s C x0 = true) :
  ∃ r,i_Space_vectors_of_i_IsometryOf_c1 p u p u s C = some (true,s,C ++ [r]) ∧ Fst p n u s C r := by
 have hp := isP_le hP
 have hpw := pw_bd hP hn hul hu hC hCl
 unfold i_Space_vectors_of_i_IsometryOf_c1 i_Space_dim
 rw [some_bind,chk_bind ⟨by omega,by omega⟩,hul,Int.toNat_natCast]
 obtain ⟨b,h1,r,h2,h3⟩ := loop_inv (step := i_Space_vectors_of_i_IsometryOf_c1_L0 p p u)
  (fun st => st.2.1 = s ∧ st.2.2 = C ∧ Vec p n st.1 ∧ ∀ x,Vec p n x → vlN p x n < vlN p st.1 n → fitB p n u s C x = false)
  (fun st => (p ^ n - vlN p st.1 n).toNat) (fun b => ∃ r,b = .inr (true,s,C ++ [r]) ∧ Fst p n u s C r) (s := (List.replicate n 0,s,C))
  ⟨rfl,rfl,zeroV hp.1 hp.2,fun x hx h => by
   have a := (vlN_bd hp.1 hp.2 hx n (Nat.le_refl _)).1
   rw [vl_zero hp.1 hp.2 n (Nat.le_refl _)] at h
   omega⟩ (by
   rw [BIG_val,vl_zero hp.1 hp.2 n (Nat.le_refl _)]
   omega) (by
   rintro ⟨l,s',C'⟩ ⟨e1,e2,hl,hm⟩
   simp only at e1 e2 hl hm
   subst e1 e2
   unfold i_Space_vectors_of_i_IsometryOf_c1_L0
   simp only [i_c1_eq hP hn hul hu hC hCl hl,some_bind]
   cases hfl : fitB p n u s' C' l with
   | true => exact .inr ⟨_,rfl,l,rfl,hl,hfl,hm⟩
   | false =>
    simp only [Bool.false_eq_true,if_false]
    obtain ⟨m,j,g1,g2⟩ := i_next_loop hp.1 hp.2 n BIG l (Nat.le_refl _) (by omega) (by rw [BIG_val]; omega) hl
    have hln : (l.length : Int) = (n : Int) := by rw [hl.1]
    rw [hln,w_in (by omega) (by omega),g1,some_bind]
    have hm' : ∀ x,Vec p n x → vlN p x n ≤ vlN p l n → fitB p n u s' C' x = false := fun x hx h => by
     rcases Int.lt_or_eq_of_le h with h | h
     ·exact hm x hx h
     ·rw [vl_eq hp.1 hp.2 hx hl h]; exact hfl
    rcases g2 with ⟨g2,g3⟩ | ⟨q,rfl,g3,g4,g5⟩
    ·exfalso
     have a := incL_none hp.1 hp.2 n l (Nat.le_refl _) hl g2
     have b := (vlN_bd hp.1 hp.2 h0 n (Nat.le_refl _)).2
     rw [hm' x0 h0 (by omega)] at hf
     cases hf
    ·have hmq := g4.2 q g3
     dsimp only
     rw [if_neg (by omega),idxI (k := q) (by rw [g4.1]; exact g3),some_bind,w_in (by omega) (by omega),Int.toNat_natCast]
     obtain ⟨b1,b2,_⟩ := incL_some hp.1 hp.2 n l _ (Nat.le_refl _) hl g5
     have c := vlN_bd hp.1 hp.2 b1 n (Nat.le_refl _)
     refine .inl ⟨_,rfl,⟨rfl,rfl,b1,fun x hx h => hm' x hx (by simp only at h; omega)⟩,?_⟩
     simp only
     omega)
 rw [h1,some_bind,h2]
 exact ⟨r,rfl,h3⟩

/-! ### The reference -/
variable {w : List Int} {k : Nat} (hk : k < w.length) (hwn : w.length = n) (hw0 : gI w k ≠ 0)
include hk
theorem s_fit_loop {x : List Int} (hx : Vec p n x) : loop (s_IsometryOf_L2 p u (C,(k : Int)) (true,x)) BIG (ieq (pairp p n u x x) (gI w k),0) = some (fitB p n u (gI w k) C x) := by
 have hp := isP_le hP
 obtain ⟨b,h1,h2⟩ := loop_inv (step := s_IsometryOf_L2 p u (C,(k : Int)) (true,x))
  (fun st => ∃ j : Nat,st.2 = (j : Int) ∧ j ≤ C.length ∧ st.1 = (decide (pairp p n u x x = gI w k) && (List.range j).all fun i => decide (pairp p n u x (gR C i) = 0)))
  (fun st => C.length - st.2.toNat) (fun b => b = fitB p n u (gI w k) C x) (s := (ieq (pairp p n u x x) (gI w k),0))
  ⟨0,rfl,by omega,by simp [ieq]⟩ (by rw [BIG_val]; simp only; omega) (by
   rintro ⟨ok,j'⟩ ⟨j,e1,hj,e2⟩
   simp only at e1 e2
   subst e1
   unfold s_IsometryOf_L2
   dsimp only
   by_cases hjl : j < C.length
   ·rw [if_pos (by omega),some_bind]
    cases ok with
    | true =>
     rw [if_pos rfl,idxR hjl,some_bind,s_l03Pair_eq hP (by omega) hu hx (hC.gR hjl),some_bind,w_in (by omega) (by omega)]
     refine .inl ⟨_,rfl,⟨j + 1,rfl,by omega,?_⟩,by simp only [Int.toNat_natCast]; omega⟩
     rw [List.range_succ,List.all_append,← Bool.and_assoc,← e2]
     simp [ieq]
    | false =>
     rw [if_neg (by simp)]
     refine .inr ⟨_,rfl,?_⟩
     unfold fitB
     symm
     rw [Bool.eq_false_iff]
     intro h
     rw [Bool.and_eq_true,List.all_eq_true] at h
     have e3 := e2.symm
     rw [Bool.eq_false_iff] at e3
     apply e3
     rw [Bool.and_eq_true,List.all_eq_true]
     exact ⟨h.1,fun i hi => h.2 i (by rw [List.mem_range] at hi ⊢; omega)⟩
   ·rw [if_neg (by omega),some_bind,if_neg (by simp)]
    refine .inr ⟨_,rfl,?_⟩
    have : j = C.length := by omega
    subst this
    exact e2)
 rw [h1,h2]
include hwn hw0
theorem s_search {x0 : List Int} (h0 : Vec p n x0) (hf : fitB p n u (gI w k) C x0 = true) :
  ∃ r,loop (s_IsometryOf_L1 p w p u (C,(k : Int))) BIG (List.replicate n 0) = some r ∧ Fst p n u (gI w k) C r := by
 have hp := isP_le hP
 have hpw := pw_bd hP hn hul hu hC hCl
 have hz : fitB p n u (gI w k) C (List.replicate n 0) = false := by
  unfold fitB
  have : pairp p n u (List.replicate n 0) (List.replicate n 0) = 0 := by
   rw [pairp_S]
   have : pairS n u (List.replicate n 0) (List.replicate n 0) = 0 := by
    unfold pairS
    rw [sumN_congr (g := fun _ => 0) fun q hq => by rw [show gI (List.replicate n (0 : Int)) q = 0 by rw [← gI_get (by simpa using hq)]; simp]; simp]
    exact sumN_zero n
   rw [this]; rfl
  rw [this,decide_eq_false (fun e => hw0 e.symm)]
  rfl
 exact loop_inv (step := s_IsometryOf_L1 p w p u (C,(k : Int)))
  (fun l => Vec p n l ∧ ∀ x,Vec p n x → vlN p x n ≤ vlN p l n → fitB p n u (gI w k) C x = false)
  (fun l => (p ^ n - vlN p l n).toNat) (fun r => Fst p n u (gI w k) C r) (s := List.replicate n 0)
  ⟨zeroV hp.1 hp.2,fun x hx h => by
   have a := (vlN_bd hp.1 hp.2 hx n (Nat.le_refl _)).1
   have b := vl_zero hp.1 hp.2 (n := n) n (Nat.le_refl _)
   rw [vl_eq hp.1 hp.2 hx (zeroV hp.1 hp.2) (by omega)]
   exact hz⟩ (by
   rw [BIG_val,vl_zero hp.1 hp.2 n (Nat.le_refl _)]
   omega) (by
   rintro l ⟨hl,hm⟩
   unfold s_IsometryOf_L1
   rcases s_next_eq hp.1 hp.2 (by omega) hl with ⟨l',g1,g2⟩ | ⟨g1,y,g2⟩
   ·obtain ⟨b1,b2,_⟩ := incL_some hp.1 hp.2 n l _ (Nat.le_refl _) hl g1
    have c := vlN_bd hp.1 hp.2 b1 n (Nat.le_refl _)
    have hm' : ∀ x,Vec p n x → vlN p x n < vlN p l' n → fitB p n u (gI w k) C x = false := fun x hx h => hm x hx (by omega)
    simp only [g2,some_bind,if_true,s_l03Pair_eq hP (show n ≤ 1048576 by omega) hu b1 b1,idxI hk,s_fit_loop hP hn hul hu hC hCl hk b1]
    cases hfl : fitB p n u (gI w k) C l' with
    | true => exact .inr ⟨_,rfl,b1,hfl,hm'⟩
    | false =>
     refine .inl ⟨_,rfl,⟨b1,fun x hx h => ?_⟩,by omega⟩
     rcases Int.lt_or_eq_of_le h with h | h
     ·exact hm' x hx h
     ·rw [vl_eq hp.1 hp.2 hx b1 h]; exact hfl
   ·exfalso
    have a := incL_none hp.1 hp.2 n l (Nat.le_refl _) hl g1
    have b := (vlN_bd hp.1 hp.2 h0 n (Nat.le_refl _)).2
    rw [hm x0 h0 (by omega)] at hf
    cases hf)
end
theorem Fst.uniq {p : Int} {n : Nat} {u : List Int} {s : Int} {C : List (List Int)} {r r' : List Int} (hP : isP p = true) (h : Fst p n u s C r) (h' : Fst p n u s C r') : r = r' := by
 have hp := isP_le hP
 refine vl_eq hp.1 hp.2 h.1 h'.1 ?_
 rcases Int.lt_trichotomy (vlN p r n) (vlN p r' n) with h1 | h1 | h1
 ·have := h'.2.2 r h.1 h1; rw [h.2.1] at this; cases this
 ·exact h1
 ·have := h.2.2 r' h'.1 h1; rw [h'.2.1] at this; cases this
end Go.Vam

/- Plain laws: orthogonal families, turned and put together anew. -/
namespace Go.Vam
open Go Go.RowKit
set_option linter.unusedSimpArgs false
set_option linter.unusedVariables false
set_option linter.unusedSectionVars false

def comb (p : Int) (n : Nat) (a b : List Int) (x y : Int) : List Int := vecN n fun i => (x * gI a i + y * gI b i) % p
theorem comb_vec {p : Int} (hp : 0 < p) (n : Nat) (a b : List Int) (x y : Int) : Vec p n (comb p n a b x y) := Vec.mk' fun i _ => mod_num hp
theorem pair_zero_iff {p : Int} {n : Nat} {u x y : List Int} : pairp p n u x y = 0 ↔ p ∣ pairS n u x y := by
 rw [pairp_S]
 exact ⟨Int.dvd_of_emod_eq_zero,Int.emod_eq_zero_of_dvd⟩
theorem pair_eq_iff {p : Int} {n : Nat} {u x y : List Int} {s : Int} (hs : 0 ≤ s ∧ s < p) : pairp p n u x y = s ↔ p ∣ pairS n u x y - s := by
 rw [pairp_S,← mod_dvd,Int.emod_eq_of_lt hs.1 hs.2]
theorem pairS_cong {p : Int} {n : Nat} {u x' a b y : List Int} {c d : Int} (h : ∀ k,k < n → p ∣ gI x' k - (c * gI a k + d * gI b k)) : p ∣ pairS n u x' y - (c * pairS n u a y + d * pairS n u b y) := by
 unfold pairS
 rw [← sumN_mulL,← sumN_mulL,← sumN_add,← sumN_sub]
 refine sumN_dvd fun k hk => ?_
 obtain ⟨m,hm⟩ := h k hk
 exact ⟨m * (gI y k * gI u k),by grind⟩
theorem comb_pair {p : Int} {n : Nat} (u a b y : List Int) (c d : Int) : p ∣ pairS n u (comb p n a b c d) y - (c * pairS n u a y + d * pairS n u b y) := by
 refine pairS_cong fun k hk => ?_
 unfold comb
 rw [gI_vecN _ hk,← mod_dvd,emm]
def Fam (p : Int) (n : Nat) (u : List Int) (q : Nat → Int) (b : Nat → List Int) : Prop :=
 (∀ i,i < n → Vec p n (b i)) ∧ (∀ i j,i < n → j < n → p ∣ pairS n u (b i) (b j) - if i = j then q i else 0) ∧ ∀ i,i < n → 0 < q i ∧ q i < p
section
variable {p : Int} {n : Nat} {u : List Int} (hP : isP p = true)
include hP
theorem refl_lin {z x y : List Int} : p ∣ pairS n u (reflv p n u z x) y - (pairS n u x y + (-2 * pairS n u z x * invp p (pairp p n u z z)) * pairS n u z y) := by
 have := pairS_cong (p := p) (n := n) (u := u) (x' := reflv p n u z x) (a := x) (b := z) (y := y) (c := 1) (d := -2 * pairS n u z x * invp p (pairp p n u z z)) fun k hk => by
  rw [reflv_at hk,← mod_dvd,emm,Int.one_mul]
 rwa [Int.one_mul] at this
theorem refl_fix {z x : List Int} (hx : Vec p n x) (h : p ∣ pairS n u z x) : reflv p n u z x = x := by
 have hp := isP_le hP
 rw [extI hx.1 fun k _ => rfl]
 refine extI (reflv_vec (by omega) ..).1 fun k hk => ?_
 rw [reflv_at hk]
 have : gI (vecN n fun k => gI x k) k = gI x k := gI_vecN _ hk
 rw [this]
 have hd : p ∣ (gI x k + (-2 * pairS n u z (vecN n fun k => gI x k) * invp p (pairp p n u z z)) * gI z k) - gI x k := by
  rw [← extI hx.1 fun k _ => rfl]
  obtain ⟨m,hm⟩ := h
  exact ⟨-2 * m * invp p (pairp p n u z z) * gI z k,by grind⟩
 have := mod_dvd.2 hd
 rw [this]
 exact Int.emod_eq_of_lt (hx.2 k hk).1 (hx.2 k hk).2
theorem refl_to {x v : List Int} {c : Int} (hc : c = 1 ∨ c = -1) {s : Int} (h1 : p ∣ pairS n u x x - s) (h2 : p ∣ pairS n u v v - s)
  (hz : pairp p n u (plusv p n x v c) (plusv p n x v c) ≠ 0) (y : List Int) : p ∣ pairS n u (reflv p n u (plusv p n x v c) x) y + c * pairS n u v y := by
 have hp := isP_le hP
 have hl : ∀ y,p ∣ pairS n u (plusv p n x v c) y - (pairS n u x y + c * pairS n u v y) := fun y => by
  have := pairS_cong (p := p) (n := n) (u := u) (x' := plusv p n x v c) (a := x) (b := v) (y := y) (c := 1) (d := c) fun k hk => by
   rw [plusv_at hk,← mod_dvd,emm,Int.one_mul]
  rwa [Int.one_mul] at this
 have l1 := refl_lin hP (u := u) (n := n) (z := plusv p n x v c) (x := x) (y := y)
 have l2 := hl y
 have l3 := hl x
 have l4 := hl (plusv p n x v c)
 have l5 := hl v
 have ht := inv_dvd hP (a := pairS n u (plusv p n x v c) (plusv p n x v c)) hz
 rw [← pairp_S] at ht
 rw [pairS_comm n u x (plusv p n x v c),pairS_comm n u v (plusv p n x v c)] at l4
 rw [pairS_comm n u x v] at l5
 generalize pairS n u (plusv p n x v c) (plusv p n x v c) = Q at *
 generalize invp p (pairp p n u (plusv p n x v c) (plusv p n x v c)) = t at *
 generalize pairS n u (plusv p n x v c) x = A at *
 generalize pairS n u (plusv p n x v c) v = B at *
 generalize pairS n u (plusv p n x v c) y = Y at *
 generalize pairS n u (reflv p n u (plusv p n x v c) x) y = R at *
 generalize pairS n u x x = X at *
 generalize pairS n u v v = V at *
 generalize pairS n u v x = W at *
 generalize pairS n u x y = S at *
 generalize pairS n u v y = U at *
 obtain ⟨k1,e1⟩ := l1
 obtain ⟨k2,e2⟩ := l2
 obtain ⟨k3,e3⟩ := l3
 obtain ⟨k4,e4⟩ := l4
 obtain ⟨k5,e5⟩ := l5
 obtain ⟨k6,e6⟩ := ht
 obtain ⟨k7,e7⟩ := h1
 obtain ⟨k8,e8⟩ := h2
 have hcc : c * c = 1 := by rcases hc with rfl | rfl <;> rfl
 have hA : ∃ m,2 * A = Q + p * m := by
  refine ⟨2 * k3 - (k4 + k3 + c * k5) + (k7 - k8),?_⟩
  rcases hc with rfl | rfl <;> grind
 obtain ⟨m,hm⟩ := hA
 refine ⟨k1 - k2 - k6 * Y - m * t * Y,?_⟩
 have h9 : R = p * k1 + S - (2 * A) * t * Y := by grind
 have hq : t * Q = 1 + p * k6 := by omega
 have h8 : (Q + p * m) * t * Y = (t * Q) * Y + p * (m * t * Y) := by grind
 have h7 : S = Y - c * U - p * k2 := by omega
 rw [h9,hm,h8,hq,h7]
 grind
theorem Fam.turn {q : Nat → Int} {b : Nat → List Int} (hF : Fam p n u q b) {k : Nat} (hk : k < n) {v : List Int} (hv : Vec p n v) (h1 : pairp p n u v v = q k) (h2 : ∀ i,i < k → pairp p n u v (b i) = 0) :
  ∃ b',Fam p n u q b' ∧ b' k = v ∧ ∀ i,i < k → b' i = b i := by
 have hp := isP_le hP
 obtain ⟨f1,f2,f3⟩ := hF
 have hq := f3 k hk
 have hbk : pairp p n u (b k) (b k) = q k := by
  have := f2 k k hk hk
  rw [if_pos rfl] at this
  exact (pair_eq_iff (by omega)).2 this
 obtain ⟨c,hc,hz⟩ : ∃ c : Int,(c = 1 ∨ c = -1) ∧ pairp p n u (plusv p n (b k) v c) (plusv p n (b k) v c) ≠ 0 := by
  by_cases h3 : pairp p n u (plusv p n (b k) v (-1)) (plusv p n (b k) v (-1)) = 0
  ·exact ⟨1,.inl rfl,sum_norm hP (hbk.trans h1.symm) (by rw [h1]; omega) h3⟩
  ·exact ⟨-1,.inr rfl,h3⟩
 have hto := refl_to hP (u := u) (n := n) (x := b k) (v := v) hc ((pair_eq_iff (by omega)).1 hbk) ((pair_eq_iff (by omega)).1 h1) hz
 generalize hzz : plusv p n (b k) v c = z at *
 have hpr := reflv_pair (n := n) (w := u) (u := z) hP hz
 have hcc : c * c = 1 := by rcases hc with rfl | rfl <;> rfl
 have hvp : ∀ y,p ∣ pairS n u v y + c * pairS n u (reflv p n u z (b k)) y := fun y => by
  obtain ⟨m,hm⟩ := hto y
  refine ⟨c * m,?_⟩
  have : c * (pairS n u (reflv p n u z (b k)) y + c * pairS n u v y) = c * (p * m) := by rw [hm]
  have h3 : c * (c * pairS n u v y) = pairS n u v y := by rw [← Int.mul_assoc,hcc,Int.one_mul]
  rw [Int.mul_add,h3] at this
  rw [Int.add_comm,this,← Int.mul_assoc,Int.mul_comm c p,Int.mul_assoc]
 have hoff : ∀ j,j < n → j ≠ k → p ∣ pairS n u v (reflv p n u z (b j)) := fun j hj hjk => by
  have a := hvp (reflv p n u z (b j))
  have e := hpr (b k) (b j)
  have d := f2 k j hk hj
  rw [if_neg (fun e => hjk e.symm),Int.sub_zero,← pair_zero_iff] at d
  rw [d,pair_zero_iff] at e
  exact (Int.dvd_add_left (Int.dvd_mul_of_dvd_right e)).1 a
 refine ⟨fun j => if j = k then v else reflv p n u z (b j),⟨fun i hi => ?_,fun i j hi hj => ?_,f3⟩,if_pos rfl,fun i hi => ?_⟩
 ·dsimp only
  split
  ·exact hv
  ·exact reflv_vec (by omega) ..
 ·dsimp only
  by_cases e1 : i = k
  ·subst e1
   rw [if_pos rfl]
   by_cases e2 : j = i
   ·subst e2
    rw [if_pos rfl,if_pos rfl]
    exact (pair_eq_iff (by omega)).1 h1
   ·rw [if_neg e2,if_neg (fun e => e2 e.symm),Int.sub_zero]
    exact hoff j hj e2
  ·rw [if_neg e1]
   by_cases e2 : j = k
   ·subst e2
    rw [if_pos rfl,if_neg e1,Int.sub_zero,pairS_comm]
    exact hoff i hi e1
   ·rw [if_neg e2]
    have a := f2 i j hi hj
    have hb : (0 : Int) ≤ (if i = j then q i else 0) ∧ (if i = j then q i else 0) < p := by
     have := f3 i hi
     split <;> omega
    rw [← pair_eq_iff hb] at a ⊢
    rw [hpr,a]
 ·dsimp only
  rw [if_neg (by omega)]
  have hib := f2 i k (by omega) hk
  rw [if_neg (by omega),Int.sub_zero] at hib
  have hiv := pair_zero_iff.1 (h2 i hi)
  refine refl_fix hP (f1 i (by omega)) ?_
  have hl := pairS_cong (p := p) (n := n) (u := u) (x' := z) (a := b k) (b := v) (y := b i) (c := 1) (d := c) fun k' hk' => by
   rw [← hzz,plusv_at hk',← mod_dvd,emm,Int.one_mul]
  rw [pairS_comm n u (b i) (b k)] at hib
  obtain ⟨m1,g1⟩ := hib
  obtain ⟨m2,g2⟩ := hiv
  obtain ⟨m3,g3⟩ := hl
  exact ⟨m3 + m1 + c * m2,by grind⟩
end
end Go.Vam

/- Plain laws: a vector that fits is always there. -/
namespace Go.Vam
open Go Go.RowKit
set_option linter.unusedSimpArgs false
set_option linter.unusedVariables false
set_option linter.unusedSectionVars false

def twoSq (p : Int) : Bool := (List.range p.toNat).all fun a => decide (a = 0) || (List.range p.toNat).all fun b => decide (b = 0) || (List.range p.toNat).all fun s =>
 (List.range p.toNat).any fun x => (List.range p.toNat).any fun y => decide (((a : Int) * x * x + (b : Int) * y * y) % p = (s : Int))
theorem twoSq_all {p : Int} (hP : isP p = true) : twoSq p = true := by
 rcases isP_cases hP with rfl | rfl | rfl | rfl | rfl <;> kernel_rfl
theorem bin_some {p a b s : Int} (hP : isP p = true) (ha : 0 < a ∧ a < p) (hb : 0 < b ∧ b < p) (hs : 0 ≤ s ∧ s < p) : ∃ x y : Int,(a * x * x + b * y * y) % p = s := by
 have h := twoSq_all hP
 obtain ⟨a,rfl⟩ : ∃ k : Nat,a = (k : Int) := ⟨a.toNat,by omega⟩
 obtain ⟨b,rfl⟩ : ∃ k : Nat,b = (k : Int) := ⟨b.toNat,by omega⟩
 obtain ⟨s,rfl⟩ : ∃ k : Nat,s = (k : Int) := ⟨s.toNat,by omega⟩
 simp only [twoSq,List.all_eq_true,List.any_eq_true,List.mem_range,Bool.or_eq_true,decide_eq_true_eq] at h
 rcases h a (by omega) with h | h
 ·omega
 ·rcases h b (by omega) with h | h
  ·omega
  ·obtain ⟨x,_,y,_,e⟩ := h s (by omega)
   exact ⟨x,y,e⟩
def parB (p : Int) (f : Nat → Int) : Nat → Bool
 | 0 => false
 | k + 1 => xor (parB p f k) (!sqb p (f k))
theorem parB_congr {p : Int} {f g : Nat → Int} : ∀ {n : Nat},(∀ i,i < n → f i = g i) → parB p f n = parB p g n
 | 0,_ => rfl
 | n + 1,h => by simp only [parB]; rw [parB_congr (n := n) fun i hi => h i (by omega),h n (by omega)]
theorem parB_two {p : Int} {f g : Nat → Int} {k : Nat} (h2 : xor (!sqb p (f k)) (!sqb p (f (k + 1))) = xor (!sqb p (g k)) (!sqb p (g (k + 1)))) : ∀ {n : Nat},k + 1 < n → (∀ i,i < n → i ≠ k → i ≠ k + 1 → f i = g i) → parB p f n = parB p g n
 | 0,h,_ => by omega
 | n + 1,h,hi => by
  simp only [parB]
  by_cases e : n = k + 1
  ·subst e
   simp only [parB]
   rw [parB_congr (f := f) (g := g) (n := k) fun i h3 => hi i (by omega) (by omega) (by omega),Bool.xor_assoc,Bool.xor_assoc,h2]
  ·rw [parB_two h2 (n := n) (by omega) fun i h3 => hi i (by omega),hi n (by omega) (by omega) e]
theorem eN_par {p : Int} {w : List Int} : ∀ {n : Nat},(∀ i,i < n → gI w i ≠ 0) → eN p w n = parB p (gI w) n
 | 0,_ => rfl
 | n + 1,h => by
  simp only [eN,parB]
  rw [eN_par (n := n) fun i hi => h i (by omega)]
  have := h n (by omega)
  simp [this]
section
variable {p : Int} {n : Nat} {u : List Int} (hP : isP p = true)
include hP
theorem comb_two (a b : List Int) {x y x' y' A B C s : Int} (ha : p ∣ pairS n u a a - A) (hb : p ∣ pairS n u b b - B) (hc : p ∣ pairS n u a b - C) (hs : p ∣ x * x' * A + (x * y' + y * x') * C + y * y' * B - s) :
  p ∣ pairS n u (comb p n a b x y) (comb p n a b x' y') - s := by
 have h1 := comb_pair (p := p) (n := n) u a b (comb p n a b x' y') x y
 have h2 := comb_pair (p := p) (n := n) u a b a x' y'
 have h3 := comb_pair (p := p) (n := n) u a b b x' y'
 rw [pairS_comm n u a (comb p n a b x' y'),pairS_comm n u b (comb p n a b x' y')] at h1
 rw [pairS_comm n u b a] at h2
 obtain ⟨k1,e1⟩ := h1
 obtain ⟨k2,e2⟩ := h2
 obtain ⟨k3,e3⟩ := h3
 obtain ⟨k4,e4⟩ := ha
 obtain ⟨k5,e5⟩ := hb
 obtain ⟨k6,e6⟩ := hc
 obtain ⟨k7,e7⟩ := hs
 refine ⟨k1 + x * k2 + y * k3 + x * x' * k4 + y * y' * k5 + (x * y' + y * x') * k6 + k7,?_⟩
 generalize pairS n u (comb p n a b x y) (comb p n a b x' y') = X1 at *
 generalize pairS n u (comb p n a b x' y') a = X2 at *
 generalize pairS n u (comb p n a b x' y') b = X3 at *
 generalize pairS n u a a = X4 at *
 generalize pairS n u b b = X5 at *
 generalize pairS n u a b = X6 at *
 have f4 : X4 = A + p * k4 := by omega
 have f5 : X5 = B + p * k5 := by omega
 have f6 : X6 = C + p * k6 := by omega
 have f2 : X2 = x' * X4 + y' * X6 + p * k2 := by omega
 have f3 : X3 = x' * X6 + y' * X5 + p * k3 := by omega
 have f1 : X1 = x * X2 + y * X3 + p * k1 := by omega
 have f7 : s = x * x' * A + (x * y' + y * x') * C + y * y' * B - p * k7 := by omega
 clear e1 e2 e3 e4 e5 e6 e7 hP
 rw [f1,f2,f3,f4,f5,f6,f7]
 clear f1 f2 f3 f4 f5 f6 f7
 grind
theorem comb_off {a b c : List Int} {x y : Int} (ha : p ∣ pairS n u a c) (hb : p ∣ pairS n u b c) : p ∣ pairS n u (comb p n a b x y) c := by
 obtain ⟨k1,e1⟩ := comb_pair (p := p) (n := n) u a b c x y
 obtain ⟨k2,e2⟩ := ha
 obtain ⟨k3,e3⟩ := hb
 exact ⟨k1 + x * k2 + y * k3,by grind⟩
theorem Fam.two {q : Nat → Int} {b : Nat → List Int} (hF : Fam p n u q b) {k : Nat} (hk : k + 1 < n) {s : Int} (hs : 0 < s ∧ s < p) :
  ∃ q' b',Fam p n u q' b' ∧ q' k = s ∧ (∀ i,i ≠ k → i ≠ k + 1 → b' i = b i ∧ q' i = q i) ∧ q' (k + 1) = q k * q (k + 1) % p * s % p := by
 have hp := isP_le hP
 obtain ⟨f1,f2,f3⟩ := hF
 have ha := f3 k (by omega)
 have hb := f3 (k + 1) hk
 obtain ⟨x,y,hxy⟩ := bin_some hP ha hb (s := s) (by omega)
 have hxy' : p ∣ q k * x * x + q (k + 1) * y * y - s := by
  rw [← mod_dvd,hxy,Int.emod_eq_of_lt (by omega) (by omega)]
 have g1 := f2 k k (by omega) (by omega)
 have g2 := f2 (k + 1) (k + 1) hk hk
 have g3 := f2 k (k + 1) (by omega) hk
 rw [if_pos rfl] at g1 g2
 rw [if_neg (by omega)] at g3
 have m1 := mod_num (p := p) (a := q k * q (k + 1)) (by omega)
 have z1 : q k * q (k + 1) % p ≠ 0 := fun h0 => by
  rw [mul_zero_mod hP ⟨by omega,by omega⟩ ⟨by omega,by omega⟩] at h0; omega
 have m2 := mod_num (p := p) (a := q k * q (k + 1) % p * s) (by omega)
 have z2 : q k * q (k + 1) % p * s % p ≠ 0 := fun h0 => by
  rw [mul_zero_mod hP m1 ⟨by omega,by omega⟩] at h0; omega
 have hq2 : p ∣ q k * q (k + 1) % p * s % p - q k * q (k + 1) * s := by
  rw [← mod_dvd,emm,Int.mul_emod,emm,← Int.mul_emod]
 let q' : Nat → Int := fun i => if i = k then s else if i = k + 1 then q k * q (k + 1) % p * s % p else q i
 let b' : Nat → List Int := fun i => if i = k then comb p n (b k) (b (k + 1)) x y else if i = k + 1 then comb p n (b k) (b (k + 1)) (-(q (k + 1) * y)) (q k * x) else b i
 have q'k : q' k = s := if_pos rfl
 have q'l : q' (k + 1) = q k * q (k + 1) % p * s % p := by simp [q']
 have b'k : b' k = comb p n (b k) (b (k + 1)) x y := if_pos rfl
 have b'l : b' (k + 1) = comb p n (b k) (b (k + 1)) (-(q (k + 1) * y)) (q k * x) := by simp [b']
 have q'o : ∀ i,i ≠ k → i ≠ k + 1 → q' i = q i := fun i h1 h2 => by simp [q',h1,h2]
 have b'o : ∀ i,i ≠ k → i ≠ k + 1 → b' i = b i := fun i h1 h2 => by simp [b',h1,h2]
 have c1 : p ∣ pairS n u (b' k) (b' k) - s := by
  rw [b'k]
  refine comb_two hP _ _ g1 g2 g3 ?_
  obtain ⟨m,hm⟩ := hxy'
  exact ⟨m,by grind⟩
 have c2 : p ∣ pairS n u (b' (k + 1)) (b' (k + 1)) - q k * q (k + 1) % p * s % p := by
  rw [b'l]
  refine comb_two hP _ _ g1 g2 g3 ?_
  obtain ⟨m,hm⟩ := hxy'
  obtain ⟨m',hm'⟩ := hq2
  exact ⟨q k * q (k + 1) * m - m',by grind⟩
 have c3 : p ∣ pairS n u (b' k) (b' (k + 1)) := by
  rw [b'k,b'l]
  have := comb_two hP (u := u) (n := n) (b k) (b (k + 1)) (x := x) (y := y) (x' := -(q (k + 1) * y)) (y' := q k * x) (s := 0) g1 g2 g3 ⟨0,by grind⟩
  rwa [Int.sub_zero] at this
 have off : ∀ i,i < n → i ≠ k → i ≠ k + 1 → p ∣ pairS n u (b' k) (b i) ∧ p ∣ pairS n u (b' (k + 1)) (b i) := fun i hi h1 h2 => by
  have d1 := f2 k i (by omega) hi
  have d2 := f2 (k + 1) i hk hi
  rw [if_neg (fun e => h1 e.symm),Int.sub_zero] at d1
  rw [if_neg (fun e => h2 e.symm),Int.sub_zero] at d2
  rw [b'k,b'l]
  exact ⟨comb_off hP d1 d2,comb_off hP d1 d2⟩
 refine ⟨q',b',⟨fun i hi => ?_,fun i j hi hj => ?_,fun i hi => ?_⟩,q'k,fun i h1 h2 => ⟨b'o i h1 h2,q'o i h1 h2⟩,q'l⟩
 ·by_cases h1 : i = k
  ·subst h1; rw [b'k]; exact comb_vec (by omega) ..
  ·by_cases h2 : i = k + 1
   ·subst h2; rw [b'l]; exact comb_vec (by omega) ..
   ·rw [b'o i h1 h2]; exact f1 i hi
 ·by_cases h1 : i = k
  ·subst h1
   by_cases h3 : j = i
   ·subst h3; rw [if_pos rfl,q'k]; exact c1
   ·rw [if_neg (fun e => h3 e.symm),Int.sub_zero]
    by_cases h4 : j = i + 1
    ·subst h4; exact c3
    ·rw [b'o j h3 h4]; exact (off j hj h3 h4).1
  ·by_cases h2 : i = k + 1
   ·subst h2
    by_cases h3 : j = k
    ·subst h3; rw [if_neg (by omega),Int.sub_zero,pairS_comm]; exact c3
    ·by_cases h4 : j = k + 1
     ·subst h4; rw [if_pos rfl,q'l]; exact c2
     ·rw [if_neg (fun e => h4 e.symm),Int.sub_zero,b'o j h3 h4]; exact (off j hj h3 h4).2
   ·by_cases h3 : j = k
    ·subst h3; rw [if_neg h1,Int.sub_zero,pairS_comm,b'o i h1 h2]; exact (off i hi h1 h2).1
    ·by_cases h4 : j = k + 1
     ·subst h4; rw [if_neg h2,Int.sub_zero,pairS_comm,b'o i h1 h2]; exact (off i hi h1 h2).2
     ·rw [b'o i h1 h2,b'o j h3 h4,q'o i h1 h2]; exact f2 i j hi hj
 ·by_cases h1 : i = k
  ·subst h1; rw [q'k]; exact hs
  ·by_cases h2 : i = k + 1
   ·subst h2; rw [q'l]; omega
   ·rw [q'o i h1 h2]; exact f3 i hi
theorem Fam.one {q : Nat → Int} {b : Nat → List Int} (hF : Fam p n u q b) {k : Nat} (hk : k < n) {s : Int} (hs : 0 < s ∧ s < p) (hq : sqb p (q k * s % p) = true) :
  ∃ q' b',Fam p n u q' b' ∧ q' k = s ∧ ∀ i,i ≠ k → b' i = b i ∧ q' i = q i := by
 have hp := isP_le hP
 obtain ⟨f1,f2,f3⟩ := hF
 have ha := f3 k hk
 unfold sqb at hq
 rw [List.any_eq_true] at hq
 obtain ⟨r,_,hr⟩ := hq
 have hr := of_decide_eq_true hr
 have hr' : p ∣ (r : Int) * r - q k * s := mod_dvd.1 hr
 obtain ⟨t,ht⟩ : ∃ t : Int,p ∣ t * q k - 1 := by
  have := inv_dvd hP (a := q k) (by rw [Int.emod_eq_of_lt (by omega) (by omega)]; omega)
  exact ⟨_,this⟩
 have g1 := f2 k k hk hk
 rw [if_pos rfl] at g1
 let q' : Nat → Int := fun i => if i = k then s else q i
 let b' : Nat → List Int := fun i => if i = k then comb p n (b k) (b k) ((r : Int) * t) 0 else b i
 have q'k : q' k = s := if_pos rfl
 have b'k : b' k = comb p n (b k) (b k) ((r : Int) * t) 0 := if_pos rfl
 have q'o : ∀ i,i ≠ k → q' i = q i := fun i h1 => if_neg h1
 have b'o : ∀ i,i ≠ k → b' i = b i := fun i h1 => if_neg h1
 have c1 : p ∣ pairS n u (b' k) (b' k) - s := by
  rw [b'k]
  refine comb_two hP _ _ g1 g1 g1 ?_
  obtain ⟨m,hm⟩ := hr'
  obtain ⟨m',hm'⟩ := ht
  have e1 : (r : Int) * r = q k * s + p * m := by omega
  have e2 : t * q k = 1 + p * m' := by omega
  have e3 : (r : Int) * t * ((r : Int) * t) * q k = (r * r) * t * (t * q k) := by grind
  have e4 : (q k * s + p * m) * t * (1 + p * m') = (t * q k) * s * (1 + p * m') + p * (m * t * (1 + p * m')) := by grind
  refine ⟨s * m' + (1 + p * m') * s * m' + m * t * (1 + p * m'),?_⟩
  rw [e3,e1,e2,e4,e2]
  grind
 have off : ∀ i,i < n → i ≠ k → p ∣ pairS n u (b' k) (b i) := fun i hi h1 => by
  have d1 := f2 k i (by omega) hi
  rw [if_neg (fun e => h1 e.symm),Int.sub_zero] at d1
  rw [b'k]
  exact comb_off hP d1 d1
 refine ⟨q',b',⟨fun i hi => ?_,fun i j hi hj => ?_,fun i hi => ?_⟩,q'k,fun i h1 => ⟨b'o i h1,q'o i h1⟩⟩
 ·by_cases h1 : i = k
  ·subst h1; rw [b'k]; exact comb_vec (by omega) ..
  ·rw [b'o i h1]; exact f1 i hi
 ·by_cases h1 : i = k
  ·subst h1
   by_cases h3 : j = i
   ·subst h3; rw [if_pos rfl,q'k]; exact c1
   ·rw [if_neg (fun e => h3 e.symm),Int.sub_zero,b'o j h3]; exact off j hj h3
  ·by_cases h3 : j = k
   ·subst h3; rw [if_neg h1,Int.sub_zero,pairS_comm,b'o i h1]; exact off i hi h1
   ·rw [b'o i h1,b'o j h3,q'o i h1]; exact f2 i j hi hj
 ·by_cases h1 : i = k
  ·subst h1; rw [q'k]; exact hs
  ·rw [q'o i h1]; exact f3 i hi
end
end Go.Vam
