import Derived.Test.YtijmfifejmgeaaaPlG1
import Derived.Test.YtijmfifejmgeaaaPlG0
import Derived.Test.YtijmfifejmgeaaaFmG0
/- Plain algebra: Moufang loops: inverses, powers from the right, orders that divide. -/
namespace Go.Vam
open Go Go.RowKit
set_option linter.unusedSimpArgs false
set_option linter.unusedVariables false
set_option linter.unusedSectionVars false

section
variable {α : Type} {op : α → α → α} {e : α} (h1 : ∀ x,op e x = x) (h2 : ∀ x,op x e = x) (hl : ∀ x y z,op x y = op x z → y = z) (hr : ∀ x y z,op y x = op z x → y = z)
 (hi : ∀ x,∃ x',op x x' = e) (hM : ∀ x y z,op (op x (op y z)) x = op (op x y) (op z x))
include h1 h2 hl hr hi hM
theorem mf_flex (x z : α) : op (op x z) x = op x (op z x) := by
 have := hM x e z
 rwa [h1,h2] at this
theorem mf_lip {x x' : α} (h : op x x' = e) (z : α) : op x (op x' z) = z := by
 refine hr x _ _ ?_
 rw [hM,h,h1]
theorem mf_inv {x x' : α} (h : op x x' = e) : op x' x = e := by
 refine hl x _ _ ?_
 rw [mf_lip h1 h2 hl hr hi hM h,h2]
theorem mf_rip {x x' : α} (h : op x x' = e) (y : α) : op (op y x') x = y := by
 refine hl x _ _ ?_
 rw [← mf_flex h1 h2 hl hr hi hM,hM,mf_inv h1 h2 hl hr hi hM h,h2]
theorem mf_lip' {x x' : α} (h : op x x' = e) (z : α) : op x' (op x z) = z := mf_lip h1 h2 hl hr hi hM (mf_inv h1 h2 hl hr hi hM h) z
theorem mf_rip' {x x' : α} (h : op x x' = e) (y : α) : op (op y x) x' = y := mf_rip h1 h2 hl hr hi hM (mf_inv h1 h2 hl hr hi hM h) y
theorem mf_anti {x x' z z' u' : α} (hx : op x x' = e) (hz : op z z' = e) (hu : op (op z x) u' = e) : u' = op x' z' := by
 have a1 : op z' (op z x) = x := mf_lip' h1 h2 hl hr hi hM hz x
 have a2 : op x u' = z' := by
  have := mf_rip' h1 h2 hl hr hi hM hu z'
  rwa [a1] at this
 rw [← a2,mf_lip' h1 h2 hl hr hi hM hx]
theorem mf_bol (x y w : α) : op y (op (op x w) x) = op (op (op y x) w) x := by
 have key : ∀ y' v,op (op y' v) x = op (op y' (Classical.choose (hi x))) (op (op x v) x) := by
  intro y' v
  have hx := Classical.choose_spec (hi x)
  generalize Classical.choose (hi x) = x' at hx ⊢
  obtain ⟨y1,hy⟩ : ∃ y1,op y1 y' = e := by
   obtain ⟨y1,hy⟩ := hi y'
   exact ⟨y1,mf_inv h1 h2 hl hr hi hM hy⟩
  have hz : op y1 (op y' v) = v := mf_lip h1 h2 hl hr hi hM hy v
  have h := hM x y1 (op y' v)
  rw [hz] at h
  obtain ⟨u',hu⟩ := hi (op x y1)
  have hu2 := mf_anti h1 h2 hl hr hi hM (x := y1) (x' := y') (z := x) (z' := x') hy hx hu
  rw [h,← hu2,mf_lip' h1 h2 hl hr hi hM hu]
 have hx := Classical.choose_spec (hi x)
 have := key (op y x) w
 rw [this,mf_rip' h1 h2 hl hr hi hM hx]
end
def rpw {α : Type} (op : α → α → α) (x : α) : Nat → α → α
 | 0,y => y
 | k + 1,y => op (rpw op x k y) x
theorem rpw_succ' {α : Type} (op : α → α → α) (x : α) : ∀ (k : Nat) (y : α),rpw op x (k + 1) y = rpw op x k (op y x)
 | 0,_ => rfl
 | k + 1,y => by
  show op (rpw op x (k + 1) y) x = op (rpw op x k (op y x)) x
  rw [rpw_succ' op x k y]
theorem rpw_add {α : Type} (op : α → α → α) (x : α) (j : Nat) : ∀ (k : Nat) (y : α),rpw op x (j + k) y = rpw op x k (rpw op x j y)
 | 0,_ => rfl
 | k + 1,y => by
  show op (rpw op x (j + k) y) x = _
  rw [rpw_add op x j k y]; rfl
section
variable {α : Type} {op : α → α → α} {e : α} (h1 : ∀ x,op e x = x) (h2 : ∀ x,op x e = x) (hl : ∀ x y z,op x y = op x z → y = z) (hr : ∀ x y z,op y x = op z x → y = z)
 (hi : ∀ x,∃ x',op x x' = e) (hM : ∀ x y z,op (op x (op y z)) x = op (op x y) (op z x))
include h1 h2 hl hr hi hM
theorem rpw_op (x : α) : ∀ (k : Nat),(∀ y,op y (rpw op x k e) = rpw op x k y) ∧ ∀ y,op y (rpw op x (k + 1) e) = rpw op x (k + 1) y
 | 0 => ⟨fun y => h2 y,fun y => by show op y (op e x) = op y x; rw [h1]⟩
 | k + 1 => by
  obtain ⟨a,b⟩ := rpw_op x k
  refine ⟨b,fun y => ?_⟩
  have e0 : rpw op x (k + 2) e = op (op x (rpw op x k e)) x := by
   rw [a x]
   show op (rpw op x (k + 1) e) x = _
   rw [rpw_succ' op x k e,h1]
  rw [e0,mf_bol h1 h2 hl hr hi hM,a (op y x)]
  show _ = op (rpw op x (k + 1) y) x
  rw [rpw_succ' op x k y]
end
section
variable {α : Type} [DecidableEq α]
theorem not_mem_of_sub {l : List α} {O : List α} {y : α} (h : y ∈ l.filter fun z => !decide (z ∈ O)) : y ∈ l ∧ y ∉ O := by
 have := List.mem_filter.1 h
 exact ⟨this.1,by simpa using this.2⟩
theorem filter_len (p : α → Bool) : ∀ l : List α,(l.filter p).length + (l.filter fun z => !p z).length = l.length
 | [] => rfl
 | x :: r => by
  have := filter_len p r
  simp only [List.filter_cons]
  cases h : p x <;> simp only [h,Bool.not_true,Bool.not_false,if_true,List.length_cons,Bool.false_eq_true,if_false] <;> omega
theorem nodup_perm_len {l m : List α} (hl : l.Nodup) (hm : m.Nodup) (h : ∀ x,x ∈ l ↔ x ∈ m) : l.length = m.length := by
 induction l generalizing m with
 | nil =>
  cases m with
  | nil => rfl
  | cons y r => exact absurd ((h y).2 (by simp)) (by simp)
 | cons x r ih =>
  obtain ⟨h1,h2⟩ := List.nodup_cons.1 hl
  have hx : x ∈ m := (h x).1 (by simp)
  have := ih h2 (m := m.erase x) (hm.erase x) (fun y => by
   rw [List.Nodup.mem_erase_iff hm]
   constructor
   ·intro hy
    exact ⟨fun e => h1 (e ▸ hy),(h y).1 (by simp [hy])⟩
   ·rintro ⟨a,b⟩
    rcases List.mem_cons.1 ((h y).2 b) with e | e
    ·exact absurd e a
    ·exact e)
  rw [List.length_erase_of_mem hx] at this
  have hp : 0 < m.length := List.length_pos_of_mem hx
  simp only [List.length_cons]
  omega
theorem nodup_sub_len {l m : List α} (hl : l.Nodup) (hm : m.Nodup) (h : ∀ x,x ∈ l → x ∈ m) : l.length ≤ m.length := by
 have e := nodup_perm_len hl (hm.filter fun z => decide (z ∈ l)) (fun x => by
  rw [List.mem_filter]
  exact ⟨fun hx => ⟨h x hx,by simpa using hx⟩,fun hx => by simpa using hx.2⟩)
 have := List.length_filter_le (fun z => decide (z ∈ l)) m
 omega
theorem orbits_dvd {f : α → α} {m : Nat} (hm : 0 < m) (it : Nat → α → α) (hit0 : ∀ y,it 0 y = y) (hitS : ∀ k y,it (k + 1) y = f (it k y)) (hback : ∀ y,it m y = y) (hadd : ∀ j k y,it (j + k) y = it k (it j y))
  (hfree : ∀ k y,0 < k → k < m → it k y ≠ y) (hinj : ∀ y z,f y = f z → y = z) : ∀ (n : Nat) (l : List α),l.length = n → l.Nodup → (∀ y ∈ l,f y ∈ l) → m ∣ l.length := by
 intro n
 induction n using Nat.strongRecOn with
 | _ n ih =>
  intro l hln hnd hcl
  cases l with
  | nil => exact Nat.dvd_zero m
  | cons y0 r =>
   have hinjk : ∀ k y z,it k y = it k z → y = z := by
    intro k
    induction k with
    | zero => intro y z h; rwa [hit0,hit0] at h
    | succ k ihk => intro y z h; rw [hitS,hitS] at h; exact ihk y z (hinj _ _ h)
   let O := (List.range m).map fun k => it k y0
   have hOnd : O.Nodup := by
    exact List.pairwise_map.2 (List.Pairwise.imp_of_mem (fun {a b} ha hb hab => by
     have ha' := List.mem_range.1 ha
     have hb' := List.mem_range.1 hb
     intro h
     have e : it b y0 = it a (it (b - a) y0) := by
      rw [← hadd,Nat.sub_add_cancel (by omega)]
     rw [e] at h
     have h3 := hinjk a _ _ h
     exact hfree (b - a) y0 (by omega) (by omega) h3.symm) (List.pairwise_lt_range (n := m)))
   have hOmem : ∀ z,z ∈ O ↔ ∃ k,k < m ∧ it k y0 = z := fun z => by
    simp only [O,List.mem_map,List.mem_range]
   have hstep : ∀ z,z ∈ O → f z ∈ O := fun z hz => by
    obtain ⟨k,hk,rfl⟩ := (hOmem z).1 hz
    by_cases h : k + 1 < m
    ·exact (hOmem _).2 ⟨k + 1,h,hitS k y0⟩
    ·have : k + 1 = m := by omega
     refine (hOmem _).2 ⟨0,hm,?_⟩
     rw [← hitS,this,hback,hit0]
   have hitO : ∀ k z,z ∈ O → it k z ∈ O := by
    intro k
    induction k with
    | zero => intro z hz; rwa [hit0]
    | succ k ihk => intro z hz; rw [hitS]; exact hstep _ (ihk z hz)
   have hback2 : ∀ z,f z ∈ O → z ∈ O := fun z hz => by
    have h3 := hitO (m - 1) _ hz
    have e : it (m - 1) (f z) = z := by
     have : f z = it 1 z := by rw [hitS,hit0]
     rw [this,← hadd,show 1 + (m - 1) = m by omega,hback]
    rwa [e] at h3
   have hOsub : ∀ z ∈ O,z ∈ y0 :: r := fun z hz => by
    obtain ⟨k,_,rfl⟩ := (hOmem z).1 hz
    have : ∀ k,it k y0 ∈ y0 :: r := by
     intro k
     induction k with
     | zero => rw [hit0]; simp
     | succ k ihk => rw [hitS]; exact hcl _ ihk
    exact this k
   have e1 := nodup_perm_len (l := O) (m := (y0 :: r).filter fun z => decide (z ∈ O)) hOnd (hnd.filter _) (fun z => by
    rw [List.mem_filter]
    exact ⟨fun hz => ⟨hOsub z hz,by simpa using hz⟩,fun hz => by simpa using hz.2⟩)
   have e2 := filter_len (fun z => decide (z ∈ O)) (y0 :: r)
   have e3 : O.length = m := by simp [O]
   have e4 := ih ((y0 :: r).filter fun z => !decide (z ∈ O)).length (by omega) _ rfl (hnd.filter _) (fun z hz => by
    obtain ⟨a1,a2⟩ := not_mem_of_sub hz
    refine List.mem_filter.2 ⟨hcl z a1,?_⟩
    simp only [Bool.not_eq_true',decide_eq_false_iff_not]
    exact fun h => a2 (hback2 z h))
   rw [← e2,← e1,e3]
   exact Nat.dvd_add (Nat.dvd_refl m) e4
end
end Go.Vam

/- Plain laws: what the programs count and find in a loop. -/
namespace Go.Vam
open Go Go.RowKit
set_option linter.unusedSimpArgs false
set_option linter.unusedVariables false
set_option linter.unusedSectionVars false

theorem sumN_full {f : Nat → Int} {c : Int} : ∀ {n : Nat},(∀ k,k < n → f k ≤ c) → sumN f n ≤ n * c ∧ (sumN f n = n * c ↔ ∀ k,k < n → f k = c)
 | 0,_ => ⟨by simp [sumN],fun _ k hk => by omega,fun _ => by simp [sumN]⟩
 | n + 1,h => by
  obtain ⟨h1,h2⟩ := sumN_full (n := n) fun k hk => h k (by omega)
  have h3 := h n (by omega)
  have e : ((n + 1 : Nat) : Int) * c = n * c + c := by rw [Int.natCast_add,Int.add_mul]; simp
  simp only [sumN,e]
  refine ⟨by omega,fun hs k hk => ?_,fun hs => ?_⟩
  ·have a1 : sumN f n = n * c := by omega
   rcases Nat.lt_or_ge k n with h4 | h4
   ·exact h2.1 a1 k h4
   ·have : k = n := by omega
    subst this; omega
  ·rw [h2.2 fun k hk => hs k (by omega),hs n (by omega)]
theorem sumN_nonneg {f : Nat → Int} : ∀ {n : Nat},(∀ k,k < n → 0 ≤ f k) → 0 ≤ sumN f n
 | 0,_ => by simp [sumN]
 | n + 1,h => by
  simp only [sumN]
  have := sumN_nonneg (n := n) fun k hk => h k (by omega)
  have := h n (by omega)
  omega
def bIx (b : Bool) : Int := if b then 1 else 0
theorem bIx_le (b : Bool) : 0 ≤ bIx b ∧ bIx b ≤ 1 := by cases b <;> simp [bIx]
theorem bIx_one {b : Bool} : bIx b = 1 ↔ b = true := by cases b <;> simp [bIx]

section
variable {a : List (List Int)} (hn : a.length ≤ 128) (hm : Mat (a.length : Int) a.length a.length a)
include hn hm
theorem s_mouf3 : loop (s_IsMoufangLoop_L0 a) BIG 0 = some (if allT a.length (moT a) then .inl () else .inr (false,0)) := by
 have val : ∀ x y z,x < a.length → y < a.length → z < a.length → ∀ (r : Int ⊕ (Unit ⊕ (Int ⊕ (Unit ⊕ (Int ⊕ (Unit ⊕ (Bool × Int))))))),s_IsMoufangLoop_L2 a (x : Int) (y : Int) (z : Int) =
   some (if moT a x y z then .inl ((z + 1 : Nat) : Int) else .inr (.inr (.inr (.inr (.inr (.inr (false,0))))))) := by
  intro x y z hx hy hz r
  have h1 := (tN_lt hn hm hy hz).1
  have h2 := (tN_lt hn hm hx h1).1
  have h3 := (tN_lt hn hm hx hy).1
  have h4 := (tN_lt hn hm hz hx).1
  unfold s_IsMoufangLoop_L2
  simp only [lt_cast hz,if_true]
  rw [idxR hx,some_bind,idxR hy,some_bind,idx_t hn hm hy hz,some_bind,idx_t hn hm hx h1,some_bind,idxR h2,some_bind,idx_t hn hm h2 hx,some_bind,idx_t hn hm hx hy,some_bind,idxR h3,some_bind,
   idxR hz,some_bind,idx_t hn hm hz hx,some_bind,idx_t hn hm h3 h4,some_bind]
  unfold moT
  by_cases h : tN a (tN a x (tN a y z)) x = tN a (tN a x y) (tN a z x)
  ·rw [if_neg (by rw [h]; simp)]
   simp only [h,decide_true,if_true]
   rw [w_in (by omega) (by omega)]; rfl
  ·rw [if_pos (by omega)]
   simp only [h,decide_false,Bool.false_eq_true,if_false]
 have l2 : ∀ x y,x < a.length → y < a.length → loop (s_IsMoufangLoop_L2 a (x : Int) (y : Int)) BIG 0 = some (if (List.range a.length).all (fun z => moT a x y z) then .inl () else .inr (.inr (.inr (.inr (.inr (false,0)))))) := by
  intro x y hx hy
  refine all_loop _ a.length _ _ (by rw [BIG_val]; omega) ?_ ?_ ?_
  ·intro z hz hf
   rw [val x y z hx hy hz (.inl 0),hf]; rfl
  ·intro z hz hf
   rw [val x y z hx hy hz (.inl 0),hf]; rfl
  ·unfold s_IsMoufangLoop_L2
   simp only [lt_cast_self,if_false]
 have l1 : ∀ x,x < a.length → loop (s_IsMoufangLoop_L1 a (x : Int)) BIG 0 = some (if (List.range a.length).all (fun y => (List.range a.length).all (fun z => moT a x y z)) then .inl () else .inr (.inr (.inr (false,0)))) := by
  intro x hx
  refine all_loop _ a.length _ _ (by rw [BIG_val]; omega) ?_ ?_ ?_
  ·intro y hy hf
   unfold s_IsMoufangLoop_L1
   simp only [lt_cast hy,if_true,some_bind,l2 x y hx hy,hf]
   rw [w_in (by omega) (by omega)]; rfl
  ·intro y hy hf
   unfold s_IsMoufangLoop_L1
   simp only [lt_cast hy,if_true,some_bind,l2 x y hx hy,hf]
   rfl
  ·unfold s_IsMoufangLoop_L1
   simp only [lt_cast_self,if_false]
 unfold allT
 refine all_loop _ a.length _ _ (by rw [BIG_val]; omega) ?_ ?_ ?_
 ·intro x hx hf
  unfold s_IsMoufangLoop_L0
  simp only [lt_cast hx,if_true,some_bind,l1 x hx,hf]
  rw [w_in (by omega) (by omega)]; rfl
 ·intro x hx hf
  unfold s_IsMoufangLoop_L0
  simp only [lt_cast hx,if_true,some_bind,l1 x hx,hf]
  rfl
 ·unfold s_IsMoufangLoop_L0
  simp only [lt_cast_self,if_false]
def cmN (a : List (List Int)) (x m : Nat) : Int := sumN (fun y => bIx (comB a x y)) m
theorem cmN_le (x m : Nat) : 0 ≤ cmN a x m ∧ cmN a x m ≤ m := by
 have h1 := sumN_nonneg (n := m) (f := fun y => bIx (comB a x y)) fun k _ => (bIx_le _).1
 have h2 := (sumN_full (n := m) (f := fun y => bIx (comB a x y)) (c := 1) fun k _ => (bIx_le _).2).1
 unfold cmN
 omega
theorem cmS_le (m : Nat) : 0 ≤ sumN (fun x => cmN a x a.length) m ∧ sumN (fun x => cmN a x a.length) m ≤ m * a.length := by
 have h1 := sumN_nonneg (n := m) (f := fun x => cmN a x a.length) fun k _ => (cmN_le hn hm k _).1
 have h2 := (sumN_full (n := m) (f := fun x => cmN a x a.length) (c := a.length) fun k _ => (cmN_le hn hm k _).2).1
 omega
theorem mul_128 {m k : Nat} (h : m ≤ 128) (h2 : k ≤ 128) : m * k ≤ 16384 := Nat.mul_le_mul h h2
theorem count_pairs : loop (i_CountCommuting_L0 a) BIG (0,0) = some (sumN (fun x => cmN a x a.length) a.length) := by
 have l1 : ∀ x c,x < a.length → 0 ≤ c → c ≤ 16384 → loop (i_CountCommuting_L1 a (c,(x : Int))) BIG (c,0) = some (c + cmN a x a.length) := by
  intro x c hx h0 h1
  refine loop_for (s := (c,(0 : Int))) (b := c + cmN a x a.length) (fun k => (c + cmN a x k,(k : Int))) a.length (by rw [BIG_val]; omega) (by simp [cmN,sumN]) (fun y hy => ?_) ?_
  ·have hb := cmN_le hn hm x y
   unfold i_CountCommuting_L1
   simp only [lt_cast hy,if_true]
   rw [idxR hx,some_bind,idx_t hn hm hx hy,some_bind,idxR hy,some_bind,idx_t hn hm hy hx,some_bind]
   have e : cmN a x (y + 1) = cmN a x y + bIx (comB a x y) := rfl
   rw [e]
   unfold comB
   by_cases h : tN a x y = tN a y x
   ·rw [if_pos (by rw [h])]
    simp only [h,decide_true,some_bind]
    rw [w_in (by omega) (by omega),w_in (by omega) (by omega)]
    simp only [bIx,if_true]
    rw [Int.add_assoc]; rfl
   ·rw [if_neg (by omega)]
    simp only [h,decide_false,some_bind]
    rw [w_in (by omega) (by omega)]
    simp [bIx]
  ·unfold i_CountCommuting_L1
   simp only [lt_cast_self,if_false]
 refine loop_for (s := ((0 : Int),(0 : Int))) (b := sumN (fun x => cmN a x a.length) a.length) (fun k => (sumN (fun x => cmN a x a.length) k,(k : Int))) a.length (by rw [BIG_val]; omega) rfl (fun x hx => ?_) ?_
 ·have hb := cmS_le hn hm x
  have h128 := mul_128 hn hm (show x ≤ 128 by omega) hn
  unfold i_CountCommuting_L0
  simp only [lt_cast hx,if_true]
  rw [l1 x _ hx hb.1 (by omega),some_bind,w_in (by omega) (by omega)]
  rfl
 ·unfold i_CountCommuting_L0
  simp only [lt_cast_self,if_false]
theorem pairs_full : sumN (fun x => cmN a x a.length) a.length = (a.length : Int) * a.length ↔ comA a = true := by
 rw [(sumN_full (n := a.length) (f := fun x => cmN a x a.length) (c := a.length) fun k _ => (cmN_le hn hm k _).2).2]
 unfold comA
 simp only [List.all_eq_true,List.mem_range]
 refine forall_congr' fun x => forall_congr' fun hx => ?_
 have := (sumN_full (n := a.length) (f := fun y => bIx (comB a x y)) (c := 1) fun k _ => (bIx_le _).2).2
 rw [Int.mul_one] at this
 unfold cmN
 rw [this]
 exact forall_congr' fun y => forall_congr' fun hy => bIx_one
def a1N (a : List (List Int)) (x y m : Nat) : Int := sumN (fun z => bIx (asB a x y z)) m
def a2N (a : List (List Int)) (x m : Nat) : Int := sumN (fun y => a1N a x y a.length) m
theorem a1N_le (x y m : Nat) : 0 ≤ a1N a x y m ∧ a1N a x y m ≤ m := by
 have h1 := sumN_nonneg (n := m) (f := fun z => bIx (asB a x y z)) fun k _ => (bIx_le _).1
 have h2 := (sumN_full (n := m) (f := fun z => bIx (asB a x y z)) (c := 1) fun k _ => (bIx_le _).2).1
 unfold a1N
 omega
theorem a2N_le (x m : Nat) : 0 ≤ a2N a x m ∧ a2N a x m ≤ m * a.length := by
 have h1 := sumN_nonneg (n := m) (f := fun y => a1N a x y a.length) fun k _ => (a1N_le hn hm x k _).1
 have h2 := (sumN_full (n := m) (f := fun y => a1N a x y a.length) (c := a.length) fun k _ => (a1N_le hn hm x k _).2).1
 unfold a2N
 omega
theorem a3N_le (m : Nat) : 0 ≤ sumN (fun x => a2N a x a.length) m ∧ sumN (fun x => a2N a x a.length) m ≤ m * (a.length * a.length) := by
 have h1 := sumN_nonneg (n := m) (f := fun x => a2N a x a.length) fun k _ => (a2N_le hn hm k _).1
 have h2 := (sumN_full (n := m) (f := fun x => a2N a x a.length) (c := (a.length : Int) * a.length) fun k _ => (a2N_le hn hm k _).2).1
 omega
theorem count_triples : i_loopTriples_of_i_CountAssociating_c1 a a 0 = some (true,sumN (fun x => a2N a x a.length) a.length) := by
 have hsq := mul_128 hn hm hn hn
 have one : ∀ x y z c,x < a.length → y < a.length → z < a.length → 0 ≤ c → c ≤ 5000000 → i_CountAssociating_c1 (x : Int) (y : Int) (z : Int) a c = some (true,c + bIx (asB a x y z)) := by
  intro x y z c hx hy hz h0 h1
  unfold i_CountAssociating_c1
  rw [(as_eq hn hm hx hy hz).2,some_bind]
  cases asB a x y z
  ·simp [bIx]
  ·simp only [if_true,some_bind,bIx]
   rw [w_in (by omega) (by omega)]
 have l2 : ∀ x y c d,x < a.length → y < a.length → 0 ≤ c → c ≤ 4000000 → loop (i_loopTriples_of_i_CountAssociating_c1_L2 a ((x : Int),d) ((y : Int),c) (a.length : Int)) BIG (0,c) = some (.inl (c + a1N a x y a.length)) := by
  intro x y c d hx hy h0 h1
  refine loop_for (s := ((0 : Int),c)) (fun k => ((k : Int),c + a1N a x y k)) a.length (by rw [BIG_val]; omega) (by simp [a1N,sumN]) (fun z hz => ?_) ?_
  ·have hb := a1N_le hn hm x y z
   unfold i_loopTriples_of_i_CountAssociating_c1_L2
   simp only [lt_cast hz,if_true]
   rw [one x y z _ hx hy hz (by omega) (by omega),some_bind]
   simp only [Bool.true_eq_false,if_false]
   rw [w_in (by omega) (by omega),Int.add_assoc]; rfl
  ·unfold i_loopTriples_of_i_CountAssociating_c1_L2
   simp only [lt_cast_self,if_false]
 have l1 : ∀ x c,x < a.length → 0 ≤ c → c ≤ 3000000 → loop (i_loopTriples_of_i_CountAssociating_c1_L1 a a ((x : Int),c) (a.length : Int)) BIG (0,c) = some (.inl (c + a2N a x a.length)) := by
  intro x c hx h0 h1
  refine loop_for (s := ((0 : Int),c)) (fun k => ((k : Int),c + a2N a x k)) a.length (by rw [BIG_val]; omega) (by simp [a2N,sumN]) (fun y hy => ?_) ?_
  ·have hb := a2N_le hn hm x y
   have hb2 := mul_128 hn hm (show y ≤ 128 by omega) hn
   unfold i_loopTriples_of_i_CountAssociating_c1_L1 i_length_LI
   simp only [lt_cast hy,if_true,some_bind]
   rw [l2 x y _ c hx hy (by omega) (by omega),some_bind]
   simp only []
   rw [w_in (by omega) (by omega),Int.add_assoc]; rfl
  ·unfold i_loopTriples_of_i_CountAssociating_c1_L1
   simp only [lt_cast_self,if_false]
 have l0 : loop (i_loopTriples_of_i_CountAssociating_c1_L0 a a (a.length : Int)) BIG (0,0) = some (.inl (sumN (fun x => a2N a x a.length) a.length)) := by
  refine loop_for (s := ((0 : Int),(0 : Int))) (fun k => ((k : Int),sumN (fun x => a2N a x a.length) k)) a.length (by rw [BIG_val]; omega) rfl (fun x hx => ?_) ?_
  ·have hb := a3N_le hn hm x
   have hb2 : x * (a.length * a.length) ≤ 128 * 16384 := Nat.mul_le_mul (by omega) hsq
   have hb3 : ((x : Int) * ((a.length : Int) * (a.length : Int))) ≤ 2097152 := by
    have : ((x * (a.length * a.length) : Nat) : Int) ≤ 2097152 := by omega
    simpa [Int.natCast_mul] using this
   unfold i_loopTriples_of_i_CountAssociating_c1_L0 i_length_LI
   simp only [lt_cast hx,if_true,some_bind]
   rw [l1 x _ hx hb.1 (by omega),some_bind]
   simp only []
   rw [w_in (by omega) (by omega)]; rfl
  ·unfold i_loopTriples_of_i_CountAssociating_c1_L0
   simp only [lt_cast_self,if_false]
 unfold i_loopTriples_of_i_CountAssociating_c1 i_length_LI
 rw [some_bind,l0,some_bind]
theorem triples_full : sumN (fun x => a2N a x a.length) a.length = (a.length : Int) * ((a.length : Int) * a.length) ↔ allT a.length (asB a) = true := by
 rw [(sumN_full (n := a.length) (f := fun x => a2N a x a.length) (c := (a.length : Int) * a.length) fun k _ => (a2N_le hn hm k _).2).2,allT_iff]
 constructor
 ·intro h x y z hx hy hz
  have h1 := (sumN_full (n := a.length) (f := fun y => a1N a x y a.length) (c := a.length) fun k _ => (a1N_le hn hm x k _).2).2.1 (h x hx) y hy
  have h2 := (sumN_full (n := a.length) (f := fun z => bIx (asB a x y z)) (c := 1) fun k _ => (bIx_le _).2).2
  rw [Int.mul_one] at h2
  exact bIx_one.1 (h2.1 h1 z hz)
 ·intro h x hx
  refine (sumN_full (n := a.length) (f := fun y => a1N a x y a.length) (c := a.length) fun k _ => (a1N_le hn hm x k _).2).2.2 fun y hy => ?_
  have h2 := (sumN_full (n := a.length) (f := fun z => bIx (asB a x y z)) (c := 1) fun k _ => (bIx_le _).2).2
  rw [Int.mul_one] at h2
  exact h2.2 fun z hz => bIx_one.2 (h x y z hx hy hz)
end
end Go.Vam

/- Plain laws: loops as a type, orders, inverses, the nucleus and the centre as subloops. -/
namespace Go.Vam
open Go Go.RowKit
set_option linter.unusedSimpArgs false
set_option linter.unusedVariables false
set_option linter.unusedSectionVars false

theorem once_lt {n : Nat} {f : Nat → Int} (h : onceB n f = true) {k j : Nat} (hk : k < j) (hj : j < n) : f k ≠ f j := by
 unfold onceB okB at h
 have := List.all_eq_true.1 h j (List.mem_range.2 hj)
 simp only [Bool.and_eq_true,Bool.not_eq_true',List.any_eq_false,List.mem_range,decide_eq_true_eq] at this
 exact this.2 k hk
theorem once_inj' {n : Nat} {f : Nat → Int} (h : onceB n f = true) {i j : Nat} (hi : i < n) (hj : j < n) (e : f i = f j) : i = j := by
 rcases Nat.lt_trichotomy i j with h1 | h1 | h1
 ·exact absurd e (once_lt h h1 hj)
 ·exact h1
 ·exact absurd e.symm (once_lt h h1 hi)
theorem fin_nodup (n : Nat) : (List.finRange n).Nodup := List.nodup_finRange n
theorem fin_sur {n : Nat} {f : Fin n → Fin n} (h : ∀ x y,f x = f y → x = y) (y : Fin n) : ∃ x,f x = y := by
 refine Classical.byContradiction fun hno => ?_
 have hnd : (y :: (List.finRange n).map f).Nodup := by
  refine List.nodup_cons.2 ⟨fun hm => ?_,?_⟩
  ·obtain ⟨x,_,e⟩ := List.mem_map.1 hm
   exact hno ⟨x,e⟩
  ·exact List.pairwise_map.2 (List.Pairwise.imp (fun {a b} hab e => hab (h a b e)) (fin_nodup n))
 have := nodup_sub_len hnd (fin_nodup n) (fun x _ => List.mem_finRange x)
 simp at this
 omega
theorem least_of {P : Nat → Prop} : ∀ (n : Nat),P n → ∃ m,m ≤ n ∧ P m ∧ ∀ k,k < m → ¬ P k := by
 intro n
 induction n using Nat.strongRecOn with
 | _ n ih =>
  intro h
  by_cases hex : ∃ k,k < n ∧ P k
  ·obtain ⟨k,hk,hp⟩ := hex
   obtain ⟨m,h1,h2,h3⟩ := ih k hk hp
   exact ⟨m,by omega,h2,h3⟩
  ·exact ⟨n,Nat.le_refl n,h,fun k hk hp => hex ⟨k,hk,hp⟩⟩
section
variable {a : List (List Int)} (hL : isLp a = true)
include hL
theorem tb_lt {i j : Nat} (hi : i < a.length) (hj : j < a.length) : tN a i j < a.length := by
 obtain ⟨hn,h0,hm⟩ := isLp_tab hL
 exact (tN_lt hn hm hi hj).1
theorem tb_row {i : Nat} (hi : i < a.length) : rowB a i = true := by
 unfold isLp at hL
 simp only [Bool.and_eq_true,List.all_eq_true,List.mem_range] at hL
 exact hL.2.2 i hi
theorem tb_rowinj {i j k : Nat} (hi : i < a.length) (hj : j < a.length) (hk : k < a.length) (h : tN a i j = tN a i k) : j = k := by
 obtain ⟨hn,h0,hm⟩ := isLp_tab hL
 have hr := tb_row hL hi
 unfold rowB at hr
 simp only [Bool.and_eq_true] at hr
 refine once_inj' hr.1.1 hj hk ?_
 rw [(tN_lt hn hm hi hj).2,(tN_lt hn hm hi hk).2,h]
theorem tb_colinj {i j k : Nat} (hi : i < a.length) (hj : j < a.length) (hk : k < a.length) (h : tN a j i = tN a k i) : j = k := by
 obtain ⟨hn,h0,hm⟩ := isLp_tab hL
 have hr := tb_row hL hi
 unfold rowB at hr
 simp only [Bool.and_eq_true] at hr
 refine once_inj' hr.1.2 hj hk ?_
 rw [(tN_lt hn hm hj hi).2,(tN_lt hn hm hk hi).2,h]
theorem tb_one {i : Nat} (hi : i < a.length) : tN a 0 i = i ∧ tN a i 0 = i := by
 obtain ⟨hn,h0,hm⟩ := isLp_tab hL
 have hr := tb_row hL hi
 unfold rowB at hr
 simp only [Bool.and_eq_true,decide_eq_true_eq] at hr
 have e1 := (tN_lt hn hm h0 hi).2
 have e2 := (tN_lt hn hm hi h0).2
 omega
def opF (i j : Fin a.length) : Fin a.length := ⟨tN a i.1 j.1,tb_lt hL i.2 j.2⟩
def eF : Fin a.length := ⟨0,(isLp_tab hL).2.1⟩
theorem opF_1 (x : Fin a.length) : opF hL (eF hL) x = x := Fin.ext (tb_one hL x.2).1
theorem opF_2 (x : Fin a.length) : opF hL x (eF hL) = x := Fin.ext (tb_one hL x.2).2
theorem opF_l (x y z : Fin a.length) (h : opF hL x y = opF hL x z) : y = z := Fin.ext (tb_rowinj hL x.2 y.2 z.2 (congrArg Fin.val h))
theorem opF_r (x y z : Fin a.length) (h : opF hL y x = opF hL z x) : y = z := Fin.ext (tb_colinj hL x.2 y.2 z.2 (congrArg Fin.val h))
theorem opF_i (x : Fin a.length) : ∃ x',opF hL x x' = eF hL := fin_sur (opF_l hL x) (eF hL)
theorem opF_M (hM : allT a.length (moT a) = true) (x y z : Fin a.length) : opF hL (opF hL x (opF hL y z)) x = opF hL (opF hL x y) (opF hL z x) := by
 have := allT_iff.1 hM x.1 y.1 z.1 x.2 y.2 z.2
 unfold moT at this
 simp only [decide_eq_true_eq] at this
 exact Fin.ext this
theorem rpw_inj (x : Fin a.length) : ∀ (k : Nat) (y z : Fin a.length),rpw (opF hL) x k y = rpw (opF hL) x k z → y = z
 | 0,_,_,h => h
 | k + 1,y,z,h => rpw_inj x k y z (opF_r hL x _ _ h)
theorem order_ex (x : Fin a.length) : ∃ m,1 ≤ m ∧ m ≤ a.length ∧ rpw (opF hL) x m (eF hL) = eF hL ∧ ∀ k,1 ≤ k → k < m → rpw (opF hL) x k (eF hL) ≠ eF hL := by
 have hex : ∃ m,m < a.length ∧ rpw (opF hL) x (m + 1) (eF hL) = eF hL := by
  refine Classical.byContradiction fun hno => ?_
  have hnd : ((List.range (a.length + 1)).map fun k => rpw (opF hL) x k (eF hL)).Nodup := by
   refine List.pairwise_map.2 (List.Pairwise.imp_of_mem (fun {i j} hi hj hij e => ?_) (List.pairwise_lt_range (n := a.length + 1)))
   have hi' := List.mem_range.1 hi
   have hj' := List.mem_range.1 hj
   have e1 : rpw (opF hL) x j (eF hL) = rpw (opF hL) x i (rpw (opF hL) x (j - i) (eF hL)) := by
    rw [← rpw_add,Nat.sub_add_cancel (by omega)]
   rw [e1] at e
   have := rpw_inj hL x i _ _ e
   refine hno ⟨j - i - 1,by omega,?_⟩
   rw [show j - i - 1 + 1 = j - i by omega]
   exact this.symm
  have := nodup_sub_len hnd (fin_nodup a.length) (fun x _ => List.mem_finRange x)
  simp at this
  omega
 obtain ⟨m,hm,hp⟩ := hex
 obtain ⟨k,h1,h2,h3⟩ := least_of (P := fun m => rpw (opF hL) x (m + 1) (eF hL) = eF hL) m hp
 refine ⟨k + 1,by omega,by omega,h2,fun j hj hj2 e => h3 (j - 1) (by omega) ?_⟩
 rw [show j - 1 + 1 = j by omega]; exact e
theorem order_dvd (hM : allT a.length (moT a) = true) (x : Fin a.length) {m : Nat} (h1 : 1 ≤ m) (h2 : rpw (opF hL) x m (eF hL) = eF hL) (h3 : ∀ k,1 ≤ k → k < m → rpw (opF hL) x k (eF hL) ≠ eF hL) : m ∣ a.length := by
 have hop := fun k y => (rpw_op (opF_1 hL) (opF_2 hL) (opF_l hL) (opF_r hL) (opF_i hL) (opF_M hL hM) x k).1 y
 have := orbits_dvd (f := fun y => opF hL y x) (m := m) (by omega) (fun k y => rpw (opF hL) x k y) (fun y => rfl) (fun k y => rfl) (fun y => by
  rw [← hop m y,h2,opF_2]) (fun j k y => rpw_add _ x j k y) (fun k y hk hkm e => h3 k (by omega) hkm (by
   rw [← hop k y] at e
   refine opF_l hL y _ _ ?_
   rw [e,opF_2])) (fun y z h => opF_r hL x y z h) _ (List.finRange a.length) rfl (fin_nodup _) (fun y _ => List.mem_finRange _)
 simpa using this
theorem idx_tb {i j : Nat} (hi : i < a.length) (hj : j < a.length) : idx a (i : Int) = some (gR a i) ∧ idx (gR a i) (j : Int) = some ((tN a i j : Nat) : Int) := by
 obtain ⟨hn,h0,hm⟩ := isLp_tab hL
 exact ⟨idxR hi,idx_t hn hm hi hj⟩
theorem LoopOrder_val (x : Fin a.length) : ∃ m : Nat,1 ≤ m ∧ m ≤ a.length ∧ i_LoopOrder a (x.1 : Int) = some ((m : Int),0) ∧ s_LoopOrder a (x.1 : Int) = some ((m : Int),0) ∧ (allT a.length (moT a) = true → m ∣ a.length) := by
 obtain ⟨hn,h0,hm⟩ := isLp_tab hL
 obtain ⟨m,h1,h2,h3,h4⟩ := order_ex hL x
 have hp := x.2
 have hck : i_checkLoop a [(x.1 : Int)] = some 0 := by
  rw [i_checkLoop_eq (by omega) (by simp),hL]
  have : (decide (0 ≤ (x.1 : Int)) && decide ((x.1 : Int) ≤ (a.length : Int) - 1)) = true := by simp; omega
  simp only [List.all_cons,List.all_nil,Bool.and_true,this,Bool.true_eq_false,if_false,if_true]
 have hsc : s_l13Code a (x.1 : Int) = some 0 := by
  unfold s_l13Code
  rw [s_l13Is_eq (by omega),hL,some_bind,s_l01In_eq]
  have w1 : w64 ((a.length : Int) - 1) = (a.length : Int) - 1 := w_in (by omega) (by omega)
  have : (decide (0 ≤ (x.1 : Int)) && decide ((x.1 : Int) ≤ (a.length : Int) - 1)) = true := by simp; omega
  simp only [w1,this,some_bind,Bool.true_eq_false,if_false]
 let pw : Nat → Int := fun k => (((rpw (opF hL) x (k + 1) (eF hL)).1 : Nat) : Int)
 have hst : ∀ k,idx a (pw k) = some (gR a (rpw (opF hL) x (k + 1) (eF hL)).1) ∧ idx (gR a (rpw (opF hL) x (k + 1) (eF hL)).1) (x.1 : Int) = some (pw (k + 1)) := fun k =>
  idx_tb hL (rpw (opF hL) x (k + 1) (eF hL)).2 hp
 have hp0 : pw 0 = (x.1 : Int) := by
  simp only [pw]
  show (((opF hL (eF hL) x).1 : Nat) : Int) = _
  rw [opF_1]
 have hne : ∀ k,k < m - 1 → ¬ pw k = 0 := fun k hk e => h4 (k + 1) (by omega) (by omega) (Fin.ext (by simp only [pw] at e; show _ = 0; omega))
 have hz : pw (m - 1) = 0 := by
  simp only [pw]
  rw [show m - 1 + 1 = m by omega,h3]; rfl
 refine ⟨m,h1,h2,?_,?_,fun hM => order_dvd hL hM x h1 h3 h4⟩
 ·unfold i_LoopOrder
  rw [hck,some_bind]
  simp only [not_true_eq_false,if_false]
  rw [loop_for (s := ((x.1 : Int),(1 : Int))) (b := (.inr ((m : Int),0) : Unit ⊕ (Int × Int))) (fun k => (pw k,((k + 1 : Nat) : Int))) (m - 1) (by rw [BIG_val]; omega) (by simp [hp0]) (fun k hk => by
   unfold i_LoopOrder_L0 i_length_LI
   rw [some_bind,w_in (by omega) (by omega),if_pos (by omega),if_neg (hne k hk),(hst k).1,some_bind,(hst k).2,some_bind,w_in (by omega) (by omega)]
   rfl) (by
   unfold i_LoopOrder_L0 i_length_LI
   rw [some_bind,w_in (by omega) (by omega),if_pos (by omega),if_pos hz]
   rw [show ((m - 1 + 1 : Nat) : Int) = (m : Int) by omega])]
  rfl
 ·unfold s_LoopOrder
  rw [hsc,some_bind]
  simp only [not_true_eq_false,if_false]
  rw [loop_for (s := ((x.1 : Int),(1 : Int))) (b := (.inr ((m : Int),0) : Unit ⊕ (Int × Int))) (fun k => (pw k,((k + 1 : Nat) : Int))) (m - 1) (by rw [BIG_val]; omega) (by simp [hp0]) (fun k hk => by
   unfold s_LoopOrder_L0
   rw [if_pos (by omega),if_neg (hne k hk),(hst k).1,some_bind,(hst k).2,some_bind,w_in (by omega) (by omega)]
   rfl) (by
   unfold s_LoopOrder_L0
   rw [if_pos (by omega),if_pos hz]
   rw [show ((m - 1 + 1 : Nat) : Int) = (m : Int) by omega])]
  rfl
theorem LoopInverse_val (x : Fin a.length) : ∃ x' : Fin a.length,i_LoopInverse a (x.1 : Int) = some ((x'.1 : Int),0) ∧ tN a x.1 x'.1 = 0 ∧ (allT a.length (moT a) = true → tN a x'.1 x.1 = 0) := by
 obtain ⟨hn,h0,hm⟩ := isLp_tab hL
 obtain ⟨x',hx⟩ := opF_i hL x
 have hp := x.2
 have hp' := x'.2
 have e0 : tN a x.1 x'.1 = 0 := congrArg Fin.val hx
 refine ⟨x',?_,e0,fun hM => congrArg Fin.val (mf_inv (opF_1 hL) (opF_2 hL) (opF_l hL) (opF_r hL) (opF_i hL) (opF_M hL hM) hx)⟩
 have hck : i_checkLoop a [(x.1 : Int)] = some 0 := by
  rw [i_checkLoop_eq (by omega) (by simp),hL]
  have : (decide (0 ≤ (x.1 : Int)) && decide ((x.1 : Int) ≤ (a.length : Int) - 1)) = true := by simp; omega
  simp only [List.all_cons,List.all_nil,Bool.and_true,this,Bool.true_eq_false,if_false,if_true]
 unfold i_LoopInverse
 rw [hck,some_bind]
 simp only [not_true_eq_false,if_false]
 rw [idxR hp,some_bind]
 have hrl := (hm.row hp).1
 have hix : g_slices_Index_LI_I (gR a x.1) 0 = some ((x'.1 : Nat) : Int) := by
  unfold g_slices_Index_LI_I
  rw [loop_for (s := (0 : Int)) (b := (.inr ((x'.1 : Nat) : Int) : Unit ⊕ Int)) (fun k => (k : Int)) x'.1 (by rw [BIG_val]; omega) rfl (fun k hk => by
   unfold g_slices_Index_LI_I_L0
   have e : idx (gR a x.1) (k : Int) = some ((tN a x.1 k : Nat) : Int) := (idx_tb hL hp (by omega)).2
   rw [hrl,if_pos (by omega),e,some_bind,if_neg (fun h => by
    have : k = x'.1 := tb_rowinj hL hp (by omega) hp' (by omega)
    omega),w_in (by omega) (by omega)]
   rfl) (by
   unfold g_slices_Index_LI_I_L0
   have e : idx (gR a x.1) ((x'.1 : Nat) : Int) = some ((tN a x.1 x'.1 : Nat) : Int) := (idx_tb hL hp hp').2
   rw [hrl,if_pos (by omega),e,some_bind,if_pos (by omega)])]
  rfl
 rw [hix,some_bind]
/-! ### What follows from associativity -/
theorem flat_mouf (hA : allT a.length (asB a) = true) : allT a.length (moT a) = true := by
 have as : ∀ x y z,x < a.length → y < a.length → z < a.length → tN a (tN a x y) z = tN a x (tN a y z) := fun x y z hx hy hz => by
  have := allT_iff.1 hA x y z hx hy hz
  unfold asB at this
  simpa using this
 refine allT_iff.2 fun x y z hx hy hz => ?_
 unfold moT
 have h1 := tb_lt hL hy hz
 have h2 := tb_lt hL hz hx
 rw [as x _ x hx h1 hx,as y z x hy hz hx,as x y _ hx hy h2]
 simp
theorem flat_dia (hA : allT a.length (asB a) = true) : diaB a = true := by
 unfold diaB allA
 simp only [List.all_eq_true,List.mem_range]
 intro x hx y hy u hu v hv w hw
 exact allT_iff.1 hA u v w (subN_lt u hu) (subN_lt v hv) (subN_lt w hw)
theorem flat_nuc : allT a.length (asB a) = true ↔ ((List.range a.length).filter (nucB a)).length = a.length := by
 have e : ((List.range a.length).filter (nucB a)).length = a.length ↔ ∀ x,x < a.length → nucB a x = true := by
  have h := filter_len (nucB a) (List.range a.length)
  rw [List.length_range] at h
  constructor
  ·intro hl x hx
   have h0 : ((List.range a.length).filter fun z => !nucB a z) = [] := List.length_eq_zero_iff.1 (by omega)
   cases hb : nucB a x with
   | true => rfl
   | false =>
    have : x ∈ (List.range a.length).filter fun z => !nucB a z := List.mem_filter.2 ⟨List.mem_range.2 hx,by rw [hb]; rfl⟩
    rw [h0] at this; cases this
  ·intro hx
   rw [List.filter_eq_self.2 (fun x hm => hx x (List.mem_range.1 hm)),List.length_range]
 rw [e,allT_iff]
 unfold nucB as3
 simp only [List.all_eq_true,List.mem_range,Bool.and_eq_true]
 constructor
 ·intro h x hx y hy z hz
  exact ⟨⟨h x y z hx hy hz,h y x z hy hx hz⟩,h y z x hy hz hx⟩
 ·intro h x y z hx hy hz
  exact (h x hx y hy z hz).1.1
/-! ### The nucleus and the centre -/
theorem nuc_iff {x : Nat} : nucB a x = true ↔ ∀ y z,y < a.length → z < a.length → tN a (tN a x y) z = tN a x (tN a y z) ∧ tN a (tN a y x) z = tN a y (tN a x z) ∧ tN a (tN a y z) x = tN a y (tN a z x) := by
 unfold nucB as3 asB
 simp only [List.all_eq_true,List.mem_range,Bool.and_eq_true,decide_eq_true_eq]
 exact ⟨fun h y z hy hz => ⟨(h y hy z hz).1.1,(h y hy z hz).1.2,(h y hy z hz).2⟩,fun h y hy z hz => ⟨⟨(h y z hy hz).1,(h y z hy hz).2.1⟩,(h y z hy hz).2.2⟩⟩
theorem nuc_zero : nucB a 0 = true := by
 refine (nuc_iff hL).2 fun y z hy hz => ?_
 have h1 := tb_lt hL hy hz
 rw [(tb_one hL hy).1,(tb_one hL h1).1,(tb_one hL hy).2,(tb_one hL hz).1,(tb_one hL h1).2,(tb_one hL hz).2]
 exact ⟨rfl,rfl,rfl⟩
theorem nuc_mul {x y : Nat} (hx : x < a.length) (hy : y < a.length) (h1 : nucB a x = true) (h2 : nucB a y = true) : nucB a (tN a x y) = true := by
 have f1 := (nuc_iff hL).1 h1
 have f2 := (nuc_iff hL).1 h2
 refine (nuc_iff hL).2 fun u v hu hv => ?_
 have huv := tb_lt hL hu hv
 have hux := tb_lt hL hu hx
 have hyu := tb_lt hL hy hu
 have hyv := tb_lt hL hy hv
 have hxv := tb_lt hL hx hv
 have hvx := tb_lt hL hv hx
 have hxy := tb_lt hL hx hy
 refine ⟨?_,?_,?_⟩
 ·-- ((x y) u) v = (x y) (u v)
  rw [(f1 y u hy hu).1,(f1 _ v hyu hv).1,(f2 u v hu hv).1,← (f1 y _ hy huv).1]
 ·-- (u (x y)) v = u ((x y) v)
  rw [← (f1 u y hu hy).2.1,(f2 _ v hux hv).2.1,(f1 u _ hu hyv).2.1,← (f1 y v hy hv).1]
 ·-- (u v) (x y) = u (v (x y))
  rw [← (f1 _ y huv hy).2.1,(f1 u v hu hv).2.2,(f2 u _ hu hvx).2.2,(f1 v y hv hy).2.1]
theorem cen_iff {x : Nat} (h0 : 0 < a.length) : cenB a x = true ↔ nucB a x = true ∧ ∀ y,y < a.length → tN a x y = tN a y x := by
 unfold cenB nucB comB
 simp only [List.all_eq_true,List.mem_range,Bool.and_eq_true,decide_eq_true_eq]
 exact ⟨fun h => ⟨fun y hy => (h y hy).2,fun y hy => (h y hy).1⟩,fun h y hy => ⟨h.2 y hy,h.1 y hy⟩⟩
theorem cen_zero (h0 : 0 < a.length) : cenB a 0 = true := (cen_iff hL h0).2 ⟨nuc_zero hL,fun y hy => by rw [(tb_one hL hy).1,(tb_one hL hy).2]⟩
theorem cen_mul (h0 : 0 < a.length) {x y : Nat} (hx : x < a.length) (hy : y < a.length) (h1 : cenB a x = true) (h2 : cenB a y = true) : cenB a (tN a x y) = true := by
 obtain ⟨n1,c1⟩ := (cen_iff hL h0).1 h1
 obtain ⟨n2,c2⟩ := (cen_iff hL h0).1 h2
 have f1 := (nuc_iff hL).1 n1
 have f2 := (nuc_iff hL).1 n2
 refine (cen_iff hL h0).2 ⟨nuc_mul hL hx hy n1 n2,fun u hu => ?_⟩
 rw [(f1 y u hy hu).1,c2 u hu,← (f1 u y hu hy).1,c1 u hu,(f1 u y hu hy).2.1]
theorem sub_self {B : Nat → Bool} (h0 : B 0 = true) (hm : ∀ x y,x < a.length → y < a.length → B x = true → B y = true → B (tN a x y) = true) :
  subN a (· ∈ (List.range a.length).filter B) = (List.range a.length).filter B := by
 obtain ⟨hn,hp,_⟩ := isLp_tab hL
 unfold subN
 refine List.filter_congr fun x hx => ?_
 have hx' := List.mem_range.1 hx
 rw [Bool.eq_iff_iff,mkB_iff]
 constructor
 ·intro h
  have : ∀ x,Mk a (· ∈ (List.range a.length).filter B) x → x < a.length ∧ B x = true := by
   intro x h
   refine h.least (T := fun x => x < a.length ∧ B x = true) ⟨hp,h0⟩ (fun x hx => ?_) (fun x y hx hy => ⟨tb_lt hL hx.1 hy.1,hm x y hx.1 hy.1 hx.2 hy.2⟩)
   have := List.mem_filter.1 hx
   exact ⟨List.mem_range.1 this.1,this.2⟩
  exact (this x h).2
 ·intro h
  exact .seed (List.mem_filter.2 ⟨hx,h⟩)
theorem Subloop_self {B : Nat → Bool} (h0 : B 0 = true) (hm : ∀ x y,x < a.length → y < a.length → B x = true → B y = true → B (tN a x y) = true) :
  i_SubloopFrom a (castL ((List.range a.length).filter B)) = some (castL ((List.range a.length).filter B),0) := by
 obtain ⟨hn,hp,hmat⟩ := isLp_tab hL
 have hl : ∀ x ∈ (List.range a.length).filter B,x < a.length := fun x hx => List.mem_range.1 (List.mem_filter.1 hx).1
 have hlen := List.length_filter_le B (List.range a.length)
 rw [List.length_range] at hlen
 unfold i_SubloopFrom
 rw [i_checkLoop_eq (by omega) (by simp only [castL,List.length_map]; omega),hL,some_bind]
 have hall : (castL ((List.range a.length).filter B)).all (fun x => decide (0 ≤ x) && decide (x ≤ (a.length : Int) - 1)) = true := by
  refine List.all_eq_true.2 fun x hx => ?_
  obtain ⟨k,hk,rfl⟩ := List.mem_map.1 hx
  have := hl k hk
  simp; omega
 simp only [hall,Bool.true_eq_false,if_false,if_true,not_true_eq_false]
 rw [(subs_eq hn hmat hp hl (by omega)).2,some_bind,sub_self hL h0 hm]
end
end Go.Vam

/- Plain law: FnLoops. -/
namespace Go.Vam
open Go Go.RowKit
set_option maxRecDepth 100000
set_option linter.unusedSimpArgs false
set_option linter.unusedVariables false
set_option linter.unusedSectionVars false

/-! ### The drawn tables, computed -/
def GoodL (a : List (List Int)) : Prop := isLp a = true → allT a.length (moT a) = true → diaB a = true
def okT (T : List (List Int)) : Bool := isLp T && (!allT T.length (moT T) || allT T.length (asB T))
theorem okT_good {T : List (List Int)} (h : okT T = true) : isLp T = true ∧ GoodL T ∧ T.length ≤ 128 := by
 unfold okT at h
 simp only [Bool.and_eq_true,Bool.or_eq_true,Bool.not_eq_true'] at h
 refine ⟨h.1,fun hL hM => ?_,(isLp_tab h.1).1⟩
 rcases h.2 with h1 | h1
 ·rw [hM] at h1; cases h1
 ·exact flat_dia hL h1
theorem good_signed {p : Int} {w : List Int} (hP : isP p = true) (hl : w.length ≤ 4) (hs : ∀ x ∈ w,x = 1 ∨ x = p - 1) : ∃ T C,s_SignedBasis p w = some (T,C) ∧ isLp T = true ∧ GoodL T ∧ T.length ≤ 128 := by
 have hp := isP_le hP
 rcases SignedBasis_cases (p := p) (w := w) (by omega) with ⟨C,hC,s1,s2⟩ | ⟨hP,hl,hv,hs,s1,s2⟩
 ·exfalso
  have hd : isDb p w = true := by
   unfold isDb
   have h1 : nums p w = true := nums_iff.2 fun x hx => by rcases hs x hx with h | h <;> omega
   have h2 : hasZ w = false := by
    cases hh : hasZ w with
    | false => rfl
    | true =>
     have := (hasZ_iff w).1 hh
     rcases hs 0 this with h | h <;> omega
   simp [hP,hl,h1,h2]
  unfold s_SignedBasis at s1
  rw [s_l11Is_eq (by omega),hd,some_bind] at s1
  simp only [Bool.true_eq_false,if_false] at s1
  have w1 : w64 (p - 1) = p - 1 := w_in (by omega) (by omega)
  obtain ⟨b,b1,b2⟩ := any_loop (s_SignedBasis_L0 p w) w.length (fun k => noSign p (gI w k)) (fun _ => (([] : List (List Int)),(5 : Int))) (by rw [BIG_val]; omega)
   (fun k hk hf => by
    unfold s_SignedBasis_L0
    unfold noSign at hf
    rw [if_pos (by omega),idxI hk,some_bind,w1,w_in (x := (k : Int) + 1) (by omega) (by omega)]
    by_cases h : gI w k = 1
    ·simp [h]
    ·simp [h] at hf ⊢
     simp [hf]) (fun k hk hf => by
    unfold s_SignedBasis_L0
    unfold noSign at hf
    rw [if_pos (by omega),idxI hk,some_bind,w1]
    by_cases h : gI w k = 1
    ·simp [h] at hf
    ·simp [h] at hf ⊢
     simp [hf]) (by
    unfold s_SignedBasis_L0
    simp)
  obtain ⟨hP',hl',hv,_⟩ := isDb_iff hd
  have hT := prodm_mat hP' hl' hv
  rw [b1] at s1
  rcases b2 with ⟨rfl,h3⟩ | ⟨k,hk,rfl,hf,h3,_⟩
  ·have q := s_signed hl' hT
   simp only [some_bind,s_l11Basis_eq hP' hl' hv,q] at s1
   simp only [Option.some.injEq,Prod.mk.injEq] at s1
   exact hC s1.2.symm
  ·unfold noSign at hf
   have hx := hs (gI w k) (by rw [← gI_get hk]; exact List.getElem_mem hk)
   rcases hx with h | h <;> simp [h,ieq] at hf
 ·have hS := sgm_sgn hP hl hv hs
  refine ⟨_,0,s1,hS.isLp,fun hL hM => ?_,?_⟩
  ·have hv' : sgV w ∈ sgnL w.length := by
    have := mem_sgnL (v := sgV w) fun x hx => by
     obtain ⟨y,_,rfl⟩ := List.mem_map.1 hx
     split <;> simp
    rwa [show (sgV w).length = w.length by simp [sgV]] at this
   have hk := chkS_all hl hv'
   unfold chkS at hk
   simp only [Bool.and_eq_true,Bool.or_eq_true,beq_iff_eq] at hk
   obtain ⟨_,k1,k2,k3,k4⟩ := hk
   rw [hS.mouf,k2] at hM
   simp only [decide_eq_true_eq] at hM
   rcases k4 with k4 | k4
   ·simp at k4; omega
   ·exact hS.dia k4
  ·have := hS.len
   have h16 := two_le hl
   omega
def okU (p : Int) (w : List Int) : Bool := match s_LoopOfUnits p w with
 | some r => decide (r.2 = 0) && okT r.1
 | none => false
theorem okU_all : (([3,5,7,11,13] : List Int).all fun p => ([1,2] : List Int).all fun r => okU p [r]) = true ∧ okU 3 [2,2] = true := by decide +kernel
theorem good_units {p : Int} {w : List Int} (h : okU p w = true) : ∃ T,s_LoopOfUnits p w = some (T,0) ∧ isLp T = true ∧ GoodL T ∧ T.length ≤ 128 := by
 unfold okU at h
 cases hr : s_LoopOfUnits p w with
 | none => rw [hr] at h; cases h
 | some r =>
  rw [hr] at h
  simp only [Bool.and_eq_true,decide_eq_true_eq] at h
  exact ⟨r.1,by rw [← h.1],okT_good h.2⟩
def tab5 : List (List Int) := [[0,1,2,3,4],[1,0,3,4,2],[2,4,0,1,3],[3,2,4,0,1],[4,3,1,2,0]]
theorem ok_five : okT tab5 = true := by decide +kernel
def cycT' (n : Nat) : List (List Int) := vecN n fun i => vecN n fun j => (((i + j) % n : Nat) : Int)
theorem ok_cyc : ∀ n,n < 8 → okT (cycT' (n + 1)) = true := by decide +kernel
theorem cyc_loop {r : Nat} {a h : Int} {c : List Int} (hr : r < 8) : loop (s_l13Draw_L1 ((r : Int),(c,a,h))) BIG ([],0) = some (cycT' (r + 1)) := by
 have w1 : w64 (1 + (r : Int)) = ((r + 1 : Nat) : Int) := by rw [w_in (by omega) (by omega)]; omega
 have inner : ∀ x out,x < r + 1 → loop (s_l13Draw_L2 ((r : Int),(c,a,h)) (out,(x : Int))) BIG ([],0) = some (vecN (r + 1) fun j => (((x + j) % (r + 1) : Nat) : Int)) := by
  intro x out hx
  refine map_loop _ (r + 1) _ (by rw [BIG_val]; omega) (fun k hk o ho => ?_) (fun o ho => ?_)
  ·unfold s_l13Draw_L2
   simp only [w1]
   rw [if_pos (by omega),chk_bind (by omega),chk_bind (by simp only [List.length_cons,List.length_nil]; omega),w_in (x := (x : Int) + (k : Int)) (by omega) (by omega),w_in (x := (k : Int) + 1) (by omega) (by omega)]
   rw [Int.tmod_eq_emod_of_nonneg (by omega),← Int.natCast_add,← Int.natCast_emod]
   rfl
  ·unfold s_l13Draw_L2
   simp only [w1]
   rw [if_neg (by omega)]
 refine map_loop _ (r + 1) _ (by rw [BIG_val]; omega) (fun k hk o ho => ?_) (fun o ho => ?_)
 ·unfold s_l13Draw_L1
  simp only [w1]
  rw [if_pos (by omega),inner k o hk,some_bind,chk_bind (by simp only [List.length_cons,List.length_nil]; omega),w_in (by omega) (by omega)]
  rfl
 ·unfold s_l13Draw_L1
  simp only [w1]
  rw [if_neg (by omega)]
theorem draw_loop {c : List Int} {a h : Int} (hS : Src c a) : ∃ (T : List (List Int)) (a' h' : Int),s_l13Draw c a h = some (T,(c,a',h')) ∧ isLp T = true ∧ GoodL T ∧ T.length ≤ 128 ∧ Src c a' := by
 unfold s_l13Draw
 obtain ⟨r0,a0,h0,e0,p0,q0,S0⟩ := next_eq (h := h) (n := 4) hS (by omega) (by omega)
 have tail : ∀ (a1 h1 : Int),Src c a1 → ∃ (T : List (List Int)) (a' h' : Int),((s_l01Next c a1 h1 8).bind fun v29 => (loop (s_l13Draw_L1 v29) BIG ([],0)).bind fun x31 => some (x31,(v29.2.1,v29.2.2.1,v29.2.2.2))) = some (T,(c,a',h')) ∧ isLp T = true ∧ GoodL T ∧ T.length ≤ 128 ∧ Src c a' := by
  intro a1 h1 S1
  obtain ⟨r,a2,h2,e2,p2,q2,S2⟩ := next_eq (h := h1) (n := 8) S1 (by omega) (by omega)
  obtain ⟨k,rfl⟩ := Int.eq_ofNat_of_zero_le p2
  have hk := okT_good (ok_cyc k (by omega))
  refine ⟨cycT' (k + 1),a2,h2,?_,hk.1,hk.2.1,hk.2.2,S2⟩
  rw [e2,some_bind,cyc_loop (by omega),some_bind]
 rw [e0,some_bind]
 simp only []
 by_cases c0 : r0 = 0
 ·obtain ⟨p,a1,h1,e1,m1,S1⟩ := pick_eq (h := h0) (l := [3,5,7]) S0 (by simp) (by simp)
  obtain ⟨k,a2,h2,e2,m2,S2⟩ := pick_eq (h := h1) (l := [1,2,3,3,4]) S1 (by simp) (by simp)
  have hk : 1 ≤ k ∧ k ≤ 4 := by simp only [List.mem_cons,List.not_mem_nil,or_false] at m2; omega
  have hp : 3 ≤ p ∧ p ≤ 7 := by simp only [List.mem_cons,List.not_mem_nil,or_false] at m1; omega
  obtain ⟨b,g1,v,a3,h3,rfl,g3,g4,S3⟩ := loop_inv (step := s_l13Draw_L0) (fun s => ∃ (j : Nat) (a' h' : Int) (out : List Int),s = (c,a',h',p,out,(j : Int)) ∧ j + out.length ≤ 4 ∧ (∀ x ∈ out,x = 1 ∨ x = p - 1) ∧ Src c a') (fun s => s.2.2.2.2.2.toNat)
   (fun b => ∃ (v : List Int) (a' h' : Int),b = (c,a',h',p,v) ∧ v.length ≤ 4 ∧ (∀ x ∈ v,x = 1 ∨ x = p - 1) ∧ Src c a') (s := (c,a2,h2,p,[],k)) ⟨k.toNat,a2,h2,[],by rw [show ((k.toNat : Nat) : Int) = k by omega],by simp; omega,by simp,S2⟩ (by rw [BIG_val]; simp only []; omega) (by
    rintro s ⟨j,a',h',out,rfl,hj,ho,hS'⟩
    unfold s_l13Draw_L0
    by_cases hj0 : 0 < j
    ·refine .inl ?_
     have w1 : w64 (p - 1) = p - 1 := w_in (by omega) (by omega)
     obtain ⟨r,a4,h4,e4,m4,S4⟩ := pick_eq (h := h') (l := [1,p - 1]) hS' (by simp) (by simp)
     have w2 : w64 ((j : Int) - 1) = ((j - 1 : Nat) : Int) := by rw [w_in (by omega) (by omega)]; omega
     simp only [show (0 : Int) < (j : Int) from by omega,if_true,w1,e4,some_bind,w2]
     rw [chk_bind (by simp only [List.length_cons,List.length_nil]; omega)]
     exact ⟨_,rfl,⟨j - 1,a4,h4,_,rfl,by simp; omega,fun x hx => by
      rcases List.mem_append.1 hx with h | h
      ·exact ho x h
      ·simp only [List.mem_cons,List.not_mem_nil,or_false] at h m4
       rw [h]; exact m4,S4⟩,by simp only []; omega⟩
    ·have : j = 0 := by omega
     subst this
     exact .inr ⟨(c,a',h',p,out),by simp,out,a',h',rfl,by omega,ho,hS'⟩)
  obtain ⟨T,C,s1,s0,s2,s3⟩ := good_signed (p := p) (w := v) (by simp only [List.mem_cons,List.not_mem_nil,or_false] at m1; rcases m1 with rfl | rfl | rfl <;> rfl) g3 g4
  simp only [c0,if_true,e1,e2,some_bind,g1,s1]
  exact ⟨T,a3,h3,rfl,s0,s2,s3,S3⟩
 simp only [c0,if_false]
 by_cases c1 : r0 = 1
 ·obtain ⟨p,a1,h1,e1,m1,S1⟩ := pick_eq (h := h0) (l := [3,5,7,11,13]) S0 (by simp) (by simp)
  obtain ⟨r2,a2,h2,e2,p2,q2,S2⟩ := next_eq (h := h1) (n := 2) S1 (by omega) (by omega)
  obtain ⟨r3,a3,h3,e3,p3,q3,S3⟩ := next_eq (h := h2) (n := 3) S2 (by omega) (by omega)
  simp only [c1,if_true,e1,e2,e3,some_bind]
  obtain ⟨P,W,eW,hU⟩ : ∃ (P : Int) (W : List Int),((if r3 = 0 then some (3,[2,2]) else some (p,[w64 (1 + r2)])) : Option (Int × List Int)) = some (P,W) ∧ okU P W = true := by
   by_cases h : r3 = 0
   ·rw [if_pos h]; exact ⟨_,_,rfl,okU_all.2⟩
   ·rw [if_neg h]
    refine ⟨_,_,rfl,?_⟩
    have := List.all_eq_true.1 okU_all.1 p m1
    have h2 : w64 (1 + r2) = 1 + r2 := w_in (by omega) (by omega)
    rw [h2]
    exact List.all_eq_true.1 this (1 + r2) (by simp only [List.mem_cons,List.not_mem_nil,or_false]; omega)
  obtain ⟨T,u1,u0,u2,u3⟩ := good_units hU
  rw [eW,some_bind,u1,some_bind]
  simp only [if_true,some_bind]
  exact ⟨_,a3,h3,rfl,u0,u2,u3,S3⟩
 simp only [c1,if_false]
 by_cases c2 : r0 = 2
 ·simp only [c2,if_true,some_bind]
  exact ⟨tab5,a0,h0,rfl,(okT_good ok_five).1,(okT_good ok_five).2.1,(okT_good ok_five).2.2,S0⟩
 ·simp only [c2,if_false,some_bind]
  exact tail a0 h0 S0
theorem set_same {a : List (List Int)} {i j : Nat} {v : Int} (hL : isLp a = true) (hi : i < a.length) (hj : j < a.length) (h : isLp (a.set i ((gR a i).set j v)) = true) : a.set i ((gR a i).set j v) = a := by
 obtain ⟨hn,h0,hm⟩ := isLp_tab hL
 have hrl := (hm.row hi).1
 have hlen : (a.set i ((gR a i).set j v)).length = a.length := by simp
 generalize hb : a.set i ((gR a i).set j v) = b at h hlen
 have hgb : gR b i = (gR a i).set j v := by
  rw [← hb]
  unfold gR
  rw [List.getD_eq_getElem?_getD,List.getElem?_set,if_pos rfl,if_pos hi]; rfl
 have hi' : i < b.length := by omega
 have hj' : j < b.length := by omega
 have tb : ∀ k,k < a.length → k ≠ j → tN b i k = tN a i k := fun k hk hkj => by
  unfold tN
  rw [hgb,gI_set (by omega),if_neg (fun e => hkj e.symm)]
 obtain ⟨k,hk,e⟩ : ∃ k,k < a.length ∧ tN a i k = tN b i j := by
  have hlt := tb_lt h hi' hj'
  rw [hlen] at hlt
  obtain ⟨x,hx⟩ := fin_sur (opF_l hL ⟨i,hi⟩) ⟨tN b i j,hlt⟩
  exact ⟨x.1,x.2,congrArg Fin.val hx⟩
 have hkj : k = j := by
  refine Classical.byContradiction fun hne => ?_
  have := tb_rowinj h hi' (by omega) hj' ((tb k hk hne).trans e)
  exact hne this
 subst hkj
 obtain ⟨hn',h0',hm'⟩ := isLp_tab h
 have e1 := (tN_lt hn hm hi hk).2
 have e2 := (tN_lt hn' hm' hi' (by omega : k < b.length)).2
 have e3 : gI (gR b i) k = v := by rw [hgb,gI_set (by omega),if_pos rfl]
 have hv : gI (gR a i) k = v := by omega
 rw [← hb]
 have hrow : (gR a i).set k v = gR a i := by
  rw [← hv,← gI_get (by omega)]
  exact List.set_getElem_self _
 rw [hrow,← gR_get hi]
 exact List.set_getElem_self _
theorem draw_any_loop {c : List Int} (hc : c.length ≤ 4096) (hb : ∀ x ∈ c,0 ≤ x ∧ x ≤ 255) : ∃ T,s_DrawIsMoufangLoop c = some T ∧ GoodL T ∧ T.length ≤ 128 := by
 unfold s_DrawIsMoufangLoop s_DrawIsLoop s_l13DrawAny
 obtain ⟨h0,e0,S0⟩ := from_eq hc hb
 obtain ⟨T,a1,h1,e1,g0,g1,l1,S1⟩ := draw_loop (h := h0) S0
 obtain ⟨r,a2,h2,e2,p2,q2,S2⟩ := next_eq (h := h1) (n := 24) S1 (by omega) (by omega)
 obtain ⟨hn,hpos,hm⟩ := isLp_tab g0
 simp only [e0,e1,e2,some_bind]
 by_cases c0 : r = 0
 ·obtain ⟨r3,a3,h3,e3,p3,q3,S3⟩ := next_eq (h := h2) (n := (T.length : Int)) S2 (by omega) (by omega)
  obtain ⟨r4,a4,h4,e4,p4,q4,S4⟩ := next_eq (h := h3) (n := (T.length : Int)) S3 (by omega) (by omega)
  obtain ⟨r5,a5,h5,e5,p5,q5,S5⟩ := next_eq (h := h4) (n := (T.length : Int) + 1) S4 (by omega) (by omega)
  obtain ⟨i,rfl⟩ := Int.eq_ofNat_of_zero_le p3
  obtain ⟨j,rfl⟩ := Int.eq_ofNat_of_zero_le p4
  have hi : i < T.length := by omega
  have hj : j < T.length := by omega
  have w1 : w64 ((T.length : Int) + 1) = (T.length : Int) + 1 := w_in (by omega) (by omega)
  simp only [c0,if_true,e3,some_bind,idxR hi,e4,w1,e5,idx_t hn hm hi hj]
  refine ⟨_,rfl,fun hL hM => ?_,by simp; omega⟩
  simp only [Int.toNat_natCast] at hL hM ⊢
  have hs := set_same g0 hi hj hL
  rw [hs] at hL hM ⊢
  exact g1 hL hM
 simp only [c0,if_false]
 by_cases c1 : r = 1
 ·simp only [c1,if_true]
  rw [chk_bind (by omega),some_bind]
  refine ⟨_,rfl,fun hL hM => ?_,by simp; omega⟩
  exfalso
  simp only [] at hL
  obtain ⟨_,k0,km⟩ := isLp_tab hL
  have h := (km.row k0).1
  have hg : gR (T.drop 1) 0 = gR T 1 := by
   unfold gR
   rw [List.getD_eq_getElem?_getD,List.getD_eq_getElem?_getD,List.getElem?_drop]
  rw [List.length_drop] at k0
  have h2 := (hm.row (show 1 < T.length by omega)).1
  rw [hg,h2,List.length_drop] at h
  omega
 simp only [c1,if_false]
 by_cases c2 : r = 2
 ·simp only [c2,if_true,some_bind]
  exact ⟨_,rfl,fun hL => by simp [isLp] at hL,by simp⟩
 ·simp only [c2,if_false,some_bind]
  exact ⟨_,rfl,g1,l1⟩
theorem LawLoops {c : List Int} (hc : c.length ≤ 9223372036854775807) (hb : ∀ x ∈ c,0 ≤ x ∧ x ≤ 255) : l_FnLoops c = some true := by
 unfold l_FnLoops l_big
 rw [some_bind]
 by_cases hbig : (4096 : Int) < (c.length : Int)
 ·rw [ilt_true hbig,if_pos rfl]
 rw [ilt_false hbig]
 simp only [Bool.false_eq_true,if_false]
 obtain ⟨a,e0,hG,hlen⟩ := draw_any_loop (c := c) (by omega) hb
 have z : a.length ≤ 1048576 := by omega
 have m1 := i_IsLoop_eq (a := a) z
 have m2 : s_IsLoop a = some (isLp a) := by unfold s_IsLoop; rw [s_l13Is_eq z,some_bind]
 cases hL : isLp a with
 | false =>
  have q1 : i_IsMoufangLoop a = some (false,1) := by
   unfold i_IsMoufangLoop
   rw [i_checkLoop_eq z (by simp),hL,some_bind]
   simp
  have q2 : s_IsMoufangLoop a = some (false,1) := by
   unfold s_IsMoufangLoop
   rw [s_l13Is_eq z,hL,some_bind]
   simp
  simp only [e0,q1,q2,m1,m2,hL,some_bind]
  simp
 | true =>
  obtain ⟨hn,h0,hm⟩ := isLp_tab hL
  have q1 := IsMoufangLoop_val hL
  have q2 : s_IsMoufangLoop a = some (allT a.length (moT a),0) := by
   unfold s_IsMoufangLoop
   rw [s_l13Is_eq z,hL,some_bind]
   simp only [Bool.true_eq_false,if_false,s_mouf3 hn hm,some_bind]
   cases allT a.length (moT a) <;> rfl
  have q3 := IsAssociativeLoop_val hL
  have q4 := IsCommutativeLoop_val hL
  have ck := checkLoop_ok hL
  have q5 : i_LoopNucleus a = some (castL ((List.range a.length).filter (nucB a)),0) := by
   unfold i_LoopNucleus
   rw [ck,some_bind]
   simp only [not_true_eq_false,if_false,i_nucleus_eq hn hm,some_bind]
  have q6 : i_LoopCentre a = some (castL ((List.range a.length).filter (cenB a)),0) := by
   obtain ⟨V,C,s1,s2,_⟩ := LoopCentre_eq (a := a) z
   rw [s2,← s1]
   unfold s_LoopCentre
   rw [s_l13Is_eq z,hL,some_bind]
   simp only [Bool.true_eq_false,if_false,s_nucleus_eq hn hm,some_bind]
  have q7 : i_CountCommuting a = some (sumN (fun x => cmN a x a.length) a.length,0) := by
   unfold i_CountCommuting
   rw [ck,some_bind]
   simp only [not_true_eq_false,if_false,count_pairs hn hm,some_bind]
  have q8 : i_CountAssociating a = some (sumN (fun x => a2N a x a.length) a.length,0) := by
   unfold i_CountAssociating
   rw [ck,some_bind]
   simp only [not_true_eq_false,if_false,count_triples hn hm,some_bind]
  have q9 := (IsDiassociativeLoop_eq (a := a) z).2
  rw [hL,if_neg (by simp)] at q9
  have q10 := Subloop_self hL (B := nucB a) (nuc_zero hL) fun x y hx hy => nuc_mul hL hx hy
  have q11 := Subloop_self hL (B := cenB a) (cen_zero hL h0) fun x y hx hy => cen_mul hL h0 hx hy
  have f1 : (sumN (fun x => cmN a x a.length) a.length = (a.length : Int) * a.length) ↔ comA a = true := pairs_full hn hm
  have f2 : (sumN (fun x => a2N a x a.length) a.length = (a.length : Int) * ((a.length : Int) * a.length)) ↔ allT a.length (asB a) = true := triples_full hn hm
  have hsq : a.length * a.length ≤ 16384 := Nat.mul_le_mul hn hn
  have hcu : a.length * (a.length * a.length) ≤ 128 * 16384 := Nat.mul_le_mul hn hsq
  have w1 : w64 ((a.length : Int) * (a.length : Int)) = (a.length : Int) * a.length := by
   have : ((a.length * a.length : Nat) : Int) = (a.length : Int) * a.length := Int.natCast_mul ..
   rw [← this,w_in (by omega) (by omega)]
  have w2 : w64 ((a.length : Int) * (a.length : Int) * (a.length : Int)) = (a.length : Int) * ((a.length : Int) * a.length) := by
   have : ((a.length * (a.length * a.length) : Nat) : Int) = (a.length : Int) * ((a.length : Int) * a.length) := by rw [Int.natCast_mul,Int.natCast_mul]
   rw [Int.mul_assoc,← this,w_in (by omega) (by omega)]
  have b1 : (allT a.length (asB a) != ieq (sumN (fun x => a2N a x a.length) a.length) ((a.length : Int) * ((a.length : Int) * a.length))) = false := by
   unfold ieq
   rw [bne_eq_false_iff_eq,Bool.eq_iff_iff,decide_eq_true_eq,f2]
  have b2 : (comA a != ieq (sumN (fun x => cmN a x a.length) a.length) ((a.length : Int) * a.length)) = false := by
   unfold ieq
   rw [bne_eq_false_iff_eq,Bool.eq_iff_iff,decide_eq_true_eq,f1]
  have hfl := List.length_filter_le (nucB a) (List.range a.length)
  have hfl2 := List.length_filter_le (cenB a) (List.range a.length)
  rw [List.length_range] at hfl hfl2
  have b3 : (allT a.length (asB a) != ieq ((castL ((List.range a.length).filter (nucB a))).length : Int) (a.length : Int)) = false := by
   unfold ieq
   rw [bne_eq_false_iff_eq,Bool.eq_iff_iff,decide_eq_true_eq,flat_nuc hL]
   simp only [castL,List.length_map]; omega
  have l1 := likeI_self (v := castL ((List.range a.length).filter (nucB a))) (by simp only [castL,List.length_map]; omega)
  have l2 := likeI_self (v := castL ((List.range a.length).filter (cenB a))) (by simp only [castL,List.length_map]; omega)
  obtain ⟨h5,e5,S5⟩ := roll_eq (c := c) 3013 (by omega) hb
  obtain ⟨x,a6,h6,e6,p6,q6',S6⟩ := below_eq (h := h5) (n := (a.length : Int)) S5 (by omega) (by omega)
  obtain ⟨i,rfl⟩ := Int.eq_ofNat_of_zero_le p6
  have hi : i < a.length := by omega
  obtain ⟨m,k1,k2,k3,k4,k5⟩ := LoopOrder_val hL ⟨i,hi⟩
  obtain ⟨x',v1,v2,v3⟩ := LoopInverse_val hL ⟨i,hi⟩
  have hx' := x'.2
  simp only [] at k3 k4 v1 v2 v3
  have t1 := idx_tb hL hi hx'
  have t2 := idx_tb hL hx' hi
  have hdi : allT a.length (moT a) = true → diaB a = true := hG hL
  have hfm : allT a.length (asB a) = true → allT a.length (moT a) = true := flat_mouf hL
  have c1 : ¬ ((x'.1 : Int) < 0) := by omega
  have c2 : ¬ ((a.length : Int) ≤ (x'.1 : Int)) := by omega
  have v2' : tN a i x'.1 = 0 := v2
  simp only [e0,q1,q2,m1,m2,hL,some_bind,q3,q4,q5,q6,q7,q8,q9,q10,q11,not_true_eq_false,if_false,bne_self_eq_false,Bool.false_eq_true,e5,e6,k3,k4,v1,c1,c2,t1.1,t1.2,t2.1,t2.2,w1,w2,b1,b2,b3,l1,l2,Bool.true_eq_false,v2']
  have hcb : ∀ f : Unit → Option Bool,(chk (¬ (m : Int) = 0)).bind f = f () := chk_bind (by omega)
  have km : (1 : Int) ≤ (m : Int) := by omega
  simp only [hcb,km,if_true]
  have hdv : ∀ hM : allT a.length (moT a) = true,(a.length : Int).tmod (m : Int) = 0 := fun hM => by
   obtain ⟨d,hd⟩ := k5 hM
   rw [Int.tmod_eq_emod_of_nonneg (by omega)]
   refine Int.emod_eq_zero_of_dvd ⟨(d : Int),?_⟩
   rw [← Int.natCast_mul,← hd]
  cases hM : allT a.length (moT a) with
  | true =>
   have hd := hdv hM
   have hv := v3 hM
   have hdi' := hdi hM
   have hv' : tN a x'.1 i = 0 := hv
   by_cases h32 : 32 < a.length
   ·have g1 : ilt 32 (a.length : Int) = true := by unfold ilt; rw [decide_eq_true_eq]; omega
    have g2 : ¬ ((a.length : Int) ≤ 32) := by omega
    cases allT a.length (asB a) <;> simp [h32,g1,g2,hd,hv',ieq]
   ·have g1 : ilt 32 (a.length : Int) = false := by unfold ilt; rw [decide_eq_false_iff_not]; omega
    have g2 : ((a.length : Int) ≤ 32) := by omega
    cases allT a.length (asB a) <;> simp [h32,g1,g2,hd,hv',ieq,hdi']
  | false =>
   have hA : allT a.length (asB a) = false := by
    cases hA : allT a.length (asB a) with
    | false => rfl
    | true => rw [hfm hA] at hM; cases hM
   by_cases h32 : 32 < a.length
   ·have g1 : ilt 32 (a.length : Int) = true := by unfold ilt; rw [decide_eq_true_eq]; omega
    simp [h32,g1,hA,ieq]
   ·have g1 : ilt 32 (a.length : Int) = false := by unfold ilt; rw [decide_eq_false_iff_not]; omega
    simp [h32,g1,hA,ieq]
end Go.Vam
