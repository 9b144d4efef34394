import Derived.Test.YtijmfifejmgeaaaPlG0
import Derived.Test.YtijmfifejmgeaaaFmG0
/- Plain laws: loops: whether a table is one; its nucleus and its centre. -/
namespace Go.Vam
open Go Go.RowKit
set_option linter.unusedSimpArgs false
set_option linter.unusedVariables false
set_option linter.unusedSectionVars false

theorem all_loopS {σ B : Type} (step : σ → Option (σ ⊕ (Unit ⊕ B))) (n : Nat) (f : Nat → Bool) (st : Nat → σ) (r : B) (hn : n < BIG)
  (hs : ∀ k,k < n → (∀ j,j < k → f j = true) → f k = true → step (st k) = some (.inl (st (k + 1)))) (hb : ∀ k,k < n → (∀ j,j < k → f j = true) → f k = false → step (st k) = some (.inr (.inr r)))
  (he : (∀ j,j < n → f j = true) → step (st n) = some (.inr (.inl ()))) : loop step BIG (st 0) = some (if (List.range n).all f then .inl () else .inr r) := by
 have key : ∀ d k m,k + d = n → d < m → (∀ j,j < k → f j = true) → loop step m (st k) = some (if (List.range n).all f then .inl () else .inr r) := by
  intro d
  induction d with
  | zero =>
   intro k m hk hm ha
   obtain ⟨m,rfl⟩ : ∃ m',m = m' + 1 := ⟨m - 1,by omega⟩
   have : k = n := by omega
   subst this
   have hall : (List.range k).all f = true := by
    rw [List.all_eq_true]
    intro x hx
    exact ha x (List.mem_range.1 hx)
   simp only [loop,he ha,hall,if_true]
  | succ d ih =>
   intro k m hk hm ha
   obtain ⟨m,rfl⟩ : ∃ m',m = m' + 1 := ⟨m - 1,by omega⟩
   cases hf : f k with
   | true =>
    simp only [loop,hs k (by omega) ha hf]
    refine ih (k + 1) m (by omega) (by omega) fun j hj => ?_
    rcases Nat.lt_succ_iff_lt_or_eq.1 hj with h | rfl
    ·exact ha j h
    ·exact hf
   | false =>
    have hall : (List.range n).all f = false := by
     rw [List.all_eq_false]
     exact ⟨k,List.mem_range.2 (by omega),by simp [hf]⟩
    simp only [loop,hb k (by omega) ha hf,hall,Bool.false_eq_true,if_false]
 exact key n 0 BIG (by omega) hn fun j hj => by omega

def marks (n : Nat) (f : Nat → Int) (j : Nat) : List Bool := (List.range n).map fun v : Nat => (List.range j).any fun k => decide (f k = (v : Int))
theorem marks_len (n : Nat) (f : Nat → Int) (j : Nat) : (marks n f j).length = n := by simp [marks]
theorem marks_zero (n : Nat) (f : Nat → Int) : marks n f 0 = List.replicate n false := by
 unfold marks
 apply List.ext_getElem
 ·simp
 ·intro i h1 h2; simp
theorem marks_get {n : Nat} {f : Nat → Int} {j : Nat} {x : Int} (h : 0 ≤ x ∧ x ≤ (n : Int) - 1) : idx (marks n f j) x = some ((List.range j).any fun k => decide (f k = x)) := by
 obtain ⟨v,rfl⟩ := Int.eq_ofNat_of_zero_le h.1
 have hv : v < n := by omega
 have : idx (marks n f j) ((v : Nat) : Int) = some ((marks n f j).getD v false) := idxD (by rw [marks_len]; exact hv) false
 rw [this]
 simp [marks,hv]
theorem marks_set {n : Nat} {f : Nat → Int} {j : Nat} (h : 0 ≤ f j ∧ f j ≤ (n : Int) - 1) : (marks n f j).set (f j).toNat true = marks n f (j + 1) := by
 unfold marks
 apply List.ext_getElem
 ·simp
 ·intro i h1 h2
  simp only [List.length_map,List.length_range,List.length_set] at h1 h2
  rw [List.getElem_set]
  simp only [List.getElem_map,List.getElem_range,List.range_succ,List.any_append,List.any_cons,List.any_nil,Bool.or_false]
  by_cases e : (f j).toNat = i
  ·rw [if_pos e]
   have : f j = (i : Int) := by omega
   simp [this]
  ·rw [if_neg e]
   have : ¬ f j = (i : Int) := by omega
   simp [this]
def okB (n : Nat) (f : Nat → Int) (j : Nat) : Bool := (decide (0 ≤ f j) && decide (f j ≤ (n : Int) - 1)) && !((List.range j).any fun k => decide (f k = f j))
def onceB (n : Nat) (f : Nat → Int) : Bool := (List.range n).all (okB n f)
theorem okB_rng {n : Nat} {f : Nat → Int} {j : Nat} (h : okB n f j = true) : 0 ≤ f j ∧ f j ≤ (n : Int) - 1 := by
 unfold okB at h
 simp only [Bool.and_eq_true,decide_eq_true_eq] at h
 exact h.1
theorem i_isOnce_eq {r : List Int} {n : Nat} (hr : r.length = n) (hn : n ≤ 1048576) : i_isOnce r = some (onceB n (gI r)) := by
 unfold i_isOnce
 rw [chk_bind (by omega)]
 have key := all_loopS (i_isOnce_L0 r) n (okB n (gI r)) (fun k => (marks n (gI r) k,(k : Int))) false (by rw [BIG_val]; omega) ?_ ?_ ?_
 ·have e0 : (List.replicate (r.length : Int).toNat false,(0 : Int)) = (marks n (gI r) 0,((0 : Nat) : Int)) := by rw [marks_zero,hr]; rfl
  rw [e0,key,some_bind]
  unfold onceB
  cases (List.range n).all (okB n (gI r)) <;> rfl
 ·intro k hk _ hf
  unfold i_isOnce_L0
  have hrng := okB_rng hf
  have hseen : ((List.range k).any fun j => decide (gI r j = gI r k)) = false := by
   unfold okB at hf
   simp only [Bool.and_eq_true,Bool.not_eq_true'] at hf
   exact hf.2
  unfold i_length_I
  simp only [hr,show (k : Int) < (n : Int) by omega,if_true,idxI (show k < r.length by omega),some_bind,i_inRange_eq,w_in (x := (n : Int) - 1) (by omega) (by omega),show decide (0 ≤ gI r k) = true from decide_eq_true hrng.1,show decide (gI r k ≤ (n : Int) - 1) = true from decide_eq_true hrng.2,
   Bool.and_self,Bool.true_eq_false,if_false,marks_get hrng,hseen,Bool.false_eq_true,marks_set hrng,w_in (x := (k : Int) + 1) (by omega) (by omega)]
  rfl
 ·intro k hk _ hf
  unfold i_isOnce_L0 i_length_I
  simp only [hr,show (k : Int) < (n : Int) by omega,if_true,idxI (show k < r.length by omega),some_bind,i_inRange_eq,w_in (x := (n : Int) - 1) (by omega) (by omega)]
  cases hrg : (decide (0 ≤ gI r k) && decide (gI r k ≤ (n : Int) - 1)) with
  | false => simp
  | true =>
   have hrng : 0 ≤ gI r k ∧ gI r k ≤ (n : Int) - 1 := by simpa using hrg
   have hseen : ((List.range k).any fun j => decide (gI r j = gI r k)) = true := by
    unfold okB at hf
    rw [hrg] at hf
    simpa using hf
   simp only [Bool.true_eq_false,if_false,marks_get hrng,hseen,some_bind,if_true]
 ·intro _
  unfold i_isOnce_L0
  simp [hr]

/-! ### Whether a table is a loop -/
def rowB (a : List (List Int)) (i : Nat) : Bool :=
 onceB a.length (gI (gR a i)) && onceB a.length (fun k => gI (gR a k) i) && (decide (gI (gR a 0) i = (i : Int)) && decide (gI (gR a i) 0 = (i : Int)))
def isLp (a : List (List Int)) : Bool :=
 (decide (1 ≤ (a.length : Int)) && decide ((a.length : Int) ≤ 128)) && ((List.range a.length).all (fun i => decide ((gR a i).length = a.length)) && (List.range a.length).all (rowB a))

theorem s_lenrows {a : List (List Int)} (hn : a.length ≤ 1048576) : loop (s_l13Is_L0 a) BIG 0 = some (if (List.range a.length).all (fun i => decide ((gR a i).length = a.length)) then .inl () else .inr false) := by
 refine all_loop _ a.length _ false (by rw [BIG_val]; omega) ?_ ?_ ?_
 ·intro k hk hf
  have hf' : (gR a k).length = a.length := by simpa using hf
  unfold s_l13Is_L0
  simp only [show (k : Int) < (a.length : Int) by omega,if_true,idxR hk,some_bind,hf',not_true_eq_false,if_false]
  rw [w_in (by omega) (by omega)]; rfl
 ·intro k hk hf
  have hf' : ¬ (gR a k).length = a.length := by simpa using hf
  unfold s_l13Is_L0
  simp only [show (k : Int) < (a.length : Int) by omega,if_true,idxR hk,some_bind,show ¬ ((gR a k).length : Int) = (a.length : Int) by omega,not_false_eq_true]
 ·unfold s_l13Is_L0
  simp
theorem i_lenrows {a : List (List Int)} (hn : a.length ≤ 1048576) : loop (i_IsLoop_L0 a) BIG 0 = some (if (List.range a.length).all (fun i => decide ((gR a i).length = a.length)) then .inl () else .inr false) := by
 refine all_loop _ a.length _ false (by rw [BIG_val]; omega) ?_ ?_ ?_
 ·intro k hk hf
  have hf' : (gR a k).length = a.length := by simpa using hf
  unfold i_IsLoop_L0
  simp only [show (k : Int) < (a.length : Int) by omega,if_true,idxR hk,some_bind,hf',not_true_eq_false,if_false]
  rw [w_in (by omega) (by omega)]; rfl
 ·intro k hk hf
  have hf' : ¬ (gR a k).length = a.length := by simpa using hf
  unfold i_IsLoop_L0
  simp only [show (k : Int) < (a.length : Int) by omega,if_true,idxR hk,some_bind,show ¬ ((gR a k).length : Int) = (a.length : Int) by omega,not_false_eq_true]
 ·unfold i_IsLoop_L0
  simp

section
variable {a : List (List Int)} (hn : a.length ≤ 128) (hl : ∀ i,i < a.length → (gR a i).length = a.length)
include hn hl
theorem s_rowcol {i : Nat} (hi : i < a.length) : loop (s_l13Is_L2 a (i : Int)) BIG (List.replicate (a.length : Int).toNat false,List.replicate (a.length : Int).toNat false,0) =
  some (if onceB a.length (gI (gR a i)) && onceB a.length (fun k => gI (gR a k) i) then .inl () else .inr (.inr (.inr false))) := by
 have e0 : (List.replicate (a.length : Int).toNat false,List.replicate (a.length : Int).toNat false,(0 : Int)) = (marks a.length (gI (gR a i)) 0,marks a.length (fun k => gI (gR a k) i) 0,((0 : Nat) : Int)) := by
  rw [marks_zero,marks_zero]; rfl
 have e1 : (onceB a.length (gI (gR a i)) && onceB a.length (fun k => gI (gR a k) i)) = (List.range a.length).all fun j => okB a.length (gI (gR a i)) j && okB a.length (fun k => gI (gR a k) i) j := by
  unfold onceB
  rw [Bool.eq_iff_iff]
  simp only [Bool.and_eq_true,List.all_eq_true]
  exact ⟨fun h x hx => ⟨h.1 x hx,h.2 x hx⟩,fun h => ⟨fun x hx => (h x hx).1,fun x hx => (h x hx).2⟩⟩
 rw [e0,e1]
 have body : ∀ k,k < a.length → s_l13Is_L2 a (i : Int) (marks a.length (gI (gR a i)) k,marks a.length (fun k => gI (gR a k) i) k,(k : Int)) =
   if okB a.length (gI (gR a i)) k && okB a.length (fun k => gI (gR a k) i) k then some (.inl (marks a.length (gI (gR a i)) (k + 1),marks a.length (fun k => gI (gR a k) i) (k + 1),((k + 1 : Nat) : Int))) else some (.inr (.inr (.inr (.inr false)))) := by
  intro k hk
  unfold s_l13Is_L2
  have li := hl i hi
  have lk := hl k hk
  simp only [show (k : Int) < (a.length : Int) by omega,if_true,idxR hi,idxR hk,idxI (show k < (gR a i).length by omega),idxI (show i < (gR a k).length by omega),some_bind,s_l01In_eq,w_in (x := (a.length : Int) - 1) (by omega) (by omega)]
  cases r1 : (decide (0 ≤ gI (gR a i) k) && decide (gI (gR a i) k ≤ (a.length : Int) - 1)) with
  | false => simp [okB,r1]
  | true =>
   have q1 : 0 ≤ gI (gR a i) k ∧ gI (gR a i) k ≤ (a.length : Int) - 1 := by simpa using r1
   simp only [Bool.true_eq_false,if_false]
   cases r2 : (decide (0 ≤ gI (gR a k) i) && decide (gI (gR a k) i ≤ (a.length : Int) - 1)) with
   | false => simp [okB,r2]
   | true =>
    have q2 : 0 ≤ (fun k => gI (gR a k) i) k ∧ (fun k => gI (gR a k) i) k ≤ (a.length : Int) - 1 := by simpa using r2
    have m2 : idx (marks a.length (fun k => gI (gR a k) i) k) (gI (gR a k) i) = some ((List.range k).any fun j => decide (gI (gR a j) i = gI (gR a k) i)) := marks_get q2
    have s2 : (marks a.length (fun k => gI (gR a k) i) k).set (gI (gR a k) i).toNat true = marks a.length (fun k => gI (gR a k) i) (k + 1) := marks_set q2
    simp only [Bool.true_eq_false,if_false,marks_get q1,m2,some_bind]
    cases r3 : ((List.range k).any fun j => decide (gI (gR a i) j = gI (gR a i) k)) with
    | true => simp [okB,r3]
    | false =>
     simp only [Bool.false_eq_true,if_false,some_bind]
     cases r4 : ((List.range k).any fun j => decide (gI (gR a j) i = gI (gR a k) i)) with
     | true => simp [okB,r4]
     | false =>
      have o1 : okB a.length (gI (gR a i)) k = true := by unfold okB; rw [r1,r3]; rfl
      have o2 : okB a.length (fun k => gI (gR a k) i) k = true := by unfold okB; rw [r2,r4]; rfl
      simp only [o1,o2,Bool.and_self,if_true,Bool.false_eq_true,if_false,marks_set q1,s2,w_in (x := (k : Int) + 1) (by omega) (by omega)]
      rfl
 refine all_loopS _ a.length _ (fun k => (marks a.length (gI (gR a i)) k,marks a.length (fun k => gI (gR a k) i) k,(k : Int))) _ (by rw [BIG_val]; omega) ?_ ?_ ?_
 ·intro k hk _ hf
  rw [body k hk,hf]; rfl
 ·intro k hk _ hf
  rw [body k hk,hf]; rfl
 ·intro _
  unfold s_l13Is_L2
  simp
end
theorem s_l13Is_eq {a : List (List Int)} (hz : a.length ≤ 1048576) : s_l13Is a = some (isLp a) := by
 unfold s_l13Is isLp
 rw [s_l01In_eq,some_bind]
 cases h0 : (decide (1 ≤ (a.length : Int)) && decide ((a.length : Int) ≤ 128)) with
 | false => simp
 | true =>
  have h0' : 1 ≤ (a.length : Int) ∧ (a.length : Int) ≤ 128 := by simpa using h0
  rw [s_lenrows hz]
  cases h1 : (List.range a.length).all (fun i => decide ((gR a i).length = a.length)) with
  | false => simp
  | true =>
   have hl : ∀ i,i < a.length → (gR a i).length = a.length := fun i hi => by
    have := List.all_eq_true.1 h1 i (List.mem_range.2 hi)
    simpa using this
   have hn : a.length ≤ 128 := by omega
   have key : loop (s_l13Is_L1 a) BIG 0 = some (if (List.range a.length).all (rowB a) then .inl () else .inr false) := by
    have body : ∀ k,k < a.length → s_l13Is_L1 a (k : Int) = if rowB a k then some (.inl ((k + 1 : Nat) : Int)) else some (.inr (.inr false)) := by
     intro k hk
     unfold s_l13Is_L1
     rw [if_pos (by omega),chk_bind (by omega),chk_bind (by omega),s_rowcol hn hl hk]
     have l0 := hl 0 (by omega)
     have lk := hl k hk
     unfold rowB
     cases (onceB a.length (gI (gR a k)) && onceB a.length (fun j => gI (gR a j) k)) with
     | false => simp
     | true =>
      simp only [if_true,some_bind,idxR0 (show 0 < a.length by omega),idxI (show k < (gR a 0).length by omega),idxR hk,idxI0 (show 0 < (gR a k).length by omega),Bool.true_and]
      by_cases c1 : gI (gR a 0) k = (k : Int)
      ·by_cases c2 : gI (gR a k) 0 = (k : Int)
       ·simp only [c1,c2,not_true_eq_false,if_false,some_bind,ieq_self,Bool.not_true,Bool.false_eq_true,decide_true,Bool.and_self,if_true,w_in (x := (k : Int) + 1) (by omega) (by omega)]
        rfl
       ·have : ieq (gI (gR a k) 0) (k : Int) = false := by simp [ieq,c2]
        simp [c1,c2,this]
      ·simp [c1]
    refine all_loop _ a.length (rowB a) false (by rw [BIG_val]; omega) ?_ ?_ ?_
    ·intro k hk hf
     rw [body k hk,if_pos hf]
    ·intro k hk hf
     rw [body k hk,if_neg (by simp [hf])]
    ·unfold s_l13Is_L1
     simp
   simp only [Bool.true_eq_false,if_false,if_true,some_bind,key,Bool.true_and]
   cases (List.range a.length).all (rowB a) <;> rfl

theorem onceB_rng {n : Nat} {f : Nat → Int} (h : onceB n f = true) {j : Nat} (hj : j < n) : 0 ≤ f j ∧ f j ≤ (n : Int) - 1 :=
 okB_rng (List.all_eq_true.1 h j (List.mem_range.2 hj))
theorem onceB_congr {n : Nat} {f g : Nat → Int} (h : ∀ j,j < n → f j = g j) : onceB n f = onceB n g := by
 unfold onceB
 rw [Bool.eq_iff_iff]
 simp only [List.all_eq_true,List.mem_range]
 have key : ∀ x,x < n → okB n f x = okB n g x := fun x hx => by
  unfold okB
  rw [h x hx]
  congr 2
  rw [Bool.eq_iff_iff]
  simp only [List.any_eq_true,List.mem_range,decide_eq_true_eq]
  constructor
  ·rintro ⟨k,hk,e⟩; exact ⟨k,hk,by rw [← h k (by omega)]; exact e⟩
  ·rintro ⟨k,hk,e⟩; exact ⟨k,hk,by rw [h k (by omega)]; exact e⟩
 exact ⟨fun H x hx => by rw [← key x hx]; exact H x hx,fun H x hx => by rw [key x hx]; exact H x hx⟩
theorem contains_once {m : List (List Int)} {n : Nat} (hm : m.length ≤ 1048576) (hn : n ≤ 1048576) (hr : ∀ k,k < m.length → (gR m k).length = n) :
  g_slices_ContainsFunc_LLI_LI_of_i_IsLoop_c1 m = some (!(List.range m.length).all fun k => onceB n (gI (gR m k))) := by
 unfold g_slices_ContainsFunc_LLI_LI_of_i_IsLoop_c1 g_slices_IndexFunc_LLI_LI_of_i_IsLoop_c1
 have core : ∀ k,k < m.length → i_IsLoop_c1 (gR m k) = some (!onceB n (gI (gR m k))) := fun k hk => by
  unfold i_IsLoop_c1
  rw [i_isOnce_eq (hr k hk) hn,some_bind]
 obtain ⟨b,h1,h2⟩ := any_loop (g_slices_IndexFunc_LLI_LI_of_i_IsLoop_c1_L0 m) m.length (fun k => !onceB n (gI (gR m k))) (fun k => (k : Int)) (by rw [BIG_val]; omega)
  (fun k hk hf => by
   unfold g_slices_IndexFunc_LLI_LI_of_i_IsLoop_c1_L0
   simp only [show (k : Int) < (m.length : Int) by omega,if_true,idxR hk,some_bind,core k hk,hf,Bool.false_eq_true,if_false]
   rw [w_in (by omega) (by omega)]; rfl) (fun k hk hf => by
   unfold g_slices_IndexFunc_LLI_LI_of_i_IsLoop_c1_L0
   simp only [show (k : Int) < (m.length : Int) by omega,if_true,idxR hk,some_bind,core k hk,hf]) (by
   unfold g_slices_IndexFunc_LLI_LI_of_i_IsLoop_c1_L0
   simp)
 rw [not_all,h1]
 rcases h2 with ⟨rfl,h3⟩ | ⟨k,hk,rfl,hf,h3,_⟩
 ·rw [h3]; simp [ile]
 ·rw [h3]; simp [ile]
theorem i_IsLoop_eq {a : List (List Int)} (hz : a.length ≤ 1048576) : i_IsLoop a = some (isLp a) := by
 unfold i_IsLoop isLp
 by_cases hA : (a.length : Int) < 1
 ·have : decide (1 ≤ (a.length : Int)) = false := decide_eq_false (by omega)
  simp [hA,this]
 by_cases hB : (128 : Int) < (a.length : Int)
 ·have : decide ((a.length : Int) ≤ 128) = false := decide_eq_false (by omega)
  simp [hA,this,ilt_true hB]
 have hd : (decide (1 ≤ (a.length : Int)) && decide ((a.length : Int) ≤ 128)) = true := by simp; omega
 have hn : a.length ≤ 128 := by omega
 rw [hd,i_lenrows hz]
 simp only [hA,if_false,some_bind,ilt_false hB,Bool.false_eq_true]
 cases h1 : (List.range a.length).all (fun i => decide ((gR a i).length = a.length)) with
 | false => simp
 | true =>
  have hl : ∀ i,i < a.length → (gR a i).length = a.length := fun i hi => by
   have := List.all_eq_true.1 h1 i (List.mem_range.2 hi)
   simpa using this
  let f : Nat → Bool := fun i => onceB a.length (gI (gR a i)) && (decide (gI (gR a 0) i = (i : Int)) && decide (gI (gR a i) 0 = (i : Int)))
  have key : loop (i_IsLoop_L1 a) BIG 0 = some (if (List.range a.length).all f then .inl () else .inr false) := by
   have body : ∀ k,k < a.length → i_IsLoop_L1 a (k : Int) = if f k then some (.inl ((k + 1 : Nat) : Int)) else some (.inr (.inr false)) := by
    intro k hk
    unfold i_IsLoop_L1
    have l0 := hl 0 (by omega)
    have lk := hl k hk
    simp only [show (k : Int) < (a.length : Int) by omega,if_true,idxR hk,some_bind,idxI0 (show 0 < (gR a k).length by omega),idxR0 (show 0 < a.length by omega),idxI (show k < (gR a 0).length by omega),i_isOnce_eq lk hz,f]
    by_cases c2 : gI (gR a k) 0 = (k : Int)
    ·by_cases c1 : gI (gR a 0) k = (k : Int)
     ·simp only [c1,c2,not_true_eq_false,if_false,some_bind,decide_true,Bool.and_self,Bool.and_true]
      cases onceB a.length (gI (gR a k)) with
      | true =>
       simp only [Bool.not_true,Bool.false_eq_true,if_false,if_true,w_in (x := (k : Int) + 1) (by omega) (by omega)]
       rfl
      | false => simp
     ·simp [c1,c2]
    ·simp [c2]
   refine all_loop _ a.length f false (by rw [BIG_val]; omega) ?_ ?_ ?_
   ·intro k hk hf
    rw [body k hk,if_pos hf]
   ·intro k hk hf
    rw [body k hk,if_neg (by simp [hf])]
   ·unfold i_IsLoop_L1
    simp
  simp only [if_true,some_bind,key,Bool.true_and]
  have hrow : (List.range a.length).all (rowB a) = ((List.range a.length).all f && (List.range a.length).all fun k => onceB a.length (fun j => gI (gR a j) k)) := by
   rw [Bool.eq_iff_iff]
   simp only [Bool.and_eq_true,List.all_eq_true,rowB,f]
   exact ⟨fun h => ⟨fun x hx => ⟨(h x hx).1.1,(h x hx).2⟩,fun x hx => (h x hx).1.2⟩,fun h x hx => ⟨⟨(h.1 x hx).1,h.2 x hx⟩,(h.1 x hx).2⟩⟩
  rw [hrow]
  cases hf : (List.range a.length).all f with
  | false => simp
  | true =>
   have hm : Mat (a.length : Int) a.length a.length a := ⟨rfl,fun i hi => ⟨hl i hi,fun k hk => by
    have h3 := List.all_eq_true.1 hf i (List.mem_range.2 hi)
    simp only [f,Bool.and_eq_true] at h3
    have := onceB_rng h3.1 hk
    exact ⟨this.1,by omega⟩⟩⟩
   have ht := i_transpose_eq (show 0 < a.length by omega) hz hz hm
   have hlen : (turnm a.length a.length a).length = a.length := by unfold turnm; exact vecN_len _ _
   have hrr : ∀ k,k < (turnm a.length a.length a).length → (gR (turnm a.length a.length a) k).length = a.length := fun k hk => by
    rw [hlen] at hk
    unfold turnm
    rw [gR_vecN _ hk]
    exact vecN_len _ _
   simp only [if_true,ht,some_bind,contains_once (by rw [hlen]; exact hz) hz hrr,Bool.not_not,Bool.true_and]
   congr 1
   rw [hlen,Bool.eq_iff_iff]
   simp only [List.all_eq_true,List.mem_range]
   have : ∀ k,k < a.length → onceB a.length (gI (gR (turnm a.length a.length a) k)) = onceB a.length (fun j => gI (gR a j) k) := fun k hk => onceB_congr fun j hj => turnm_at hj hk
   exact ⟨fun h x hx => by rw [← this x hx]; exact h x hx,fun h x hx => by rw [this x hx]; exact h x hx⟩
/-! ### The nucleus and the centre -/
theorem isLp_tab {a : List (List Int)} (h : isLp a = true) : a.length ≤ 128 ∧ 0 < a.length ∧ Mat (a.length : Int) a.length a.length a := by
 unfold isLp at h
 simp only [Bool.and_eq_true,List.all_eq_true,List.mem_range,decide_eq_true_eq] at h
 refine ⟨by omega,by omega,rfl,fun i hi => ⟨h.2.1 i hi,fun k hk => ?_⟩⟩
 have h3 := h.2.2 i hi
 unfold rowB at h3
 simp only [Bool.and_eq_true] at h3
 have := onceB_rng h3.1.1 hk
 exact ⟨this.1,by omega⟩
def tN (a : List (List Int)) (i j : Nat) : Nat := (gI (gR a i) j).toNat
def asB (a : List (List Int)) (x y z : Nat) : Bool := decide (tN a (tN a x y) z = tN a x (tN a y z))
def as3 (a : List (List Int)) (x y z : Nat) : Bool := asB a x y z && asB a y x z && asB a y z x
def comB (a : List (List Int)) (x y : Nat) : Bool := decide (tN a x y = tN a y x)
section
variable {a : List (List Int)} (hn : a.length ≤ 128) (hm : Mat (a.length : Int) a.length a.length a)
include hn hm
theorem tN_lt {i j : Nat} (hi : i < a.length) (hj : j < a.length) : tN a i j < a.length ∧ gI (gR a i) j = ((tN a i j : Nat) : Int) := by
 have := (hm.row hi).get hj
 unfold tN
 omega
theorem idx_t {i j : Nat} (hi : i < a.length) (hj : j < a.length) : idx (gR a i) (j : Int) = some ((tN a i j : Nat) : Int) := by
 have h1 := (hm.row hi).1
 rw [idxI (by omega),(tN_lt hn hm hi hj).2]
theorem as_eq {x y z : Nat} (hx : x < a.length) (hy : y < a.length) (hz : z < a.length) : s_l13Associates a (x : Int) (y : Int) (z : Int) = some (asB a x y z) ∧ i_associates a (x : Int) (y : Int) (z : Int) = some (asB a x y z) := by
 have t1 := (tN_lt hn hm hx hy).1
 have t2 := (tN_lt hn hm hy hz).1
 unfold s_l13Associates i_associates asB
 rw [idxR hx,some_bind,idx_t hn hm hx hy,some_bind,idxR t1,some_bind,idx_t hn hm t1 hz,some_bind,idxR hy,some_bind,idx_t hn hm hy hz,some_bind,idx_t hn hm hx t2,some_bind,ieq_nat]
 exact ⟨rfl,rfl⟩
end

theorem and_loop (step : Bool × Int → Option ((Bool × Int) ⊕ Bool)) (n : Nat) (f : Nat → Bool) (hn : n < BIG) (hs : ∀ k,k < n → step (true,(k : Int)) = some (.inl (f k,((k + 1 : Nat) : Int))))
  (hb : ∀ k,k ≤ n → step (false,(k : Int)) = some (.inr false)) (he : step (true,(n : Int)) = some (.inr true)) (b : Bool) : loop step BIG (b,0) = some (b && (List.range n).all f) := by
 have key : ∀ d k m b,k + d = n → d < m → loop step m (b,(k : Int)) = some (b && (List.range' k d).all f) := by
  intro d
  induction d with
  | zero =>
   intro k m b hk hm
   obtain ⟨m,rfl⟩ : ∃ m',m = m' + 1 := ⟨m - 1,by omega⟩
   have : k = n := by omega
   subst this
   cases b with
   | true => simp [loop,he]
   | false => simp [loop,hb k (Nat.le_refl _)]
  | succ d ih =>
   intro k m b hk hm
   obtain ⟨m,rfl⟩ : ∃ m',m = m' + 1 := ⟨m - 1,by omega⟩
   cases b with
   | true =>
    simp only [loop,hs k (by omega)]
    rw [ih (k + 1) m (f k) (by omega) (by omega)]
    simp [List.range'_succ]
   | false => simp [loop,hb k (by omega)]
 have := key n 0 BIG b (by omega) hn
 rw [List.range_eq_range']
 exact this
theorem foldN_and (f : Nat → Bool) (b : Bool) : ∀ n,foldN (fun k s => s && f k) b n = (b && (List.range n).all f)
 | 0 => by simp [foldN]
 | n + 1 => by simp [foldN,foldN_and f b n,List.range_succ,Bool.and_assoc]
theorem foldN_filter (F : Nat → Bool) : ∀ n,foldN (fun k s => if F k then s ++ [(k : Int)] else s) ([] : List Int) n = ((List.range n).filter F).map (fun k : Nat => (k : Int))
 | 0 => by simp [foldN]
 | n + 1 => by
  simp only [foldN,foldN_filter F n,List.range_succ,List.filter_append,List.map_append]
  cases h : F n <;> simp [h]

section
variable {a : List (List Int)} (hn : a.length ≤ 128) (hm : Mat (a.length : Int) a.length a.length a)
include hn hm
def nucB (a : List (List Int)) (x : Nat) : Bool := (List.range a.length).all fun y => (List.range a.length).all fun z => as3 a x y z
def cenB (a : List (List Int)) (x : Nat) : Bool := (List.range a.length).all fun y => comB a x y && (List.range a.length).all fun z => as3 a x y z
theorem i_nuc2 {x y : Nat} (hx : x < a.length) (hy : y < a.length) (out : List Int) (b b2 : Bool) : loop (i_nucleus_L2 a (out,(x : Int)) (b2,(y : Int)) (a.length : Int)) BIG (b,0) = some (b && (List.range a.length).all fun z => as3 a x y z) := by
 obtain ⟨h1,_⟩ := fold_loop (i_nucleus_L2 a (out,(x : Int)) (b2,(y : Int)) (a.length : Int)) a.length (fun k s => s && as3 a x y k) b (fun _ _ => True) id (by rw [BIG_val]; omega) trivial (fun _ _ _ _ => trivial)
  (fun k s hk _ => by
   unfold i_nucleus_L2
   have e1 := (as_eq hn hm hx hy hk).2
   have e2 := (as_eq hn hm hy hx hk).2
   have e3 := (as_eq hn hm hy hk hx).2
   simp only [show (k : Int) < (a.length : Int) by omega,if_true,e1,e2,e3,some_bind,w_in (x := (k : Int) + 1) (by omega) (by omega)]
   unfold as3
   cases s <;> cases asB a x y k <;> cases asB a y x k <;> cases asB a y k x <;> rfl) (fun s _ => by
   unfold i_nucleus_L2
   simp)
 rw [h1,foldN_and]; rfl
theorem i_nuc1 {x : Nat} (hx : x < a.length) (out : List Int) : loop (i_nucleus_L1 a (out,(x : Int)) (a.length : Int)) BIG (true,0) = some (nucB a x) := by
 obtain ⟨h1,_⟩ := fold_loop (i_nucleus_L1 a (out,(x : Int)) (a.length : Int)) a.length (fun y s => s && (List.range a.length).all fun z => as3 a x y z) true (fun _ _ => True) id (by rw [BIG_val]; omega) trivial (fun _ _ _ _ => trivial)
  (fun k s hk _ => by
   unfold i_nucleus_L1 i_length_LI
   simp only [show (k : Int) < (a.length : Int) by omega,if_true,some_bind,i_nuc2 hn hm hx hk,w_in (x := (k : Int) + 1) (by omega) (by omega)]
   rfl) (fun s _ => by
   unfold i_nucleus_L1
   simp)
 rw [h1,foldN_and]; rfl
theorem i_nucleus_eq : i_nucleus a = some (((List.range a.length).filter (nucB a)).map fun k : Nat => (k : Int)) := by
 unfold i_nucleus i_length_LI
 rw [some_bind]
 obtain ⟨h1,_⟩ := fold_loop (i_nucleus_L0 a (a.length : Int)) a.length (fun k s => if nucB a k then s ++ [(k : Int)] else s) [] (fun k s => s.length ≤ k) id (by rw [BIG_val]; omega) (by simp)
  (fun k s hk hs => by
   split
   ·simp; omega
   ·omega)
  (fun k s hk hs => by
   unfold i_nucleus_L0 i_length_LI
   simp only [show (k : Int) < (a.length : Int) by omega,if_true,some_bind,i_nuc1 hn hm hk]
   cases nucB a k with
   | true =>
    simp only [if_true]
    rw [chk_bind (by simp only [List.length_cons,List.length_nil]; omega),some_bind,w_in (by omega) (by omega)]
    rfl
   | false =>
    simp only [Bool.false_eq_true,if_false,some_bind]
    rw [w_in (by omega) (by omega)]
    rfl) (fun s _ => by
   unfold i_nucleus_L0
   simp)
 rw [h1,some_bind,foldN_filter]; rfl
theorem s_nuc2 {x y : Nat} (hx : x < a.length) (hy : y < a.length) (out : List Int) (b b2 : Bool) : loop (s_l13Nucleus_L2 a (out,(x : Int)) (b2,(y : Int))) BIG (b,0) = some (b && (List.range a.length).all fun z => as3 a x y z) := by
 refine and_loop _ a.length (fun z => as3 a x y z) (by rw [BIG_val]; omega) ?_ ?_ ?_ b
 ·intro k hk
  unfold s_l13Nucleus_L2
  have e1 := (as_eq hn hm hx hy hk).1
  have e2 := (as_eq hn hm hy hx hk).1
  have e3 := (as_eq hn hm hy hk hx).1
  simp only [show (k : Int) < (a.length : Int) by omega,if_true,e1,e2,e3,some_bind,w_in (x := (k : Int) + 1) (by omega) (by omega)]
  unfold as3
  cases asB a x y k <;> cases asB a y x k <;> cases asB a y k x <;> rfl
 ·intro k hk
  unfold s_l13Nucleus_L2
  by_cases h : (k : Int) < (a.length : Int) <;> simp [h]
 ·unfold s_l13Nucleus_L2
  simp
theorem s_nuc1 {x : Nat} (hx : x < a.length) (out : List Int) : loop (s_l13Nucleus_L1 a true (out,(x : Int))) BIG (true,0) = some (cenB a x) := by
 have := and_loop (s_l13Nucleus_L1 a true (out,(x : Int))) a.length (fun y => comB a x y && (List.range a.length).all fun z => as3 a x y z) (by rw [BIG_val]; omega) (fun k hk => by
   unfold s_l13Nucleus_L1
   have hc : ieq (gI (gR a x) k) (gI (gR a k) x) = comB a x k := by
    rw [(tN_lt hn hm hx hk).2,(tN_lt hn hm hk hx).2,ieq_nat]; rfl
   have r1 := (hm.row hx).1
   have r2 := (hm.row hk).1
   simp only [show (k : Int) < (a.length : Int) by omega,if_true,some_bind,Bool.true_eq_false,if_false,idxR hx,idxR hk,idxI (show k < (gR a x).length by omega),idxI (show x < (gR a k).length by omega),hc,s_nuc2 hn hm hx hk,w_in (x := (k : Int) + 1) (by omega) (by omega)]
   rfl) (fun k hk => by
   unfold s_l13Nucleus_L1
   by_cases h : (k : Int) < (a.length : Int) <;> simp [h]) (by
   unfold s_l13Nucleus_L1
   simp) true
 rw [this]; rfl
theorem s_nucleus_eq : s_l13Nucleus a true = some (((List.range a.length).filter (cenB a)).map fun k : Nat => (k : Int)) := by
 unfold s_l13Nucleus
 obtain ⟨h1,_⟩ := fold_loop (s_l13Nucleus_L0 a true) a.length (fun k s => if cenB a k then s ++ [(k : Int)] else s) [] (fun k s => s.length ≤ k) id (by rw [BIG_val]; omega) (by simp)
  (fun k s hk hs => by
   split
   ·simp; omega
   ·omega)
  (fun k s hk hs => by
   unfold s_l13Nucleus_L0
   simp only [show (k : Int) < (a.length : Int) by omega,if_true,some_bind,s_nuc1 hn hm hk]
   cases cenB a k with
   | true =>
    simp only [if_true]
    rw [chk_bind (by simp only [List.length_cons,List.length_nil]; omega),some_bind,w_in (by omega) (by omega)]
    rfl
   | false =>
    simp only [Bool.false_eq_true,if_false,some_bind]
    rw [w_in (by omega) (by omega)]
    rfl) (fun s _ => by
   unfold s_l13Nucleus_L0
   simp)
 rw [h1,some_bind,foldN_filter]; rfl
theorem c1_eq {x : Nat} (hx : x < a.length) : i_LoopCentre_c1 (x : Int) a = some (!(List.range a.length).all (comB a x)) := by
 unfold i_LoopCentre_c1
 rw [all_loop _ a.length (comB a x) true (by rw [BIG_val]; omega)]
 ·rw [some_bind]
  cases (List.range a.length).all (comB a x) <;> rfl
 ·intro k hk hf
  unfold i_LoopCentre_c1_L0
  have r1 := (hm.row hx).1
  have r2 := (hm.row hk).1
  have e : gI (gR a x) k = gI (gR a k) x := by
   rw [(tN_lt hn hm hx hk).2,(tN_lt hn hm hk hx).2]
   have : tN a x k = tN a k x := by simpa [comB] using hf
   rw [this]
  simp only [show (k : Int) < (a.length : Int) by omega,if_true,some_bind,idxR hx,idxR hk,idxI (show k < (gR a x).length by omega),idxI (show x < (gR a k).length by omega),e,not_true_eq_false,if_false]
  rw [w_in (by omega) (by omega)]; rfl
 ·intro k hk hf
  unfold i_LoopCentre_c1_L0
  have r1 := (hm.row hx).1
  have r2 := (hm.row hk).1
  have e : ¬ gI (gR a x) k = gI (gR a k) x := by
   rw [(tN_lt hn hm hx hk).2,(tN_lt hn hm hk hx).2]
   have : ¬ tN a x k = tN a k x := by simpa [comB] using hf
   omega
  simp only [show (k : Int) < (a.length : Int) by omega,if_true,some_bind,idxR hx,idxR hk,idxI (show k < (gR a x).length by omega),idxI (show x < (gR a k).length by omega),e,not_false_eq_true]
 ·unfold i_LoopCentre_c1_L0
  simp
end

theorem take_succ_gI {xs : List Int} {j : Nat} (h : j < xs.length) : xs.take (j + 1) = xs.take j ++ [gI xs j] := by
 rw [List.take_add_one,List.getElem?_eq_getElem h,gI_get h]; rfl
theorem delete_eq {a : List (List Int)} {xs : List Int} {D : Int → Bool} (hx : xs.length ≤ 1048576) (hD : ∀ k,k < xs.length → i_LoopCentre_c1 (gI xs k) a = some (D (gI xs k))) :
  g_slices_DeleteFunc_LI_I_of_i_LoopCentre_c1 xs a = some (xs.filter fun x => !D x) := by
 unfold g_slices_DeleteFunc_LI_I_of_i_LoopCentre_c1 g_slices_IndexFunc_LI_I_of_i_LoopCentre_c1
 obtain ⟨b,h1,h2⟩ := any_loop (g_slices_IndexFunc_LI_I_of_i_LoopCentre_c1_L0 xs a) xs.length (fun k => D (gI xs k)) (fun k => (k : Int)) (by rw [BIG_val]; omega)
  (fun k hk hf => by
   unfold g_slices_IndexFunc_LI_I_of_i_LoopCentre_c1_L0
   simp only [show (k : Int) < (xs.length : Int) by omega,if_true,idxI hk,some_bind,hD k hk,hf,Bool.false_eq_true,if_false]
   rw [w_in (by omega) (by omega)]; rfl) (fun k hk hf => by
   unfold g_slices_IndexFunc_LI_I_of_i_LoopCentre_c1_L0
   simp only [show (k : Int) < (xs.length : Int) by omega,if_true,idxI hk,some_bind,hD k hk,hf]) (by
   unfold g_slices_IndexFunc_LI_I_of_i_LoopCentre_c1_L0
   simp)
 rw [h1]
 rcases h2 with ⟨rfl,h3⟩ | ⟨k0,hk0,rfl,hf0,_,hbef⟩
 ·simp only [some_bind,if_true]
  congr 1
  symm
  rw [List.filter_eq_self]
  intro x hx'
  obtain ⟨k,hk,rfl⟩ := List.getElem_of_mem hx'
  rw [gI_get hk]
  have := List.any_eq_false.1 h3 k (List.mem_range.2 hk)
  simpa using this
 ·simp only [some_bind,show ¬ (k0 : Int) = -1 by omega,if_false]
  have hpre : ∀ t,t ≤ k0 → (xs.take t).filter (fun x => !D x) = xs.take t := by
   intro t ht
   rw [List.filter_eq_self]
   intro x hx'
   obtain ⟨k,hk,rfl⟩ := List.getElem_of_mem hx'
   have hk' : k < k0 := by simp at hk; omega
   rw [List.getElem_take,gI_get (show k < xs.length by omega)]
   simpa using hbef k hk'
  obtain ⟨b,h4,h5⟩ := loop_inv (step := g_slices_DeleteFunc_LI_I_of_i_LoopCentre_c1_L0 a)
   (fun s => ∃ (L : List Int) (i j : Nat),s = (L,(i : Int),(j : Int)) ∧ i < j ∧ j ≤ xs.length ∧ L.length = xs.length ∧ (∀ t,j ≤ t → gI L t = gI xs t) ∧ L.take i = (xs.take j).filter fun x => !D x) (fun s => xs.length - s.2.2.toNat)
   (fun b => ∃ (L : List Int) (i : Nat),b = (L,(i : Int)) ∧ i ≤ L.length ∧ L.take i = xs.filter fun x => !D x) (s := (xs,(k0 : Int),w64 ((k0 : Int) + 1)))
   ⟨xs,k0,k0 + 1,by rw [w_in (by omega) (by omega)]; rfl,by omega,by omega,rfl,fun _ _ => rfl,by
    rw [take_succ_gI hk0,List.filter_append,hpre k0 (Nat.le_refl _)]
    simp [hf0]⟩ (by rw [BIG_val]; omega) (by
   rintro s ⟨L,i,j,rfl,hij,hj,hL,hsame,hpr⟩
   by_cases hjn : j < xs.length
   ·left
    have hg : gI L j = gI xs j := hsame j (Nat.le_refl _)
    unfold g_slices_DeleteFunc_LI_I_of_i_LoopCentre_c1_L0
    simp only [hL,show (j : Int) < (xs.length : Int) by omega,if_true,idxI (show j < L.length by omega),hg,some_bind,hD j hjn,w_in (x := (j : Int) + 1) (show -9223372036854775808 ≤ (j : Int) + 1 by omega) (by omega)]
    cases hd : D (gI xs j) with
    | true =>
     refine ⟨(L,(i : Int),((j + 1 : Nat) : Int)),rfl,⟨L,i,j + 1,rfl,by omega,by omega,hL,fun t ht => hsame t (by omega),?_⟩,by simp only [Int.toNat_natCast]; omega⟩
     rw [take_succ_gI hjn,List.filter_append,hpr]
     simp [hd]
    | false =>
     simp only [if_true,idxI (show i < L.length by omega),some_bind,w_in (x := (i : Int) + 1) (show -9223372036854775808 ≤ (i : Int) + 1 by omega) (by omega),Int.toNat_natCast]
     refine ⟨(L.set i (gI xs j),((i + 1 : Nat) : Int),((j + 1 : Nat) : Int)),rfl,⟨L.set i (gI xs j),i + 1,j + 1,rfl,by omega,by omega,by simpa using hL,fun t ht => ?_,?_⟩,by simp only [Int.toNat_natCast]; omega⟩
     ·rw [← hsame t (by omega)]
      unfold gI
      simp only [List.getD_eq_getElem?_getD]
      rw [List.getElem?_set_ne (by omega)]
     ·rw [take_succ_gI hjn,List.filter_append,← hpr,List.take_add_one,List.take_set_of_le (Nat.le_refl _),List.getElem?_set_self (by omega)]
      simp [hd]
   ·right
    have : j = xs.length := by omega
    subst this
    unfold g_slices_DeleteFunc_LI_I_of_i_LoopCentre_c1_L0
    refine ⟨(L,(i : Int)),by simp [hL],L,i,rfl,by omega,?_⟩
    rw [hpr,List.take_length])
  obtain ⟨L,i,rfl,hi,hL⟩ := h5
  rw [h4,some_bind,chk_bind (show 0 ≤ (i : Int) ∧ (i : Int) ≤ (L.length : Int) by omega),chk_bind (show 0 ≤ (i : Int) ∧ (i : Int) ≤ (L.length : Int) by omega)]
  simp only [Int.toNat_natCast,hL]

theorem LoopCentre_eq {a : List (List Int)} (hz : a.length ≤ 1048576) : ∃ V C,s_LoopCentre a = some (V,C) ∧ i_LoopCentre a = some (V,C) ∧ V.length ≤ 1048576 := by
 unfold s_LoopCentre i_LoopCentre i_checkLoop
 rw [s_l13Is_eq hz,i_IsLoop_eq hz,some_bind,some_bind]
 cases hL : isLp a with
 | false => exact ⟨[],1,by simp,by simp,by simp⟩
 | true =>
  obtain ⟨hn,h0,hm⟩ := isLp_tab hL
  have hc : g_slices_ContainsFunc_LI_I_of_i_checkLoop_c1 [] a = some false := by
   unfold g_slices_ContainsFunc_LI_I_of_i_checkLoop_c1 g_slices_IndexFunc_LI_I_of_i_checkLoop_c1
   have : loop (g_slices_IndexFunc_LI_I_of_i_checkLoop_c1_L0 [] a) BIG 0 = some (.inl ()) := by
    obtain ⟨m,hm'⟩ : ∃ m,BIG = m + 1 := ⟨BIG - 1,by rw [BIG_val]⟩
    rw [hm']
    simp [loop,g_slices_IndexFunc_LI_I_of_i_checkLoop_c1_L0]
   rw [this]
   simp [ile]
  have hlen : (((List.range a.length).filter (nucB a)).map fun k : Nat => (k : Int)).length ≤ 128 := by
   rw [List.length_map]
   have := List.length_filter_le (nucB a) (List.range a.length)
   simp at this; omega
  have hdel := delete_eq (a := a) (xs := ((List.range a.length).filter (nucB a)).map fun k : Nat => (k : Int)) (D := fun x => !(List.range a.length).all (comB a x.toNat)) (by omega) (fun k hk => by
   rw [← gI_get hk,List.getElem_map]
   have hmem := List.getElem_mem (l := (List.range a.length).filter (nucB a)) (n := k) (by simpa using hk)
   have := List.mem_range.1 (List.mem_filter.1 hmem).1
   rw [c1_eq hn hm this]
   simp)
  simp only [Bool.true_eq_false,if_false,hc,some_bind,not_true_eq_false,i_nucleus_eq hn hm,s_nucleus_eq hn hm,hdel,Bool.false_eq_true]
  have e : (((List.range a.length).filter (nucB a)).map fun k : Nat => (k : Int)).filter (fun x => !!(List.range a.length).all (comB a x.toNat)) = ((List.range a.length).filter (cenB a)).map fun k : Nat => (k : Int) := by
   rw [List.filter_map,List.filter_filter]
   congr 1
   refine List.filter_congr fun x _ => ?_
   simp only [Function.comp,Bool.not_not,Int.toNat_natCast]
   unfold cenB nucB
   rw [Bool.eq_iff_iff]
   simp only [Bool.and_eq_true,List.all_eq_true]
   exact ⟨fun h y hy => ⟨h.1 y hy,h.2 y hy⟩,fun h => ⟨fun y hy => (h y hy).1,fun y hy => (h y hy).2⟩⟩
  refine ⟨_,0,rfl,by rw [e],?_⟩
  rw [List.length_map]
  have := List.length_filter_le (cenB a) (List.range a.length)
  simp at this; omega

end Go.Vam

/- Plain laws: what is made of some elements of a loop: the search of both programs ends with it. -/
namespace Go.Vam
open Go Go.RowKit
set_option linter.unusedSimpArgs false
set_option linter.unusedVariables false
set_option linter.unusedSectionVars false

inductive Mk (a : List (List Int)) (S : Nat → Prop) : Nat → Prop
 | zero : Mk a S 0
 | seed {x : Nat} : S x → Mk a S x
 | mul {x y : Nat} : Mk a S x → Mk a S y → Mk a S (tN a x y)
theorem Mk.mono {a : List (List Int)} {S T : Nat → Prop} (h : ∀ x,S x → T x) {x : Nat} (hx : Mk a S x) : Mk a T x := by
 induction hx with
 | zero => exact .zero
 | seed hs => exact .seed (h _ hs)
 | mul _ _ h1 h2 => exact .mul h1 h2
theorem Mk.least {a : List (List Int)} {S T : Nat → Prop} (h0 : T 0) (hs : ∀ x,S x → T x) (hm : ∀ x y,T x → T y → T (tN a x y)) {x : Nat} (hx : Mk a S x) : T x := by
 induction hx with
 | zero => exact h0
 | seed h => exact hs _ h
 | mul _ _ h1 h2 => exact hm _ _ h1 h2

def addS (s : List Bool × List Int) (x : Nat) : List Bool × List Int := if s.1.getD x false = true then s else (s.1.set x true,s.2 ++ [(x : Int)])

structure Bq (a : List (List Int)) (S : Nat → Prop) (s : List Bool × List Int) : Prop where
 len : s.1.length = a.length
 nd : s.2.Nodup
 rng : ∀ v ∈ s.2,∃ k : Nat,k < a.length ∧ v = (k : Int) ∧ Mk a S k
 mrk : ∀ k : Nat,k < a.length → (s.1.getD k false = true ↔ (k : Int) ∈ s.2)

section
variable {a : List (List Int)} {S : Nat → Prop} {s : List Bool × List Int}
theorem Bq.perm (h : Bq a S s) : s.2.Perm (((List.range a.length).filter fun k : Nat => decide ((k : Int) ∈ s.2)).map fun k : Nat => (k : Int)) := by
 refine (List.perm_ext_iff_of_nodup h.nd ?_).2 fun v => ?_
 ·refine List.Pairwise.map _ ?_ (List.Pairwise.filter _ List.nodup_range)
  intro x y hxy e
  exact hxy (by omega)
 ·rw [List.mem_map]
  constructor
  ·intro hv
   obtain ⟨k,hk,rfl,_⟩ := h.rng v hv
   exact ⟨k,List.mem_filter.2 ⟨List.mem_range.2 hk,by simpa using hv⟩,rfl⟩
  ·rintro ⟨k,hk,rfl⟩
   simpa using (List.mem_filter.1 hk).2
theorem Bq.short (h : Bq a S s) : s.2.length ≤ a.length := by
 rw [h.perm.length_eq,List.length_map]
 have := List.length_filter_le (fun k : Nat => decide ((k : Int) ∈ s.2)) (List.range a.length)
 simpa using this
theorem Bq.add (h : Bq a S s) {x : Nat} (hx : x < a.length) (hc : Mk a S x) : Bq a S (addS s x) ∧ (x : Int) ∈ (addS s x).2 ∧ ∃ t,(addS s x).2 = s.2 ++ t := by
 unfold addS
 by_cases hm : s.1.getD x false = true
 ·rw [if_pos hm]
  exact ⟨h,(h.mrk x hx).1 hm,[],by simp⟩
 ·rw [if_neg hm]
  have hn : (x : Int) ∉ s.2 := fun e => hm ((h.mrk x hx).2 e)
  refine ⟨⟨by simp [h.len],?_,fun v hv => ?_,fun k hk => ?_⟩,by simp,_,rfl⟩
  ·refine List.nodup_append.2 ⟨h.nd,by simp,fun u hu v hv => ?_⟩
   simp only [List.mem_singleton] at hv
   subst hv
   exact fun e => hn (e ▸ hu)
  ·rcases List.mem_append.1 hv with hv | hv
   ·exact h.rng v hv
   ·simp only [List.mem_singleton] at hv
    exact ⟨x,hx,hv,hc⟩
  ·simp only [List.mem_append,List.mem_singleton,List.getD_eq_getElem?_getD,List.getElem?_set,h.len]
   by_cases e : x = k
   ·subst e
    simp [hx]
   ·rw [if_neg e,← List.getD_eq_getElem?_getD,h.mrk k hk]
    constructor
    ·exact fun h => .inl h
    ·rintro (h | h)
     ·exact h
     ·exact absurd (by omega) e

def qN (s : List Bool × List Int) (j : Nat) : Nat := (gI s.2 j).toNat
theorem Bq.at_ (h : Bq a S s) {j : Nat} (hj : j < s.2.length) : gI s.2 j = ((qN s j : Nat) : Int) ∧ qN s j < a.length ∧ Mk a S (qN s j) := by
 have hmem : gI s.2 j ∈ s.2 := by rw [← gI_get hj]; exact List.getElem_mem _
 obtain ⟨k,hk,e,hc⟩ := h.rng _ hmem
 have : qN s j = k := by unfold qN; omega
 rw [this]
 exact ⟨e,hk,hc⟩
theorem qN_app {s s' : List Bool × List Int} {t : List Int} (h : s'.2 = s.2 ++ t) {j : Nat} (hj : j < s.2.length) : qN s' j = qN s j := by
 unfold qN gI
 rw [h]
 simp only [List.getD_eq_getElem?_getD,List.getElem?_append_left hj]

def stepS (a : List (List Int)) (s : List Bool × List Int) (i k : Nat) : List Bool × List Int := addS (addS s (tN a (qN s i) (qN s k))) (tN a (qN s k) (qN s i))
def hasP (a : List (List Int)) (s : List Bool × List Int) (i j : Nat) : Prop := ((tN a (qN s i) (qN s j) : Nat) : Int) ∈ s.2 ∧ ((tN a (qN s j) (qN s i) : Nat) : Int) ∈ s.2
theorem hasP.app {s s' : List Bool × List Int} {t : List Int} (h : s'.2 = s.2 ++ t) {i j : Nat} (hi : i < s.2.length) (hj : j < s.2.length) (hp : hasP a s i j) : hasP a s' i j := by
 unfold hasP
 rw [qN_app h hi,qN_app h hj,h]
 exact ⟨List.mem_append_left _ hp.1,List.mem_append_left _ hp.2⟩

variable (hn : a.length ≤ 128) (hm : Mat (a.length : Int) a.length a.length a)
include hn hm
theorem Bq.step (h : Bq a S s) {i k : Nat} (hi : i < s.2.length) (hk : k < s.2.length) : Bq a S (stepS a s i k) ∧ hasP a (stepS a s i k) i k ∧ ∃ t,(stepS a s i k).2 = s.2 ++ t := by
 obtain ⟨e1,l1,c1⟩ := h.at_ hi
 obtain ⟨e2,l2,c2⟩ := h.at_ hk
 obtain ⟨b1,m1,t1,ht1⟩ := h.add (tN_lt hn hm l1 l2).1 (.mul c1 c2)
 obtain ⟨b2,m2,t2,ht2⟩ := b1.add (tN_lt hn hm l2 l1).1 (.mul c2 c1)
 have ht : (stepS a s i k).2 = s.2 ++ (t1 ++ t2) := by unfold stepS; rw [ht2,ht1,List.append_assoc]
 refine ⟨b2,?_,_,ht⟩
 unfold hasP
 rw [qN_app ht hi,qN_app ht hk]
 refine ⟨?_,m2⟩
 unfold stepS
 rw [ht2]
 exact List.mem_append_left _ m1

theorem inner_loop (step : List Bool × List Int × Int → Option ((List Bool × List Int × Int) ⊕ (List Bool × List Int))) {i : Nat} (h : Bq a S s) (hi : i < s.2.length)
  (h1 : ∀ k s',k ≤ i → Bq a S s' → i < s'.2.length → step (s'.1,s'.2,(k : Int)) = some (.inl ((stepS a s' i k).1,(stepS a s' i k).2,((k + 1 : Nat) : Int))))
  (h2 : ∀ s' : List Bool × List Int,step (s'.1,s'.2,((i + 1 : Nat) : Int)) = some (.inr s')) :
  ∃ s',loop step BIG (s.1,s.2,0) = some s' ∧ Bq a S s' ∧ (∃ t,s'.2 = s.2 ++ t) ∧ ∀ k,k ≤ i → hasP a s' i k := by
 refine loop_inv (step := step) (fun z => ∃ (k : Nat) (s' : List Bool × List Int),z = (s'.1,s'.2,(k : Int)) ∧ k ≤ i + 1 ∧ Bq a S s' ∧ (∃ t,s'.2 = s.2 ++ t) ∧ ∀ j,j < k → hasP a s' i j) (fun z => i + 1 - z.2.2.toNat) _
  ⟨0,s,rfl,by omega,h,⟨[],by simp⟩,fun j hj => by omega⟩ (by have := h.short; rw [BIG_val]; show i + 1 - 0 < _; omega) ?_
 rintro z ⟨k,s',rfl,hk,hb,⟨t,ht⟩,hp⟩
 have hl : s.2.length ≤ s'.2.length := by rw [ht]; simp
 by_cases hki : k ≤ i
 ·obtain ⟨b1,p1,t1,ht1⟩ := hb.step hn hm (show i < s'.2.length by omega) (show k < s'.2.length by omega)
  refine .inl ⟨_,h1 k s' hki hb (by omega),⟨k + 1,_,rfl,by omega,b1,⟨t ++ t1,by rw [ht1,ht,List.append_assoc]⟩,fun j hj => ?_⟩,by simp only [Int.toNat_natCast]; omega⟩
  rcases Nat.lt_succ_iff_lt_or_eq.1 hj with hj | rfl
  ·exact (hp j hj).app ht1 (by omega) (by omega)
  ·exact p1
 ·have : k = i + 1 := by omega
  subst this
  exact .inr ⟨_,h2 s',hb,⟨t,ht⟩,fun j hj => hp j (by omega)⟩

theorem outer_loop {B : Type} (out : List Bool × List Int → B) (step : List Bool × List Int × Int → Option ((List Bool × List Int × Int) ⊕ B)) (h : Bq a S s)
  (h1 : ∀ (i : Nat) s',Bq a S s' → i < s'.2.length → ∃ s'',step (s'.1,s'.2,(i : Int)) = some (.inl (s''.1,s''.2,((i + 1 : Nat) : Int))) ∧ Bq a S s'' ∧ (∃ t,s''.2 = s'.2 ++ t) ∧ ∀ k,k ≤ i → hasP a s'' i k)
  (h2 : ∀ s' : List Bool × List Int,Bq a S s' → step (s'.1,s'.2,(s'.2.length : Int)) = some (.inr (out s'))) :
  ∃ s',loop step BIG (s.1,s.2,0) = some (out s') ∧ Bq a S s' ∧ (∃ t,s'.2 = s.2 ++ t) ∧ ∀ i k,i < s'.2.length → k < s'.2.length → ((tN a (qN s' i) (qN s' k) : Nat) : Int) ∈ s'.2 := by
 have key := loop_inv (step := step) (fun z => ∃ (i : Nat) (s' : List Bool × List Int),z = (s'.1,s'.2,(i : Int)) ∧ i ≤ s'.2.length ∧ Bq a S s' ∧ (∃ t,s'.2 = s.2 ++ t) ∧ ∀ j k,j < i → k ≤ j → hasP a s' j k) (fun z => a.length - z.2.2.toNat)
  (fun b => ∃ s',b = out s' ∧ Bq a S s' ∧ (∃ t,s'.2 = s.2 ++ t) ∧ ∀ i k,i < s'.2.length → k < s'.2.length → ((tN a (qN s' i) (qN s' k) : Nat) : Int) ∈ s'.2)
  (s := (s.1,s.2,0)) ⟨0,s,rfl,by omega,h,⟨[],by simp⟩,fun j k hj => by omega⟩ (by rw [BIG_val]; show a.length - 0 < _; omega) ?_
 ·obtain ⟨b,e,s',rfl,h3⟩ := key
  exact ⟨s',e,h3⟩
 rintro z ⟨i,s',rfl,hi,hb,⟨t,ht⟩,hp⟩
 have hsh := hb.short
 by_cases hil : i < s'.2.length
 ·obtain ⟨s'',e,b2,⟨t2,ht2⟩,hp2⟩ := h1 i s' hb hil
  refine .inl ⟨_,e,⟨i + 1,s'',rfl,?_,b2,⟨t ++ t2,by rw [ht2,ht,List.append_assoc]⟩,fun j k hj hk => ?_⟩,by simp only [Int.toNat_natCast]; omega⟩
  ·rw [ht2,List.length_append]; omega
  ·rcases Nat.lt_succ_iff_lt_or_eq.1 hj with hj | rfl
   ·exact (hp j k hj hk).app ht2 (by omega) (by omega)
   ·exact hp2 k hk
 ·have : i = s'.2.length := by omega
  subst this
  refine .inr ⟨_,h2 s' hb,s',rfl,hb,⟨t,ht⟩,fun j k hj hk => ?_⟩
  by_cases hkj : k ≤ j
  ·exact (hp j k hj hkj).1
  ·exact (hp k j hk (by omega)).2

theorem Bq.all (h : Bq a S s) (h0 : (0 : Int) ∈ s.2) (hs : ∀ x,S x → (x : Int) ∈ s.2) (hc : ∀ i k,i < s.2.length → k < s.2.length → ((tN a (qN s i) (qN s k) : Nat) : Int) ∈ s.2) (x : Nat) :
  (x : Int) ∈ s.2 ↔ Mk a S x := by
 constructor
 ·intro hx
  obtain ⟨k,_,e,hk⟩ := h.rng _ hx
  have : x = k := by omega
  rw [this]; exact hk
 ·intro hx
  refine hx.least (T := fun x => (x : Int) ∈ s.2) h0 hs fun x y hx hy => ?_
  have key : ∀ x : Nat,(x : Int) ∈ s.2 → ∃ i,i < s.2.length ∧ qN s i = x := fun x hx => by
   obtain ⟨i,hi,e⟩ := List.getElem_of_mem hx
   refine ⟨i,hi,?_⟩
   unfold qN
   rw [← gI_get hi,e]; simp
  obtain ⟨i,hi,rfl⟩ := key x hx
  obtain ⟨k,hk,rfl⟩ := key y hy
  exact hc i k hi hk
end

/-! ### The programs -/
open Classical in
noncomputable def mkB (a : List (List Int)) (S : Nat → Prop) (k : Nat) : Bool := decide (Mk a S k)
theorem mkB_iff {a : List (List Int)} {S : Nat → Prop} {k : Nat} : mkB a S k = true ↔ Mk a S k := by unfold mkB; simp
theorem mkB_congr {a : List (List Int)} {S T : Nat → Prop} (h : ∀ x,S x ↔ T x) (k : Nat) : mkB a S k = mkB a T k := by
 rw [Bool.eq_iff_iff,mkB_iff,mkB_iff]
 exact ⟨Mk.mono fun x hx => (h x).1 hx,Mk.mono fun x hx => (h x).2 hx⟩
noncomputable def subN (a : List (List Int)) (S : Nat → Prop) : List Nat := (List.range a.length).filter (mkB a S)
abbrev castL (l : List Nat) : List Int := l.map fun k : Nat => (k : Int)
theorem castL_gI {l : List Nat} {j : Nat} (h : j < l.length) : gI (castL l) j = ((l[j] : Nat) : Int) := by
 rw [← gI_get (by simpa using h)]; simp [castL]

section
variable {a : List (List Int)} (hn : a.length ≤ 128) (hm : Mat (a.length : Int) a.length a.length a)
variable {S : Nat → Prop} {s : List Bool × List Int}
theorem Bq.start (h0 : 0 < a.length) : Bq a S ((List.replicate a.length false).set 0 true,[0]) := by
 refine ⟨by simp,by simp,fun v hv => ⟨0,h0,by simpa using hv,.zero⟩,fun k hk => ?_⟩
 simp only [List.getD_eq_getElem?_getD,List.getElem?_set,List.length_replicate]
 by_cases e : 0 = k
 ·subst e; simp [h0]
 ·rw [if_neg e]
  simp [hk]; omega
theorem seeds_loop (step : List Bool × List Int × Int → Option ((List Bool × List Int × Int) ⊕ (List Bool × List Int))) {l : List Nat} (hS : ∀ x,x ∈ l → S x) (hl : ∀ x ∈ l,x < a.length) (hb : l.length < BIG) (h : Bq a S s)
  (h1 : ∀ (j : Nat) (hj : j < l.length) s',Bq a S s' → step (s'.1,s'.2,(j : Int)) = some (.inl ((addS s' l[j]).1,(addS s' l[j]).2,((j + 1 : Nat) : Int))))
  (h2 : ∀ s' : List Bool × List Int,step (s'.1,s'.2,(l.length : Int)) = some (.inr s')) :
  ∃ s',loop step BIG (s.1,s.2,0) = some s' ∧ Bq a S s' ∧ (∃ t,s'.2 = s.2 ++ t) ∧ ∀ x ∈ l,(x : Int) ∈ s'.2 := by
 refine loop_inv (step := step) (fun z => ∃ (j : Nat) (s' : List Bool × List Int),z = (s'.1,s'.2,(j : Int)) ∧ j ≤ l.length ∧ Bq a S s' ∧ (∃ t,s'.2 = s.2 ++ t) ∧ ∀ x ∈ l.take j,(x : Int) ∈ s'.2) (fun z => l.length - z.2.2.toNat) _
  ⟨0,s,rfl,by omega,h,⟨[],by simp⟩,fun x hx => by simp at hx⟩ (by show l.length - 0 < BIG; omega) ?_
 rintro z ⟨j,s',rfl,hj,hb',⟨t,ht⟩,hp⟩
 by_cases hjl : j < l.length
 ·obtain ⟨b1,m1,t1,ht1⟩ := hb'.add (hl _ (List.getElem_mem hjl)) (.seed (hS _ (List.getElem_mem hjl)))
  refine .inl ⟨_,h1 j hjl s' hb',⟨j + 1,_,rfl,by omega,b1,⟨t ++ t1,by rw [ht1,ht,List.append_assoc]⟩,fun x hx => ?_⟩,by simp only [Int.toNat_natCast]; omega⟩
  rw [List.take_succ_eq_append_getElem hjl] at hx
  rcases List.mem_append.1 hx with hx | hx
  ·rw [ht1]; exact List.mem_append_left _ (hp x hx)
  ·simp only [List.mem_singleton] at hx
   rw [hx]; exact m1
 ·have : j = l.length := by omega
  subst this
  rw [List.take_length] at hp
  exact .inr ⟨_,h2 s',hb',⟨t,ht⟩,hp⟩
include hn
theorem c1_add (h : Bq a S s) {x : Nat} (hx : x < a.length) : i_subloop_c1 (x : Int) s.1 s.2 = some (addS s x) := by
 unfold i_subloop_c1 addS
 have hs := h.short
 rw [idxD (z := false) (by rw [h.len]; exact hx),some_bind]
 cases hb : s.1.getD x false with
 | true => simp
 | false =>
  simp only [if_true,Bool.false_eq_true,if_false]
  rw [chk_bind (by simp only [List.length_cons,List.length_nil]; omega)]
  rfl
include hm
theorem i_sub_inner {i : Nat} (h : Bq a S s) (hi : i < s.2.length) : ∃ s',loop (i_subloop_L2 a (s.1,s.2,(i : Int))) BIG (s.1,s.2,0) = some s' ∧ Bq a S s' ∧ (∃ t,s'.2 = s.2 ++ t) ∧ ∀ k,k ≤ i → hasP a s' i k := by
 refine inner_loop hn hm _ h hi ?_ ?_
 ·intro k s' hk hb hi'
  have hsh := hb.short
  obtain ⟨e1,l1,c1⟩ := hb.at_ hi'
  obtain ⟨e2,l2,c2⟩ := hb.at_ (show k < s'.2.length by omega)
  obtain ⟨b1,m1,t1,ht1⟩ := hb.add (tN_lt hn hm l1 l2).1 (.mul c1 c2)
  have hi2 : i < (addS s' (tN a (qN s' i) (qN s' k))).2.length := by rw [ht1,List.length_append]; omega
  have hk2 : k < (addS s' (tN a (qN s' i) (qN s' k))).2.length := by omega
  have g1 : gI (addS s' (tN a (qN s' i) (qN s' k))).2 i = ((qN s' i : Nat) : Int) := by rw [(b1.at_ hi2).1,qN_app ht1 hi']
  have g2 : gI (addS s' (tN a (qN s' i) (qN s' k))).2 k = ((qN s' k : Nat) : Int) := by rw [(b1.at_ hk2).1,qN_app ht1 (by omega)]
  unfold i_subloop_L2
  simp only [show (k : Int) ≤ (i : Int) by omega,if_true,idxI hi',idxI (show k < s'.2.length by omega),e1,e2,some_bind,idxR l1,idxR l2,idx_t hn hm l1 l2,idx_t hn hm l2 l1,c1_add hn hb (tN_lt hn hm l1 l2).1,
   idxI hi2,idxI hk2,g1,g2,c1_add hn b1 (tN_lt hn hm l2 l1).1,w_in (x := (k : Int) + 1) (by omega) (by omega)]
  rfl
 ·intro s'
  unfold i_subloop_L2
  rw [if_neg (by simp only []; omega)]
theorem s_sub_inner {i : Nat} (h : Bq a S s) (hi : i < s.2.length) : ∃ s',loop (s_l13Sub_L2 a (s.1,s.2,(i : Int))) BIG (s.1,s.2,0) = some s' ∧ Bq a S s' ∧ (∃ t,s'.2 = s.2 ++ t) ∧ ∀ k,k ≤ i → hasP a s' i k := by
 have add3 : ∀ {s' : List Bool × List Int} {x : Nat},Bq a S s' → x < a.length → ∀ (p : List Int) (j : Nat) (hp : p.length = 2),j < 2 → gI p j = (x : Int) → s_l13Sub_L3 (s'.1,s'.2,p,(j : Int)) = some (.inl ((addS s' x).1,(addS s' x).2,p,((j + 1 : Nat) : Int))) := by
  intro s' x hb hx p j hp hj hg
  have hs := hb.short
  unfold s_l13Sub_L3 addS
  simp only [show (j : Int) < 2 by omega,if_true,idxI (show j < p.length by omega),hg,some_bind]
  rw [idxD (z := false) (by rw [hb.len]; exact hx),some_bind]
  cases hbb : s'.1.getD x false with
  | true =>
   simp only [Bool.true_eq_false,if_false,if_true,some_bind]
   rw [w_in (by omega) (by omega)]; rfl
  | false =>
   simp only [if_true,Bool.false_eq_true,if_false]
   rw [chk_bind (by simp only [List.length_cons,List.length_nil]; omega),some_bind,w_in (by omega) (by omega)]
   rfl
 have pairs : ∀ {s' : List Bool × List Int} {x y : Nat},Bq a S s' → x < a.length → Mk a S x → y < a.length → loop s_l13Sub_L3 BIG (s'.1,s'.2,[(x : Int),(y : Int)],0) = some (addS (addS s' x) y) := by
  intro s' x y hb hx hcx hy
  obtain ⟨b1,_,_⟩ := hb.add hx hcx
  obtain ⟨m,hm'⟩ : ∃ m,BIG = m + 3 := ⟨BIG - 3,by rw [BIG_val]⟩
  have q1 := add3 hb hx [(x : Int),(y : Int)] 0 rfl (by omega) rfl
  have q2 := add3 b1 hy [(x : Int),(y : Int)] 1 rfl (by omega) rfl
  have q3 : s_l13Sub_L3 ((addS (addS s' x) y).1,(addS (addS s' x) y).2,[(x : Int),(y : Int)],((1 + 1 : Nat) : Int)) = some (.inr (addS (addS s' x) y)) := by
   unfold s_l13Sub_L3
   rw [if_neg (by simp only []; omega)]
  rw [hm']
  have q1' : s_l13Sub_L3 (s'.1,s'.2,[(x : Int),(y : Int)],0) = _ := q1
  simp only [loop,q1',q2,q3]
 refine inner_loop hn hm _ h hi ?_ ?_
 ·intro k s' hk hb hi'
  have hsh := hb.short
  obtain ⟨e1,l1,c1⟩ := hb.at_ hi'
  obtain ⟨e2,l2,c2⟩ := hb.at_ (show k < s'.2.length by omega)
  have hp := pairs hb (tN_lt hn hm l1 l2).1 (.mul c1 c2) (tN_lt hn hm l2 l1).1
  unfold s_l13Sub_L2
  simp only [show (k : Int) ≤ (i : Int) by omega,if_true,idxI hi',idxI (show k < s'.2.length by omega),e1,e2,some_bind,idxR l1,idxR l2,idx_t hn hm l1 l2,idx_t hn hm l2 l1,hp,w_in (x := (k : Int) + 1) (by omega) (by omega)]
  rfl
 ·intro s'
  unfold s_l13Sub_L2
  rw [if_neg (by simp only []; omega)]

theorem subs_eq (h0 : 0 < a.length) {l : List Nat} (hl : ∀ x ∈ l,x < a.length) (hb : l.length ≤ 1099511627776) :
  s_l13Sub a (castL l) = some (castL (subN a (· ∈ l))) ∧ i_subloop a (castL l) = some (castL (subN a (· ∈ l))) := by
 have hz : (0 : Int) ∈ ([0] : List Int) := by simp
 have st0 : Bq a (· ∈ l) ((List.replicate a.length false).set 0 true,[0]) := Bq.start h0
 have fin : ∀ {s s' s'' : List Bool × List Int},s.2 = [0] → (∃ t,s'.2 = s.2 ++ t) → (∀ x ∈ l,(x : Int) ∈ s'.2) → Bq a (· ∈ l) s'' → (∃ t,s''.2 = s'.2 ++ t) →
   (∀ i k,i < s''.2.length → k < s''.2.length → ((tN a (qN s'' i) (qN s'' k) : Nat) : Int) ∈ s''.2) → ∀ x : Nat,(x : Int) ∈ s''.2 ↔ Mk a (· ∈ l) x := by
  rintro s s' s'' e0 ⟨t,ht⟩ hs hb ⟨t2,ht2⟩ hc
  refine hb.all hn hm ?_ (fun x hx => ?_) hc
  ·rw [ht2,ht,e0]; simp
  ·rw [ht2]; exact List.mem_append_left _ (hs x hx)
 constructor
 ·unfold s_l13Sub
  have e0 : (a.length : Int).toNat = a.length := by simp
  rw [chk_bind (by omega),some_bind,e0,idxD0 (z := false) (by simpa using h0),some_bind]
  obtain ⟨s1,f1,b1,t1,p1⟩ := seeds_loop (s_l13Sub_L0 (castL l)) (S := (· ∈ l)) (fun x hx => hx) hl (by rw [BIG_val]; omega) st0 (fun j hj s' hb' => by
    have hs := hb'.short
    unfold s_l13Sub_L0 addS
    simp only [show (j : Int) < ((castL l).length : Int) by simp; omega,if_true,idxI (show j < (castL l).length by simpa using hj),castL_gI hj,some_bind]
    rw [idxD (z := false) (by rw [hb'.len]; exact hl _ (List.getElem_mem hj)),some_bind]
    cases hbb : s'.1.getD l[j] false with
    | true =>
     simp only [Bool.true_eq_false,if_false,if_true,some_bind]
     rw [w_in (by omega) (by omega)]; rfl
    | false =>
     simp only [if_true,Bool.false_eq_true,if_false]
     rw [chk_bind (by simp only [List.length_cons,List.length_nil]; omega),some_bind,w_in (by omega) (by omega)]
     rfl) (fun s' => by
    unfold s_l13Sub_L0
    rw [if_neg (by simp [castL])])
  rw [f1,some_bind]
  obtain ⟨s2,f2,b2,t2,p2⟩ := outer_loop hn hm (fun s => s.1) (s_l13Sub_L1 a) b1 (fun i s' hb' hi => by
    obtain ⟨s'',g1,g2,g3,g4⟩ := s_sub_inner hn hm hb' hi
    have := hb'.short
    refine ⟨s'',?_,g2,g3,g4⟩
    unfold s_l13Sub_L1
    simp only [show (i : Int) < (s'.2.length : Int) by omega,if_true,g1,some_bind,w_in (x := (i : Int) + 1) (by omega) (by omega)]
    rfl) (fun s' hb' => by
    unfold s_l13Sub_L1
    simp)
  rw [f2,some_bind]
  have hall := fin (s := ((List.replicate a.length false).set 0 true,[0])) rfl t1 p1 b2 t2 p2
  obtain ⟨h1,_⟩ := fold_loop (s_l13Sub_L4 a s2.1) a.length (fun k s => if mkB a (· ∈ l) k then s ++ [(k : Int)] else s) [] (fun k s => s.length ≤ k) id (by rw [BIG_val]; omega) (by simp)
   (fun k s hk hs => by
    split
    ·simp; omega
    ·omega)
   (fun k s hk hs => by
    unfold s_l13Sub_L4
    simp only [show (k : Int) < (a.length : Int) by omega,if_true]
    rw [idxD (z := false) (by rw [b2.len]; exact hk),some_bind]
    have e : s2.1.getD k false = mkB a (· ∈ l) k := by rw [Bool.eq_iff_iff,mkB_iff,b2.mrk k hk]; exact hall k
    rw [e]
    cases mkB a (· ∈ l) k with
    | true =>
     simp only [if_true]
     rw [chk_bind (by simp only [List.length_cons,List.length_nil]; omega),some_bind,w_in (by omega) (by omega)]
     rfl
    | false =>
     simp only [Bool.false_eq_true,if_false,some_bind]
     rw [w_in (by omega) (by omega)]
     rfl) (fun s _ => by
    unfold s_l13Sub_L4
    simp)
  rw [h1,some_bind,foldN_filter]; rfl
 ·unfold i_subloop
  have e0 : (a.length : Int).toNat = a.length := by simp
  have e1 : i_subloop_c1 0 (List.replicate a.length false) [] = some ((List.replicate a.length false).set 0 true,[0]) := by
   unfold i_subloop_c1
   rw [idxD0 (z := false) (by simpa using h0),some_bind]
   simp only [List.getD_eq_getElem?_getD,List.getElem?_replicate,h0,if_true,Option.getD_some]
   rw [chk_bind (by simp only [List.length_cons,List.length_nil]; omega)]
   rfl
  rw [chk_bind (by omega),e0,e1,some_bind]
  obtain ⟨s1,f1,b1,t1,p1⟩ := seeds_loop (i_subloop_L0 (castL l)) (S := (· ∈ l)) (fun x hx => hx) hl (by rw [BIG_val]; omega) st0 (fun j hj s' hb' => by
    unfold i_subloop_L0
    simp only [show (j : Int) < ((castL l).length : Int) by simp; omega,if_true,idxI (show j < (castL l).length by simpa using hj),castL_gI hj,some_bind,c1_add hn hb' (hl _ (List.getElem_mem hj)),w_in (x := (j : Int) + 1) (by omega) (by omega)]
    rfl) (fun s' => by
    unfold i_subloop_L0
    rw [if_neg (by simp [castL])])
  rw [f1,some_bind]
  obtain ⟨s2,f2,b2,t2,p2⟩ := outer_loop hn hm (fun s => s.2) (i_subloop_L1 a) b1 (fun i s' hb' hi => by
    obtain ⟨s'',g1,g2,g3,g4⟩ := i_sub_inner hn hm hb' hi
    have := hb'.short
    refine ⟨s'',?_,g2,g3,g4⟩
    unfold i_subloop_L1
    simp only [show (i : Int) < (s'.2.length : Int) by omega,if_true,g1,some_bind,w_in (x := (i : Int) + 1) (by omega) (by omega)]
    rfl) (fun s' hb' => by
    unfold i_subloop_L1
    simp)
  have hall := fin (s := ((List.replicate a.length false).set 0 true,[0])) rfl t1 p1 b2 t2 p2
  have hs2 := b2.short
  rw [f2,some_bind,chk_bind (by omega)]
  congr 1
  refine List.Perm.eq_of_pairwise (le := fun x y : Int => x ≤ y) (fun x y _ _ h1 h2 => by omega) ?_ ?_ ?_
  ·have := List.pairwise_mergeSort (le := fun x y : Int => decide (x ≤ y)) (fun x y z h1 h2 => by simp only [decide_eq_true_eq] at *; omega) (fun x y => by simp only [Bool.or_eq_true,decide_eq_true_eq]; omega) s2.2
   exact this.imp fun h => by simpa using h
  ·refine List.Pairwise.map _ (R := fun x y : Nat => x ≤ y) (fun x y h => by omega) (List.Pairwise.filter _ ?_)
   exact List.pairwise_le_range
  ·refine (List.mergeSort_perm _ _).trans ?_
   refine b2.perm.trans ?_
   have : (List.range a.length).filter (fun k : Nat => decide ((k : Int) ∈ s2.2)) = subN a (· ∈ l) := by
    unfold subN
    refine List.filter_congr fun k _ => ?_
    rw [Bool.eq_iff_iff,mkB_iff,decide_eq_true_eq]
    exact hall k
   rw [this]
end
end Go.Vam

/- Plain laws: SubloopFrom, IsDiassociativeLoop. -/
namespace Go.Vam
open Go Go.RowKit
set_option linter.unusedSimpArgs false
set_option linter.unusedVariables false
set_option linter.unusedSectionVars false

theorem i_checkLoop_eq {a : List (List Int)} {b : List Int} (hz : a.length ≤ 1048576) (hb : b.length ≤ 1048576) :
  i_checkLoop a b = some (if isLp a = false then 1 else if b.all (fun x => decide (0 ≤ x) && decide (x ≤ (a.length : Int) - 1)) then 0 else 2) := by
 unfold i_checkLoop
 rw [i_IsLoop_eq hz,some_bind]
 cases hL : isLp a with
 | false => simp
 | true =>
  obtain ⟨hn,h0,hm⟩ := isLp_tab hL
  simp only [Bool.true_eq_false,if_false]
  unfold g_slices_ContainsFunc_LI_I_of_i_checkLoop_c1 g_slices_IndexFunc_LI_I_of_i_checkLoop_c1
  have c1 : ∀ x,i_checkLoop_c1 x a = some (!(decide (0 ≤ x) && decide (x ≤ (a.length : Int) - 1))) := fun x => by
   unfold i_checkLoop_c1 i_length_LI
   simp only [some_bind,i_inRange_eq,w_in (x := (a.length : Int) - 1) (by omega) (by omega)]
  obtain ⟨r,h1,h2⟩ := any_loop (g_slices_IndexFunc_LI_I_of_i_checkLoop_c1_L0 b a) b.length (fun k => !(decide (0 ≤ gI b k) && decide (gI b k ≤ (a.length : Int) - 1))) (fun k => (k : Int)) (by rw [BIG_val]; omega)
   (fun k hk hf => by
    unfold g_slices_IndexFunc_LI_I_of_i_checkLoop_c1_L0
    simp only [show (k : Int) < (b.length : Int) by omega,if_true,idxI hk,some_bind,c1,hf,Bool.false_eq_true,if_false]
    rw [w_in (by omega) (by omega)]; rfl) (fun k hk hf => by
    unfold g_slices_IndexFunc_LI_I_of_i_checkLoop_c1_L0
    simp only [show (k : Int) < (b.length : Int) by omega,if_true,idxI hk,some_bind,c1,hf]) (by
    unfold g_slices_IndexFunc_LI_I_of_i_checkLoop_c1_L0
    simp)
  have e : (b.all fun x => decide (0 ≤ x) && decide (x ≤ (a.length : Int) - 1)) = !((List.range b.length).any fun k => !(decide (0 ≤ gI b k) && decide (gI b k ≤ (a.length : Int) - 1))) := by
   rw [← all_rangeI b (fun x => decide (0 ≤ x) && decide (x ≤ (a.length : Int) - 1))]
   rw [Bool.eq_iff_iff]
   simp only [List.all_eq_true,Bool.not_eq_true',List.any_eq_false,Bool.not_eq_true,Bool.not_eq_false',Bool.not_eq_false]
  rw [h1,e]
  rcases h2 with ⟨rfl,h3⟩ | ⟨k,hk,rfl,hf,h3,_⟩
  ·rw [h3]; simp [ile]
  ·rw [h3]; simp [ile]

theorem subN_len (a : List (List Int)) (S : Nat → Prop) : (subN a S).length ≤ a.length := by
 have := List.length_filter_le (mkB a S) (List.range a.length)
 simpa [subN] using this
/-! ### Diassociativity -/
def allA (a : List (List Int)) (V : List Nat) : Bool := V.all fun u => V.all fun v => V.all fun w => asB a u v w
theorem all_rangeN (V : List Nat) (g : Nat → Bool) : ((List.range V.length).all fun k => g (V.getD k 0)) = V.all g := all_range V g 0
section
variable {a : List (List Int)} (hn : a.length ≤ 128) (hm : Mat (a.length : Int) a.length a.length a) {V : List Nat} (hV : ∀ x ∈ V,x < a.length) (hVl : V.length ≤ 128)
include hn hm hV hVl
theorem gV {k : Nat} (hk : k < V.length) : gI (castL V) k = ((V.getD k 0 : Nat) : Int) ∧ V.getD k 0 < a.length := by
 rw [castL_gI hk,getD_get hk 0]
 exact ⟨rfl,by rw [← getD_get hk 0]; exact hV _ (List.getElem_mem hk)⟩
theorem s_dia2 : loop (s_IsDiassociativeLoop_L2 a (castL V)) BIG 0 = some (if allA a V then .inl () else .inr (.inr (.inr (.inr (.inr (false,0)))))) := by
 have hlen : (castL V).length = V.length := by simp [castL]
 have l4 : ∀ i j,i < V.length → j < V.length → loop (s_IsDiassociativeLoop_L4 a (castL V) (i : Int) (j : Int)) BIG 0 = some (if V.all (asB a (V.getD i 0) (V.getD j 0)) then .inl () else .inr (.inr (.inr (.inr (.inr (.inr (.inr (.inr (.inr (false,0)))))))))) := by
  intro i j hi hj
  obtain ⟨g1,l1⟩ := gV hn hm hV hVl hi
  obtain ⟨g2,l2⟩ := gV hn hm hV hVl hj
  rw [← all_rangeN V (asB a (V.getD i 0) (V.getD j 0))]
  refine all_loop _ V.length _ _ (by rw [BIG_val]; omega) ?_ ?_ ?_
  ·intro k hk hf
   obtain ⟨g3,l3⟩ := gV hn hm hV hVl hk
   unfold s_IsDiassociativeLoop_L4
   rw [hlen,if_pos (by omega),idxI (by omega),some_bind,idxI (by omega),some_bind,idxI (by omega),some_bind,g1,g2,g3,(as_eq hn hm l1 l2 l3).1,some_bind,hf,if_neg (by simp),w_in (by omega) (by omega)]
   rfl
  ·intro k hk hf
   obtain ⟨g3,l3⟩ := gV hn hm hV hVl hk
   unfold s_IsDiassociativeLoop_L4
   rw [hlen,if_pos (by omega),idxI (by omega),some_bind,idxI (by omega),some_bind,idxI (by omega),some_bind,g1,g2,g3,(as_eq hn hm l1 l2 l3).1,some_bind,hf,if_pos rfl]
  ·unfold s_IsDiassociativeLoop_L4
   rw [hlen,if_neg (by omega)]
 have l3 : ∀ i,i < V.length → loop (s_IsDiassociativeLoop_L3 a (castL V) (i : Int)) BIG 0 = some (if V.all (fun v => V.all (asB a (V.getD i 0) v)) then .inl () else .inr (.inr (.inr (.inr (.inr (.inr (.inr (false,0)))))))) := by
  intro i hi
  rw [← all_rangeN V (fun v => V.all (asB a (V.getD i 0) v))]
  refine all_loop _ V.length _ _ (by rw [BIG_val]; omega) ?_ ?_ ?_
  ·intro k hk hf
   unfold s_IsDiassociativeLoop_L3
   rw [hlen,if_pos (by omega),l4 i k hi hk,hf]
   simp only [if_true,some_bind]
   rw [w_in (by omega) (by omega)]; rfl
  ·intro k hk hf
   unfold s_IsDiassociativeLoop_L3
   rw [hlen,if_pos (by omega),l4 i k hi hk,hf]
   rfl
  ·unfold s_IsDiassociativeLoop_L3
   rw [hlen,if_neg (by omega)]
 unfold allA
 rw [← all_rangeN V (fun u => V.all fun v => V.all fun w => asB a u v w)]
 refine all_loop _ V.length _ _ (by rw [BIG_val]; omega) ?_ ?_ ?_
 ·intro k hk hf
  unfold s_IsDiassociativeLoop_L2
  rw [hlen,if_pos (by omega),l3 k hk,hf]
  simp only [if_true,some_bind]
  rw [w_in (by omega) (by omega)]; rfl
 ·intro k hk hf
  unfold s_IsDiassociativeLoop_L2
  rw [hlen,if_pos (by omega),l3 k hk,hf]
  rfl
 ·unfold s_IsDiassociativeLoop_L2
  rw [hlen,if_neg (by omega)]
theorem i_dia2 : loop (i_IsDiassociativeLoop_L2 a (castL V)) BIG 0 = some (if allA a V then .inl () else .inr (.inr (.inr (.inr (.inr (false,0)))))) := by
 have hlen : (castL V).length = V.length := by simp [castL]
 have l4 : ∀ u v,u < a.length → v < a.length → g_slices_ContainsFunc_LI_I_of_i_IsDiassociativeLoop_c1 (castL V) a (u : Int) (v : Int) = some (!V.all (asB a u v)) := by
  intro u v hu hv
  unfold g_slices_ContainsFunc_LI_I_of_i_IsDiassociativeLoop_c1 g_slices_IndexFunc_LI_I_of_i_IsDiassociativeLoop_c1
  have core : ∀ k,k < V.length → i_IsDiassociativeLoop_c1 (gI (castL V) k) a (u : Int) (v : Int) = some (!asB a u v (V.getD k 0)) := fun k hk => by
   obtain ⟨g3,l3⟩ := gV hn hm hV hVl hk
   unfold i_IsDiassociativeLoop_c1
   rw [g3,(as_eq hn hm hu hv l3).2,some_bind]
  obtain ⟨r,h1,h2⟩ := any_loop (g_slices_IndexFunc_LI_I_of_i_IsDiassociativeLoop_c1_L0 (castL V) a (u : Int) (v : Int)) V.length (fun k => !asB a u v (V.getD k 0)) (fun k => (k : Int)) (by rw [BIG_val]; omega)
   (fun k hk hf => by
    unfold g_slices_IndexFunc_LI_I_of_i_IsDiassociativeLoop_c1_L0
    simp only [hlen,show (k : Int) < (V.length : Int) by omega,if_true,idxI (show k < (castL V).length by omega),some_bind,core k hk,hf,Bool.false_eq_true,if_false]
    rw [w_in (by omega) (by omega)]; rfl) (fun k hk hf => by
    unfold g_slices_IndexFunc_LI_I_of_i_IsDiassociativeLoop_c1_L0
    simp only [hlen,show (k : Int) < (V.length : Int) by omega,if_true,idxI (show k < (castL V).length by omega),some_bind,core k hk,hf]) (by
    unfold g_slices_IndexFunc_LI_I_of_i_IsDiassociativeLoop_c1_L0
    simp [hlen])
  have e : V.all (asB a u v) = !((List.range V.length).any fun k => !asB a u v (V.getD k 0)) := by
   rw [← all_rangeN V (asB a u v),Bool.eq_iff_iff]
   simp only [List.all_eq_true,Bool.not_eq_true',List.any_eq_false,Bool.not_eq_true,Bool.not_eq_false',Bool.not_eq_false]
  rw [h1,e]
  rcases h2 with ⟨rfl,h3⟩ | ⟨k,hk,rfl,hf,h3,_⟩
  ·rw [h3]; simp [ile]
  ·rw [h3]; simp [ile]
 have l3 : ∀ u,u < a.length → loop (i_IsDiassociativeLoop_L3 a (castL V) (u : Int)) BIG 0 = some (if V.all (fun v => V.all (asB a u v)) then .inl () else .inr (.inr (.inr (.inr (.inr (.inr (.inr (false,0)))))))) := by
  intro u hu
  rw [← all_rangeN V (fun v => V.all (asB a u v))]
  refine all_loop _ V.length _ _ (by rw [BIG_val]; omega) ?_ ?_ ?_
  ·intro k hk hf
   obtain ⟨g3,l3⟩ := gV hn hm hV hVl hk
   unfold i_IsDiassociativeLoop_L3
   rw [hlen,if_pos (by omega),idxI (by omega),some_bind,g3,l4 u _ hu l3,hf,some_bind,if_neg (by simp),w_in (by omega) (by omega)]
   rfl
  ·intro k hk hf
   obtain ⟨g3,l3⟩ := gV hn hm hV hVl hk
   unfold i_IsDiassociativeLoop_L3
   rw [hlen,if_pos (by omega),idxI (by omega),some_bind,g3,l4 u _ hu l3,hf,some_bind,if_pos (by simp)]
  ·unfold i_IsDiassociativeLoop_L3
   rw [hlen,if_neg (by omega)]
 unfold allA
 rw [← all_rangeN V (fun u => V.all fun v => V.all fun w => asB a u v w)]
 refine all_loop _ V.length _ _ (by rw [BIG_val]; omega) ?_ ?_ ?_
 ·intro k hk hf
  obtain ⟨g3,l3'⟩ := gV hn hm hV hVl hk
  unfold i_IsDiassociativeLoop_L2
  rw [hlen,if_pos (by omega),idxI (by omega),some_bind,g3,l3 _ l3',hf]
  simp only [if_true,some_bind]
  rw [w_in (by omega) (by omega)]; rfl
 ·intro k hk hf
  obtain ⟨g3,l3'⟩ := gV hn hm hV hVl hk
  unfold i_IsDiassociativeLoop_L2
  rw [hlen,if_pos (by omega),idxI (by omega),some_bind,g3,l3 _ l3',hf]
  rfl
 ·unfold i_IsDiassociativeLoop_L2
  rw [hlen,if_neg (by omega)]
end
theorem subN_lt {a : List (List Int)} {S : Nat → Prop} : ∀ x ∈ subN a S,x < a.length := fun x hx => List.mem_range.1 (List.mem_filter.1 hx).1
noncomputable def diaB (a : List (List Int)) : Bool := (List.range a.length).all fun x => (List.range (x + 1)).all fun y => allA a (subN a (· ∈ [x,y]))
theorem IsDiassociativeLoop_eq {a : List (List Int)} (hz : a.length ≤ 1048576) :
  s_IsDiassociativeLoop a = some (if isLp a = false then (false,1) else if 32 < a.length then (false,3) else (diaB a,0)) ∧ i_IsDiassociativeLoop a = some (if isLp a = false then (false,1) else if 32 < a.length then (false,3) else (diaB a,0)) := by
 unfold s_IsDiassociativeLoop i_IsDiassociativeLoop i_length_LI
 rw [s_l13Is_eq hz,i_checkLoop_eq hz (by simp),some_bind,some_bind]
 cases hL : isLp a with
 | false => simp
 | true =>
  obtain ⟨hn,h0,hm⟩ := isLp_tab hL
  simp only [Bool.true_eq_false,if_false,List.all_nil,if_true,not_true_eq_false]
  by_cases h32 : 32 < a.length
  ·rw [if_pos (by omega),if_pos h32,if_pos (by omega)]; exact ⟨rfl,rfl⟩
  rw [if_neg (by omega),if_neg h32,if_neg (by omega),some_bind]
  have sub2 : ∀ x y,x < a.length → y < a.length → s_l13Sub a [(x : Int),(y : Int)] = some (castL (subN a (· ∈ [x,y]))) ∧ i_subloop a [(x : Int),(y : Int)] = some (castL (subN a (· ∈ [x,y]))) := fun x y hx hy =>
   subs_eq hn hm h0 (l := [x,y]) (by simp [hx,hy]) (by simp)
  have hsl : ∀ S,(subN a S).length ≤ 128 := fun S => Nat.le_trans (subN_len a S) hn
  constructor
  ·have l1 : ∀ x,x < a.length → loop (s_IsDiassociativeLoop_L1 a (x : Int)) BIG (x : Int) = some (if (List.range (a.length - x)).all (fun k => allA a (subN a (· ∈ [x,x + k]))) then .inl () else .inr (.inr (.inr (false,0)))) := by
    intro x hx
    have := all_loopS (s_IsDiassociativeLoop_L1 a (x : Int)) (a.length - x) (fun k => allA a (subN a (· ∈ [x,x + k]))) (fun k => ((x + k : Nat) : Int)) (.inr (.inr (false,0))) (by rw [BIG_val]; omega)
     (fun k hk _ hf => by
      unfold s_IsDiassociativeLoop_L1
      rw [if_pos (by omega),(sub2 x (x + k) hx (by omega)).1,some_bind,s_dia2 hn hm subN_lt (hsl _),hf]
      simp only [if_true,some_bind]
      rw [w_in (by omega) (by omega)]; rfl)
     (fun k hk _ hf => by
      unfold s_IsDiassociativeLoop_L1
      rw [if_pos (by omega),(sub2 x (x + k) hx (by omega)).1,some_bind,s_dia2 hn hm subN_lt (hsl _),hf]
      rfl)
     (fun _ => by
      unfold s_IsDiassociativeLoop_L1
      rw [if_neg (by omega)])
    simpa using this
   have l0 := all_loop (s_IsDiassociativeLoop_L0 a) a.length (fun x => (List.range (a.length - x)).all (fun k => allA a (subN a (· ∈ [x,x + k])))) (false,0) (by rw [BIG_val]; omega)
    (fun k hk hf => by
     unfold s_IsDiassociativeLoop_L0
     rw [if_pos (by omega),l1 k hk,hf]
     simp only [if_true,some_bind]
     rw [w_in (by omega) (by omega)]; rfl)
    (fun k hk hf => by
     unfold s_IsDiassociativeLoop_L0
     rw [if_pos (by omega),l1 k hk,hf]
     rfl)
    (by
     unfold s_IsDiassociativeLoop_L0
     simp)
   rw [l0,some_bind]
   have e : ((List.range a.length).all fun x => (List.range (a.length - x)).all (fun k => allA a (subN a (· ∈ [x,x + k])))) = diaB a := by
    unfold diaB
    rw [Bool.eq_iff_iff]
    simp only [List.all_eq_true,List.mem_range]
    have sym : ∀ x y,subN a (· ∈ [x,y]) = subN a (· ∈ [y,x]) := fun x y => by
     unfold subN
     exact List.filter_congr fun k _ => mkB_congr (fun z => by simp [or_comm]) k
    constructor
    ·intro h x hx y hy
     have := h y (by omega) (x - y) (by omega)
     rw [show y + (x - y) = x by omega] at this
     rwa [sym]
    ·intro h x hx k hk
     have := h (x + k) (by omega) x (by omega)
     rwa [sym]
   rw [e]
   cases diaB a <;> rfl
  ·have l1 : ∀ x,x < a.length → loop (i_IsDiassociativeLoop_L1 a (x : Int)) BIG 0 = some (if (List.range (x + 1)).all (fun y => allA a (subN a (· ∈ [x,y]))) then .inl () else .inr (.inr (.inr (false,0)))) := by
    intro x hx
    refine all_loop (i_IsDiassociativeLoop_L1 a (x : Int)) (x + 1) (fun y => allA a (subN a (· ∈ [x,y]))) (.inr (.inr (false,0))) (by rw [BIG_val]; omega) ?_ ?_ ?_
    ·intro k hk hf
     unfold i_IsDiassociativeLoop_L1
     rw [w_in (x := (x : Int) + 1) (by omega) (by omega),if_pos (by omega),(sub2 x k hx (by omega)).2,some_bind,i_dia2 hn hm subN_lt (hsl _),hf]
     simp only [if_true,some_bind]
     rw [w_in (by omega) (by omega)]; rfl
    ·intro k hk hf
     unfold i_IsDiassociativeLoop_L1
     rw [w_in (x := (x : Int) + 1) (by omega) (by omega),if_pos (by omega),(sub2 x k hx (by omega)).2,some_bind,i_dia2 hn hm subN_lt (hsl _),hf]
     rfl
    ·unfold i_IsDiassociativeLoop_L1
     rw [w_in (x := (x : Int) + 1) (by omega) (by omega),if_neg (by omega)]
   have l0 := all_loop (i_IsDiassociativeLoop_L0 a (a.length : Int)) a.length (fun x => (List.range (x + 1)).all (fun y => allA a (subN a (· ∈ [x,y])))) (false,0) (by rw [BIG_val]; omega)
    (fun k hk hf => by
     unfold i_IsDiassociativeLoop_L0
     rw [if_pos (by omega),l1 k hk,hf]
     simp only [if_true,some_bind]
     rw [w_in (by omega) (by omega)]; rfl)
    (fun k hk hf => by
     unfold i_IsDiassociativeLoop_L0
     rw [if_pos (by omega),l1 k hk,hf]
     rfl)
    (by
     unfold i_IsDiassociativeLoop_L0
     simp)
   rw [l0,some_bind]
   unfold diaB
   cases (List.range a.length).all fun x => (List.range (x + 1)).all (fun y => allA a (subN a (· ∈ [x,y]))) <;> rfl

end Go.Vam

/- Plain laws: AutomorphismFrom. -/
namespace Go.Vam
open Go Go.RowKit
set_option linter.unusedSimpArgs false
set_option linter.unusedVariables false
set_option linter.unusedSectionVars false

section
variable {p : Int} {w : List Int} (hP : isP p = true) (hl : w.length ≤ 4) (hw : Vec p w.length w)
include hP hl hw
theorem axm_val {i j : Nat} (hi : i < 2 ^ w.length) (hj : j < 2 ^ w.length) : gI (axm p w i j) (i ^^^ j) = axS w.length w i j % p := by
 have hm := xor_lt hi hj
 have hv := (axm_vec hP hl hw hi hj).get hm
 have h1 : gI (axm p w i j) (i ^^^ j) % p = _ := mulr_gen (p := p) w.length hl w (axis (2 ^ w.length) i) (axis (2 ^ w.length) j) (i ^^^ j) hm
 rw [Int.emod_eq_of_lt hv.1 hv.2] at h1
 rw [h1,sumN_one hi (fun q hq hqi => by rw [gI_axis hi,if_neg hqi]; simp)]
 have hx : i ^^^ (i ^^^ j) = j := by rw [← Nat.xor_assoc,Nat.xor_self,Nat.zero_xor]
 rw [hx,gI_axis hi,if_pos rfl,gI_axis hj,if_pos rfl]
 simp
end
section
variable {p : Int} {w : List Int} {a : List (List Int)} (hP : isP p = true) (hl : w.length ≤ 3) (hw : Vec p w.length w) (hal : a.length = w.length) (ha : ∀ k,k < a.length → Vec p (2 ^ w.length) (gR a k))
include hP hl hw hal ha
end

end Go.Vam

/- Plain laws: the decomposition of an orthogonal matrix. -/
namespace Go.Vam
open Go Go.RowKit
set_option linter.unusedSimpArgs false
set_option linter.unusedVariables false

end Go.Vam

/- Plain laws: counts of norms, the search of units. -/
namespace Go.Vam
open Go Go.RowKit
set_option linter.unusedSimpArgs false
set_option linter.unusedVariables false
set_option linter.unusedSectionVars false

section
variable {p : Int} (hP : isP p = true)
include hP
variable {w : List Int} (hl : w.length ≤ 3) (hw : Vec p w.length w)
include hl hw
end
end Go.Vam

/- Plain laws: UnitsOf. -/
namespace Go.Vam
open Go Go.RowKit
set_option linter.unusedSimpArgs false
set_option linter.unusedVariables false
set_option linter.unusedSectionVars false

section
variable {p : Int} (hP : isP p = true) {dl : List Int} (hdv : Vec p dl.length dl) (hL8 : dl.length ≤ 8)
include hP hdv hL8
end

section
variable {p : Int} {w : List Int} (hP : isP p = true) (hl : w.length ≤ 3) (hw : Vec p w.length w)
include hP hl hw
end
end Go.Vam

/- Plain law: FnExactUnitsOf. -/
namespace Go.Vam
open Go Go.RowKit
set_option linter.unusedSimpArgs false
set_option linter.unusedVariables false

end Go.Vam

/- Plain laws: the norm of a product; LoopOfUnits. -/
namespace Go.Vam
open Go Go.RowKit
set_option linter.unusedSimpArgs false
set_option linter.unusedVariables false
set_option linter.unusedSectionVars false

end Go.Vam

/- Plain law: LoopOfUnits. -/
namespace Go.Vam
open Go Go.RowKit
set_option linter.unusedSimpArgs false
set_option linter.unusedVariables false
set_option linter.unusedSectionVars false

section
variable {p : Int} {w : List Int} (hP : isP p = true) (hl : w.length ≤ 3) (hw : Vec p w.length w)
include hP hl hw
end
section
variable {p : Int} {w : List Int} {U : List (List Int)} {C : Int} (hP : isP p = true) (hl : w.length ≤ 3) (hw : Vec p w.length w) (hU : U.length ≤ 1000) (hv : ∀ i,i < U.length → Vec p (2 ^ w.length) (gR U i))
 (hc : ∀ i j,i < U.length → j < U.length → mulp p w (gR U i) (gR U j) ∈ U)
include hP hl hw hU hv hc
end
end Go.Vam

/- Plain algebra: the identities of Moufang, products with conjugates. -/
namespace Go.Vam
open Go Go.RowKit
set_option linter.unusedSimpArgs false
set_option linter.unusedVariables false
set_option linter.unusedSectionVars false

theorem xc1 (a b : Nat) : a ^^^ (a ^^^ b) = b := by rw [← Nat.xor_assoc,Nat.xor_self,Nat.zero_xor]
theorem xc2 (a b : Nat) : a ^^^ (b ^^^ a) = b := by rw [Nat.xor_comm b a,xc1]
theorem xc3 (a b : Nat) : (a ^^^ b) ^^^ a = b := by rw [Nat.xor_comm,xc1]
theorem xc4 (a b : Nat) : (b ^^^ a) ^^^ a = b := by rw [Nat.xor_assoc,Nat.xor_self,Nat.xor_zero]

section
variable {n : Nat} (hn : n ≤ 3) (w : List Int)
include hn
end
end Go.Vam

/- Plain algebra: what is divided by an element of norm 1. -/
namespace Go.Vam
open Go Go.RowKit
set_option linter.unusedSimpArgs false
set_option linter.unusedVariables false
set_option linter.unusedSectionVars false

def e2 (u v t : Nat) : Nat := (u.testBit t).toNat + (v.testBit t).toNat
section
variable {n : Nat} (hn : n ≤ 3) (w : List Int)
include hn
end

/-! ### The same for elements -/
section
variable {p : Int} {w : List Int} (hP : isP p = true) (hl : w.length ≤ 3) (hw : Vec p w.length w)
include hP hl hw
end
end Go.Vam

/- Plain law: FnUnits. -/
namespace Go.Vam
open Go Go.RowKit
set_option linter.unusedSimpArgs false
set_option linter.unusedVariables false
set_option linter.unusedSectionVars false

section
variable {p : Int} {w : List Int} (hP : isP p = true) (hl : w.length ≤ 3) (hw : Vec p w.length w)
include hP hl hw
end
end Go.Vam

/- Plain law: FnUnits. -/
namespace Go.Vam
open Go Go.RowKit
set_option linter.unusedSimpArgs false
set_option linter.unusedVariables false
set_option linter.unusedSectionVars false

end Go.Vam

/- Plain laws: what the tests of loops answer: associative, commutative, Moufang. -/
namespace Go.Vam
open Go Go.RowKit
set_option linter.unusedSimpArgs false
set_option linter.unusedVariables false
set_option linter.unusedSectionVars false

def allT (n : Nat) (f : Nat → Nat → Nat → Bool) : Bool := (List.range n).all fun x => (List.range n).all fun y => (List.range n).all fun z => f x y z
theorem allT_iff {n : Nat} {f : Nat → Nat → Nat → Bool} : allT n f = true ↔ ∀ x y z,x < n → y < n → z < n → f x y z = true := by
 unfold allT
 simp only [List.all_eq_true,List.mem_range]
 exact ⟨fun h x y z hx hy hz => h x hx y hy z hz,fun h x hx y hy z hz => h x y z hx hy hz⟩
def moT (a : List (List Int)) (x y z : Nat) : Bool := decide (tN a (tN a x (tN a y z)) x = tN a (tN a x y) (tN a z x))
def comA (a : List (List Int)) : Bool := (List.range a.length).all fun x => (List.range a.length).all fun y => comB a x y
theorem checkLoop_ok {a : List (List Int)} (hL : isLp a = true) : i_checkLoop a [] = some 0 := by
 obtain ⟨hn,h0,hm⟩ := isLp_tab hL
 rw [i_checkLoop_eq (by omega) (by simp),hL]; simp

section
variable {a : List (List Int)} (hn : a.length ≤ 128) (hm : Mat (a.length : Int) a.length a.length a)
include hn hm
theorem i_assoc3 : i_loopTriples_of_i_IsAssociativeLoop_c1 a a = some (allT a.length (asB a)) := by
 have l2 : ∀ x y,x < a.length → y < a.length → loop (i_loopTriples_of_i_IsAssociativeLoop_c1_L2 a (x : Int) (y : Int) (a.length : Int)) BIG 0 = some (if (List.range a.length).all (fun z => asB a x y z) then .inl () else .inr (.inr (.inr (.inr (.inr false))))) := by
  intro x y hx hy
  refine all_loop _ a.length _ _ (by rw [BIG_val]; omega) ?_ ?_ ?_
  ·intro z hz hf
   unfold i_loopTriples_of_i_IsAssociativeLoop_c1_L2 i_IsAssociativeLoop_c1
   simp only [lt_cast hz,if_true,(as_eq hn hm hx hy hz).2,some_bind,hf,Bool.true_eq_false,if_false]
   rw [w_in (by omega) (by omega)]; rfl
  ·intro z hz hf
   unfold i_loopTriples_of_i_IsAssociativeLoop_c1_L2 i_IsAssociativeLoop_c1
   simp only [lt_cast hz,if_true,(as_eq hn hm hx hy hz).2,some_bind,hf]
  ·unfold i_loopTriples_of_i_IsAssociativeLoop_c1_L2
   simp only [lt_cast_self,if_false]
 have l1 : ∀ x,x < a.length → loop (i_loopTriples_of_i_IsAssociativeLoop_c1_L1 a a (x : Int) (a.length : Int)) BIG 0 = some (if (List.range a.length).all (fun y => (List.range a.length).all (fun z => asB a x y z)) then .inl () else .inr (.inr (.inr false))) := by
  intro x hx
  refine all_loop _ a.length _ _ (by rw [BIG_val]; omega) ?_ ?_ ?_
  ·intro y hy hf
   unfold i_loopTriples_of_i_IsAssociativeLoop_c1_L1 i_length_LI
   simp only [lt_cast hy,if_true,some_bind,l2 x y hx hy,hf]
   rw [w_in (by omega) (by omega)]; rfl
  ·intro y hy hf
   unfold i_loopTriples_of_i_IsAssociativeLoop_c1_L1 i_length_LI
   simp only [lt_cast hy,if_true,some_bind,l2 x y hx hy,hf]
   rfl
  ·unfold i_loopTriples_of_i_IsAssociativeLoop_c1_L1
   simp only [lt_cast_self,if_false]
 unfold i_loopTriples_of_i_IsAssociativeLoop_c1 i_length_LI
 rw [some_bind,all_loop (i_loopTriples_of_i_IsAssociativeLoop_c1_L0 a a (a.length : Int)) a.length (fun x => (List.range a.length).all (fun y => (List.range a.length).all (fun z => asB a x y z))) false (by rw [BIG_val]; omega) ?_ ?_ ?_]
 ·unfold allT
  cases ((List.range a.length).all fun x => (List.range a.length).all (fun y => (List.range a.length).all (fun z => asB a x y z))) <;> rfl
 ·intro x hx hf
  unfold i_loopTriples_of_i_IsAssociativeLoop_c1_L0 i_length_LI
  simp only [lt_cast hx,if_true,some_bind,l1 x hx,hf]
  rw [w_in (by omega) (by omega)]; rfl
 ·intro x hx hf
  unfold i_loopTriples_of_i_IsAssociativeLoop_c1_L0 i_length_LI
  simp only [lt_cast hx,if_true,some_bind,l1 x hx,hf]
  rfl
 ·unfold i_loopTriples_of_i_IsAssociativeLoop_c1_L0
  simp only [lt_cast_self,if_false]
theorem mo_eq {x y z : Nat} (hx : x < a.length) (hy : y < a.length) (hz : z < a.length) : i_IsMoufangLoop_c1 (x : Int) (y : Int) (z : Int) a = some (moT a x y z) := by
 have h1 := (tN_lt hn hm hy hz).1
 have h2 := (tN_lt hn hm hx h1).1
 have h3 := (tN_lt hn hm hx hy).1
 have h4 := (tN_lt hn hm hz hx).1
 unfold i_IsMoufangLoop_c1
 rw [idxR hx,some_bind,idxR hy,some_bind,idx_t hn hm hy hz,some_bind,idx_t hn hm hx h1,some_bind,idxR h2,some_bind,idx_t hn hm h2 hx,some_bind,idx_t hn hm hx hy,some_bind,idxR h3,some_bind,
  idxR hz,some_bind,idx_t hn hm hz hx,some_bind,idx_t hn hm h3 h4,some_bind,ieq_nat]
 rfl
theorem i_mouf3 : i_loopTriples_of_i_IsMoufangLoop_c1 a a = some (allT a.length (moT a)) := by
 have l2 : ∀ x y,x < a.length → y < a.length → loop (i_loopTriples_of_i_IsMoufangLoop_c1_L2 a (x : Int) (y : Int) (a.length : Int)) BIG 0 = some (if (List.range a.length).all (fun z => moT a x y z) then .inl () else .inr (.inr (.inr (.inr (.inr false))))) := by
  intro x y hx hy
  refine all_loop _ a.length _ _ (by rw [BIG_val]; omega) ?_ ?_ ?_
  ·intro z hz hf
   unfold i_loopTriples_of_i_IsMoufangLoop_c1_L2
   simp only [lt_cast hz,if_true,mo_eq hn hm hx hy hz,some_bind,hf,Bool.true_eq_false,if_false]
   rw [w_in (by omega) (by omega)]; rfl
  ·intro z hz hf
   unfold i_loopTriples_of_i_IsMoufangLoop_c1_L2
   simp only [lt_cast hz,if_true,mo_eq hn hm hx hy hz,some_bind,hf]
  ·unfold i_loopTriples_of_i_IsMoufangLoop_c1_L2
   simp only [lt_cast_self,if_false]
 have l1 : ∀ x,x < a.length → loop (i_loopTriples_of_i_IsMoufangLoop_c1_L1 a a (x : Int) (a.length : Int)) BIG 0 = some (if (List.range a.length).all (fun y => (List.range a.length).all (fun z => moT a x y z)) then .inl () else .inr (.inr (.inr false))) := by
  intro x hx
  refine all_loop _ a.length _ _ (by rw [BIG_val]; omega) ?_ ?_ ?_
  ·intro y hy hf
   unfold i_loopTriples_of_i_IsMoufangLoop_c1_L1 i_length_LI
   simp only [lt_cast hy,if_true,some_bind,l2 x y hx hy,hf]
   rw [w_in (by omega) (by omega)]; rfl
  ·intro y hy hf
   unfold i_loopTriples_of_i_IsMoufangLoop_c1_L1 i_length_LI
   simp only [lt_cast hy,if_true,some_bind,l2 x y hx hy,hf]
   rfl
  ·unfold i_loopTriples_of_i_IsMoufangLoop_c1_L1
   simp only [lt_cast_self,if_false]
 unfold i_loopTriples_of_i_IsMoufangLoop_c1 i_length_LI
 rw [some_bind,all_loop (i_loopTriples_of_i_IsMoufangLoop_c1_L0 a a (a.length : Int)) a.length (fun x => (List.range a.length).all (fun y => (List.range a.length).all (fun z => moT a x y z))) false (by rw [BIG_val]; omega) ?_ ?_ ?_]
 ·unfold allT
  cases ((List.range a.length).all fun x => (List.range a.length).all (fun y => (List.range a.length).all (fun z => moT a x y z))) <;> rfl
 ·intro x hx hf
  unfold i_loopTriples_of_i_IsMoufangLoop_c1_L0 i_length_LI
  simp only [lt_cast hx,if_true,some_bind,l1 x hx,hf]
  rw [w_in (by omega) (by omega)]; rfl
 ·intro x hx hf
  unfold i_loopTriples_of_i_IsMoufangLoop_c1_L0 i_length_LI
  simp only [lt_cast hx,if_true,some_bind,l1 x hx,hf]
  rfl
 ·unfold i_loopTriples_of_i_IsMoufangLoop_c1_L0
  simp only [lt_cast_self,if_false]
end
section
variable {a : List (List Int)} (hL : isLp a = true)
include hL
theorem IsAssociativeLoop_val : i_IsAssociativeLoop a = some (allT a.length (asB a),0) := by
 obtain ⟨hn,h0,hm⟩ := isLp_tab hL
 unfold i_IsAssociativeLoop
 rw [checkLoop_ok hL,some_bind,if_neg (by simp),i_assoc3 hn hm,some_bind]
theorem IsMoufangLoop_val : i_IsMoufangLoop a = some (allT a.length (moT a),0) := by
 obtain ⟨hn,h0,hm⟩ := isLp_tab hL
 unfold i_IsMoufangLoop
 rw [checkLoop_ok hL,some_bind,if_neg (by simp),i_mouf3 hn hm,some_bind]
theorem IsCommutativeLoop_val : i_IsCommutativeLoop a = some (comA a,0) := by
 obtain ⟨hn,h0,hm⟩ := isLp_tab hL
 unfold i_IsCommutativeLoop
 rw [checkLoop_ok hL,some_bind,if_neg (by simp),i_transpose_eq h0 (by omega) (by omega) hm,some_bind,i_sameRows_eq (by omega) (fun r hr => by
  obtain ⟨k,hk,rfl⟩ := List.getElem_of_mem hr
  rw [gR_get hk,(hm.row hk).1]; omega),some_bind]
 have e : decide (a = turnm a.length a.length a) = comA a := by
  rw [Bool.eq_iff_iff,decide_eq_true_eq]
  unfold comA comB
  simp only [List.all_eq_true,List.mem_range,decide_eq_true_eq]
  constructor
  ·intro h x hx y hy
   unfold tN
   have : gI (gR a x) y = gI (gR (turnm a.length a.length a) x) y := by rw [← h]
   rw [this,turnm_at hy hx]
  ·intro h
   refine extR rfl fun i hi => extI (hm.row hi).1 fun j hj => ?_
   rw [(tN_lt hn hm hi hj).2,(tN_lt hn hm hj hi).2,h i hi j hj]
 rw [e]
end
end Go.Vam

/- Plain algebra: loops of signed axes: what their tests answer, by the signs alone. -/
namespace Go.Vam
open Go Go.RowKit
set_option linter.unusedSimpArgs false
set_option linter.unusedVariables false
set_option linter.unusedSectionVars false

def tS (f : Nat → Nat → Bool) (i j : Nat) : Nat := 2 * (i / 2 ^^^ j / 2) + (i + j + (f (i / 2) (j / 2)).toNat) % 2
theorem tS_half (f : Nat → Nat → Bool) (i j : Nat) : tS f i j / 2 = i / 2 ^^^ j / 2 := by unfold tS; omega
theorem tS_mod (f : Nat → Nat → Bool) (i j : Nat) : tS f i j % 2 = (i + j + (f (i / 2) (j / 2)).toNat) % 2 := by unfold tS; omega
theorem half_ext {i j : Nat} (h1 : i / 2 = j / 2) (h2 : i % 2 = j % 2) : i = j := by omega

def coB (f : Nat → Nat → Bool) (a b c : Nat) : Bool := (f a b ^^ f (a ^^^ b) c) == (f b c ^^ f a (b ^^^ c))
def mfB (f : Nat → Nat → Bool) (a b c : Nat) : Bool := (f b c ^^ (f a (b ^^^ c) ^^ f (a ^^^ (b ^^^ c)) a)) == (f a b ^^ (f c a ^^ f (a ^^^ b) (c ^^^ a)))
def coA (f : Nat → Nat → Bool) (N : Nat) : Bool := (List.range N).all fun a => (List.range N).all fun b => f a b == f b a
def oneA (f : Nat → Nat → Bool) (N : Nat) : Bool := (List.range N).all fun a => !f 0 a && !f a 0
def spanL (a b : Nat) : List Nat := [0,a,b,a ^^^ b]
def dspB (f : Nat → Nat → Bool) (a b : Nat) : Bool := (spanL a b).all fun c => (spanL a b).all fun d => (spanL a b).all fun e => coB f c d e
def dspA (f : Nat → Nat → Bool) (N : Nat) : Bool := (List.range N).all fun a => (List.range N).all fun b => dspB f a b

theorem bp {a b : Bool} {x : Nat} : (x + a.toNat) % 2 = (x + b.toNat) % 2 ↔ a = b := by cases a <;> cases b <;> simp <;> omega
theorem tS_assoc (f : Nat → Nat → Bool) (x y z : Nat) : decide (tS f (tS f x y) z = tS f x (tS f y z)) = coB f (x / 2) (y / 2) (z / 2) := by
 rw [Bool.eq_iff_iff,decide_eq_true_eq]
 have h1 : tS f (tS f x y) z / 2 = tS f x (tS f y z) / 2 := by simp only [tS_half,Nat.xor_assoc]
 have m1 : tS f (tS f x y) z % 2 = (x + y + z + (f (x / 2) (y / 2) ^^ f (x / 2 ^^^ y / 2) (z / 2)).toNat) % 2 := by
  rw [tS_mod,tS_half]
  have := tS_mod f x y
  cases h1 : f (x / 2) (y / 2) <;> cases h2 : f (x / 2 ^^^ y / 2) (z / 2) <;> rw [h1] at this <;> simp at this ⊢ <;> omega
 have m2 : tS f x (tS f y z) % 2 = (x + y + z + (f (y / 2) (z / 2) ^^ f (x / 2) (y / 2 ^^^ z / 2)).toNat) % 2 := by
  rw [tS_mod,tS_half]
  have := tS_mod f y z
  cases h1 : f (y / 2) (z / 2) <;> cases h2 : f (x / 2) (y / 2 ^^^ z / 2) <;> rw [h1] at this <;> simp at this ⊢ <;> omega
 unfold coB
 rw [beq_iff_eq,← bp (x := x + y + z),← m1,← m2]
 exact ⟨fun h => by rw [h],fun h => half_ext h1 h⟩
theorem tS_mouf (f : Nat → Nat → Bool) (x y z : Nat) : decide (tS f (tS f x (tS f y z)) x = tS f (tS f x y) (tS f z x)) = mfB f (x / 2) (y / 2) (z / 2) := by
 rw [Bool.eq_iff_iff,decide_eq_true_eq]
 have h1 : tS f (tS f x (tS f y z)) x / 2 = tS f (tS f x y) (tS f z x) / 2 := by simp only [tS_half,Nat.xor_assoc]
 have m1 : tS f (tS f x (tS f y z)) x % 2 = (x + y + z + x + (f (y / 2) (z / 2) ^^ (f (x / 2) (y / 2 ^^^ z / 2) ^^ f (x / 2 ^^^ (y / 2 ^^^ z / 2)) (x / 2))).toNat) % 2 := by
  rw [tS_mod,tS_half,tS_half]
  have e1 := tS_mod f y z
  have e2 := tS_mod f x (tS f y z)
  rw [tS_half] at e2
  cases h1 : f (y / 2) (z / 2) <;> cases h2 : f (x / 2) (y / 2 ^^^ z / 2) <;> cases h3 : f (x / 2 ^^^ (y / 2 ^^^ z / 2)) (x / 2) <;> rw [h1] at e1 <;> rw [h2] at e2 <;> simp at e1 e2 ⊢ <;> omega
 have m2 : tS f (tS f x y) (tS f z x) % 2 = (x + y + z + x + (f (x / 2) (y / 2) ^^ (f (z / 2) (x / 2) ^^ f (x / 2 ^^^ y / 2) (z / 2 ^^^ x / 2))).toNat) % 2 := by
  rw [tS_mod,tS_half,tS_half]
  have e1 := tS_mod f x y
  have e2 := tS_mod f z x
  cases h1 : f (x / 2) (y / 2) <;> cases h2 : f (z / 2) (x / 2) <;> cases h3 : f (x / 2 ^^^ y / 2) (z / 2 ^^^ x / 2) <;> rw [h1] at e1 <;> rw [h2] at e2 <;> simp at e1 e2 ⊢ <;> omega
 unfold mfB
 rw [beq_iff_eq,← bp (x := x + y + z + x),← m1,← m2]
 exact ⟨fun h => by rw [h],fun h => half_ext h1 h⟩
theorem tS_injR {f : Nat → Nat → Bool} {i j j' : Nat} (h : tS f i j = tS f i j') : j = j' := by
 have h1 : j / 2 = j' / 2 := by
  have : i / 2 ^^^ j / 2 = i / 2 ^^^ j' / 2 := by rw [← tS_half f,← tS_half f,h]
  have := congrArg (fun x => i / 2 ^^^ x) this
  simpa only [xc1] using this
 have h2 := congrArg (· % 2) h
 simp only [tS_mod,h1] at h2
 omega
theorem tS_injL {f : Nat → Nat → Bool} {i j j' : Nat} (h : tS f j i = tS f j' i) : j = j' := by
 have h1 : j / 2 = j' / 2 := by
  have : j / 2 ^^^ i / 2 = j' / 2 ^^^ i / 2 := by rw [← tS_half f,← tS_half f,h]
  have := congrArg (fun x => x ^^^ i / 2) this
  simpa only [xc4] using this
 have h2 := congrArg (· % 2) h
 simp only [tS_mod,h1] at h2
 omega
theorem span_xor {a b u v : Nat} (hu : u ∈ spanL a b) (hv : v ∈ spanL a b) : u ^^^ v ∈ spanL a b := by
 unfold spanL at *
 simp only [List.mem_cons,List.not_mem_nil,or_false] at hu hv ⊢
 rcases hu with rfl | rfl | rfl | rfl <;> rcases hv with rfl | rfl | rfl | rfl <;> simp [Nat.xor_self,xc1,xc2,xc3,xc4,Nat.xor_comm] <;> simp [Nat.xor_comm]

theorem once_inj {n : Nat} {f : Nat → Int} (h1 : ∀ j,j < n → 0 ≤ f j ∧ f j < n) (h2 : ∀ i j,i < n → j < n → f i = f j → i = j) : onceB n f = true := by
 unfold onceB okB
 refine List.all_eq_true.2 fun j hj => ?_
 have hj' := List.mem_range.1 hj
 have := h1 j hj'
 simp only [Bool.and_eq_true,decide_eq_true_eq,Bool.not_eq_true',List.any_eq_false,List.mem_range]
 refine ⟨⟨this.1,by omega⟩,fun k hk e => ?_⟩
 have := h2 k j (by omega) hj' e
 omega
structure Sgn (n : Nat) (f : Nat → Nat → Bool) (a : List (List Int)) : Prop where
 n4 : n ≤ 4
 len : a.length = 2 * 2 ^ n
 row : ∀ i,i < a.length → (gR a i).length = a.length
 val : ∀ i j,i < a.length → j < a.length → gI (gR a i) j = ((tS f i j : Nat) : Int)
 one : oneA f (2 ^ n) = true
theorem allT_half {N : Nat} {g h : Nat → Nat → Nat → Bool} (e : ∀ x y z,x < 2 * N → y < 2 * N → z < 2 * N → g x y z = h (x / 2) (y / 2) (z / 2)) : allT (2 * N) g = allT N h := by
 rw [Bool.eq_iff_iff,allT_iff,allT_iff]
 constructor
 ·intro H x y z hx hy hz
  have := H (2 * x) (2 * y) (2 * z) (by omega) (by omega) (by omega)
  rw [e _ _ _ (by omega) (by omega) (by omega)] at this
  simpa using this
 ·intro H x y z hx hy hz
  rw [e x y z hx hy hz]
  exact H _ _ _ (by omega) (by omega) (by omega)
section
variable {n : Nat} {f : Nat → Nat → Bool} {a : List (List Int)} (h : Sgn n f a)
include h
theorem Sgn.pw : 2 ^ n ≤ 16 := by
 have := Nat.pow_le_pow_right (show 0 < 2 by omega) h.n4
 omega
theorem Sgn.lt {i j : Nat} (hi : i < a.length) (hj : j < a.length) : tS f i j < a.length := by
 have hl := h.len
 have : i / 2 ^^^ j / 2 < 2 ^ n := xor_lt (by omega) (by omega)
 unfold tS
 omega
theorem Sgn.tN {i j : Nat} (hi : i < a.length) (hj : j < a.length) : Go.Vam.tN a i j = tS f i j := by unfold Go.Vam.tN; rw [h.val i j hi hj]; rfl
theorem Sgn.isLp : isLp a = true := by
 have hp := h.pw
 have hl := h.len
 have h2 := Nat.two_pow_pos n
 unfold Go.Vam.isLp
 simp only [Bool.and_eq_true,decide_eq_true_eq,List.all_eq_true,List.mem_range]
 refine ⟨by omega,fun i hi => h.row i hi,fun i hi => ?_⟩
 have ho : f 0 (i / 2) = false ∧ f (i / 2) 0 = false := by
  have := List.all_eq_true.1 h.one (i / 2) (List.mem_range.2 (by omega))
  simpa using this
 unfold rowB
 simp only [Bool.and_eq_true,decide_eq_true_eq]
 have z0 : 0 < a.length := by omega
 refine ⟨⟨once_inj (fun j hj => ?_) fun j j' hj hj' e => ?_,once_inj (fun j hj => ?_) fun j j' hj hj' e => ?_⟩,?_,?_⟩
 ·rw [h.val i j hi hj]; have := h.lt hi hj; omega
 ·rw [h.val i j hi hj,h.val i j' hi hj'] at e
  exact tS_injR (f := f) (i := i) (by omega)
 ·rw [h.val j i hj hi]; have := h.lt hj hi; omega
 ·skip
  rw [h.val j i hj hi,h.val j' i hj' hi] at e
  exact tS_injL (f := f) (i := i) (by omega)
 ·rw [h.val 0 i z0 hi]
  unfold tS
  simp [ho.1]; omega
 ·rw [h.val i 0 hi z0]
  unfold tS
  simp [ho.2]; omega
theorem Sgn.asB {x y z : Nat} (hx : x < a.length) (hy : y < a.length) (hz : z < a.length) : asB a x y z = coB f (x / 2) (y / 2) (z / 2) := by
 unfold Go.Vam.asB
 rw [h.tN hx hy,h.tN hy hz,h.tN (h.lt hx hy) hz,h.tN hx (h.lt hy hz)]
 exact tS_assoc f x y z
theorem Sgn.mouf : allT a.length (moT a) = allT (2 ^ n) (mfB f) := by
 rw [h.len]
 refine allT_half fun x y z hx hy hz => ?_
 rw [← h.len] at hx hy hz
 unfold moT
 rw [h.tN hy hz,h.tN hx (h.lt hy hz),h.tN (h.lt hx (h.lt hy hz)) hx,h.tN hx hy,h.tN hz hx,h.tN (h.lt hx hy) (h.lt hz hx)]
 exact tS_mouf f x y z
theorem Sgn.dia (hd : dspA f (2 ^ n) = true) : diaB a = true := by
 have hl := h.len
 unfold diaB
 simp only [List.all_eq_true,List.mem_range]
 intro x hx y hy
 have hy' : y < a.length := by omega
 have key : ∀ u ∈ subN a (· ∈ [x,y]),u < a.length ∧ u / 2 ∈ spanL (x / 2) (y / 2) := by
  intro u hu
  have hk := mkB_iff.1 (List.mem_filter.1 hu).2
  refine hk.least (T := fun u => u < a.length ∧ u / 2 ∈ spanL (x / 2) (y / 2)) ⟨by omega,by simp [spanL]⟩ (fun z hz => ?_) fun u v hu hv => ?_
  ·simp only [List.mem_cons,List.not_mem_nil,or_false] at hz
   rcases hz with rfl | rfl
   ·exact ⟨hx,by simp [spanL]⟩
   ·exact ⟨hy',by simp [spanL]⟩
  ·rw [h.tN hu.1 hv.1]
   exact ⟨h.lt hu.1 hv.1,by rw [tS_half]; exact span_xor hu.2 hv.2⟩
 unfold dspA at hd
 simp only [List.all_eq_true,List.mem_range] at hd
 have hs := hd (x / 2) (by omega) (y / 2) (by omega)
 unfold dspB at hs
 simp only [List.all_eq_true] at hs
 unfold allA
 simp only [List.all_eq_true]
 intro u hu v hv w hw
 obtain ⟨u1,u2⟩ := key u hu
 obtain ⟨v1,v2⟩ := key v hv
 obtain ⟨w1,w2⟩ := key w hw
 rw [h.asB u1 v1 w1]
 exact hs _ u2 _ v2 _ w2
end
end Go.Vam

/- Plain law: FnSignedBases. -/
namespace Go.Vam
open Go Go.RowKit
set_option linter.unusedSimpArgs false
set_option linter.unusedVariables false
set_option linter.unusedSectionVars false

def sgnL : Nat → List (List Int)
 | 0 => [[]]
 | n + 1 => (sgnL n).flatMap fun v => [1 :: v,-1 :: v]
theorem mem_sgnL : ∀ {v : List Int},(∀ x ∈ v,x = 1 ∨ x = -1) → v ∈ sgnL v.length
 | [],_ => by simp [sgnL]
 | x :: v,h => by
  have ih := mem_sgnL (v := v) fun y hy => h y (by simp [hy])
  simp only [List.length_cons,sgnL,List.mem_flatMap]
  refine ⟨v,ih,?_⟩
  rcases h x (by simp) with rfl | rfl <;> simp
def neF (n : Nat) (v : List Int) (x y : Nat) : Bool := !decide (sgF n x y * wpF v n (x &&& y) = 1)
def chkS (n : Nat) (v : List Int) : Bool :=
 oneA (neF n v) (2 ^ n) && ((allT (2 ^ n) (coB (neF n v)) == decide (n ≤ 2)) && ((allT (2 ^ n) (mfB (neF n v)) == decide (n ≤ 3)) && ((coA (neF n v) (2 ^ n) == decide (n ≤ 1)) && (decide (3 < n) || dspA (neF n v) (2 ^ n)))))
theorem chkS_0 : ((List.range 3).all fun n => (sgnL n).all (chkS n)) = true := by decide +kernel
theorem chkS_4 : ((sgnL 4).all (chkS 4)) = true := by decide +kernel
theorem chkS_3 : ((sgnL 3).all (chkS 3)) = true := by decide +kernel
end Go.Vam

/- Plain law: FnSignedBases. -/
namespace Go.Vam
open Go Go.RowKit
set_option linter.unusedSimpArgs false
set_option linter.unusedVariables false
set_option linter.unusedSectionVars false

theorem chkS_all {n : Nat} {v : List Int} (hn : n ≤ 4) (hv : v ∈ sgnL n) : chkS n v = true := by
 by_cases h : n < 3
 ·exact List.all_eq_true.1 (List.all_eq_true.1 chkS_0 n (List.mem_range.2 h)) v hv
 ·by_cases h3 : n = 3
  ·subst h3; exact List.all_eq_true.1 chkS_3 v hv
  ·have : n = 4 := by omega
   subst this; exact List.all_eq_true.1 chkS_4 v hv
theorem pm_mul {x y : Int} (hx : x = 1 ∨ x = -1) (hy : y = 1 ∨ y = -1) : x * y = 1 ∨ x * y = -1 := by
 rcases hx with rfl | rfl <;> rcases hy with rfl | rfl <;> simp
theorem sgs_pm (j : Nat) : sgs j = 1 ∨ sgs j = -1 := by unfold sgs; split <;> simp
theorem sgF_pm : ∀ n i j,sgF n i j = 1 ∨ sgF n i j = -1
 | 0,_,_ => .inl rfl
 | n + 1,i,j => by
  unfold sgF
  split <;> split
  ·exact sgF_pm n _ _
  ·exact sgF_pm n _ _
  ·exact pm_mul (sgs_pm _) (sgF_pm n _ _)
  ·exact pm_mul (sgs_pm _) (sgF_pm n _ _)
theorem wpF_pm {v : List Int} : ∀ n,(∀ t,t < n → gI v t = 1 ∨ gI v t = -1) → ∀ m,wpF v n m = 1 ∨ wpF v n m = -1
 | 0,_,_ => .inl rfl
 | n + 1,h,m => by
  unfold wpF
  refine pm_mul ?_ (wpF_pm n (fun t ht => h t (by omega)) _)
  split
  ·exact .inl rfl
  ·exact h n (by omega)
theorem wpF_mod {p : Int} {v w : List Int} : ∀ n,(∀ t,t < n → gI w t % p = gI v t % p) → ∀ m,wpF w n m % p = wpF v n m % p
 | 0,_,_ => rfl
 | n + 1,h,m => by
  unfold wpF
  rw [Int.mul_emod,wpF_mod n (fun t ht => h t (by omega)),Int.mul_emod (if m < 2 ^ n then 1 else gI v n)]
  congr 2
  split
  ·rfl
  ·rw [h n (by omega)]
def sgV (w : List Int) : List Int := w.map fun x => if x = 1 then 1 else -1
theorem sgV_gI {w : List Int} {t : Nat} (h : t < w.length) : gI (sgV w) t = if gI w t = 1 then 1 else -1 := by
 rw [← gI_get (by simpa [sgV] using h),← gI_get h]; simp [sgV]
section
variable {p : Int} {w : List Int} (hP : isP p = true) (hl : w.length ≤ 4) (hw : Vec p w.length w) (hs : ∀ x ∈ w,x = 1 ∨ x = p - 1)
include hP hl hw hs
theorem prod_sign {x y : Nat} (hx : x < 2 ^ w.length) (hy : y < 2 ^ w.length) : (gI (gR (prodm p w) x) y = 1) ↔ neF w.length (sgV w) x y = false := by
 have hp := isP_le hP
 have e1 : gI (gR (prodm p w) x) y = axS w.length w x y % p := by
  unfold prodm
  rw [gR_vecN _ hx,gI_vecN _ hy]
  exact axm_val hP hl hw hx hy
 rw [e1,axS_split w.length hl w x y hx hy,Int.mul_emod,wpF_mod (v := sgV w) w.length (fun t ht => ?_),← Int.mul_emod]
 ·have h1 := pm_mul (sgF_pm w.length x y) (wpF_pm (v := sgV w) w.length (fun t ht => by rw [sgV_gI ht]; split <;> simp) (x &&& y))
  unfold neF
  rcases h1 with h1 | h1
  ·rw [h1,Int.emod_eq_of_lt (by omega) (by omega)]; simp
  ·rw [h1]
   have : (-1 : Int) % p = p - 1 := by
    rw [show (-1 : Int) = (p - 1) + p * (-1) by omega,Int.add_mul_emod_self_left,Int.emod_eq_of_lt (by omega) (by omega)]
   rw [this]
   simp only [Bool.not_eq_false',decide_eq_true_eq]
   constructor <;> intro h <;> omega
 ·rw [sgV_gI ht]
  rcases hs (gI w t) (by rw [← gI_get ht]; exact List.getElem_mem _) with h | h
  ·rw [h]; simp
  ·by_cases h1 : gI w t = 1
   ·rw [if_pos h1,h1]
   ·rw [if_neg h1,h]
    rw [show p - 1 = -1 + p * 1 by omega,Int.add_mul_emod_self_left]
theorem sgm_sgn : Sgn w.length (neF w.length (sgV w)) (sgm (prodm p w) (2 ^ w.length)) := by
 have h16 := two_le hl
 have hlen : (sgm (prodm p w) (2 ^ w.length)).length = 2 * 2 ^ w.length := by unfold sgm; simp
 have hv : sgV w ∈ sgnL w.length := by
  have := mem_sgnL (v := sgV w) fun x hx => by
   obtain ⟨y,_,rfl⟩ := List.mem_map.1 hx
   split <;> simp
  rwa [show (sgV w).length = w.length by simp [sgV]] at this
 have hc := chkS_all hl hv
 unfold chkS at hc
 simp only [Bool.and_eq_true] at hc
 refine ⟨hl,hlen,fun i hi => ?_,fun i j hi hj => ?_,hc.1⟩
 ·rw [hlen] at hi ⊢
  unfold sgm; rw [gR_vecN _ hi]; simp
 ·rw [hlen] at hi hj
  unfold sgm
  rw [gR_vecN _ hi,gI_vecN _ hj]
  have hx : i / 2 < 2 ^ w.length := by omega
  have hy : j / 2 < 2 ^ w.length := by omega
  have hxy := xor_lt hx hy
  have hp := prod_sign hP hl hw hs hx hy
  unfold sgE tS
  rw [bxor_k _ (by omega) _ (by omega),w_in (x := (i : Int) + (j : Int)) (by omega) (by omega)]
  have em : ((i : Int) + (j : Int)).tmod 2 = (((i + j) % 2 : Nat) : Int) := by
   rw [Int.tmod_eq_emod_of_nonneg (by omega)]; omega
  rw [em,w_in (x := 2 * ((i / 2 ^^^ j / 2 : Nat) : Int)) (by omega) (by omega),w_in (x := 1 - (((i + j) % 2 : Nat) : Int)) (by omega) (by omega)]
  cases hne : neF w.length (sgV w) (i / 2) (j / 2) with
  | false =>
   rw [if_neg (by simpa using hp.2 hne),w_in (by omega) (by omega)]
   simp only [Bool.toNat_false]; omega
  | true =>
   rw [if_pos (fun e => by have := hp.1 e; rw [hne] at this; cases this),w_in (by omega) (by omega)]
   simp only [Bool.toNat_true]; omega
end
theorem SignedBasis_cases {p : Int} {w : List Int} (hw : w.length ≤ 1048576) :
  (∃ C,C ≠ 0 ∧ s_SignedBasis p w = some ([],C) ∧ i_SignedBasis p w = some ([],C)) ∨
  (isP p = true ∧ w.length ≤ 4 ∧ Vec p w.length w ∧ (∀ x ∈ w,x = 1 ∨ x = p - 1) ∧ s_SignedBasis p w = some (sgm (prodm p w) (2 ^ w.length),0) ∧ i_SignedBasis p w = some (sgm (prodm p w) (2 ^ w.length),0)) := by
 unfold s_SignedBasis i_SignedBasis
 rw [s_l11Is_eq hw,i_IsDoubling_eq hw,some_bind,some_bind]
 cases hd : isDb p w with
 | false => exact .inl ⟨1,by simp,by simp,by simp⟩
 | true =>
  obtain ⟨hP,hl,hv,_⟩ := isDb_iff hd
  have hp := isP_le hP
  have w1 : w64 (p - 1) = p - 1 := w_in (by omega) (by omega)
  have hT := prodm_mat hP hl hv
  have h16 := two_le hl
  have c1 : g_slices_ContainsFunc_LI_I_of_i_SignedBasis_c1 w p w = some (w.any (noSign p)) := by
   unfold g_slices_ContainsFunc_LI_I_of_i_SignedBasis_c1 g_slices_IndexFunc_LI_I_of_i_SignedBasis_c1
   refine contains_loop w 0 (noSign p) hw _ (fun k hk => ?_) ?_
   ·unfold g_slices_IndexFunc_LI_I_of_i_SignedBasis_c1_L0 i_SignedBasis_c1 noSign
    rw [if_pos (by omega),idxI hk,some_bind,w1,w_in (x := (k : Int) + 1) (by omega) (by omega)]
    show _ = if (!(decide (gI w k = 1)) && !(ieq (gI w k) (p - 1))) = true then _ else _
    by_cases h : gI w k = 1
    ·simp [h]
    ·simp [h]
   ·unfold g_slices_IndexFunc_LI_I_of_i_SignedBasis_c1_L0
    simp
  obtain ⟨b,b1,b2⟩ := any_loop (s_SignedBasis_L0 p w) w.length (fun k => noSign p (gI w k)) (fun _ => (([] : List (List Int)),(5 : Int))) (by rw [BIG_val]; omega)
   (fun k hk hf => by
    unfold s_SignedBasis_L0
    unfold noSign at hf
    rw [if_pos (by omega),idxI hk,some_bind,w1,w_in (x := (k : Int) + 1) (by omega) (by omega)]
    by_cases h : gI w k = 1
    ·simp [h]
    ·simp [h] at hf ⊢
     simp [hf]) (fun k hk hf => by
    unfold s_SignedBasis_L0
    unfold noSign at hf
    rw [if_pos (by omega),idxI hk,some_bind,w1]
    by_cases h : gI w k = 1
    ·simp [h] at hf
    ·simp [h] at hf ⊢
     simp [hf]) (by
    unfold s_SignedBasis_L0
    simp)
  have e : w.any (noSign p) = (List.range w.length).any fun k => noSign p (gI w k) := (any_range w (noSign p) 0).symm
  simp only [Bool.true_eq_false,if_false,c1,some_bind,b1]
  rcases b2 with ⟨rfl,h3⟩ | ⟨k,hk,rfl,hf,h3,_⟩
  ·right
   have hs : ∀ x ∈ w,x = 1 ∨ x = p - 1 := fun x hx => by
    rw [← e] at h3
    have := List.any_eq_false.1 h3 x hx
    unfold noSign ieq at this
    simp at this
    by_cases h : x = 1
    ·exact .inl h
    ·exact .inr (this h)
   rw [e,h3]
   have s1 := s_signed hl hT
   have s2 := i_signed hl hT
   simp only [Bool.false_eq_true,if_false,s_l11Basis_eq hP hl hv,i_Doubling_products_eq hP hl hv,i_Doubling_size_eq hl,some_bind,s1,s2]
   exact ⟨hP,hl,hv,hs,trivial,trivial⟩
  ·rw [e,h3]
   exact .inl ⟨5,by simp,by simp,by simp⟩
end Go.Vam
