/- A call that writes behind its first argument and returns several values, some in cells. -/
import Derived.Test.YtijmfifejmgeaaaVamAQ
namespace Go.Vam
open Go Go.RowKit
set_option linter.unusedSimpArgs false
set_option linter.unusedVariables false

def PostWT (τ : TypeId → TK) (rs : List ResultVar) (ds ys : List D) : Exit → Frm → Prop
 | .normal,σ => ∃ k,σ 0 = .ref k [] false (.ptr ys) ∧ ResFs τ rs ds σ
 | .ret,σ => ∃ k,σ 0 = .ref k [] false (.ptr ys) ∧ ResFs τ rs ds σ
 | _,_ => False
section
variable {P : Program} {τ : TypeId → TK}
theorem VPtr.enterT (hτ : TyOk P τ) {f : FuncId} {fn : Func} {c : Code} {ys ys' : List D} {ds : List D} (hcall : ∀ args w,(callFunc f args).run P w = .ok (.enter f args) w)
  (hf : P.funcs[f]? = some fn) (hb : fn.body = some c) (n : Nat) (hn' : fn.ntmps = n) (hn : ds.length + 1 ≤ n) (res : List ResultVar)
  (hres : fn.results.toList = res) {xs : List D} (h2 : xs.length ≠ 1) (hw : VW P ⟨n,1⟩ c (mk ((0,.ref 0 [] false (.ptr ys)) :: dl 1 ds)) (PostWT τ res xs ys')) : VPtr P f ys ds [.tup xs] ys' := by
 subst hn'; subst hres
 refine ⟨hcall,fun w A g0 vs hg0 hA hptr hsz hv0 hvs => calls_of_wp hf hb ?_⟩
 let O0 : Own := fun g => if g = g0 then some (0,[]) else none
 have hst : St (fun g => A g ∨ ¬ (g < w.heap.size ∧ g ≠ g0)) (fun g => g < w.heap.size ∧ g ≠ g0) ⟨w,fun s => vs.getD s undef⟩ ⟨fn.ntmps,1⟩ O0 (mk ((0,.ref 0 [] false (.ptr ys)) :: dl 1 ds)) { tmps := vs ++ Array.replicate (fn.ntmps - vs.size) undef,defers := [] } w := by
  have hget : ∀ s,s < vs.size → (vs ++ Array.replicate (fn.ntmps - vs.size) undef).getD s undef = vs.getD s undef := fun s hs => by
   rw [Array.getD_eq_getD_getElem?,Array.getElem?_append_left hs,Array.getD_eq_getD_getElem?]
  have hO : ∀ g y,O0 g = some y → g = g0 ∧ y = (0,[]) := fun g y hy => by
   simp only [O0] at hy
   split at hy
   ·rename_i e; exact ⟨e,(Option.some.inj hy).symm⟩
   ·cases hy
  refine ⟨.refl _ _,fun g hg => hg.1,fun g hg => .inr hg,fun g y hy => ?_,fun g g' y h1 h2 => ?_,by simp; omega,rfl,fun s hs => hget s (by simp only at hs; omega),fun s => ?_⟩
  ·obtain ⟨rfl,_⟩ := hO g y hy
   exact ⟨fun hh => hh.2 rfl,hg0⟩
  ·rw [(hO g y h1).1,(hO g' y h2).1]
  ·by_cases hs : s = 0
   ·subst hs
    simp only [mk_cons,if_true]
    have h1 : (vs ++ Array.replicate (fn.ntmps - vs.size) undef).getD 0 undef = .pointer (some ⟨g0,0,none⟩) := by
     rw [hget 0 (by omega),Array.getD_eq_getD_getElem?,hv0]; rfl
    rw [h1]
    obtain ⟨cur,E,us,p1,p2,p3,p4⟩ := hptr
    exact OwnF.ptr g0 cur E ys us (by simp [O0]) p1 p2 p3 fun i hi => (p4 i hi).keep (fun g hg => ⟨by simp [O0,(hA g hg).2],(hA g hg).1,.inl hg⟩) fun _ _ => rfl
   ·simp only [mk_cons,if_neg hs,dl_at]
    by_cases h1 : 1 ≤ s
    ·rw [if_pos h1]
     cases hd : ds[s - 1]? with
     | none => exact trivial
     | some d =>
      have hs1 : s - 1 < ds.length := (List.getElem?_eq_some_iff.1 hd).1
      obtain ⟨u,h2,h3⟩ := hvs (s - 1) hs1
      have hd' : ds[s - 1] = d := by rw [List.getElem?_eq_getElem hs1] at hd; exact Option.some.inj hd
      rw [hd'] at h3
      have e : s - 1 + 1 = s := by omega
      rw [e] at h2
      have hg : (vs ++ Array.replicate (fn.ntmps - vs.size) undef).getD s undef = u := by
       rw [hget s (by have := (Array.getElem?_eq_some_iff.1 h2).1; exact this),Array.getD_eq_getD_getElem?,h2]; rfl
      simp only
      rw [hg]
      exact h3.keep (fun g hg => ⟨by simp [O0,(hA g hg).2],(hA g hg).1,.inl hg⟩) fun _ _ => rfl
    ·omega
 refine wp_mono (hw _ _ _ _ _ _ hst) ?_
 rintro e a' w' ⟨O,σ,hs,hq⟩
 have fin : (∃ k,σ 0 = .ref k [] false (.ptr ys') ∧ ResFs τ fn.results.toList xs σ) → ∃ v,(results fn a'.tmps).run P w' = .ok v w' ∧ ∃ (v' : Value) (O : Own),Ending.returned v = .returned v' ∧
   Blw (fun g => g < w.heap.size ∧ g ≠ g0) w w' ∧ (∀ g y,O g = some y → w.heap.size ≤ g ∧ g < w'.heap.size) ∧
   (∀ g g' y,O g = some y → O g' = some y → g = g') ∧ RetOk (fun g => A g ∨ w.heap.size ≤ g) w' O [.tup xs] v' ∧ PtrF w' (fun g => (A g ∨ w.heap.size ≤ g) ∧ O g = none ∧ g < w'.heap.size) g0 ys' := by
  rintro ⟨k,h0,hr⟩
  have r0 := hs.slots 0
  rw [h0,hs.pin 0 (by simp)] at r0
  have ev : vs.getD 0 undef = .pointer (some ⟨g0,0,none⟩) := by rw [Array.getD_eq_getD_getElem?,hv0]; rfl
  simp only [ev] at r0
  cases (r0 : OwnF _ w' O k [] _ _) with
  | ptr _ cur E _ us p1 p2 p3 p4 p5 =>
  have hfro : ∀ g,Fro (fun g => A g ∨ ¬ (g < w.heap.size ∧ g ≠ g0)) O w' g → (A g ∨ w.heap.size ≤ g) ∧ g < w'.heap.size := fun g hg => by
   refine ⟨?_,hg.2.1⟩
   rcases hg.2.2 with h1 | h1
   ·exact .inl h1
   ·by_cases e : g = g0
    ·have := hg.1; rw [e,p1] at this; cases this
    ·right
     rcases Nat.lt_or_ge g w.heap.size with h2 | h2
     ·exact absurd ⟨h2,e⟩ h1
     ·exact h2
  have hfr2 : ∀ g,Fro (fun g => A g ∨ ¬ (g < w.heap.size ∧ g ≠ g0)) O w' g → O g = none := fun g hg => hg.1
  have ptrOf : ∀ O' : Own,(∀ g,O g = none → O' g = none) → PtrF w' (fun g => (A g ∨ w.heap.size ≤ g) ∧ O' g = none ∧ g < w'.heap.size) g0 ys' := fun O' hO' =>
   ⟨cur,E,us,p2,p3,p4,fun i hi => (p5 i hi).keep (fun g hg => ⟨(hfro g hg).1,hO' g hg.1,(hfro g hg).2⟩) fun _ _ => rfl⟩
  have slot := hs.slots
  have shr : ∀ {v : Value} {d : D},Rd w' (Fro (fun g => A g ∨ ¬ (g < w.heap.size ∧ g ≠ g0)) O w') v d → Rd w' (fun g => (A g ∨ w.heap.size ≤ g) ∧ g < w'.heap.size) v d := fun h => h.keep hfro fun _ _ => rfl
  have bl : Blw (fun g => g < w.heap.size ∧ g ≠ g0) w w' := hs.below
  obtain ⟨us2,e1,e2,e3,e4⟩ := resFs_val hτ hs hr
  refine ⟨_,results_many (by omega) e1,_,fun _ => none,rfl,bl,fun g y hy => (by cases hy),fun g g' y hy => (by cases hy),⟨fun _ => rfl,us2.toArray,rfl,by simp [e2],fun i hi => ?_⟩,ptrOf _ fun _ _ => rfl⟩
  obtain ⟨u,g1,g2⟩ := e4 i hi
  exact ⟨u,by simpa using g1,shr g2⟩
 cases e with
 | normal => obtain ⟨v,h1,h2⟩ := fin hq; exact ⟨hs.defers,v,h1,h2⟩
 | ret => obtain ⟨v,h1,h2⟩ := fin hq; exact ⟨hs.defers,v,h1,h2⟩
 | _ => exact hq.elim
end
end Go.Vam
