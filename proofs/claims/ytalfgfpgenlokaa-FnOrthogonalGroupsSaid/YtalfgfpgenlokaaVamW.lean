/- Walks of functions that write into the struct their first argument points to. -/
import Derived.Test.YtalfgfpgenlokaaVamV
namespace Go.Vam
open Go Go.RowKit

def resW (rs : List ResultVar) (σ : Frm) (k : Nat) : List Ret → Prop
 | [.sc x] => ∃ t,rs = [.tmp t] ∧ σ t = .val x ∧ x.sc = true
 | [.own u x] => ∃ t k2 p,rs = [.tmp t] ∧ σ t = .ref k2 p u x ∧ k2 ≠ k
 | [.shr x] => ∃ t,rs = [.tmp t] ∧ σ t = .val x
 | [.tup [x,y]] => ∃ t s,rs = [.tmp t,.tmp s] ∧ σ t = .val x ∧ σ s = .val y
 | [.tup [x,y,z]] => ∃ t s u,rs = [.tmp t,.tmp s,.tmp u] ∧ σ t = .val x ∧ σ s = .val y ∧ σ u = .val z
 | _ => False
def PostW (rs : List ResultVar) (res : List Ret) (ys : List D) : Exit → Frm → Prop
 | .normal,σ => ∃ k,σ 0 = .ref k [] false (.ptr ys) ∧ resW rs σ k res
 | .ret,σ => ∃ k,σ 0 = .ref k [] false (.ptr ys) ∧ resW rs σ k res
 | _,_ => False

section
variable {P : Program}
theorem VPtr.enter {f : FuncId} {fn : Func} {c : Code} {ys ys' : List D} {ds : List D} {rs : List Ret} (hcall : ∀ args w,(callFunc f args).run P w = .ok (.enter f args) w)
  (hf : P.funcs[f]? = some fn) (hb : fn.body = some c) (n : Nat) (hn' : fn.ntmps = n) (hn : ds.length + 1 ≤ n) (res : List ResultVar) (hres : fn.results.toList = res)
  (hw : VW P ⟨n,1⟩ c (mk ((0,.ref 0 [] false (.ptr ys)) :: dl 1 ds)) (PostW res rs ys')) : VPtr P f ys ds rs ys' := by
 subst hn'; subst hres
 refine ⟨hcall,fun w A g0 vs hg0 hA hptr hsz hv0 hvs => calls_of_wp hf hb ?_⟩
 let O0 : Own := fun g => if g = g0 then some (0,[]) else none
 have hst : St (fun g => A g ∨ ¬ (g < w.heap.size ∧ g ≠ g0)) (fun g => g < w.heap.size ∧ g ≠ g0) ⟨w,fun s => vs.getD s undef⟩ ⟨fn.ntmps,1⟩ O0 (mk ((0,.ref 0 [] false (.ptr ys)) :: dl 1 ds)) { tmps := vs ++ Array.replicate (fn.ntmps - vs.size) undef,defers := [] } w := by
  have hget : ∀ s,s < vs.size → (vs ++ Array.replicate (fn.ntmps - vs.size) undef).getD s undef = vs.getD s undef := fun s hs => by
   rw [Array.getD_eq_getD_getElem?,Array.getElem?_append_left hs,Array.getD_eq_getD_getElem?]
  have hO : ∀ g y,O0 g = some y → g = g0 ∧ y = (0,[]) := fun g y hy => by
   simp only [O0] at hy
   split at hy
   ·rename_i e; exact ⟨e,(Option.some.inj hy).symm⟩
   ·cases hy
  refine ⟨.refl _ _,fun g hg => hg.1,fun g hg => .inr hg,fun g y hy => ?_,fun g g' y h1 h2 => ?_,by simp; omega,rfl,fun s hs => hget s (by simp only at hs; omega),fun s => ?_⟩
  ·obtain ⟨rfl,_⟩ := hO g y hy
   exact ⟨fun hh => hh.2 rfl,hg0⟩
  ·rw [(hO g y h1).1,(hO g' y h2).1]
  ·by_cases hs : s = 0
   ·subst hs
    simp only [mk_cons,if_true]
    have h1 : (vs ++ Array.replicate (fn.ntmps - vs.size) undef).getD 0 undef = .pointer (some ⟨g0,0,none⟩) := by
     rw [hget 0 (by omega),Array.getD_eq_getD_getElem?,hv0]; rfl
    rw [h1]
    obtain ⟨cur,E,us,p1,p2,p3,p4⟩ := hptr
    exact OwnF.ptr g0 cur E ys us (by simp [O0]) p1 p2 p3 fun i hi => (p4 i hi).keep (fun g hg => ⟨by simp [O0,(hA g hg).2],(hA g hg).1,.inl hg⟩) fun _ _ => rfl
   ·simp only [mk_cons,if_neg hs,dl_at]
    by_cases h1 : 1 ≤ s
    ·rw [if_pos h1]
     cases hd : ds[s - 1]? with
     | none => exact trivial
     | some d =>
      have hs1 : s - 1 < ds.length := (List.getElem?_eq_some_iff.1 hd).1
      obtain ⟨u,h2,h3⟩ := hvs (s - 1) hs1
      have hd' : ds[s - 1] = d := by rw [List.getElem?_eq_getElem hs1] at hd; exact Option.some.inj hd
      rw [hd'] at h3
      have e : s - 1 + 1 = s := by omega
      rw [e] at h2
      have hg : (vs ++ Array.replicate (fn.ntmps - vs.size) undef).getD s undef = u := by
       rw [hget s (by have := (Array.getElem?_eq_some_iff.1 h2).1; exact this),Array.getD_eq_getD_getElem?,h2]; rfl
      simp only
      rw [hg]
      exact h3.keep (fun g hg => ⟨by simp [O0,(hA g hg).2],(hA g hg).1,.inl hg⟩) fun _ _ => rfl
    ·omega
 refine wp_mono (hw _ _ _ _ _ _ hst) ?_
 rintro e a' w' ⟨O,σ,hs,hq⟩
 have fin : (∃ k,σ 0 = .ref k [] false (.ptr ys') ∧ resW fn.results.toList σ k rs) → ∃ v,(results fn a'.tmps).run P w' = .ok v w' ∧ ∃ (v' : Value) (O : Own),Ending.returned v = .returned v' ∧
   Blw (fun g => g < w.heap.size ∧ g ≠ g0) w w' ∧ (∀ g y,O g = some y → w.heap.size ≤ g ∧ g < w'.heap.size) ∧
   (∀ g g' y,O g = some y → O g' = some y → g = g') ∧ RetOk (fun g => A g ∨ w.heap.size ≤ g) w' O rs v' ∧ PtrF w' (fun g => (A g ∨ w.heap.size ≤ g) ∧ O g = none ∧ g < w'.heap.size) g0 ys' := by
  rintro ⟨k,h0,hr⟩
  have r0 := hs.slots 0
  rw [h0,hs.pin 0 (by simp)] at r0
  have ev : vs.getD 0 undef = .pointer (some ⟨g0,0,none⟩) := by rw [Array.getD_eq_getD_getElem?,hv0]; rfl
  simp only [ev] at r0
  cases (r0 : OwnF _ w' O k [] _ _) with
  | ptr _ cur E _ us p1 p2 p3 p4 p5 =>
  have hfro : ∀ g,Fro (fun g => A g ∨ ¬ (g < w.heap.size ∧ g ≠ g0)) O w' g → (A g ∨ w.heap.size ≤ g) ∧ g < w'.heap.size := fun g hg => by
   refine ⟨?_,hg.2.1⟩
   rcases hg.2.2 with h1 | h1
   ·exact .inl h1
   ·by_cases e : g = g0
    ·have := hg.1; rw [e,p1] at this; cases this
    ·right
     rcases Nat.lt_or_ge g w.heap.size with h2 | h2
     ·exact absurd ⟨h2,e⟩ h1
     ·exact h2
  have hfr2 : ∀ g,Fro (fun g => A g ∨ ¬ (g < w.heap.size ∧ g ≠ g0)) O w' g → O g = none := fun g hg => hg.1
  have ptrOf : ∀ O' : Own,(∀ g,O g = none → O' g = none) → PtrF w' (fun g => (A g ∨ w.heap.size ≤ g) ∧ O' g = none ∧ g < w'.heap.size) g0 ys' := fun O' hO' =>
   ⟨cur,E,us,p2,p3,p4,fun i hi => (p5 i hi).keep (fun g hg => ⟨(hfro g hg).1,hO' g hg.1,(hfro g hg).2⟩) fun _ _ => rfl⟩
  have slot := hs.slots
  have shr : ∀ {v : Value} {d : D},Rd w' (Fro (fun g => A g ∨ ¬ (g < w.heap.size ∧ g ≠ g0)) O w') v d → Rd w' (fun g => (A g ∨ w.heap.size ≤ g) ∧ g < w'.heap.size) v d := fun h => h.keep hfro fun _ _ => rfl
  have bl : Blw (fun g => g < w.heap.size ∧ g ≠ g0) w w' := hs.below
  unfold resW at hr
  split at hr
  ·obtain ⟨t,h1,h2,h3⟩ := hr
   have h4 := slot t
   rw [h2] at h4
   exact ⟨_,results_tmp1 h1 _ _,_,fun _ => none,rfl,bl,fun g y hy => (by cases hy),fun g g' y hy => (by cases hy),sc_rd h3 (sc_own h3 h4 (fun _ => none) w' 0 []) _ _,ptrOf _ fun _ _ => rfl⟩
  ·rename_i u x
   obtain ⟨t,k2,p,h1,h2,h3⟩ := hr
   have h4 := slot t
   rw [h2] at h4
   have hO3 : ∀ g q,asO (subT O k2 p) g = some (0,q) ↔ O g = some (k2,p ++ q) := fun g q => by
    simp only [asO,Option.map_eq_some_iff,Prod.mk.injEq,true_and]
    constructor
    ·rintro ⟨q',e1,rfl⟩; exact subT_some.1 e1
    ·intro e1; exact ⟨q,subT_some.2 e1,rfl⟩
   have hO4 : ∀ g y,asO (subT O k2 p) g = some y → ∃ q,y = (0,q) ∧ O g = some (k2,p ++ q) := fun g y hy => by
    obtain ⟨q,e1,e2⟩ := Option.map_eq_some_iff.1 hy
    exact ⟨q,e2.symm,subT_some.1 e1⟩
   have hO5 : ∀ g,O g = none → asO (subT O k2 p) g = none := fun g hg => by
    cases he : asO (subT O k2 p) g with
    | none => rfl
    | some y => obtain ⟨q,_,e⟩ := hO4 g y he; rw [hg] at e; cases e
   refine ⟨_,results_tmp1 h1 _ _,_,asO (subT O k2 p),rfl,bl,fun g y hy => ?_,fun g g' y e1 e2 => ?_,?_,ptrOf _ hO5⟩
   ·obtain ⟨q,_,e⟩ := hO4 g y hy
    have := hs.own g _ e
    refine ⟨?_,this.2⟩
    rcases Nat.lt_or_ge g w.heap.size with h5 | h5
    ·exfalso
     refine this.1 ⟨h5,fun e' => ?_⟩
     rw [e',p1] at e
     simp only [Option.some.injEq,Prod.mk.injEq] at e
     exact h3 e.1.symm
    ·exact h5
   ·obtain ⟨q,rfl,e3⟩ := hO4 g y e1
    obtain ⟨q',e4,e5⟩ := hO4 g' _ e2
    simp only [Prod.mk.injEq,true_and] at e4
    subst e4
    exact hs.inj g g' _ e3 e5
   ·show Tree _ w' _ 0 [] u _ x
    cases u with
    | true => exact OwnU.keep h4 [] fun g q hq => ⟨by simpa using (hO3 g q).2 hq,rfl⟩
    | false =>
     have hfr : ∀ g,Fro (fun g => A g ∨ ¬ (g < w.heap.size ∧ g ≠ g0)) O w' g → Fro (fun g => A g ∨ w.heap.size ≤ g) (asO (subT O k2 p)) w' g := fun g hg => ⟨hO5 g hg.1,(hfro g hg).2,(hfro g hg).1⟩
     generalize a'.tmps.getD t undef = sv at h4
     cases (h4 : OwnF _ w' O k2 p sv x) with
     | nil => exact OwnF.nil
     | list g cap cur E xs vs q1 q2 q3 q4 q5 q6 q7 => exact OwnF.list g cap cur E xs vs ((hO3 g []).2 (by simpa using q1)) q2 q3 q4 q5 q6 fun i hi => (q7 i hi).keep hfr fun _ _ => rfl
     | ptr g cur E xs vs q1 q2 q3 q4 q5 => exact OwnF.ptr g cur E xs vs ((hO3 g []).2 (by simpa using q1)) q2 q3 q4 fun i hi => (q5 i hi).keep hfr fun _ _ => rfl
  ·obtain ⟨t,h1,h2⟩ := hr
   have h4 := slot t
   rw [h2] at h4
   exact ⟨_,results_tmp1 h1 _ _,_,fun _ => none,rfl,bl,fun g y hy => (by cases hy),fun g g' y hy => (by cases hy),⟨fun _ => rfl,shr h4⟩,ptrOf _ fun _ _ => rfl⟩
  ·obtain ⟨t,s,h1,h2,h3⟩ := hr
   have r1 := slot t
   rw [h2] at r1
   have r2 := slot s
   rw [h3] at r2
   refine ⟨_,results_tmp2 h1 _ _,_,fun _ => none,rfl,bl,fun g y hy => (by cases hy),fun g g' y hy => (by cases hy),⟨fun _ => rfl,_,rfl,rfl,fun i hi => ?_⟩,ptrOf _ fun _ _ => rfl⟩
   match i,hi with
   | 0,_ => exact ⟨_,rfl,shr r1⟩
   | 1,_ => exact ⟨_,rfl,shr r2⟩
  ·obtain ⟨t,s,u,h1,h2,h3,h4⟩ := hr
   have r1 := slot t
   rw [h2] at r1
   have r2 := slot s
   rw [h3] at r2
   have r3 := slot u
   rw [h4] at r3
   refine ⟨_,results_tmp3 h1 _ _,_,fun _ => none,rfl,bl,fun g y hy => (by cases hy),fun g g' y hy => (by cases hy),⟨fun _ => rfl,_,rfl,rfl,fun i hi => ?_⟩,ptrOf _ fun _ _ => rfl⟩
   match i,hi with
   | 0,_ => exact ⟨_,rfl,shr r1⟩
   | 1,_ => exact ⟨_,rfl,shr r2⟩
   | 2,_ => exact ⟨_,rfl,shr r3⟩
  ·exact hr.elim
 cases e with
 | normal => obtain ⟨v,h1,h2⟩ := fin hq; exact ⟨hs.defers,v,h1,h2⟩
 | ret => obtain ⟨v,h1,h2⟩ := fin hq; exact ⟨hs.defers,v,h1,h2⟩
 | _ => exact hq.elim
end
end Go.Vam
