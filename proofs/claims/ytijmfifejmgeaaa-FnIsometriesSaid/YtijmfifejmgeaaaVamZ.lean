/- A call that makes room behind nil: an empty slice of one's own. -/
import Derived.Test.YtijmfifejmgeaaaVamY
namespace Go.Vam
open Go Go.RowKit
set_option linter.unusedSimpArgs false

section
variable {P : Program} {N : Lim}

end
def resWC (a : Tmp) (n : Nat) (xs : List D) (σ : Frm) (k : Nat) : Prop := ∃ k2 p,σ a = .ref k2 p true (.ptr xs) ∧ k2 ≠ k ∧ xs.length = n
def PostWC (a : Tmp) (n : Nat) (xs ys : List D) : Exit → Frm → Prop
 | .normal,σ => ∃ k,σ 0 = .ref k [] false (.ptr ys) ∧ resWC a n xs σ k
 | .ret,σ => ∃ k,σ 0 = .ref k [] false (.ptr ys) ∧ resWC a n xs σ k
 | _,_ => False
section
variable {P : Program} {τ : TypeId → TK}
theorem VPtr.enterC {f : FuncId} {fn : Func} {c : Code} {ys ys' : List D} {ds : List D} (hcall : ∀ args w,(callFunc f args).run P w = .ok (.enter f args) w)
  (hf : P.funcs[f]? = some fn) (hb : fn.body = some c) (n : Nat) (hn' : fn.ntmps = n) (hn : ds.length + 1 ≤ n) {T : TypeId} {zs : List D} (hT : TyOk1 P T (.st zs)) (a : Tmp)
  (hres : fn.results.toList = [.cell a T]) {xs : List D} (hw : VW P ⟨n,1⟩ c (mk ((0,.ref 0 [] false (.ptr ys)) :: dl 1 ds)) (PostWC a zs.length xs ys')) : VPtr P f ys ds [.own true (.agg xs)] ys' := by
 subst hn'
 refine ⟨hcall,fun w A g0 vs hg0 hA hptr hsz hv0 hvs => calls_of_wp hf hb ?_⟩
 let O0 : Own := fun g => if g = g0 then some (0,[]) else none
 have hst : St (fun g => A g ∨ ¬ (g < w.heap.size ∧ g ≠ g0)) (fun g => g < w.heap.size ∧ g ≠ g0) ⟨w,fun s => vs.getD s undef⟩ ⟨fn.ntmps,1⟩ O0 (mk ((0,.ref 0 [] false (.ptr ys)) :: dl 1 ds)) { tmps := vs ++ Array.replicate (fn.ntmps - vs.size) undef,defers := [] } w := by
  have hget : ∀ s,s < vs.size → (vs ++ Array.replicate (fn.ntmps - vs.size) undef).getD s undef = vs.getD s undef := fun s hs => by
   rw [Array.getD_eq_getD_getElem?,Array.getElem?_append_left hs,Array.getD_eq_getD_getElem?]
  have hO : ∀ g y,O0 g = some y → g = g0 ∧ y = (0,[]) := fun g y hy => by
   simp only [O0] at hy
   split at hy
   ·rename_i e; exact ⟨e,(Option.some.inj hy).symm⟩
   ·cases hy
  refine ⟨.refl _ _,fun g hg => hg.1,fun g hg => .inr hg,fun g y hy => ?_,fun g g' y h1 h2 => ?_,by simp; omega,rfl,fun s hs => hget s (by simp only at hs; omega),fun s => ?_⟩
  ·obtain ⟨rfl,_⟩ := hO g y hy
   exact ⟨fun hh => hh.2 rfl,hg0⟩
  ·rw [(hO g y h1).1,(hO g' y h2).1]
  ·by_cases hs : s = 0
   ·subst hs
    simp only [mk_cons,if_true]
    have h1 : (vs ++ Array.replicate (fn.ntmps - vs.size) undef).getD 0 undef = .pointer (some ⟨g0,0,none⟩) := by
     rw [hget 0 (by omega),Array.getD_eq_getD_getElem?,hv0]; rfl
    rw [h1]
    obtain ⟨cur,E,us,p1,p2,p3,p4⟩ := hptr
    exact OwnF.ptr g0 cur E ys us (by simp [O0]) p1 p2 p3 fun i hi => (p4 i hi).keep (fun g hg => ⟨by simp [O0,(hA g hg).2],(hA g hg).1,.inl hg⟩) fun _ _ => rfl
   ·simp only [mk_cons,if_neg hs,dl_at]
    by_cases h1 : 1 ≤ s
    ·rw [if_pos h1]
     cases hd : ds[s - 1]? with
     | none => exact trivial
     | some d =>
      have hs1 : s - 1 < ds.length := (List.getElem?_eq_some_iff.1 hd).1
      obtain ⟨u,h2,h3⟩ := hvs (s - 1) hs1
      have hd' : ds[s - 1] = d := by rw [List.getElem?_eq_getElem hs1] at hd; exact Option.some.inj hd
      rw [hd'] at h3
      have e : s - 1 + 1 = s := by omega
      rw [e] at h2
      have hg : (vs ++ Array.replicate (fn.ntmps - vs.size) undef).getD s undef = u := by
       rw [hget s (by have := (Array.getElem?_eq_some_iff.1 h2).1; exact this),Array.getD_eq_getD_getElem?,h2]; rfl
      simp only
      rw [hg]
      exact h3.keep (fun g hg => ⟨by simp [O0,(hA g hg).2],(hA g hg).1,.inl hg⟩) fun _ _ => rfl
    ·omega
 refine wp_mono (hw _ _ _ _ _ _ hst) ?_
 rintro e a' w' ⟨O,σ,hs,hq⟩
 have fin : (∃ k,σ 0 = .ref k [] false (.ptr ys') ∧ resWC a zs.length xs σ k) → ∃ v,(results fn a'.tmps).run P w' = .ok v w' ∧ ∃ (v' : Value) (O : Own),Ending.returned v = .returned v' ∧
   Blw (fun g => g < w.heap.size ∧ g ≠ g0) w w' ∧ (∀ g y,O g = some y → w.heap.size ≤ g ∧ g < w'.heap.size) ∧
   (∀ g g' y,O g = some y → O g' = some y → g = g') ∧ RetOk (fun g => A g ∨ w.heap.size ≤ g) w' O [.own true (.agg xs)] v' ∧ PtrF w' (fun g => (A g ∨ w.heap.size ≤ g) ∧ O g = none ∧ g < w'.heap.size) g0 ys' := by
  rintro ⟨k,h0,hr⟩
  have r0 := hs.slots 0
  rw [h0,hs.pin 0 (by simp)] at r0
  have ev : vs.getD 0 undef = .pointer (some ⟨g0,0,none⟩) := by rw [Array.getD_eq_getD_getElem?,hv0]; rfl
  simp only [ev] at r0
  cases (r0 : OwnF _ w' O k [] _ _) with
  | ptr _ cur E _ us p1 p2 p3 p4 p5 =>
  have hfro : ∀ g,Fro (fun g => A g ∨ ¬ (g < w.heap.size ∧ g ≠ g0)) O w' g → (A g ∨ w.heap.size ≤ g) ∧ g < w'.heap.size := fun g hg => by
   refine ⟨?_,hg.2.1⟩
   rcases hg.2.2 with h1 | h1
   ·exact .inl h1
   ·by_cases e : g = g0
    ·have := hg.1; rw [e,p1] at this; cases this
    ·right
     rcases Nat.lt_or_ge g w.heap.size with h2 | h2
     ·exact absurd ⟨h2,e⟩ h1
     ·exact h2
  have hfr2 : ∀ g,Fro (fun g => A g ∨ ¬ (g < w.heap.size ∧ g ≠ g0)) O w' g → O g = none := fun g hg => hg.1
  have ptrOf : ∀ O' : Own,(∀ g,O g = none → O' g = none) → PtrF w' (fun g => (A g ∨ w.heap.size ≤ g) ∧ O' g = none ∧ g < w'.heap.size) g0 ys' := fun O' hO' =>
   ⟨cur,E,us,p2,p3,p4,fun i hi => (p5 i hi).keep (fun g hg => ⟨(hfro g hg).1,hO' g hg.1,(hfro g hg).2⟩) fun _ _ => rfl⟩
  have slot := hs.slots
  have shr : ∀ {v : Value} {d : D},Rd w' (Fro (fun g => A g ∨ ¬ (g < w.heap.size ∧ g ≠ g0)) O w') v d → Rd w' (fun g => (A g ∨ w.heap.size ≤ g) ∧ g < w'.heap.size) v d := fun h => h.keep hfro fun _ _ => rfl
  have bl : Blw (fun g => g < w.heap.size ∧ g ≠ g0) w w' := hs.below
  obtain ⟨k2,p,h2,h3,hlen⟩ := hr
  have h40 := slot a
  rw [h2] at h40
  obtain ⟨g,cu,E',e1,e2,e3,h4⟩ := own_ptr h40
  have hO3 : ∀ g q,asO (subT O k2 p) g = some (0,q) ↔ O g = some (k2,p ++ q) := fun g q => by
   simp only [asO,Option.map_eq_some_iff,Prod.mk.injEq,true_and]
   constructor
   ·rintro ⟨q',e1,rfl⟩; exact subT_some.1 e1
   ·intro e1; exact ⟨q,subT_some.2 e1,rfl⟩
  have hO4 : ∀ g y,asO (subT O k2 p) g = some y → ∃ q,y = (0,q) ∧ O g = some (k2,p ++ q) := fun g y hy => by
   obtain ⟨q,e1,e2⟩ := Option.map_eq_some_iff.1 hy
   exact ⟨q,e2.symm,subT_some.1 e1⟩
  have hO5 : ∀ g,O g = none → asO (subT O k2 p) g = none := fun g hg => by
   cases he : asO (subT O k2 p) g with
   | none => rfl
   | some y => obtain ⟨q,_,e⟩ := hO4 g y he; rw [hg] at e; cases e
  refine ⟨_,results_cell1 hres e1 (run_loadVarSt hT e2 (by omega)),_,asO (subT O k2 p),rfl,bl,fun g y hy => ?_,fun g g' y e1 e2 => ?_,?_,ptrOf _ hO5⟩
  ·obtain ⟨q,_,e⟩ := hO4 g y hy
   have := hs.own g _ e
   refine ⟨?_,this.2⟩
   rcases Nat.lt_or_ge g w.heap.size with h5 | h5
   ·exfalso
    refine this.1 ⟨h5,fun e' => ?_⟩
    rw [e',p1] at e
    simp only [Option.some.injEq,Prod.mk.injEq] at e
    exact h3 e.1.symm
   ·exact h5
  ·obtain ⟨q,rfl,e3⟩ := hO4 g y e1
   obtain ⟨q',e4,e5⟩ := hO4 g' _ e2
   simp only [Prod.mk.injEq,true_and] at e4
   subst e4
   exact hs.inj g g' _ e3 e5
  ·exact OwnU.keep h4 [] fun g q hq => ⟨by simpa using (hO3 g q).2 hq,rfl⟩
 cases e with
 | normal => obtain ⟨v,h1,h2⟩ := fin hq; exact ⟨hs.defers,v,h1,h2⟩
 | ret => obtain ⟨v,h1,h2⟩ := fin hq; exact ⟨hs.defers,v,h1,h2⟩
 | _ => exact hq.elim

/-! ### Several results, some in cells -/
theorem rd_ptr {w : World} {S : Nat → Prop} {v : Value} {xs : List D} (h : Rd w S v (.ptr xs)) : ∃ g cur E fr,v = .pointer (some ⟨g,0,none⟩) ∧ w.heap[g]? = some (.cells cur E fr) ∧ cur.size = xs.length ∧ Rd w S (.agg cur) (.agg xs) := by
 cases h with
 | ptr g cur E fr _ vs h1 h2 h3 h4 h5 => exact ⟨g,cur,E,fr,rfl,h2,h3,.agg cur xs vs h3 h4 h5⟩
def ResF (τ : TypeId → TK) : ResultVar → D → Frm → Prop
 | .tmp t,d,σ => σ t = .val d
 | .cell a T,.agg xs,σ => σ a = .val (.ptr xs) ∧ ∃ zs,τ T = .st zs ∧ xs.length = zs.length
 | _,_,_ => False
def ResFs (τ : TypeId → TK) : List ResultVar → List D → Frm → Prop
 | [],[],_ => True
 | r :: rs,d :: ds,σ => ResF τ r d σ ∧ ResFs τ rs ds σ
 | _,_,_ => False
def PostT (τ : TypeId → TK) (rs : List ResultVar) (ds : List D) : Exit → Frm → Prop
 | .normal,σ => ResFs τ rs ds σ
 | .ret,σ => ResFs τ rs ds σ
 | _,_ => False
def resRun (tmps : Array Value) : ResultVar → Sem Value
 | .tmp t => pure (tmps.getD t undef)
 | .cell a t => do loadVar t (← asAddr (tmps.getD a undef))
section
variable {R : Nat → Prop} {B : Nat → Prop} {w0 : W0} {N : Lim} {O : Own} {σ : Frm} {a : Act} {w : World}
theorem resF_val (hτ : TyOk P τ) (h : St R B w0 N O σ a w) {r : ResultVar} {d : D} (hr : ResF τ r d σ) : ∃ v,(resRun a.tmps r).run P w = .ok v w ∧ Rd w (Fro R O w) v d := by
 cases r with
 | tmp t =>
  have h1 := h.slots t
  rw [show σ t = .val d from hr] at h1
  exact ⟨_,rfl,h1⟩
 | cell c T =>
  cases d with
  | agg xs =>
   obtain ⟨h2,zs,h3,h4⟩ := hr
   have h1 := h.slots c
   rw [h2] at h1
   obtain ⟨g,cur,E,fr,e1,e2,e3,e4⟩ := rd_ptr h1
   have hT := hτ T
   rw [h3] at hT
   refine ⟨.agg cur,?_,e4⟩
   have hl := run_loadVarSt hT e2 (by omega)
   simp only [resRun,e1,asAddr,pure_bind]
   exact hl
  | _ => exact hr.elim
theorem resFs_val (hτ : TyOk P τ) (h : St R B w0 N O σ a w) : ∀ {rs : List ResultVar} {ds : List D},ResFs τ rs ds σ →
  ∃ vs : List Value,(rs.mapM (resRun a.tmps)).run P w = .ok vs w ∧ vs.length = ds.length ∧ rs.length = ds.length ∧ ∀ i (hi : i < ds.length),∃ u,vs[i]? = some u ∧ Rd w (Fro R O w) u ds[i]
 | [],[],_ => ⟨[],rfl,rfl,rfl,fun i hi => absurd hi (by simp)⟩
 | r :: rs,d :: ds,hr => by
  obtain ⟨v,h1,h2⟩ := resF_val hτ h hr.1
  obtain ⟨vs,h3,h4,h5,h6⟩ := resFs_val hτ h hr.2
  refine ⟨v :: vs,?_,by simp [h4],by simp [h5],fun i hi => ?_⟩
  ·simp only [List.mapM_cons,Sem.run_bind,h1,Result.andThen_ok,h3,Sem.run_pure]
  ·cases i with
   | zero => exact ⟨v,rfl,h2⟩
   | succ i => exact h6 i (by simpa using hi)
 | [],_ :: _,hr => hr.elim
 | _ :: _,[],hr => hr.elim
theorem results_many {fn : Func} {tmps : Array Value} {vs : List Value} (hl : vs.length ≠ 1) (h : (fn.results.toList.mapM (resRun tmps)).run P w = .ok vs w) : (results fn tmps).run P w = .ok (.tuple vs.toArray) w := by
 have e : (fn.results.mapM (resRun tmps)).run P w = .ok vs.toArray w := by
  rw [Array.mapM_eq_mapM_toList]
  simp only [Functor.map]
  refine (Sem.run_bind P w _ _).trans ?_
  rw [h]
  simp [Result.andThen]
 have e2 : results fn tmps = (do
   let vs ← fn.results.mapM (resRun tmps)
   pure (if h : vs.size = 1 then vs[0] else .tuple vs)) := by
  unfold results
  congr 1
 rw [e2]
 simp only [Sem.run_bind,e,Result.andThen_ok,Sem.run_pure]
 rw [dif_neg (by simpa using hl)]
end
theorem VCall.enterT (hτ : TyOk P τ) {f : FuncId} {fn : Func} {c : Code} {ds : List D} (hcall : ∀ args w,(callFunc f args).run P w = .ok (.enter f args) w)
  (hf : P.funcs[f]? = some fn) (hb : fn.body = some c) (n : Nat) (hn' : fn.ntmps = n) (hn : ds.length ≤ n) (res : List ResultVar)
  (hres : fn.results.toList = res) {xs : List D} (h2 : xs.length ≠ 1) (hw : VW P ⟨n,0⟩ c (mk (dl 0 ds)) (PostT τ res xs)) : VCall P f ds [.tup xs] := by
 subst hn'; subst hres
 refine ⟨hcall,fun w A vs hA hsz hvs => calls_of_wp hf hb ?_⟩
 refine wp_mono (hw _ _ _ _ _ _ (door_st fn.ntmps hA hsz hvs hn)) ?_
 rintro e a' w' ⟨O,σ,hs,hq⟩
 have fin : ResFs τ fn.results.toList xs σ → ∃ v,(results fn a'.tmps).run P w' = .ok v w' ∧ ∃ (v' : Value) (O : Own),Ending.returned v = .returned v' ∧ Below w.heap.size w w' ∧
   (∀ g y,O g = some y → w.heap.size ≤ g ∧ g < w'.heap.size) ∧ (∀ g g' y,O g = some y → O g' = some y → g = g') ∧ RetOk (fun g => A g ∨ w.heap.size ≤ g) w' O [.tup xs] v' := by
  intro hr
  obtain ⟨us,e1,e2,e3,e4⟩ := resFs_val hτ hs hr
  refine ⟨_,results_many (by omega) e1,_,fun _ => none,rfl,hs.below.below,fun g y hy => (by cases hy),fun g g' y hy => (by cases hy),fun _ => rfl,us.toArray,rfl,by simp [e2],fun i hi => ?_⟩
  obtain ⟨u,g1,g2⟩ := e4 i hi
  exact ⟨u,by simpa using g1,Rd.keep (fun g hg => ⟨hg.2.2,hg.2.1⟩) (fun _ _ => rfl) g2⟩
 cases e with
 | normal => obtain ⟨v,h1,h2⟩ := fin hq; exact ⟨hs.defers,v,h1,h2⟩
 | ret => obtain ⟨v,h1,h2⟩ := fin hq; exact ⟨hs.defers,v,h1,h2⟩
 | _ => exact hq.elim
end

/-! ### Parts of lists of numbers -/
@[simp] theorem all_one_tail (k : IntKind) (xs : List Int) : ((xs.map (D.int k)).tail).all D.one = true := by
 rw [← List.map_tail,List.all_map]; exact List.all_eq_true.2 fun x _ => rfl
@[simp] theorem all_sc_tail (k : IntKind) (xs : List Int) : ((xs.map (D.int k)).tail).all D.sc = true := by
 rw [← List.map_tail,List.all_map]; exact List.all_eq_true.2 fun x _ => rfl
@[simp] theorem all_one_drop (k : IntKind) (xs : List Int) (n : Nat) : ((xs.map (D.int k)).drop n).all D.one = true := by
 rw [← List.map_drop,List.all_map]; exact List.all_eq_true.2 fun x _ => rfl
@[simp] theorem all_sc_drop (k : IntKind) (xs : List Int) (n : Nat) : ((xs.map (D.int k)).drop n).all D.sc = true := by
 rw [← List.map_drop,List.all_map]; exact List.all_eq_true.2 fun x _ => rfl
@[simp] theorem all_one_take (k : IntKind) (xs : List Int) (n : Nat) : ((xs.map (D.int k)).take n).all D.one = true := by
 rw [← List.map_take,List.all_map]; exact List.all_eq_true.2 fun x _ => rfl
@[simp] theorem all_sc_take (k : IntKind) (xs : List Int) (n : Nat) : ((xs.map (D.int k)).take n).all D.sc = true := by
 rw [← List.map_take,List.all_map]; exact List.all_eq_true.2 fun x _ => rfl
end Go.Vam
