/- A list whose first elements are gone; an element that becomes a tree of its own. -/
import Derived.Test.YtalfgfpgenlokaaVamAD
namespace Go.Vam
open Go Go.RowKit
set_option linter.unusedSimpArgs false

def GoneLe (xs ys : List D) : Prop := ys.length = xs.length ∧ ∀ k (h : k < xs.length) (h' : k < ys.length),ys[k] = xs[k] ∨ ys[k] = .gone

theorem OwnU.gone_le {w : World} {O : Own} {t : Nat} {p : List Nat} {v : Value} {xs ys : List D} (h : OwnU w O t p v (.list xs)) (hg : GoneLe xs ys) : OwnU w O t p v (.list ys) := by
 cases h with
 | nil =>
  have : ys = [] := List.eq_nil_of_length_eq_zero hg.1
  subst this; exact .nil _
 | list _ g cap cur E _ vs a1 a2 a3 a4 a5 a6 a7 =>
  have := OwnU.list (w := w) (O := O) (t := t) p g cap cur E ys vs a1 a2 (by rw [hg.1]; exact a3) a4 a5 (fun i hi => a6 i (by rw [← hg.1]; exact hi)) fun i hi => by
   rcases hg.2 i (by rw [← hg.1]; exact hi) hi with e | e
   ·rw [e]; exact a7 i _
   ·rw [e]; exact .gone _ _
  rwa [hg.1] at this

section
variable {P : Program} {N : Lim} {R B : Nat → Prop} {w0 : W0} {O : Own} {σ : Frm} {a : Act} {w : World} {fl : FL} {Q : Exit → Frm → Prop}


theorem Fits.gone {fl fl' : FL} {s t : Nat} {xs : List D} (ys : List D) (hs : mk fl s = .ref t [] true (.list xs)) (hN : s ∈ N) (hg : GoneLe xs ys)
  (h : Fits N fl' (mk ((s,.ref t [] true (.list ys)) :: fl.map fun q => (q.1,kmap [t] q.2)))) : Fits N fl' (mk fl) := fun R B w0 O a w hst => by
 have hr := hst.slots s
 rw [hs] at hr
 have m : Made R B w w O O [t] (.ref t [] true (.list ys)) (a.tmps.getD s undef) :=
  ⟨⟨Nat.le_refl _,fun g _ hO => ⟨hO,rfl⟩,fun g r q hO _ => ⟨hO,rfl⟩⟩,.refl _ _,fun g y hg => hst.own g y hg,fun g g' y h1 h2 => hst.inj g g' y h1 h2,OwnU.gone_le hr hg⟩
 have h' := hst.made m hN
 rw [put_same (by rw [hst.size]; exact hN.2)] at h'
 have e : upd (killl [t] (mk fl)) s (.ref t [] true (.list ys)) = mk ((s,.ref t [] true (.list ys)) :: fl.map fun q => (q.1,kmap [t] q.2)) := by
  funext j
  simp only [upd,mk_cons,mk_map (kmap [t]) (kmap_dead [t])]
  rfl
 rw [e] at h'
 exact h R B w0 O a w h'

theorem VW.len {c : Code} {s t : Nat} {p : List Nat} {xs : List D} (hs : mk fl s = .ref t p true (.list xs)) (h : xs.length ≤ maxLen → VW P N c (mk fl) Q) : VW P N c (mk fl) Q := fun R B w0 O a w hst => by
 have hr := hst.slots s
 rw [hs] at hr
 refine h ?_ R B w0 O a w hst
 generalize a.tmps.getD s undef = v at hr
 cases (hr : OwnU w O t p v _) with
 | nil => simp
 | list _ g cap cur E _ vs a1 a2 a3 a4 a5 a6 a7 => omega

theorem St.detachK (h : St R B w0 N O σ a w) {s z t i : Nat} (k : Nat) {x : D} {xs : List D} (hs : σ s = .ref t [i] true x) (hz : σ z = .ref t [] true (.list xs)) (hk : k ≠ t) (hsz : s ≠ z) :
  ∃ O',St R B w0 N O' (fun j => if j = s then .ref k [] true x else if j = z then .ref t [] true (.list (xs.set i .gone)) else killl [t,k] σ j) a w := by
 have hr := h.slots s
 rw [hs] at hr
 have hq := h.slots z
 rw [hz] at hq
 have htk : ¬ t = k := fun e => hk e.symm
 let O' : Own := fun g => match O g with
  | none => none
  | some (r,q) => if r = k then none else if r = t then (match q with
   | [] => some (t,[])
   | j :: q' => if j = i then some (k,q') else some (t,j :: q')) else some (r,q)
 have e0 : ∀ g,O g = none → O' g = none := fun g hg => by simp only [O',hg]
 have e1 : ∀ g r q,O g = some (r,q) → r ≠ k → r ≠ t → O' g = some (r,q) := fun g r q hg h1 h2 => by simp only [O',hg]; rw [if_neg h1,if_neg h2]
 have e2 : ∀ g,O g = some (t,[]) → O' g = some (t,[]) := fun g hg => by simp [O',hg,htk]
 have e3 : ∀ g q,O g = some (t,i :: q) → O' g = some (k,q) := fun g q hg => by simp only [O',hg]; simp [htk]
 have e4 : ∀ g j q,O g = some (t,j :: q) → j ≠ i → O' g = some (t,j :: q) := fun g j q hg hj => by simp only [O',hg]; simp [htk,hj]
 have inv : ∀ g y,O' g = some y → (∃ q,y = (k,q) ∧ O g = some (t,i :: q)) ∨ (y.1 ≠ k ∧ O g = some y) := by
  intro g y hg
  simp only [O'] at hg
  split at hg
  ·cases hg
  ·rename_i r q hO
   split at hg
   ·cases hg
   ·rename_i hrk
    split at hg
    ·rename_i hrt
     subst hrt
     split at hg
     ·simp only [Option.some.injEq] at hg
      subst hg
      exact .inr ⟨hrk,hO⟩
     ·split at hg
      ·rename_i hj
       subst hj
       simp only [Option.some.injEq] at hg
       exact .inl ⟨_,hg.symm,hO⟩
      ·simp only [Option.some.injEq] at hg
       subst hg
       exact .inr ⟨hrk,hO⟩
    ·simp only [Option.some.injEq] at hg
     subst hg
     exact .inr ⟨hrk,hO⟩
 have hke : Keeps w w O O' (fun r => r ∈ [t,k]) := ⟨Nat.le_refl _,fun g _ hO => ⟨e0 g hO,rfl⟩,fun g r q hO hr => by
  simp only [List.mem_cons,List.not_mem_nil,or_false,not_or] at hr
  exact ⟨e1 g r q hO hr.2 hr.1,rfl⟩⟩
 refine ⟨O',h.below,h.base,h.fresh,?_,?_,h.size,h.defers,h.pin,fun j => ?_⟩
 ·intro g y hg
  rcases inv g y hg with ⟨q,_,h1⟩ | ⟨_,h1⟩
  ·exact h.own g _ h1
  ·exact h.own g _ h1
 ·intro g g' y h1 h2
  rcases inv g y h1 with ⟨q,a1,a2⟩ | ⟨a1,a2⟩ <;> rcases inv g' y h2 with ⟨q',b1,b2⟩ | ⟨b1,b2⟩
  ·rw [a1] at b1
   simp only [Prod.mk.injEq,true_and] at b1
   subst b1
   exact h.inj g g' _ a2 b2
  ·subst a1; exact absurd rfl b1
  ·subst b1; exact absurd rfl a1
  ·exact h.inj g g' _ a2 b2
 ·by_cases hjs : j = s
  ·subst hjs
   simp only [if_true]
   exact OwnU.keep (hr : OwnU w O t [i] _ x) [] fun g q hg => ⟨e3 g q (by simpa using hg),rfl⟩
  ·by_cases hjz : j = z
   ·subst hjz
    simp only [if_neg hjs,if_true]
    generalize a.tmps.getD j undef = v at hq
    show OwnU w O' t [] v (.list (xs.set i .gone))
    cases (hq : OwnU w O t [] v (.list xs)) with
    | nil => exact .nil _
    | list _ g cap cur E _ vs a1 a2 a3 a4 a5 a6 a7 =>
     have := OwnU.list (w := w) (O := O') (t := t) [] g cap cur E (xs.set i .gone) vs (e2 g a1) a2 (by simpa using a3) a4 a5 (fun i hi => a6 i (by simpa using hi)) fun m hm => by
      by_cases hmi : m = i
      ·subst hmi; simp only [List.getElem_set_self]; exact .gone _ _
      ·rw [List.getElem_set_ne (fun e => hmi e.symm)]
       refine OwnU.keep (a7 m (by simpa using hm)) _ fun g' q hq' => ⟨?_,rfl⟩
       exact e4 g' m q (by simpa using hq') hmi
     simpa using this
   ·simp only [if_neg hjs,if_neg hjz]
    exact (h.slots j).killl hke

theorem Fits.detach {fl fl' : FL} {s z t i : Nat} (k : Nat) {x : D} {xs : List D} (hs : mk fl s = .ref t [i] true x) (hz : mk fl z = .ref t [] true (.list xs)) (hk : k ≠ t) (hsz : s ≠ z)
  (h : Fits N fl' (mk ((s,.ref k [] true x) :: (z,.ref t [] true (.list (xs.set i .gone))) :: fl.map fun q => (q.1,kmap [t,k] q.2)))) : Fits N fl' (mk fl) := fun R B w0 O a w hst => by
 obtain ⟨O',h'⟩ := hst.detachK k hs hz hk hsz
 have e : (fun j => if j = s then VV.ref k [] true x else if j = z then .ref t [] true (.list (xs.set i .gone)) else killl [t,k] (mk fl) j) =
   mk ((s,.ref k [] true x) :: (z,.ref t [] true (.list (xs.set i .gone))) :: fl.map fun q => (q.1,kmap [t,k] q.2)) := by
  funext j
  simp only [mk_cons,mk_map (kmap [t,k]) (kmap_dead [t,k])]
  rfl
 rw [e] at h'
 exact h R B w0 O' a w h'
end
end Go.Vam
