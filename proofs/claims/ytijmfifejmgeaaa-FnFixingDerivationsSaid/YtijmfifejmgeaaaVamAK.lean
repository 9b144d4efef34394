/- A call that takes its last argument, an own list with frozen elements, and gives one back. -/
import Derived.Test.YtijmfifejmgeaaaVamAJ
namespace Go.Vam
open Go Go.RowKit
set_option linter.unusedSimpArgs false
set_option linter.unusedVariables false

def VTkW (P : Program) (f : FuncId) (ds : List D) (xs rs : List D) : Prop :=
  (∀ args w, (callFunc f args).run P w = .ok (.enter f args) w) ∧
  ∀ (w : World) (A : Nat → Prop) (C : Own) (vs : Array Value) (v : Value),
    (∀ g, A g → g < w.heap.size ∧ C g = none) → (∀ g y, C g = some y → y = (ds.length, []) ∧ g < w.heap.size) → (∀ g g' y, C g = some y → C g' = some y → g = g') →
    OwnF A w C ds.length [] v (.list xs) → vs.size = ds.length + 1 → (∀ i (h : i < ds.length), ∃ u, vs[i]? = some u ∧ Rd w A u ds[i]) → vs[ds.length]? = some v →
    Calls P f vs w fun e w' => ∃ (x : Value) (C' : Own), e = .returned x ∧ Blw (fun g => g < w.heap.size ∧ C g = none) w w' ∧
      (∀ g y, C' g = some y → y = (ds.length, []) ∧ (C g ≠ none ∨ w.heap.size ≤ g) ∧ g < w'.heap.size) ∧ (∀ g g' y, C' g = some y → C' g' = some y → g = g') ∧
      OwnF (fun g => A g ∨ ¬ (g < w.heap.size ∧ C g = none)) w' C' ds.length [] x (.list rs)

theorem OwnF.turn {R R' : Nat → Prop} {w : World} {O O' : Own} {t t' : Nat} {p p' : List Nat} {v : Value} {xs : List D} (h : OwnF R w O t p v (.list xs)) (hO : ∀ g, O g = some (t, p) → O' g = some (t', p'))
    (hF : ∀ g, Fro R O w g → Fro R' O' w g) : OwnF R' w O' t' p' v (.list xs) := by
  cases h with
  | nil => exact .nil
  | list g cap cur E _ vs h1 h2 h3 h4 h5 h6 h7 => exact .list g cap cur E xs vs (hO g h1) h2 h3 h4 h5 h6 fun i hi => (h7 i hi).keep hF fun _ _ => rfl

section
variable {P : Program} {N : Lim}

theorem VTkW.enter {f : FuncId} {fn : Func} {c : Code} {ds : List D} {xs rs : List D} (hcall : ∀ args w, (callFunc f args).run P w = .ok (.enter f args) w)
    (hf : P.funcs[f]? = some fn) (hb : fn.body = some c) (n : Nat) (hn' : fn.ntmps = n) (hn : ds.length + 1 ≤ n) (t : Tmp) (hres : fn.results.toList = [.tmp t])
    (hw : VW P ⟨n, 0⟩ c (mk (dl 0 ds ++ [(ds.length, .ref ds.length [] false (.list xs))])) (Post [.tmp t] [.own false (.list rs)])) : VTkW P f ds xs rs := by
  subst hn'
  have hfr : mk (dl 0 ds ++ [(ds.length, VV.ref ds.length [] false (.list xs))]) = fun s => if s < ds.length then (match ds[s]? with | some d => .val d | none => .dead) else if s = ds.length then .ref ds.length [] false (.list xs) else .dead := by
    have key : ∀ (ds : List D) (k n s : Nat) (x : VV), n = k + ds.length → mk (dl k ds ++ [(n, x)]) s = if k ≤ s ∧ s < n then (match ds[s - k]? with | some d => .val d | none => .dead) else if s = n then x else .dead := by
      intro ds
      induction ds with
      | nil =>
        intro k n s x hn
        simp only [List.length_nil, Nat.add_zero] at hn
        subst hn
        simp only [dl, List.nil_append, mk_cons, mk_nil]
        rw [if_neg (by omega : ¬ (n ≤ s ∧ s < n))]
      | cons d r ih =>
        intro k n s x hn
        simp only [dl, List.cons_append, mk_cons]
        rw [ih (k + 1) n s x (by simp at hn; omega)]
        simp only [List.length_cons] at hn
        by_cases h1 : s = k
        · subst h1
          rw [if_pos rfl, if_pos ⟨Nat.le_refl _, by omega⟩, Nat.sub_self]
          rfl
        · rw [if_neg h1]
          by_cases h2 : k + 1 ≤ s ∧ s < n
          · have e2 : s - k = (s - (k + 1)) + 1 := by omega
            have e3 : (d :: r)[s - k]? = r[s - (k + 1)]? := by rw [e2]; simp
            rw [if_pos h2, if_pos ⟨by omega, h2.2⟩, e3]
          · rw [if_neg h2, if_neg (show ¬ (k ≤ s ∧ s < n) from fun h => h2 ⟨by omega, h.2⟩)]
    funext s
    rw [key ds 0 ds.length s _ (by simp)]
    simp
  refine ⟨hcall, fun w A C vs v hA hC hinj hown hsz hvs hv0 => calls_of_wp hf hb ?_⟩
  have hfro : ∀ g, A g → Fro (fun g => A g ∨ ¬ (g < w.heap.size ∧ C g = none)) C w g := fun g hg => ⟨(hA g hg).2, (hA g hg).1, .inl hg⟩
  have hst : St (fun g => A g ∨ ¬ (g < w.heap.size ∧ C g = none)) (fun g => g < w.heap.size ∧ C g = none) ⟨w, fun s => undef⟩ ⟨fn.ntmps, 0⟩ C (mk (dl 0 ds ++ [(ds.length, .ref ds.length [] false (.list xs))])) { tmps := vs ++ Array.replicate (fn.ntmps - vs.size) undef, defers := [] } w := by
    rw [hfr]
    have hget : ∀ s, s < vs.size → (vs ++ Array.replicate (fn.ntmps - vs.size) undef).getD s undef = vs.getD s undef := fun s hs => by
      rw [Array.getD_eq_getD_getElem?, Array.getElem?_append_left hs, Array.getD_eq_getD_getElem?]
    refine ⟨.refl _ _, fun g hg => hg.1, fun g hg => .inr hg, fun g y hy => ⟨fun h => (by rw [h.2] at hy; cases hy), (hC g y hy).2⟩, hinj, by simp; omega, rfl, fun s hs => absurd hs (Nat.not_lt_zero _), fun s => ?_⟩
    simp only
    by_cases hs : s < ds.length
    · rw [if_pos hs]
      obtain ⟨u, h2, h3⟩ := hvs s hs
      rw [List.getElem?_eq_getElem hs]
      simp only
      have hg : (vs ++ Array.replicate (fn.ntmps - vs.size) undef).getD s undef = u := by
        rw [hget s (by omega), Array.getD_eq_getD_getElem?, h2]; rfl
      rw [hg]
      exact h3.keep hfro fun _ _ => rfl
    · rw [if_neg hs]
      by_cases hs2 : s = ds.length
      · subst hs2
        rw [if_pos rfl]
        have hg : (vs ++ Array.replicate (fn.ntmps - vs.size) undef).getD ds.length undef = v := by
          rw [hget ds.length (by omega), Array.getD_eq_getD_getElem?, hv0]; rfl
        rw [hg]
        show OwnF _ w C ds.length [] v (.list xs)
        exact hown.turn (fun g hg => hg) fun g hg => ⟨hg.1, hg.2.1, .inl hg.2.2⟩
      · rw [if_neg hs2]; exact trivial
  refine wp_mono (hw _ _ _ _ _ _ hst) ?_
  rintro e a' w' ⟨O, σ, hs, hq⟩
  have fin : resVV [.tmp t] σ [.own false (.list rs)] → ∃ v, (results fn a'.tmps).run P w' = .ok v w' ∧ ∃ x C', Ending.returned v = .returned x ∧ Blw (fun g => g < w.heap.size ∧ C g = none) w w' ∧
      (∀ g y, C' g = some y → y = (ds.length, []) ∧ (C g ≠ none ∨ w.heap.size ≤ g) ∧ g < w'.heap.size) ∧ (∀ g g' y, C' g = some y → C' g' = some y → g = g') ∧ OwnF (fun g => A g ∨ ¬ (g < w.heap.size ∧ C g = none)) w' C' ds.length [] x (.list rs) := by
    rintro ⟨t', k, p, h1, h2⟩
    simp only [List.cons.injEq, ResultVar.tmp.injEq, and_true] at h1
    subst h1
    have r1 := hs.slots t
    rw [h2] at r1
    let C' : Own := fun g => if O g = some (k, p) then some (ds.length, []) else none
    have hC' : ∀ g y, C' g = some y → y = (ds.length, []) ∧ O g = some (k, p) := fun g y hg => by
      simp only [C'] at hg
      split at hg
      · simp only [Option.some.injEq] at hg; exact ⟨hg.symm, ‹_›⟩
      · cases hg
    refine ⟨_, results_tmp1 hres _ _, _, C', rfl, hs.below, fun g y hy => ⟨(hC' g y hy).1, ?_, (hs.own g _ (hC' g y hy).2).2⟩, fun g g' y h1 h2 => hs.inj g g' _ (hC' g y h1).2 (hC' g' y h2).2, ?_⟩
    · have := (hs.own g _ (hC' g y hy).2).1
      by_cases hg : g < w.heap.size
      · left; intro hc; exact this ⟨hg, hc⟩
      · right; omega
    · exact (r1 : OwnF _ w' O k p _ (.list rs)).turn (fun g hg => by simp only [C', if_pos hg]) fun g hg => ⟨by simp only [C', hg.1]; simp, hg.2.1, hg.2.2⟩
  cases e with
  | normal => obtain ⟨v, h1, h2⟩ := fin hq; exact ⟨hs.defers, v, h1, h2⟩
  | ret => obtain ⟨v, h1, h2⟩ := fin hq; exact ⟨hs.defers, v, h1, h2⟩
  | _ => exact hq.elim

end
end Go.Vam
