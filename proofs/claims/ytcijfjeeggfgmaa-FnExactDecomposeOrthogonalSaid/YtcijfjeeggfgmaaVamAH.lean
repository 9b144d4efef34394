/- Closures that catch the addresses of trees: what they do to these. -/
import Derived.Test.YtcijfjeeggfgmaaVamAG
namespace Go.Vam
open Go Go.RowKit
set_option linter.unusedSimpArgs false
set_option linter.unusedVariables false

/-- What a closure has caught: an own cell, or what is frozen. -/
inductive CapK where
  | own (xs : List D)
  | fro (d : D)
  deriving Inhabited
def CapIn (w : World) (A : Nat → Prop) (C : Own) (t : Nat) : CapK → Value → Prop
  | .own xs, u => OwnU w C t [] u (.ptr xs)
  | .fro d, u => Rd w A u d
def CapOut (w : World) (C : Own) (t : Nat) : CapK → Value → Prop
  | .own xs, u => OwnU w C t [] u (.ptr xs)
  | .fro _, _ => True

/-- A closure's call: what it makes of what it has caught. -/
def VClo (P : Program) (f : FuncId) (ds : List D) (cs cs' : List CapK) : Prop :=
  (∀ args w, (callFunc f args).run P w = .ok (.enter f args) w) ∧
  ∀ (w : World) (A : Nat → Prop) (C : Own) (vs : Array Value),
    (∀ g, A g → g < w.heap.size ∧ C g = none) → (∀ g y, C g = some y → g < w.heap.size) → (∀ g g' y, C g = some y → C g' = some y → g = g') →
    vs.size = ds.length + cs.length → (∀ i (h : i < ds.length), ∃ u, vs[i]? = some u ∧ Rd w A u ds[i]) →
    (∀ k (h : k < cs.length), ∃ u, vs[ds.length + k]? = some u ∧ CapIn w A C (ds.length + k) cs[k] u) →
    Calls P f vs w fun e w' => ∃ v C', e = .returned v ∧ Blw (fun g => g < w.heap.size ∧ C g = none) w w' ∧ (∀ g y, C' g = some y → (C g ≠ none ∨ w.heap.size ≤ g) ∧ g < w'.heap.size) ∧
      (∀ g g' y, C' g = some y → C' g' = some y → g = g') ∧ cs'.length = cs.length ∧ ∀ k (h : k < cs'.length) u, vs[ds.length + k]? = some u → CapOut w' C' (ds.length + k) cs'[k] u

def capV (t : Nat) : CapK → VV
  | .own xs => .ref t [] true (.ptr xs)
  | .fro d => .val d
def capFr : Nat → List CapK → FL
  | _, [] => []
  | t, c :: r => (t, capV t c) :: capFr (t + 1) r
theorem capFr_at : ∀ (cs : List CapK) (t s : Nat), mk (capFr t cs) s = if t ≤ s then (match cs[s - t]? with | some c => capV s c | none => .dead) else .dead
  | [], t, s => by simp [capFr, mk]
  | c :: r, t, s => by
    simp only [capFr, mk_cons, capFr_at r]
    by_cases h1 : s = t
    · subst h1; simp
    · rw [if_neg h1]
      by_cases h2 : t + 1 ≤ s
      · rw [if_pos h2, if_pos (by omega)]
        have : s - t = (s - (t + 1)) + 1 := by omega
        rw [this]; simp
      · rw [if_neg h2]
        by_cases h3 : t ≤ s
        · omega
        · rw [if_neg h3]
/-- The slots at a closure's door. -/
def doorC (ds : List D) (cs : List CapK) : Frm := fun s => if s < ds.length then (match ds[s]? with | some d => .val d | none => .dead) else (match cs[s - ds.length]? with | some c => capV s c | none => .dead)
theorem doorC_mk (ds : List D) (cs : List CapK) : doorC ds cs = mk (dl 0 ds ++ capFr ds.length cs) := by
  have key : ∀ (ds : List D) (k s : Nat), mk (dl k ds ++ capFr (k + ds.length) cs) s = if k ≤ s then (if s < k + ds.length then (match ds[s - k]? with | some d => .val d | none => .dead) else (match cs[s - (k + ds.length)]? with | some c => capV s c | none => .dead)) else .dead := by
    intro ds
    induction ds with
    | nil =>
      intro k s
      simp only [dl, List.nil_append, List.length_nil, Nat.add_zero, capFr_at]
      by_cases h : k ≤ s
      · rw [if_pos h, if_pos h, if_neg (by omega)]
      · rw [if_neg h, if_neg h]
    | cons d r ih =>
      intro k s
      have e1 : k + (d :: r).length = (k + 1) + r.length := by simp; omega
      simp only [dl, List.cons_append, mk_cons]
      rw [e1, ih]
      by_cases h1 : s = k
      · subst h1
        rw [if_pos rfl, if_pos (Nat.le_refl _), if_pos (by omega), Nat.sub_self]
        rfl
      · rw [if_neg h1]
        by_cases h2 : k + 1 ≤ s
        · have e2 : s - k = (s - (k + 1)) + 1 := by omega
          have e3 : (d :: r)[s - k]? = r[s - (k + 1)]? := by rw [e2]; simp
          rw [if_pos h2, if_pos (show k ≤ s by omega), e3]
        · rw [if_neg h2, if_neg (show ¬ k ≤ s by omega)]
  funext s
  have := key ds 0 s
  simp only [Nat.zero_add, Nat.zero_le, if_true, Nat.sub_zero] at this
  rw [this]
  rfl

def PostClo (n : Nat) (cs' : List CapK) : Exit → Frm → Prop
  | .normal, σ => ∀ k xs, cs'[k]? = some (.own xs) → σ (n + k) = .ref (n + k) [] true (.ptr xs)
  | .ret, σ => ∀ k xs, cs'[k]? = some (.own xs) → σ (n + k) = .ref (n + k) [] true (.ptr xs)
  | _, _ => False

section
variable {P : Program} {N : Lim}

theorem VClo.enter {f : FuncId} {fn : Func} {c : Code} {ds : List D} {cs cs' : List CapK} (hcall : ∀ args w, (callFunc f args).run P w = .ok (.enter f args) w)
    (hf : P.funcs[f]? = some fn) (hb : fn.body = some c) (n lo : Nat) (hn' : fn.ntmps = n) (hlo : lo = ds.length + cs.length) (hn : lo ≤ n) (hres : fn.results = #[]) (hlen : cs'.length = cs.length)
    (hw : VW P ⟨n, lo⟩ c (mk (dl 0 ds ++ capFr ds.length cs)) (PostClo ds.length cs')) : VClo P f ds cs cs' := by
  subst hn'
  subst hlo
  rw [← doorC_mk] at hw
  refine ⟨hcall, fun w A C vs hA hC hinj hsz hvs hcs => calls_of_wp hf hb ?_⟩
  have hget : ∀ s, s < vs.size → (vs ++ Array.replicate (fn.ntmps - vs.size) undef).getD s undef = vs.getD s undef := fun s hs => by
    rw [Array.getD_eq_getD_getElem?, Array.getElem?_append_left hs, Array.getD_eq_getD_getElem?]
  have hst : St (fun g => A g ∨ ¬ (g < w.heap.size ∧ C g = none)) (fun g => g < w.heap.size ∧ C g = none) ⟨w, fun s => vs.getD s undef⟩ ⟨fn.ntmps, ds.length + cs.length⟩ C (doorC ds cs)
      { tmps := vs ++ Array.replicate (fn.ntmps - vs.size) undef, defers := [] } w := by
    refine ⟨.refl _ _, fun g hg => hg.1, fun g hg => .inr hg, fun g y hy => ⟨fun h => (by rw [h.2] at hy; cases hy), hC g y hy⟩, hinj, by simp; omega, rfl, fun s hs => hget s (by simp only [] at hs; omega), fun s => ?_⟩
    have hfro : ∀ g, A g → Fro (fun g => A g ∨ ¬ (g < w.heap.size ∧ C g = none)) C w g := fun g hg => ⟨(hA g hg).2, (hA g hg).1, .inl hg⟩
    unfold doorC
    by_cases hs : s < ds.length
    · rw [if_pos hs]
      obtain ⟨u, h2, h3⟩ := hvs s hs
      rw [List.getElem?_eq_getElem hs]
      simp only
      have hg : (vs ++ Array.replicate (fn.ntmps - vs.size) undef).getD s undef = u := by
        rw [hget s (by omega), Array.getD_eq_getD_getElem?, h2]; rfl
      rw [hg]
      exact h3.keep hfro fun _ _ => rfl
    · rw [if_neg hs]
      cases hd : cs[s - ds.length]? with
      | none => exact trivial
      | some c =>
        have hs1 : s - ds.length < cs.length := (List.getElem?_eq_some_iff.1 hd).1
        have hd' : cs[s - ds.length] = c := by rw [List.getElem?_eq_getElem hs1] at hd; exact Option.some.inj hd
        obtain ⟨u, h2, h3⟩ := hcs (s - ds.length) hs1
        rw [hd', show ds.length + (s - ds.length) = s by omega] at h3
        rw [show ds.length + (s - ds.length) = s by omega] at h2
        have hg : (vs ++ Array.replicate (fn.ntmps - vs.size) undef).getD s undef = u := by
          rw [hget s (by omega), Array.getD_eq_getD_getElem?, h2]; rfl
        simp only
        rw [hg]
        cases c with
        | own xs => exact h3
        | fro d => exact (h3 : Rd w A u d).keep hfro fun _ _ => rfl
  refine wp_mono (hw _ _ _ _ _ _ hst) ?_
  rintro e a' w' ⟨O, σ, hs, hq⟩
  have fin : (∀ k xs, cs'[k]? = some (.own xs) → σ (ds.length + k) = .ref (ds.length + k) [] true (.ptr xs)) → ∃ v, (results fn a'.tmps).run P w' = .ok v w' ∧ ∃ x C', Ending.returned v = .returned x ∧ Blw (fun g => g < w.heap.size ∧ C g = none) w w' ∧
      (∀ g y, C' g = some y → (C g ≠ none ∨ w.heap.size ≤ g) ∧ g < w'.heap.size) ∧ (∀ g g' y, C' g = some y → C' g' = some y → g = g') ∧ cs'.length = cs.length ∧
      ∀ k (h : k < cs'.length) u, vs[ds.length + k]? = some u → CapOut w' C' (ds.length + k) cs'[k] u := by
    intro hq
    have hr : ∃ v, (results fn a'.tmps).run P w' = .ok v w' := by
      simp [results, hres]
    obtain ⟨v, hv⟩ := hr
    refine ⟨v, hv, v, O, rfl, hs.below, fun g y hg => ⟨?_, (hs.own g _ hg).2⟩, hs.inj, hlen, fun k hk u hu => ?_⟩
    · have := (hs.own g _ hg).1
      by_cases hgs : g < w.heap.size
      · left; intro hc; exact this ⟨hgs, hc⟩
      · right; omega
    · cases hc : cs'[k] with
      | fro d => exact trivial
      | own xs =>
        have h1 := hq k xs (by rw [List.getElem?_eq_getElem hk, hc])
        have h2 := hs.slots (ds.length + k)
        rw [h1, hs.pin (ds.length + k) (show ds.length + k < ds.length + cs.length by omega)] at h2
        have h3 : vs.getD (ds.length + k) undef = u := by rw [Array.getD_eq_getD_getElem?, hu]; rfl
        simp only [h3] at h2
        exact h2
  cases e with
  | normal => obtain ⟨v, h1, h2⟩ := fin hq; exact ⟨hs.defers, v, h1, h2⟩
  | ret => obtain ⟨v, h1, h2⟩ := fin hq; exact ⟨hs.defers, v, h1, h2⟩
  | _ => exact hq.elim
end
end Go.Vam
