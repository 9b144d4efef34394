import Derived.Test.YtjkknabmfdodeaaFnE
import Derived.Test.YtjkknabmfdodeaaVamV
namespace Go.Vam
open Go Go.RowKit
set_option maxRecDepth 100000
set_option linter.unusedSimpArgs false
set_option linter.unusedVariables false

/-- What the kernel's loop over the map writes for an entry. -/
def kerV (p : Int) (red : List (List Int)) (free : Int) (e : Int × Int) : Option Int :=
  (idx red e.2).bind fun r => (idx r free).bind fun x => i_field_num p (w64 (0 - x))
def kerOk (p : Int) (red : List (List Int)) (free : Int) (n : Nat) (e : Int × Int) : Bool :=
  match kerV p red free e with
  | some _ => decide (0 ≤ e.1) && decide (e.1.toNat < n)
  | none => false
def kerPut (p : Int) (red : List (List Int)) (free : Int) (v : List Int) (e : Int × Int) : List Int := v.set e.1.toNat ((kerV p red free e).getD 0)
/-- The entries whose places are named, in that order. -/
def kerS (p : Int) (red : List (List Int)) (free : Int) (es : List (Int × Int)) (v : List Int) (seen : List Nat) : List Int := (seen.map fun i => es.getD i (0, 0)).foldl (kerPut p red free) v
theorem kerPut_len (p : Int) (red : List (List Int)) (free : Int) (v : List Int) (e : Int × Int) : (kerPut p red free v e).length = v.length := by simp [kerPut]
theorem kerF_len (p : Int) (red : List (List Int)) (free : Int) : ∀ (es : List (Int × Int)) (v : List Int), (es.foldl (kerPut p red free) v).length = v.length
  | [], v => rfl
  | e :: r, v => by rw [List.foldl_cons, kerF_len, kerPut_len]
theorem kerF_get {p : Int} {red : List (List Int)} {free : Int} : ∀ (es : List (Int × Int)) (v : List Int), (∀ e ∈ es, 0 ≤ e.1) → (es.map (·.1)).Nodup → ∀ q : Nat,
    ((∀ e ∈ es, e.1.toNat ≠ q) → (es.foldl (kerPut p red free) v)[q]? = v[q]?) ∧ ∀ e ∈ es, e.1.toNat = q → (es.foldl (kerPut p red free) v)[q]? = if q < v.length then some ((kerV p red free e).getD 0) else none
  | [], v, _, _, q => ⟨fun _ => rfl, fun e he => absurd he List.not_mem_nil⟩
  | x :: r, v, h0, hn, q => by
    rw [List.map_cons, List.nodup_cons] at hn
    have ih := kerF_get (p := p) (red := red) (free := free) r (kerPut p red free v x) (fun e he => h0 e (List.mem_cons_of_mem _ he)) hn.2 q
    rw [List.foldl_cons]
    constructor
    · intro h
      rw [ih.1 fun e he => h e (List.mem_cons_of_mem _ he)]
      unfold kerPut
      rw [List.getElem?_set_ne (h x List.mem_cons_self)]
    · intro e he hq
      rcases List.mem_cons.1 he with rfl | he
      · rw [ih.1 fun e' he' hq' => hn.1 (List.mem_map.2 ⟨e', he', by
          have a1 := h0 e' (List.mem_cons_of_mem _ he')
          have a2 := h0 e List.mem_cons_self
          omega⟩)]
        unfold kerPut
        by_cases hl : q < v.length
        · rw [hq, List.getElem?_set_self hl, if_pos hl]
        · rw [if_neg hl, List.getElem?_eq_none (by rw [List.length_set]; omega)]
      · rw [ih.2 e he hq, kerPut_len]
theorem kerF_perm {p : Int} {red : List (List Int)} {free : Int} {es es' : List (Int × Int)} {v : List Int} (h0 : ∀ e ∈ es, 0 ≤ e.1) (hn : (es.map (·.1)).Nodup) (hn' : (es'.map (·.1)).Nodup) (hm : ∀ e, e ∈ es ↔ e ∈ es') :
    es.foldl (kerPut p red free) v = es'.foldl (kerPut p red free) v := by
  apply List.ext_getElem?
  intro q
  have a := kerF_get (p := p) (red := red) (free := free) es v h0 hn q
  have b := kerF_get (p := p) (red := red) (free := free) es' v (fun e he => h0 e ((hm e).2 he)) hn' q
  by_cases h : ∃ e, e ∈ es ∧ e.1.toNat = q
  · obtain ⟨e, he, hq⟩ := h
    rw [a.2 e he hq, b.2 e ((hm e).1 he) hq]
  · rw [a.1 fun e he hq => h ⟨e, he, hq⟩, b.1 fun e he hq => h ⟨e, (hm e).2 he, hq⟩]
theorem nodup_map_inj {α β : Type} {f : α → β} : ∀ {l : List α}, (∀ a ∈ l, ∀ b ∈ l, f a = f b → a = b) → l.Nodup → (l.map f).Nodup
  | [], _, _ => List.nodup_nil
  | x :: r, hi, hn => by
    rw [List.nodup_cons] at hn
    rw [List.map_cons, List.nodup_cons]
    refine ⟨fun hm => ?_, nodup_map_inj (fun a ha b hb => hi a (List.mem_cons_of_mem _ ha) b (List.mem_cons_of_mem _ hb)) hn.2⟩
    obtain ⟨b, hb, e⟩ := List.mem_map.1 hm
    rw [hi b (List.mem_cons_of_mem _ hb) x List.mem_cons_self e] at hb
    exact hn.1 hb
theorem nodup_get_inj {α : Type} [DecidableEq α] {l : List α} (hn : l.Nodup) {i j : Nat} (hi : i < l.length) (hj : j < l.length) (e : l[i] = l[j]) : i = j := by
  rcases Nat.lt_trichotomy i j with h1 | h1 | h1
  · exact absurd e (List.pairwise_iff_getElem.1 hn i j hi hj h1)
  · exact h1
  · exact absurd e.symm (List.pairwise_iff_getElem.1 hn j i hj hi h1)
/-- All entries, in whatever order. -/
theorem kerS_all {p : Int} {red : List (List Int)} {free : Int} {es : List (Int × Int)} {v : List Int} {seen : List Nat} (h0 : ∀ e ∈ es, 0 ≤ e.1) (hn : (es.map (·.1)).Nodup) (hs : seen.Nodup) (hlt : ∀ i ∈ seen, i < es.length) (hall : ∀ i, i < es.length → i ∈ seen) :
    kerS p red free es v seen = es.foldl (kerPut p red free) v := by
  unfold kerS
  have hg : ∀ (i : Nat) (hi : i < es.length), es.getD i (0, 0) = es[i] := fun i hi => by rw [List.getD_eq_getElem?_getD, List.getElem?_eq_getElem hi]; rfl
  have hmem : ∀ e, e ∈ (seen.map fun i => es.getD i (0, 0)) ↔ e ∈ es := by
    intro e
    rw [List.mem_map]
    constructor
    · rintro ⟨i, hi, rfl⟩
      rw [hg i (hlt i hi)]
      exact List.getElem_mem _
    · intro he
      obtain ⟨i, hi, e'⟩ := List.getElem_of_mem he
      exact ⟨i, hall i hi, by rw [hg i hi]; exact e'⟩
  have hn' : ((seen.map fun i => es.getD i (0, 0)).map (·.1)).Nodup := by
    rw [List.map_map]
    refine nodup_map_inj (fun i hi j hj e => ?_) hs
    simp only [Function.comp, hg i (hlt i hi), hg j (hlt j hj)] at e
    refine nodup_get_inj hn (i := i) (j := j) (by simpa using hlt i hi) (by simpa using hlt j hj) ?_
    simpa using e
  exact kerF_perm (fun e he => h0 e ((hmem e).1 he)) hn' hn hmem
theorem kerS_snoc {p : Int} {red : List (List Int)} {free : Int} {es : List (Int × Int)} {v : List Int} {seen : List Nat} {i : Nat} (hi : i < es.length) :
    kerS p red free es v (seen ++ [i]) = kerPut p red free (kerS p red free es v seen) es[i] := by
  unfold kerS
  rw [List.map_append, List.foldl_append]
  simp [hi]
theorem kerS_len {p : Int} {red : List (List Int)} {free : Int} {es : List (Int × Int)} {v : List Int} {seen : List Nat} : (kerS p red free es v seen).length = v.length := kerF_len ..
theorem kerOk_some {p : Int} {red : List (List Int)} {free : Int} {n : Nat} {e : Int × Int} (h : kerOk p red free n e = true) : ∃ r x y, idx red e.2 = some r ∧ idx r free = some x ∧ i_field_num p (w64 (0 - x)) = some y ∧ kerV p red free e = some y ∧ 0 ≤ e.1 ∧ e.1.toNat < n := by
  unfold kerOk at h
  split at h
  · rename_i y hy
    simp only [Bool.and_eq_true, decide_eq_true_eq] at h
    have hy' := hy
    unfold kerV at hy'
    obtain ⟨r, h1, hy'⟩ := bind_some hy'
    obtain ⟨x, h2, hy'⟩ := bind_some hy'
    exact ⟨r, x, y, h1, h2, hy', hy, h.1, h.2⟩
  · cases h
def i_field_kernel_L0 (red : List (List Int)) (s : List (Int × Int) × Int) : Option ((List (Int × Int) × Int) ⊕ List (Int × Int)) :=
  (if s.2 < (red.length : Int) then
    (idx red s.2).bind fun v28 =>
    (i_lead v28).bind fun v31 =>
    (chk (hasK s.1 v31 = false)).bind fun _ =>
    some (.inl (s.1 ++ [(v31, s.2)], w64 (s.2 + 1)))
  else
    some (.inr s.1))
def i_field_kernel_L1 (a0 : Int) (a2 : Int) (red : List (List Int)) (es : List (Int × Int)) (s : List (List Int) × Int) : Option ((List (List Int) × Int) ⊕ List (List Int)) :=
  (if s.2 < a2 then
    ((if hasK es s.2 = true then
      some s.1
    else
      (chk (0 ≤ a2 ∧ a2 ≤ 1099511627776)).bind fun _ =>
      (some (List.replicate a2.toNat (0 : Int))).bind fun l =>
      (idx l s.2).bind fun v50 =>
      (chk (es.all (kerOk a0 red s.2 l.length) = true)).bind fun _ =>
      (some (es.foldl (kerPut a0 red s.2) (l.set s.2.toNat 1))).bind fun vf =>
      (chk (s.1.length + [vf].length ≤ 1099511627776)).bind fun _ =>
      some (s.1 ++ [vf])) : Option (List (List Int))).bind fun x =>
    some (.inl (x, w64 (s.2 + 1)))
  else
    some (.inr s.1))
def i_field_kernel (a0 : Int) (a1 : List (List Int)) (a2 : Int) : Option (List (List Int)) :=
  (i_field_basis a0 a1).bind fun v20 =>
  (loop (i_field_kernel_L0 v20) BIG ([], 0)).bind fun es =>
  (chk ((es.map (·.1)).Nodup)).bind fun _ =>
  (loop (i_field_kernel_L1 a0 a2 v20 es) BIG ([], 0)).bind fun out =>
  (i_field_basis a0 out).bind fun v78 =>
  some v78

def i_KernelBasis (a0 : Int) (a1 : List (List Int)) : Option ((List (List Int)) × Int) :=
  (i_checkMatrices a0 [a1]).bind fun v2 =>
  (if ¬ v2 = 0 then
    some (([] : List (List Int)), v2)
  else
    (idx a1 0).bind fun v4 =>
    (i_field_kernel a0 a1 ((v4.length : Int))).bind fun v5 =>
    some (v5, 0))

end Go.Vam
