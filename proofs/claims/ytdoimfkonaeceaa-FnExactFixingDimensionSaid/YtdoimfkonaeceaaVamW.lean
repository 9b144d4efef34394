/- Two elements of an own list change places. -/
import Derived.Test.YtdoimfkonaeceaaVamV
namespace Go.Vam
set_option linter.unusedVariables false
open Go Go.RowKit
open Go.ChangeMaps (setBlock)

/-- Places i and j of token t have changed places. -/
def swpO (O : Own) (t i j : Nat) : Own := fun g => match O g with
  | some (r, k :: q) => if r = t then some (t, (if k = i then j else if k = j then i else k) :: q) else some (r, k :: q)
  | y => y
def swpVV (t i j : Nat) (di dj : D) (x : VV) : VV := match x with
  | .ref r [] true (.list ys) => if r = t then (if i < ys.length ∧ j < ys.length then .ref r [] true (.list ((ys.set i dj).set j di)) else .dead) else .ref r [] true (.list ys)
  | y => if y.on t then .dead else y
section
variable {P : Program} {τ : TypeId → TK} {Φ : Orc} {R B : Nat → Prop} {w0 : W0} {N : Lim} {O : Own} {σ : Frm} {a : Act} {w : World}

theorem swpO_inv {O : Own} {t i j g r : Nat} {p : List Nat} (h : swpO O t i j g = some (r, p)) : (r ≠ t ∧ O g = some (r, p)) ∨ (r = t ∧ p = [] ∧ O g = some (t, [])) ∨ (r = t ∧ ∃ k q, p = (if k = i then j else if k = j then i else k) :: q ∧ O g = some (t, k :: q)) := by
  unfold swpO at h
  split at h
  · rename_i r' k q hO
    split at h
    · rename_i hr
      simp only [Option.some.injEq, Prod.mk.injEq] at h
      obtain ⟨rfl, rfl⟩ := h
      subst hr
      exact .inr (.inr ⟨rfl, k, q, rfl, hO⟩)
    · rename_i hr
      simp only [Option.some.injEq, Prod.mk.injEq] at h
      obtain ⟨rfl, rfl⟩ := h
      exact .inl ⟨hr, hO⟩
  · rename_i hno
    by_cases hr : r = t
    · subst hr
      cases p with
      | nil => exact .inr (.inl ⟨rfl, rfl, h⟩)
      | cons k q => exact absurd h (hno r k q)
    · exact .inl ⟨hr, h⟩
theorem swpO_sub {O : Own} {t i j g k : Nat} {q : List Nat} (h : O g = some (t, k :: q)) : swpO O t i j g = some (t, (if k = i then j else if k = j then i else k) :: q) := by
  unfold swpO; rw [h]; simp
theorem swpO_root {O : Own} {t i j g : Nat} (h : O g = some (t, [])) : swpO O t i j g = some (t, []) := by
  unfold swpO; rw [h]
theorem swpO_none {O : Own} {t i j g : Nat} (h : O g = none) : swpO O t i j g = none := by
  unfold swpO; rw [h]
theorem swpO_other {O : Own} {t i j g r : Nat} {p : List Nat} (h : O g = some (r, p)) (hr : r ≠ t) : swpO O t i j g = some (r, p) := by
  unfold swpO; rw [h]
  cases p with
  | nil => rfl
  | cons k q => simp [hr]
theorem swp_idx {i j k k' : Nat} (h : (if k = i then j else if k = j then i else k) = (if k' = i then j else if k' = j then i else k')) : k = k' := by
  split at h <;> split at h <;> (try split at h) <;> (try split at h) <;> omega

/-- Two stores that let two elements of an own list change places. -/
theorem sound_swap (hτ : TyOk P τ) (h : St R B w0 N O σ a w) {o1 o2 : Oper} {T e : TypeId} {p1 p2 x1 x2 : Operand} {t i j : Nat} {d1 d2 di dj : D} (hT : τ T = .sl e)
    (h1 : o1.op = .store T p1 x2) (h2 : o2.op = .store T p2 x1)
    (e1 : ev σ p1 = .adr t [] i true d1) (e2 : ev σ x2 = .ref t [j] true dj) (e3 : ev σ p2 = .adr t [] j true d2) (e4 : ev σ x1 = .ref t [i] true di) (q6 : di.one = true) (q7 : dj.one = true) :
    ∃ w2 w3 O', (execOp a.eval o1).run P w = .ok .skip w2 ∧ (execOp a.eval o2).run P w2 = .ok .skip w3 ∧ St R B w0 N O' (fun s => swpVV t i j di dj (σ s)) a w3 := by
  obtain ⟨g0, cur, E, cv1, hE1, a2, a3, a4, a5⟩ := rel_tmp h p1 e1
  obtain ⟨g0', cur', E', cv2, hE2, b2, b3, b4, b5⟩ := rel_tmp h p2 e3
  have hgg := h.inj g0' g0 _ b2 a2
  subst hgg
  rw [a3] at b3
  simp only [Option.some.injEq, Obj.cells.injEq] at b3
  obtain ⟨rfl, rfl, _⟩ := b3
  have hx1 : OwnU w O t [i] (a.eval x1) di := rel_tmp h x1 e4
  have hx2 : OwnU w O t [j] (a.eval x2) dj := rel_tmp h x2 e2
  have r1 := OwnU.rd hx1 (S := fun _ => True) (fun _ _ _ => trivial)
  have r2 := OwnU.rd hx2 (S := fun _ => True) (fun _ _ _ => trivial)
  have hi : i < cur.size := by
    rcases Nat.lt_or_ge i cur.size with h | h
    · exact h
    · rw [Array.getElem?_eq_none h] at a4; cases a4
  have hj : j < cur.size := by
    rcases Nat.lt_or_ge j cur.size with h | h
    · exact h
    · rw [Array.getElem?_eq_none h] at b4; cases b4
  have hk1 : ∀ zs, τ T ≠ .st zs := fun zs e => by rw [hT] at e; cases e
  have hk2 : τ T ≠ .other := fun e => by rw [hT] at e; cases e
  have run1 := run_storeAt (P := P) (τ := τ) (hτ T) hk1 hk2 a3 hi (one_cells r2 q7) (one_one r2 q7)
  have s1 := setCell_block (i := i) (v := a.eval x2) a3
  have run2 := run_storeAt (P := P) (τ := τ) (hτ T) hk1 hk2 s1 (i := j) (by simpa using hj) (one_cells r1 q6) (one_one r1 q6)
  have s2 := setCell_block (i := j) (v := a.eval x1) s1
  have hsz1 : (w.setCell ⟨g0', i, none⟩ (a.eval x2)).heap.size = w.heap.size := by simp
  have hsz : ((w.setCell ⟨g0', i, none⟩ (a.eval x2)).setCell ⟨g0', j, none⟩ (a.eval x1)).heap.size = w.heap.size := by simp
  have hoth : ∀ g, g ≠ g0' → ((w.setCell ⟨g0', i, none⟩ (a.eval x2)).setCell ⟨g0', j, none⟩ (a.eval x1)).heap[g]? = w.heap[g]? := fun g hg => by
    rw [heap_setCell_other _ _ g _ hg, heap_setCell_other _ _ g _ hg]
  have hos : ((w.setCell ⟨g0', i, none⟩ (a.eval x2)).setCell ⟨g0', j, none⟩ (a.eval x1)).os = w.os := rfl
  refine ⟨w.setCell ⟨g0', i, none⟩ (a.eval x2), (w.setCell ⟨g0', i, none⟩ (a.eval x2)).setCell ⟨g0', j, none⟩ (a.eval x1), swpO O t i j, by simp only [execOp, h1, hE1]; simp [run1], by simp only [execOp, h2, hE2]; simp [run2], ?_⟩
  generalize hW : (w.setCell ⟨g0', i, none⟩ (a.eval x2)).setCell ⟨g0', j, none⟩ (a.eval x1) = w3 at *
  have hbel : Blw B w w3 := by
    subst hW
    exact ⟨rfl, rfl, rfl, by rw [hsz]; exact Nat.le_refl _, fun g hg => hoth g fun e => (h.own g0' _ a2).1 (e ▸ hg)⟩
  have kp : Keeps w w3 O (swpO O t i j) (fun r => r = t) := by
    refine ⟨by omega, fun g hg hn => ⟨swpO_none hn, hoth g fun e => by rw [e, a2] at hn; cases hn⟩, fun g r p hg hr => ⟨swpO_other hg hr, hoth g fun e => ?_⟩⟩
    rw [e, a2] at hg
    simp only [Option.some.injEq, Prod.mk.injEq] at hg
    exact hr hg.1.symm
  refine ⟨h.below.trans hbel, fun g hg => by rw [hsz]; exact h.base g hg, h.fresh, ?_, ?_, h.size, h.defers, h.pin, fun s => ?_⟩
  · rintro g ⟨r, p⟩ hg
    rw [hsz]
    rcases swpO_inv hg with ⟨_, e⟩ | ⟨_, _, e⟩ | ⟨_, _, _, _, e⟩ <;> exact h.own g _ e
  · rintro g g' ⟨r, p⟩ u1 u2
    rcases swpO_inv u1 with ⟨m1, m2⟩ | ⟨m1, m2, m3⟩ | ⟨m1, k1, l1, m2, m3⟩ <;> rcases swpO_inv u2 with ⟨n1, n2⟩ | ⟨n1, n2, n3⟩ | ⟨n1, k2, l2, n2, n3⟩
    · exact h.inj g g' _ m2 n2
    · exact absurd n1 m1
    · exact absurd n1 m1
    · exact absurd m1 n1
    · exact h.inj g g' _ m3 n3
    · rw [m2] at n2; cases n2
    · exact absurd m1 n1
    · rw [n2] at m2; cases m2
    · rw [m2] at n2
      simp only [List.cons.injEq] at n2
      obtain ⟨n2, rfl⟩ := n2
      have := swp_idx n2
      subst this
      exact h.inj g g' _ m3 n3
  · have hs := h.slots s
    show Rel R w3 (swpO O t i j) (swpVV t i j di dj (σ s)) _
    generalize σ s = x at hs ⊢
    generalize a.tmps.getD s undef = v at hs ⊢
    unfold swpVV
    split
    · rename_i r ys
      by_cases hr : r = t
      · subst hr
        rw [if_pos rfl]
        by_cases hlen : i < ys.length ∧ j < ys.length
        · rw [if_pos hlen]
          show OwnU w3 (swpO O r i j) r [] v _
          cases (hs : OwnU w O r [] v (.list ys)) with
          | nil => simp at hlen
          | list _ g cap cur1 E1 _ vs f1 f2 f3 f4 f5 f6 f7 =>
            have hgg := h.inj g g0' _ f1 a2
            subst hgg
            rw [a3] at f2
            simp only [Option.some.injEq, Obj.cells.injEq] at f2
            obtain ⟨rfl, rfl, _⟩ := f2
            have hl' : ((ys.set i dj).set j di).length = ys.length := by simp
            have hsub : ∀ (k k' : Nat) (u : Value) (d : D), (if k = i then j else if k = j then i else k) = k' → OwnU w O r ([] ++ [k]) u d → OwnU w3 (swpO O r i j) r ([] ++ [k']) u d := by
              intro k k' u d hkk hu
              refine OwnU.keep hu _ fun g' q hq => ?_
              have hq' : O g' = some (r, k :: q) := by simpa using hq
              refine ⟨by rw [swpO_sub hq', hkk]; rfl, hoth g' fun e => ?_⟩
              rw [e, a2] at hq'
              cases hq'
            have res := OwnU.list (w := w3) (O := swpO O r i j) (t := r) [] g cap ((cur.setIfInBounds i (a.eval x2)).setIfInBounds j (a.eval x1)) E ((ys.set i dj).set j di) (fun k => if k = j then a.eval x1 else if k = i then a.eval x2 else vs k) (swpO_root a2) s2 (by rw [hl']; exact f3) f4 (by simpa using f5) (fun k hk => by
              rw [hl'] at hk
              have hkc : k < cur.size := by omega
              by_cases hkj : k = j
              · subst hkj
                rw [if_pos rfl]
                simp [hkc]
              · rw [if_neg hkj, Array.getElem?_setIfInBounds_ne (fun e => hkj e.symm)]
                by_cases hki : k = i
                · subst hki
                  rw [if_pos rfl]
                  simp [hkc]
                · rw [if_neg hki, Array.getElem?_setIfInBounds_ne (fun e => hki e.symm)]
                  exact f6 k hk) (fun k hk => by
              rw [hl'] at hk
              by_cases hkj : k = j
              · subst hkj
                simp only [if_true, List.getElem_set_self]
                exact hsub i _ _ _ (by simp) hx1
              · simp only [hkj, if_false]
                rw [List.getElem_set_ne (fun e => hkj e.symm)]
                by_cases hki : k = i
                · subst hki
                  simp only [if_true, List.getElem_set_self]
                  exact hsub j _ _ _ (by split <;> simp_all) hx2
                · simp only [hki, if_false]
                  rw [List.getElem_set_ne (fun e => hki e.symm)]
                  exact hsub k k _ _ (by simp [hki, hkj]) (f7 k hk))
            rw [hl'] at res
            exact res
        · rw [if_neg hlen]; exact trivial
      · rw [if_neg hr]
        exact hs.keeps kp fun r' hr' => by subst hr'; simp [VV.on, hr]
    · split
      · exact trivial
      · rename_i hno
        exact hs.keeps kp fun r' hr' => by subst hr'; simpa using hno

/-- A region in which two elements of an own list change places. -/
theorem swp_list (hτ : TyOk P τ) (hΦ : Sound P Φ) (k : Nat) (f1 f2 : FL) {l : List Oper} {fl : FL} {Q : Exit → Act → World → Prop}
    {o1 o2 : Oper} {T e : TypeId} {p1 p2 x1 x2 : Operand} {t i j : Nat} {d1 d2 di dj : D} (ho1 : l[k]? = some o1) (ho2 : l[k + 1]? = some o2) (hg1 : o1.guard = none) (hg2 : o2.guard = none) (hd1 : o1.dst = none) (hd2 : o2.dst = none)
    (hop1 : o1.op = .store T p1 x2) (hop2 : o2.op = .store T p2 x1) (hT : τ T = .sl e)
    (h1 : AfterL (runL τ Φ N (l.map (·.dst)) (l.take k) fl) fun f => pickL (f1.map (·.1)) f = f1)
    (e1 : ev (mk f1) p1 = .adr t [] i true d1) (e2 : ev (mk f1) x2 = .ref t [j] true dj) (e3 : ev (mk f1) p2 = .adr t [] j true d2) (e4 : ev (mk f1) x1 = .ref t [i] true di) (q6 : di.one = true) (q7 : dj.one = true)
    (h2 : AfterL (runL τ Φ N (l.map (·.dst)) (l.drop (k + 2)) (f1.map fun q => (q.1, swpVV t i j di dj q.2))) fun f => pickL (f2.map (·.1)) f = f2)
    (hst : St R B w0 N O (mk fl) a w) (hQ : ∀ O' a' w', St R B w0 N O' (mk f2) a' w' → Q .normal a' w') : wpList P l.toArray Q l a w := by
  have el : l.take k ++ o1 :: o2 :: l.drop (k + 2) = l := by
    obtain ⟨hk, ee⟩ := List.getElem?_eq_some_iff.1 ho1
    obtain ⟨hk2, ee2⟩ := List.getElem?_eq_some_iff.1 ho2
    rw [← ee, ← ee2, ← List.drop_eq_getElem_cons hk2, ← List.drop_eq_getElem_cons hk, List.take_append_drop]
  have : wpList P l.toArray Q (l.take k ++ o1 :: o2 :: l.drop (k + 2)) a w := by
    cases hv : runL τ Φ N (l.map (·.dst)) (l.take k) fl with
    | none => rw [hv] at h1; exact h1.elim
    | some f1' =>
      rw [hv] at h1
      refine vrun_pre hτ hΦ (l.take k) (o1 :: o2 :: l.drop (k + 2)) hst (runL_ok (l0 := l) (l.take k) fl f1' hv) fun O1 a1 w1 hst1 => ?_
      have hst2 := st_pick hst1 h1
      obtain ⟨w2, w3, O3, r1, r2, hst3⟩ := sound_swap hτ hst2 hT hop1 hop2 e1 e2 e3 e4 q6 q7
      refine wpList_step fun K hK => ?_
      have hw : Region.wanted o1 (yielded l.toArray a1.tmps) = true := by simp [Region.wanted, hg1]
      rw [if_pos hw]
      unfold Oper.wp
      rw [r1]
      simp only [Oper.upon, hd1, Act.put]
      refine hK a1 w2 ?_
      refine wpList_step fun K2 hK2 => ?_
      have hw2 : Region.wanted o2 (yielded l.toArray a1.tmps) = true := by simp [Region.wanted, hg2]
      rw [if_pos hw2]
      unfold Oper.wp
      rw [r2]
      simp only [Oper.upon, hd2, Act.put]
      refine hK2 a1 w3 ?_
      have e4 : (fun s => swpVV t i j di dj (mk f1 s)) = mk (f1.map fun q => (q.1, swpVV t i j di dj q.2)) := by
        funext s
        rw [mk_map (swpVV t i j di dj) (by simp [swpVV, VV.on])]
      rw [e4] at hst3
      cases hv2 : runL τ Φ N (l.map (·.dst)) (l.drop (k + 2)) (f1.map fun q => (q.1, swpVV t i j di dj q.2)) with
      | none => rw [hv2] at h2; exact h2.elim
      | some f2' =>
        rw [hv2] at h2
        refine vrun_sound hτ hΦ (l.drop (k + 2)) hst3 (runL_ok (l0 := l) (l.drop (k + 2)) _ f2' hv2) fun O4 a4 w4 hst4 => ?_
        exact hQ O4 a4 w4 (st_pick hst4 h2)
  rwa [el] at this
theorem VW.swp (hτ : TyOk P τ) (hΦ : Sound P Φ) (ds : List (Option Nat)) (k : Nat) (f1 f2 : FL) {id : Nat} {l : List Oper} {y : Code} {fl : FL} {Q : Exit → Frm → Prop}
    (o1 o2 : Oper) {T e : TypeId} {p1 p2 x1 x2 : Operand} {t i j : Nat} {d1 d2 di dj : D} (hds : l.map (·.dst) = ds) (ho1 : l[k]? = some o1) (ho2 : l[k + 1]? = some o2) (hg1 : o1.guard = none) (hg2 : o2.guard = none) (hd1 : o1.dst = none) (hd2 : o2.dst = none)
    (hop1 : o1.op = .store T p1 x2) (hop2 : o2.op = .store T p2 x1) (hT : τ T = .sl e)
    (e1 : ev (mk f1) p1 = .adr t [] i true d1) (e2 : ev (mk f1) x2 = .ref t [j] true dj) (e3 : ev (mk f1) p2 = .adr t [] j true d2) (e4 : ev (mk f1) x1 = .ref t [i] true di) (q6 : di.one = true) (q7 : dj.one = true)
    (h1 : AfterL (runL τ Φ N ds (l.take k) fl) fun f => pickL (f1.map (·.1)) f = f1)
    (h2 : AfterL (runL τ Φ N ds (l.drop (k + 2)) (f1.map fun q => (q.1, swpVV t i j di dj q.2))) fun f => pickL (f2.map (·.1)) f = f2)
    (h3 : VW P N y (mk f2) Q) : VW P N (.seq (.region id l.toArray false) y) (mk fl) Q := by
  subst hds
  refine VW.seq ?_
  intro R B w0 O a w hst
  exact wp_region_lit (swp_list hτ hΦ k f1 f2 ho1 ho2 hg1 hg2 hd1 hd2 hop1 hop2 hT h1 e1 e2 e3 e4 q6 q7 h2 hst fun O' a' w' h' => ⟨O', mk f2, h', h3⟩)
theorem VW.swpr (hτ : TyOk P τ) (hΦ : Sound P Φ) (ds : List (Option Nat)) (k : Nat) (f1 f2 : FL) {id : Nat} {l : List Oper} {fl : FL} {Q : Exit → Frm → Prop}
    (o1 o2 : Oper) {T e : TypeId} {p1 p2 x1 x2 : Operand} {t i j : Nat} {d1 d2 di dj : D} (hds : l.map (·.dst) = ds) (ho1 : l[k]? = some o1) (ho2 : l[k + 1]? = some o2) (hg1 : o1.guard = none) (hg2 : o2.guard = none) (hd1 : o1.dst = none) (hd2 : o2.dst = none)
    (hop1 : o1.op = .store T p1 x2) (hop2 : o2.op = .store T p2 x1) (hT : τ T = .sl e)
    (e1 : ev (mk f1) p1 = .adr t [] i true d1) (e2 : ev (mk f1) x2 = .ref t [j] true dj) (e3 : ev (mk f1) p2 = .adr t [] j true d2) (e4 : ev (mk f1) x1 = .ref t [i] true di) (q6 : di.one = true) (q7 : dj.one = true)
    (h1 : AfterL (runL τ Φ N ds (l.take k) fl) fun f => pickL (f1.map (·.1)) f = f1)
    (h2 : AfterL (runL τ Φ N ds (l.drop (k + 2)) (f1.map fun q => (q.1, swpVV t i j di dj q.2))) fun f => pickL (f2.map (·.1)) f = f2)
    (h3 : Q .normal (mk f2)) : VW P N (.region id l.toArray false) (mk fl) Q := by
  subst hds
  intro R B w0 O a w hst
  exact wp_region_lit (swp_list hτ hΦ k f1 f2 ho1 ho2 hg1 hg2 hd1 hd2 hop1 hop2 hT h1 e1 e2 e3 e4 q6 q7 h2 hst fun O' a' w' h' => ⟨O', mk f2, h', h3⟩)
end
attribute [simp] swpVV
end Go.Vam
