/- Parts that stay readable where they go: a slice's literal, an append, an assignment. -/
import Derived.Test.YtcijfjeeggfgmaaVamAI
namespace Go.Vam
open Go Go.RowKit
set_option linter.unusedSimpArgs false
set_option linter.unusedVariables false

section
variable {P : Program} {τ : TypeId → TK} {Φ : Orc} {R : Nat → Prop} {B : Nat → Prop} {w0 : W0} {N : Lim} {O : Own} {σ : Frm} {a : Act} {w : World}

theorem sound_buildS2 (hτ : TyOk P τ) (h : St R B w0 N O σ a w) {o : Oper} {T : TypeId} {n : Nat} {parts : Array (Nat × Operand)} (ho : o.op = .buildSlice T n parts) {d : Nat} {ks : List Nat} {z : VV}
    (hv : vbuildS τ d T n parts σ = some (ks, z)) : ∃ v w' O', (execOp a.eval o).run P w = .ok (.value v) w' ∧ Made R B w w' O O' ks z v ∧
    ∀ ps, partsV σ (parts.toList.map (·.2)) = some ps → ∀ t i, pidx (List.range n) ps t = some i → ∀ b q, O b = some (t, q) → O' b = some (d, i :: q) ∧ w'.heap[b]? = w.heap[b]? := by
  unfold vbuildS at hv
  split at hv <;> try cases hv
  rename_i e hT
  split at hv <;> try cases hv
  rename_i hc
  split at hv <;> try cases hv
  rename_i ps hps
  split at hv <;> simp only [Option.some.injEq, reduceCtorEq, Prod.mk.injEq] at hv
  rename_i hnd
  obtain ⟨rfl, rfl⟩ := hv
  obtain ⟨hidx, hn, hzs⟩ := hc
  obtain ⟨zd, hzd⟩ := Option.isSome_iff_exists.1 hzs
  have hk := hτ T
  rw [hT] at hk
  obtain ⟨_, hu, _⟩ := hk
  obtain ⟨i, zval, i1, i2, i3, i4, i5, i6⟩ := TK.info (hτ e) hzd
  have i5' : zval.cells = #[zv zd] := by simpa using i5
  obtain ⟨hl1, hrel⟩ := partsV_rel h _ _ hps
  have hlen : ps.length = n := by
    have := congrArg List.length hidx
    simp at this
    rw [← hl1]; simp [this]
  obtain ⟨cs, f1, f2, f3, _⟩ := fill_vals (fun i => some (i * 1, 1)) (fun i => .inr (by simp)) ((parts.toList.map (·.2)).map a.eval) 0 (madeCells zval.cells n)
    (fun v hv => by
      obtain ⟨j, hj, e⟩ := List.getElem_of_mem hv
      obtain ⟨u, r1, r2, r3⟩ := hrel j (by simpa [← hl1] using hj)
      rw [List.getElem?_eq_getElem hj, e] at r1
      simp only [Option.some.injEq] at r1; subst r1
      exact oneCell_of r2 r3) (by rw [size_madeCells]; simp only [List.length_map] at hl1 ⊢; omega) (fun i _ _ => by simp)
  rw [← zip_parts parts n hidx] at f1
  have hrun := run_buildSlice (w := w) hu i1 (by simpa using i2) i4 n hn _ cs f1
  have hcsz : cs.size = n := by rw [f2, size_madeCells]
  -- the new ownership
  let f := pidx (List.range n) ps
  let O' : Own := fun g => if g = w.heap.size then some (d, []) else grp O d f g
  have hnew : O' w.heap.size = some (d, []) := by simp [O']
  have hold : ∀ g, g ≠ w.heap.size → O' g = grp O d f g := fun g hg => by simp only [O', if_neg hg]
  have hke := grp_keeps (w := w) (O := O) (d := d) (f := f) (ks := d :: ptoks ps) (by simp) (fun t i hh => by simp [(pidx_mem _ _ _ _ hh).1])
  have hlt : ∀ g y, O g = some y → g ≠ w.heap.size := fun g y hg e => by have := (h.own g y hg).2; omega
  refine ⟨_, _, O', by simp only [execOp, ho]; exact run_v hrun, ⟨⟨by simp, fun g hg hO => ⟨?_, _root_.Go.heap_alloc_old w _ hg⟩, fun g t p hO ht => ⟨?_, _root_.Go.heap_alloc_old w _ (h.own g _ hO).2⟩⟩, (Blw.refl _ _).alloc h.base _, ?_, ?_, ?_⟩, fun ps' h' t i ht b q hb => ?_⟩
  · rw [hold g (by omega)]; exact (hke.fro g hg hO).1
  · rw [hold g (hlt g _ hO)]; exact (hke.own g t p hO ht).1
  · intro g y hg
    by_cases hgs : g = w.heap.size
    · subst hgs; exact ⟨h.newB (Nat.le_refl _), by simp⟩
    · rw [hold g hgs] at hg
      have := grp_own h g y hg
      exact ⟨this.1, by simp; omega⟩
  · rintro g g' ⟨t, p⟩ e1 e2
    have nr : ∀ b q, b ≠ w.heap.size → O' b = some (d, q) → q ≠ [] := by
      intro b q hb hq
      rw [hold b hb] at hq
      rcases grp_inv hq with ⟨_, i, q', t', e, _⟩ | ⟨e, _⟩
      · rw [e]; simp
      · exact absurd rfl e
    by_cases h1 : g = w.heap.size <;> by_cases h2 : g' = w.heap.size
    · rw [h1, h2]
    · subst h1; rw [hnew] at e1
      simp only [Option.some.injEq, Prod.mk.injEq] at e1
      obtain ⟨rfl, rfl⟩ := e1
      exact absurd rfl (nr g' [] h2 e2)
    · subst h2; rw [hnew] at e2
      simp only [Option.some.injEq, Prod.mk.injEq] at e2
      obtain ⟨rfl, rfl⟩ := e2
      exact absurd rfl (nr g [] h1 e1)
    · rw [hold g h1] at e1
      rw [hold g' h2] at e2
      exact grp_inj h.inj (pidx_inj _ _ List.nodup_range) g g' _ e1 e2
  · have hlm : (ps.map PartV.d).length = n := by simp [hlen]
    have := OwnU.list (w := w.alloc (.cells cs e)) (O := O') (t := d) [] w.heap.size n cs e (ps.map PartV.d) (fun j => (cs.getD j undef)) hnew (heap_alloc_new w _) (by omega) (by simp only [maxLen]; omega) hcsz (fun j hj => by
      have hj' : j < cs.size := by omega
      simp [hj']) (fun j hj => by
      have hj2 : j < ps.length := by simpa using hj
      obtain ⟨v, r1, r2, r3⟩ := hrel j hj2
      have hg : cs.getD j undef = v := by
        have := f3 j (by simp only [List.length_map] at hl1 ⊢; omega)
        rw [Nat.zero_add, r1] at this
        simp [Array.getD_eq_getD_getElem?, this]
      rw [hg, List.getElem_map]
      refine PRel.part (f := f) r2 (fun t e he => ?_) fun g q t hO hf => ?_
      · exact pidx_at (List.range n) ps hnd j t e j (by rw [List.getElem?_eq_getElem hj2, he]) (List.getElem?_range (by omega))
      · exact ⟨by rw [hold g (hlt g _ hO)]; exact grp_of hO hf, _root_.Go.heap_alloc_old w _ (h.own g _ hO).2⟩)
    rwa [hlm] at this
  · have e : ps' = ps := Option.some.inj (h'.symm.trans hps)
    subst e
    exact ⟨by rw [hold b (hlt b _ hb)]; exact grp_of hb ht, _root_.Go.heap_alloc_old w _ (h.own b _ hb).2⟩

/-- A part of a tree stays readable at its new place. -/
def rrVV (ks : List Nat) (g : Nat → List Nat → Option (Nat × List Nat)) (x : VV) : VV := match x with
  | .ref t p true y => match g t p with
    | some (t', p') => .ref t' p' true y
    | none => kmap ks (.ref t p true y)
  | x => kmap ks x
theorem rrVV_dead (ks : List Nat) (g : Nat → List Nat → Option (Nat × List Nat)) : rrVV ks g .dead = .dead := by simp [rrVV, kmap]

theorem St.reroot (h : St R B w0 N O σ a w) {O' : Own} {w' : World} {ks : List Nat} {x : VV} {v : Value} {d : Nat} (m : Made R B w w' O O' ks x v) (hd : d ∈ N) (g : Nat → List Nat → Option (Nat × List Nat))
    (hg : ∀ t p t' p', g t p = some (t', p') → ∀ b q, O b = some (t, p ++ q) → O' b = some (t', p' ++ q) ∧ w'.heap[b]? = w.heap[b]?) : St R B w0 N O' (upd (fun j => rrVV ks g (σ j)) d x) (a.put (some d) v) w' := by
  refine ⟨h.below.trans m.below, fun b hb => Nat.lt_of_lt_of_le (h.base b hb) m.keeps.size, h.fresh, m.own, m.inj, by simp [Act.put, h.size], h.defers, fun s hs => by rw [getD_put (by rw [h.size]; exact hd.2), if_neg (fun e => by have := hd.1; omega)]; exact h.pin s hs, fun s => ?_⟩
  rw [getD_put (by rw [h.size]; exact hd.2)]
  unfold upd
  by_cases hs : s = d
  · rw [if_pos hs, if_pos hs]; exact m.rel
  · rw [if_neg hs, if_neg hs]
    have hr := h.slots s
    have hk := (h.slots s).killl m.keeps
    have hk' : Rel R w' O' (kmap ks (σ s)) (a.tmps.getD s undef) := hk
    show Rel R w' O' (rrVV ks g (σ s)) (a.tmps.getD s undef)
    generalize hσ : σ s = z at hr hk' ⊢
    unfold rrVV
    split
    · rename_i t p y
      split
      · rename_i t' p' hgt
        exact OwnU.keep (hr : OwnU w O t p _ y) p' fun b q hb => hg t p t' p' hgt b q hb
      · exact hk'
    · exact hk'

end
section
variable {P : Program} {N : Lim} {τ : TypeId → TK} {Φ : Orc}

/-- 'buildSlice' of own parts, which stay readable. -/
theorem step_buildR (hτ : TyOk P τ) {o : Oper} {T : TypeId} {n : Nat} {parts : Array (Nat × Operand)} {d : Nat} {fl : FL} {ks : List Nat} {z : VV} {ps : List PartV} (g : Nat → List Nat → Option (Nat × List Nat)) (ho : o.op = .buildSlice T n parts)
    (hd : o.dst = some d) (hN : d ∈ N) (hv : vbuildS τ d T n parts (mk fl) = some (ks, z)) (hps : partsV (mk fl) (parts.toList.map (·.2)) = some ps)
    (hg : ∀ t p t' p', g t p = some (t', p') → ∃ i, pidx (List.range n) ps t = some i ∧ t' = d ∧ p' = i :: p) :
    OStep P N o (mk fl) (fun _ : Unit => mk ((d, z) :: fl.map fun q => (q.1, rrVV ks g q.2))) (fun _ => True) := by
  intro R B w0 O a w K Q h hK
  obtain ⟨v, w', O', hrun, hm, hx⟩ := sound_buildS2 hτ h ho hv
  unfold Oper.wp
  rw [hrun]
  simp only [Oper.upon]
  rw [hd]
  have h' := h.reroot hm hN g fun t p t' p' hgt b q hb => by
    obtain ⟨i, h1, rfl, rfl⟩ := hg t p t' p' hgt
    exact hx ps hps t i h1 b (p ++ q) hb
  have e : upd (fun j => rrVV ks g (mk fl j)) d z = mk ((d, z) :: fl.map fun q => (q.1, rrVV ks g q.2)) := by
    funext j
    simp only [upd, mk_cons, mk_map (rrVV ks g) (rrVV_dead ks g)]
  rw [e] at h'
  exact hK () O' _ w' trivial h'

theorem step_build2 (hτ : TyOk P τ) {o : Oper} {T e : TypeId} {s0 s1 a b d : Nat} {fl : FL} {x y : D} (ho : o.op = .buildSlice T 2 #[(0, .tmp s0), (1, .tmp s1)])
    (hd : o.dst = some d) (hN : d ∈ N) (h0 : mk fl s0 = .ref a [] true x) (h1 : mk fl s1 = .ref b [] true y) (hab : a ≠ b) (hT : τ T = .sl e) (hzd : (τ e).zd.isSome = true) (ox : x.one = true) (oy : y.one = true) :
    OStep P N o (mk fl) (fun _ : Unit => mk ((d, .ref d [] true (.list [x, y])) :: fl.map fun q => (q.1, rrVV [d, a, b] (fun t p => if t = a then some (d, 0 :: p) else if t = b then some (d, 1 :: p) else none) q.2))) (fun _ => True) := by
  have hp : partsV (mk fl) [.tmp s0, .tmp s1] = some [.own a x, .own b y] := by
    have q0 : ev (mk fl) (.tmp s0) = .ref a [] true x := h0
    have q1 : ev (mk fl) (.tmp s1) = .ref b [] true y := h1
    simp only [partsV, q0, q1, partVV, ox, oy, if_true]
  refine step_buildR (ps := [.own a x, .own b y]) hτ _ ho hd hN ?_ (by simpa using hp) ?_
  · unfold vbuildS
    rw [hT]
    have e2 : (#[(0, Operand.tmp s0), (1, Operand.tmp s1)].toList.map (·.2)) = [.tmp s0, .tmp s1] := rfl
    simp only
    rw [if_pos ⟨rfl, by decide, hzd⟩, e2, hp]
    simp only
    rw [if_pos (by simp [ptoks, hab])]
    rfl
  · intro t p t' p' h
    split at h
    · rename_i ht
      simp only [Option.some.injEq, Prod.mk.injEq] at h
      obtain ⟨rfl, rfl⟩ := h
      subst ht
      exact ⟨0, by simp [pidx, List.range, List.range.loop], rfl, rfl⟩
    · rename_i ht
      split at h
      · rename_i ht2
        simp only [Option.some.injEq, Prod.mk.injEq] at h
        obtain ⟨rfl, rfl⟩ := h
        subst ht2
        exact ⟨1, by simp [pidx, List.range, List.range.loop, ht], rfl, rfl⟩
      · cases h

theorem step_build1 (hτ : TyOk P τ) {o : Oper} {T e : TypeId} {s0 a d : Nat} {fl : FL} {x : D} (ho : o.op = .buildSlice T 1 #[(0, .tmp s0)])
    (hd : o.dst = some d) (hN : d ∈ N) (h0 : mk fl s0 = .ref a [] true x) (hT : τ T = .sl e) (hzd : (τ e).zd.isSome = true) (ox : x.one = true) :
    OStep P N o (mk fl) (fun _ : Unit => mk ((d, .ref d [] true (.list [x])) :: fl.map fun q => (q.1, rrVV [d, a] (fun t p => if t = a then some (d, 0 :: p) else none) q.2))) (fun _ => True) := by
  have hp : partsV (mk fl) [.tmp s0] = some [.own a x] := by
    have q0 : ev (mk fl) (.tmp s0) = .ref a [] true x := h0
    simp only [partsV, q0, partVV, ox, if_true]
  refine step_buildR (ps := [.own a x]) hτ _ ho hd hN ?_ (by simpa using hp) ?_
  · unfold vbuildS
    rw [hT]
    have e2 : (#[(0, Operand.tmp s0)].toList.map (·.2)) = [.tmp s0] := rfl
    simp only
    rw [if_pos ⟨rfl, by decide, hzd⟩, e2, hp]
    simp only
    rw [if_pos (by simp [ptoks])]
    rfl
  · intro t p t' p' h
    split at h
    · rename_i ht
      simp only [Option.some.injEq, Prod.mk.injEq] at h
      obtain ⟨rfl, rfl⟩ := h
      subst ht
      exact ⟨0, by simp [pidx, List.range, List.range.loop], rfl, rfl⟩
    · cases h

theorem lg_get {α : Type} (f : α → D) (n : Nat) {X : List α} {v : α} (h : X[n]? = some v) : ∀ h' : n < (lg f n X).length, (lg f n X)[n]'h' = f v := fun h' => by
  have := lg_some f n h
  rw [List.getElem?_eq_getElem h'] at this
  exact Option.some.inj this
theorem bind_idx {α β : Type} {xs : List α} {i : Int} {f : α → Option β} {r : β} (h : (idx xs i).bind f = some r) : 0 ≤ i ∧ i.toNat < xs.length := by
  obtain ⟨v, hv, _⟩ := bind_some h
  have := idx_some hv
  exact ⟨this.1, this.2.1⟩
theorem lg_lt {i : Int} {n : Nat} (h0 : 0 ≤ i) (h1 : i.toNat < n) (h2 : n ≤ maxLen) : i.toNat < (w64 (i + 1)).toNat := by
  unfold maxLen at h2
  show i.toNat < (IntKind.i64.wrap (i + 1)).toNat
  rw [wrap_in (by omega) (by omega)]
  omega

/-- An append of an own list of lists: its elements stay readable. -/
theorem step_appR (hτ : TyOk P τ) {o : Oper} {s x : Nat} {d ts tx : Nat} {T e : TypeId} {fl : FL} {xs ys : List D} (ho : o.op = .call ⟨.builtin .append, #[.tmp s, .tmp x], #[T, T]⟩) (hd : o.dst = some d) (hN : d ∈ N)
    (hs : mk fl s = .ref ts [] true (.list xs)) (hx : mk fl x = .ref tx [] true (.list ys)) (hT : τ T = .sl e) (hzd : (τ e).zd.isSome = true) (hne : tx ≠ ts) (hy0 : 0 < ys.length) (hone : ys.all D.one = true) (hlim : xs.length + ys.length ≤ 1099511627776) :
    OStep P N o (mk fl) (fun _ : Unit => mk ((d, .ref d [] true (.list (xs ++ ys))) :: fl.map fun q => (q.1, rrVV [d, ts, tx] (fun t p => if t = tx then (match p with | j :: p' => some (d, (j + xs.length) :: p') | [] => none) else none) q.2))) (fun _ => True) := by
  intro R B w0 O a w K Q h hK
  obtain ⟨zd, hzd⟩ := Option.isSome_iff_exists.1 hzd
  have hk := hτ T
  rw [hT] at hk
  obtain ⟨_, hu, _⟩ := hk
  obtain ⟨i, zval, i1, i2, i3, i4, i5, i6⟩ := TK.info (hτ e) hzd
  obtain ⟨b, cap, co, hsv, hb, hparts⟩ := tree_list (rel_tmp h (.tmp s) hs)
  have hxt := rel_tmp h (.tmp x) hx
  obtain ⟨b2, cap2, co2, hxv, hb2, hparts2⟩ := tree_list hxt
  have hxp : ∀ j (hj : j < ys.length), Rd w (fun _ => True) (co2 j) ys[j] := fun j hj => OwnU.rd (hparts2 j hj : OwnU w O tx [j] (co2 j) ys[j]) fun _ _ _ => trivial
  obtain ⟨v, w', hrun, hap⟩ := app_run (P := P) (w := w) (ty := o.type) hu i1 (by simpa using i2) i4 (by rw [i5]; rfl) i3 b xs.length cap co
    (by rcases hb with hb | ⟨g, cur, E, h1, h2, h3⟩
        · exact .inl hb
        · exact .inr ⟨g, cur, E, h1, h3⟩) b2 ys.length cap2 co2
    (by rcases hb2 with hb2 | ⟨g, cur, E, h1, h2, h3, h4, h5, h6, h7⟩
        · omega
        · exact .inr ⟨g, 0, cur, E, (0, 0), h1, h3, fun j hj => by rw [Nat.zero_add]; exact h7 j hj⟩) (fun j hj => one_one (hxp j hj) (all_get hone j hj)) hlim
  have hexec : (execOp a.eval o).run P w = .ok (.value v) w' := by
    simp only [execOp, ho, resolve]
    simp only [List.map_toArray, List.map_cons, List.map_nil, hsv, hxv]
    simp [invoke, builtin, hrun]
  have hb' : b = none ∨ ∃ g, b = some ⟨g, 0, none⟩ ∧ O g = some (ts, []) := by
    rcases hb with hb | ⟨g, cur, E, h1, h2, h3⟩
    · exact .inl hb.1
    · exact .inr ⟨g, h1, h2⟩
  obtain ⟨O', hm, hmove⟩ := app_made2 h (d := d) (ts := ts) (tx := some tx) (u := true) (ks := [d, ts, tx]) (by simpa using hne) rfl rfl hb' hap hparts (fun hh => hh)
    (fun j hj => .inr (.inl ⟨tx, rfl, hparts2 j hj⟩)) (by simp) (by simp) (by simp)
  unfold Oper.wp
  rw [hexec]
  simp only [Oper.upon]
  rw [hd]
  generalize hgd : (fun (t : Nat) (p : List Nat) => if t = tx then (match p with | j :: p' => some (d, (j + xs.length) :: p') | [] => none) else none) = g
  have h' := h.reroot hm hN g fun t p t' p' hgt b q hb => by
    subst hgd
    simp only at hgt
    split at hgt
    · rename_i ht
      subst ht
      split at hgt <;> simp only [Option.some.injEq, Prod.mk.injEq, reduceCtorEq] at hgt
      obtain ⟨rfl, rfl⟩ := hgt
      exact hmove rfl hy0 t rfl b _ _ hb
    · cases hgt
  have e : upd (fun j => rrVV [d, ts, tx] g (mk fl j)) d (.ref d [] true (.list (xs ++ ys))) = mk ((d, .ref d [] true (.list (xs ++ ys))) :: fl.map fun q => (q.1, rrVV [d, ts, tx] g q.2)) := by
    funext j
    simp only [upd, mk_cons, mk_map (rrVV [d, ts, tx] g) (rrVV_dead _ g)]
  rw [e] at h'
  subst hgd
  exact hK () O' _ w' trivial h'

/-- An assignment of a tree: its parts stay readable. -/
theorem step_asnR {o : Oper} {x : Nat} {d t : Nat} {fl : FL} {y : D} (ho : o.op = .assign (.tmp x)) (hd : o.dst = some d) (hN : d ∈ N) (hx : mk fl x = .ref t [] true y) (hne : t ≠ d) :
    OStep P N o (mk fl) (fun _ : Unit => mk ((d, .ref d [] true y) :: fl.map fun q => (q.1, rrVV [d, t] (fun r p => if r = t then some (d, p) else none) q.2))) (fun _ => True) := by
  intro R B w0 O a w K Q h hK
  have hr := rel_tmp h (.tmp x) hx
  have hrun : (execOp a.eval o).run P w = .ok (.value (a.eval (.tmp x))) w := by simp [execOp, ho]
  let O' : Own := fun g => match O g with
    | some (r, p) => if r = t then some (d, p) else if r = d then none else some (r, p)
    | none => none
  have e1 : ∀ g p, O g = some (t, p) → O' g = some (d, p) := fun g p hg => by simp only [O', hg, if_true]
  have e2 : ∀ g r p, O g = some (r, p) → r ≠ t → r ≠ d → O' g = some (r, p) := fun g r p hg h1 h2 => by simp only [O', hg]; rw [if_neg h1, if_neg h2]
  have inv : ∀ g y, O' g = some y → (y.1 = d ∧ O g = some (t, y.2)) ∨ (y.1 ≠ d ∧ O g = some y) := by
    intro g y hg
    simp only [O'] at hg
    split at hg
    · rename_i r p hO
      split at hg
      · rename_i hr
        simp only [Option.some.injEq] at hg
        subst hr; subst hg
        exact .inl ⟨rfl, hO⟩
      · split at hg
        · cases hg
        · rename_i h1 h2
          simp only [Option.some.injEq] at hg
          subst hg
          exact .inr ⟨h2, hO⟩
    · cases hg
  have hm : Made R B w w O O' [d, t] (.ref d [] true y) (a.eval (.tmp x)) := by
    refine ⟨⟨Nat.le_refl _, fun g _ hO => ⟨by simp only [O', hO], rfl⟩, fun g r p hO hr => ⟨?_, rfl⟩⟩, .refl _ _, fun g y hg => ?_, ?_, ?_⟩
    · simp only [List.mem_cons, List.not_mem_nil, or_false, not_or] at hr
      exact e2 g r p hO hr.2 hr.1
    · rcases inv g y hg with ⟨_, h1⟩ | ⟨_, h1⟩ <;> exact h.own g _ h1
    · rintro g g' ⟨r, p⟩ h1 h2
      rcases inv g _ h1 with ⟨a1, a2⟩ | ⟨a1, a2⟩ <;> rcases inv g' _ h2 with ⟨b1, b2⟩ | ⟨b1, b2⟩
      · exact h.inj g g' _ a2 b2
      · exact absurd a1 b1
      · exact absurd b1 a1
      · exact h.inj g g' _ a2 b2
    · exact OwnU.keep (hr : OwnU w O t [] _ y) [] fun g q hg => ⟨by simpa using e1 g q (by simpa using hg), rfl⟩
  unfold Oper.wp
  rw [hrun]
  simp only [Oper.upon]
  rw [hd]
  generalize hgd : (fun (r : Nat) (p : List Nat) => if r = t then some (d, p) else none) = g
  have h' := h.reroot hm hN g fun r p t' p' hgt b q hb => by
    subst hgd
    simp only at hgt
    split at hgt <;> simp only [Option.some.injEq, Prod.mk.injEq, reduceCtorEq] at hgt
    rename_i hrt
    obtain ⟨rfl, rfl⟩ := hgt
    subst hrt
    exact ⟨e1 b _ hb, rfl⟩
  have e : upd (fun j => rrVV [d, t] g (mk fl j)) d (.ref d [] true y) = mk ((d, .ref d [] true y) :: fl.map fun q => (q.1, rrVV [d, t] g q.2)) := by
    funext j
    simp only [upd, mk_cons, mk_map (rrVV [d, t] g) (rrVV_dead _ g)]
  rw [e] at h'
  subst hgd
  exact hK () O' _ w trivial h'

/-- A region that ends in three operations told by hand. -/
theorem VW.end3 (hτ : TyOk P τ) (hΦ : Sound P Φ) (ds : List (Option Nat)) (k : Nat) (f1 F1 f2 F2 f3 F3 f4 : FL) {id : Nat} {l : List Oper} {y : Code} {fl : FL} {Q : Exit → Frm → Prop}
    (o1 o2 o3 : Oper) (hds : l.map (·.dst) = ds) (ho : l = l.take k ++ [o1, o2, o3]) (hg1 : o1.guard = none) (hg2 : o2.guard = none) (hg3 : o3.guard = none)
    (h1 : AfterL (runL τ Φ N ds (l.take k) fl) fun f => pickL (f1.map (·.1)) f = f1)
    (s1 : OStep P N o1 (mk f1) (fun _ : Unit => mk F1) (fun _ => True)) (e1 : pickL (f2.map (·.1)) F1 = f2)
    (s2 : OStep P N o2 (mk f2) (fun _ : Unit => mk F2) (fun _ => True)) (e2 : pickL (f3.map (·.1)) F2 = f3)
    (s3 : OStep P N o3 (mk f3) (fun _ : Unit => mk F3) (fun _ => True)) (e3 : pickL (f4.map (·.1)) F3 = f4)
    (h3 : VW P N y (mk f4) Q) : VW P N (.seq (.region id l.toArray false) y) (mk fl) Q := by
  subst hds
  refine VW.seq ?_
  intro R B w0 O a w hst
  refine wp_region_lit ?_
  have : wpList P l.toArray (fun e a' w' => ∃ O' σ', St R B w0 N O' σ' a' w' ∧ Nx (fun σ' => VW P N y σ' Q) Q e σ') (l.take k ++ [o1, o2, o3]) a w := by
    cases hv : runL τ Φ N (l.map (·.dst)) (l.take k) fl with
    | none => rw [hv] at h1; exact h1.elim
    | some f1' =>
      rw [hv] at h1
      refine vrun_pre hτ hΦ (l.take k) [o1, o2, o3] hst (runL_ok (l0 := l) (l.take k) fl f1' hv) fun O1 a1 w1 hst1 => ?_
      have q1 := st_pick hst1 h1
      refine wpList_step fun K hK => ?_
      rw [if_pos (by simp [Region.wanted, hg1])]
      refine s1 R B w0 O1 a1 w1 K _ q1 fun _ O2 a2 w2 _ hst2 => hK a2 w2 ?_
      have q2 := st_pick hst2 e1
      refine wpList_step fun K hK => ?_
      rw [if_pos (by simp [Region.wanted, hg2])]
      refine s2 R B w0 O2 a2 w2 K _ q2 fun _ O3 a3 w3 _ hst3 => hK a3 w3 ?_
      have q3 := st_pick hst3 e2
      refine wpList_step fun K hK => ?_
      rw [if_pos (by simp [Region.wanted, hg3])]
      refine s3 R B w0 O3 a3 w3 K _ q3 fun _ O4 a4 w4 _ hst4 => hK a4 w4 ?_
      exact ⟨O4, mk f4, st_pick hst4 e3, h3⟩
  rwa [← ho] at this
end
end Go.Vam
