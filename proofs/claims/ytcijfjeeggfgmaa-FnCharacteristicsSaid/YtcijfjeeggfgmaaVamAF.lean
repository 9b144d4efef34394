/- copy, into an own list of numbers. -/
import Derived.Test.YtcijfjeeggfgmaaVamAE
namespace Go.Vam
open Go Go.RowKit
set_option linter.unusedSimpArgs false

section
variable {P : Program} {N : Lim} {τ : TypeId → TK}


theorem step_copy (hτ : TyOk P τ) {o : Oper} {sx sy sz d t : Nat} {fl : FL} {xs ys : List D} {T T' e : TypeId} (ho : o.op = .call ⟨.builtin .copy, #[.tmp sx, .tmp sy], #[T, T']⟩)
    (hd : o.dst = some d) (hN : d ∈ N) (hNz : sz ∈ N) (hx : mk fl sx = .ref t [] true (.list xs)) (hz : mk fl sz = .ref t [] true (.list xs)) (hy : (mk fl sy).dat = some (.list ys)) (hyt : ∀ r ∈ (mk fl sy).toks, r ≠ t) (hT : τ T = .sl e) (hzd : (τ e).zd.isSome = true)
    (hxs : xs.all D.sc = true) (hys : ys.all D.sc = true) :
    OStep P N o (mk fl) (fun _ : Unit => mk ((d, .dead) :: (sz, .ref t [] true (.list (ys.take xs.length ++ xs.drop ys.length))) :: fl.map fun q => (q.1, kmap [t] q.2))) (fun _ => True) := by
  intro R B w0 O a w K Q h hK
  obtain ⟨zd, hzd⟩ := Option.isSome_iff_exists.1 hzd
  have hk := hτ T
  rw [hT] at hk
  obtain ⟨_, hu, _⟩ := hk
  obtain ⟨i, zval, i1, i2, i3, i4, i5, i6⟩ := TK.info (hτ e) hzd
  have hi1 : i.size = 1 := by simpa using i2
  have hr := rel_ev h (.tmp sx)
  have hev : ev (mk fl) (.tmp sx) = .ref t [] true (.list xs) := hx
  rw [hev] at hr
  have hrz := h.slots sz
  rw [hz] at hrz
  have hry := rd_dat h (rel_ev h (.tmp sy)) hy (ts := (ev (mk fl) (.tmp sy)).toks) (fun t ht => ht)
  obtain ⟨b, cap, co, hsv, hb, hparts⟩ := tree_list (rel_tmp h (.tmp sx) hev)
  obtain ⟨xa, xc, cn, hxv, hxa, hxp⟩ := rd_list hry
  -- what is left when the list has another content
  have fin : ∀ (w' : World) (v : Value), (Builtin.copy_ #[T, T'] o.type #[a.eval (.tmp sx), a.eval (.tmp sy)]).run P w = .ok v w' →
      St R B w0 N O (upd (killl [t] (mk fl)) sz (.ref t [] true (.list (ys.take xs.length ++ xs.drop ys.length)))) a w' → o.wp P a w K Q := by
    intro w' v hrun hst
    have hexec : (execOp a.eval o).run P w = .ok (.value v) w' := by
      simp only [execOp, ho, resolve]
      simp [invoke, builtin, hrun]
    unfold Oper.wp
    rw [hexec]
    simp only [Oper.upon]
    rw [hd]
    refine hK () O _ w' trivial ?_
    have hst2 := hst.made (ks := []) (x := .dead) (v := v) (d := d) ⟨Keeps.refl _ _ _, .refl _ _, hst.own, hst.inj, trivial⟩ hN
    rw [killl_nil] at hst2
    have e : upd (upd (killl [t] (mk fl)) sz (.ref t [] true (.list (ys.take xs.length ++ xs.drop ys.length)))) d .dead =
        mk ((d, .dead) :: (sz, .ref t [] true (.list (ys.take xs.length ++ xs.drop ys.length))) :: fl.map fun q => (q.1, kmap [t] q.2)) := by
      funext j
      simp only [upd, mk_cons, mk_map (kmap [t]) (kmap_dead [t])]
      rfl
    rw [e] at hst2
    exact hst2
  have same : ys.take xs.length ++ xs.drop ys.length = xs → (∃ v, (Builtin.copy_ #[T, T'] o.type #[a.eval (.tmp sx), a.eval (.tmp sy)]).run P w = .ok v w) → o.wp P a w K Q := by
    rintro e0 ⟨v, hrun⟩
    refine fin w v hrun ?_
    rw [e0]
    have m : Made R B w w O O [t] (.ref t [] true (.list xs)) (a.tmps.getD sz undef) :=
      ⟨⟨Nat.le_refl _, fun g _ hO => ⟨hO, rfl⟩, fun g r q hO _ => ⟨hO, rfl⟩⟩, .refl _ _, h.own, h.inj, hrz⟩
    have h' := h.made m hNz
    rwa [put_same (by rw [h.size]; exact hNz.2)] at h'
  by_cases hm : Nat.min ys.length xs.length = 0
  · refine same ?_ ?_
    · rcases Nat.eq_zero_or_pos ys.length with h0 | h0
      · have : ys = [] := List.eq_nil_of_length_eq_zero h0
        subst this; simp
      · have : xs = [] := by
          refine List.eq_nil_of_length_eq_zero ?_
          have : Nat.min ys.length xs.length = min ys.length xs.length := rfl
          omega
        subst this; simp
    · refine ⟨goInt 0, ?_⟩
      rw [hsv, hxv]
      exact run_copy_none w T T' o.type e b xa xs.length cap ys.length xc hu (by simp [i1, hi1]) hm
  · have hmin : Nat.min ys.length xs.length = min ys.length xs.length := rfl
    rcases hb with ⟨_, h0, _⟩ | ⟨g, cur, E, rfl, hO, hg, hc, hnc, hcm, hold⟩
    · omega
    rcases hxa with h0 | ⟨gx, ox, curx, Ex, frx, rfl, hgx, hcx⟩
    · omega
    have hne : gx ≠ g := by
      rintro rfl
      -- the source's block is not the target's
      have hx0 : Rd w (Foot R O w (ev (mk fl) (.tmp sy)).toks) (a.eval (.tmp sy)) (.list ys) := hry
      generalize hq : a.eval (.tmp sy) = vq at hx0
      cases hx0 with
      | empty ad cap2 => exact hm (by simp [hmin])
      | list g' o' cap' cur' E' fr' _ vs' hS =>
        rw [hxv] at hq
        simp only [Value.slice.injEq, Option.some.injEq, Addr.mk.injEq] at hq
        obtain ⟨⟨rfl, _⟩, _⟩ := hq
        rcases hS with ⟨_, _, h1⟩
        rcases h1 with h1 | ⟨r, q, hrm, h1⟩
        · rw [hO] at h1; cases h1
        · rw [hO] at h1
          simp only [Option.some.injEq, Prod.mk.injEq] at h1
          exact hyt r hrm h1.1.symm
    let cs := (List.range (Nat.min ys.length xs.length)).map cn
    have hcl : cs.length = Nat.min ys.length xs.length := by simp [cs]
    have hsrc : ∀ j v, cs[j]? = some v → w.cell? ((⟨gx, ox, none⟩ : Addr).add j) = some v := by
      intro j v hjv
      obtain ⟨hj, rfl⟩ := list_news _ cn j v hjv
      have hadd : (⟨gx, ox, none⟩ : Addr).add j = ⟨gx, ox + j, none⟩ := by unfold Addr.add; split <;> simp_all
      rw [hadd, cell_of_row w gx _ _ _ _ hgx, hcx j (by omega)]
    have hone : ∀ v ∈ cs, v.oneCell' = true := by
      intro v hv
      obtain ⟨j, hj, rfl⟩ := List.mem_map.1 hv
      have hj' : j < ys.length := by have := List.mem_range.1 hj; omega
      exact one_one (hxp j hj') (by have := all_get hys j hj'; revert this; cases ys[j] <;> simp [D.sc, D.one])
    have hrun := run_copy_row (P := P) w T T' o.type e g 0 xs.length cap ⟨gx, ox, none⟩ ys.length xc cur E cs hu (by simp [i1, hi1]) hg hcl hsrc (by omega) hone
    refine fin _ _ (by rw [hsv, hxv]; exact hrun) ?_
    have hcs : ∀ j, j < Nat.min ys.length xs.length → cs[j]? = some (cn j) := fun j hj => by simp [cs, hj]
    generalize hw' : w.setRow g (cur.toList.take 0 ++ cs ++ cur.toList.drop (0 + cs.length)).toArray = w'
    have hg' : w'.heap[g]? = some (.cells (cur.toList.take 0 ++ cs ++ cur.toList.drop (0 + cs.length)).toArray E (0, 0)) := by
      rw [← hw']; exact setRow_heap w g cur _ E _ hg
    have hoth : ∀ k, k ≠ g → w'.heap[k]? = w.heap[k]? := fun k hk => by rw [← hw']; exact setRow_other w g k _ hk
    have hszw : w'.heap.size = w.heap.size := by rw [← hw']; simp
    have hlen : (ys.take xs.length ++ xs.drop ys.length).length = xs.length := by simp; omega
    have hnewtree : OwnU w' O t [] (.slice (some ⟨g, 0, none⟩) xs.length cap) (.list (ys.take xs.length ++ xs.drop ys.length)) := by
      have := OwnU.list (w := w') (O := O) (t := t) [] g cap _ E (ys.take xs.length ++ xs.drop ys.length) (fun j => if j < Nat.min ys.length xs.length then cn j else co j) hO hg' (by omega) hcm (by simp; omega) (fun j hj => ?_) fun j hj => ?_
      · rwa [hlen] at this
      · simp only [List.take_zero, List.nil_append, Nat.zero_add, List.getElem?_toArray]
        by_cases hjm : j < Nat.min ys.length xs.length
        · rw [if_pos hjm, List.getElem?_append_left (by omega)]
          exact hcs j hjm
        · rw [if_neg hjm, List.getElem?_append_right (by omega), List.getElem?_drop, show cs.length + (j - cs.length) = j by omega, Array.getElem?_toList]
          exact hold j (by omega)
      · by_cases hjm : j < Nat.min ys.length xs.length
        · rw [if_pos hjm]
          have e1 : (ys.take xs.length ++ xs.drop ys.length)[j] = ys[j]'(by omega) := by
            rw [List.getElem_append_left (by simp; omega), List.getElem_take]
          rw [e1]
          exact sc_own (all_get hys j _) (hxp j _) _ _ _ _
        · rw [if_neg hjm]
          have e1 : (ys.take xs.length ++ xs.drop ys.length)[j] = xs[j]'(by omega) := by
            have h2 : (ys.take xs.length ++ xs.drop ys.length)[j]? = xs[j]? := by
              rw [List.getElem?_append_right (by simp; omega), List.getElem?_drop]
              congr 1
              simp; omega
            rw [List.getElem?_eq_getElem hj, List.getElem?_eq_getElem (by omega)] at h2
            exact Option.some.inj h2
          rw [e1]
          have h3 : OwnU w O t [j] (co j) (xs[j]'(by omega)) := hparts j (by omega)
          exact sc_own (all_get hxs j _) (OwnU.rd h3 (S := fun _ => True) fun _ _ _ => trivial) _ _ _ _
    have k : Keeps w w' O O (fun r => r ∈ [t]) := by
      refine ⟨by omega, fun b hb hn => ⟨hn, hoth b fun e => by rw [e, hO] at hn; cases hn⟩, fun b r p hb hr => ⟨hb, hoth b fun e => ?_⟩⟩
      rw [e, hO] at hb
      simp only [Option.some.injEq, Prod.mk.injEq] at hb
      exact hr (by simp [hb.1])
    have m : Made R B w w' O O [t] (.ref t [] true (.list (ys.take xs.length ++ xs.drop ys.length))) (a.tmps.getD sz undef) := by
      refine ⟨k, ⟨by rw [← hw']; rfl, by rw [← hw']; rfl, by rw [← hw']; rfl, by omega, fun b hb => hoth b fun e => (h.own g _ hO).1 (e ▸ hb)⟩, fun b y hb => by rw [hszw]; exact h.own b y hb, h.inj, ?_⟩
      have e1 : a.tmps.getD sz undef = .slice (some ⟨g, 0, none⟩) xs.length cap := by
        obtain ⟨b2, cap2, co2, hsv2, hb2, _⟩ := tree_list hrz
        rw [hsv2]
        rcases hb2 with ⟨_, h0, _⟩ | ⟨g2, cur2, E2, rfl, hO2, hg2, hc2, _, _, _⟩
        · omega
        · have := h.inj g2 g _ hO2 hO
          subst this
          rw [hg] at hg2
          simp only [Option.some.injEq, Obj.cells.injEq] at hg2
          rw [← hc2, ← hg2.1, hc]
      rw [e1]
      exact hnewtree
    have h' := h.made m hNz
    rwa [put_same (by rw [h.size]; exact hNz.2)] at h'
end
end Go.Vam
