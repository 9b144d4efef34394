/- A clone of an own list whose rows are frozen: the list itself stays. -/
import Derived.Test.YtcijfjeeggfgmaaVamAC
namespace Go.Vam
open Go Go.RowKit
set_option linter.unusedSimpArgs false

/-- What a clone does: nothing to nil; else an append behind a new empty block. -/
def CloneOf (P : Program) (f : FuncId) (T e : TypeId) : Prop :=
  (∀ args w, (callFunc f args).run P w = .ok (.enter f args) w) ∧ (∀ w, Calls P f #[.slice none 0 0] w fun x w' => x = .returned (.slice none 0 0) ∧ w' = w) ∧
  ∀ (w w' : World) (a : Addr) (n c : Nat) (u : Value), (Builtin.append_ #[T, T] T #[.slice (some ⟨w.heap.size, 0, none⟩) 0 0, .slice (some a) n c]).run P (w.alloc (.cells #[] e)) = .ok u w' →
    Calls P f #[.slice (some a) n c] w fun x w'' => x = .returned u ∧ w'' = w'

section
variable {P : Program} {N : Lim} {τ : TypeId → TK}

theorem tree_weak {R : Nat → Prop} {w : World} {O : Own} {t : Nat} {v : Value} {u : Bool} {xs : List D} (h : Tree R w O t [] u v (.list xs)) (hs : u = true → xs.all D.sc = true) : OwnF R w O t [] v (.list xs) := by
  cases u with
  | false => exact h
  | true =>
    cases (h : OwnU w O t [] v (.list xs)) with
    | nil => exact .nil
    | list _ g cap cur E _ vs a1 a2 a3 a4 a5 a6 a7 =>
      exact .list g cap cur E xs vs a1 a2 a3 a4 a5 a6 fun i hi => sc_rd (List.all_eq_true.1 (hs rfl) _ (List.getElem_mem hi)) (a7 i hi) _ _

theorem step_clone (hτ : TyOk P τ) {o : Oper} {g : FuncId} {ts : Array TypeId} {sx d t : Nat} {fl : FL} {xs : List D} {T e : TypeId} (ho : o.op = .call ⟨.value (.func g), #[.tmp sx], ts⟩)
    (hd : o.dst = some d) (hN : d ∈ N) (hx : mk fl sx = .ref t [] false (.list xs)) (hsd : sx ≠ d) (htd : t ≠ d) (hT : τ T = .sl e) (hzd : (τ e).zd.isSome = true) (hone : xs.all D.one = true) (hlen : xs.length ≤ 1099511627776) (hc : CloneOf P g T e) :
    OStep P N o (mk fl) (fun _ : Unit => mk ((d, .ref d [] false (.list xs)) :: fl.map fun q => (q.1, kmap [d] q.2))) (fun _ => True) := by
  intro R B w0 O a w K Q h hK
  obtain ⟨hcall, hcn, hcs⟩ := hc
  have hr := rel_ev h (.tmp sx)
  have hev : ev (mk fl) (.tmp sx) = .ref t [] false (.list xs) := hx
  rw [hev] at hr
  generalize hv : a.eval (.tmp sx) = v at hr
  have hrun : (execOp a.eval o).run P w = .ok (.enter g #[v]) w := by
    have he : a.eval (.func g) = .func (.func g) #[] #[] := rfl
    simp only [execOp, ho, resolve, he, Deferred.ofValue]
    simp [invoke, hcall, hv]
  unfold Oper.wp
  rw [hrun]
  simp only [Oper.upon]
  rw [hd]
  cases (hr : OwnF R w O t [] v (.list xs)) with
  | nil =>
    refine (hcn w).mono ?_
    rintro x w' ⟨rfl, rfl⟩
    have e1 : ∀ g s q, drp O d g = some (s, q) → O g = some (s, q) ∧ s ≠ d := by
      intro g s q hg
      unfold drp at hg
      split at hg
      · cases hg
      · rename_i s' q' hO
        split at hg
        · cases hg
        · rename_i hs
          simp only [Option.some.injEq, Prod.mk.injEq] at hg
          obtain ⟨rfl, rfl⟩ := hg
          exact ⟨hO, hs⟩
    have hm : Made R B w' w' O (drp O d) [d] (.ref d [] false (.list [])) (.slice none 0 0) := by
      refine ⟨⟨Nat.le_refl _, fun g hg hn => ⟨by unfold drp; rw [hn], rfl⟩, fun g s q hgo hns => ⟨by unfold drp; rw [hgo]; simp at hns; simp [hns], rfl⟩⟩, .refl _ _, ?_, ?_, ?_⟩
      · rintro g ⟨s, q⟩ hg; exact h.own g _ (e1 g s q hg).1
      · rintro g g' ⟨s, q⟩ h1 h2; exact h.inj g g' _ (e1 g s q h1).1 (e1 g' s q h2).1
      · exact OwnF.nil
    refine hK () (drp O d) _ _ trivial ?_
    rw [mk_upd_kill]
    exact h.made hm hN
  | list g0 cap cur E _ vs a1 a2 a3 a4 a5 a6 a7 =>
    obtain ⟨O1, hm1⟩ := Made.new h d #[] e true (.list []) (.slice (some ⟨w.heap.size, 0, none⟩) 0 0) (w.alloc (.cells #[] e)) rfl rfl rfl rfl (fun O' h3 _ =>
      OwnU.list [] w.heap.size 0 #[] e [] (fun _ => undef) h3 (heap_alloc_new w _) (Nat.zero_le _) (Nat.zero_le _) rfl (fun i hi => absurd hi (by simp)) fun i hi => absurd hi (by simp))
    have h1 := h.made hm1 hN
    let σ1 : Frm := upd (killl [d] (mk fl)) d (.ref d [] true (.list []))
    let A1 := a.put (some d) (.slice (some ⟨w.heap.size, 0, none⟩) 0 0)
    let o' : Oper := { o with op := .call ⟨.builtin .append, #[.tmp d, .tmp sx], #[T, T]⟩, type := T }
    have s1 : ev σ1 (.tmp d) = .ref d [] true (.list []) := by show σ1 d = _; simp [σ1, upd]
    have s2 : ev σ1 (.tmp sx) = .ref t [] false (.list xs) := by
      show σ1 sx = _
      simp only [σ1, upd, if_neg hsd, killl, hx, VV.on]
      simp [htd]
    have hva : ∃ ks u, vapp τ d T (ev σ1 (.tmp d)) (ev σ1 (.tmp sx)) = some (ks, .ref d [] u (.list xs)) ∧ (∀ k ∈ ks, k = d) ∧ (u = true → xs.all D.sc = true) := by
      rw [s1, s2]
      unfold vapp
      rw [hT]
      simp only [hzd, if_true, VV.dat, List.length_nil, Nat.zero_add, hlen, hone, and_self, List.nil_append]
      by_cases hs : xs.all D.sc = true
      · rw [if_pos hs]
        exact ⟨_, _, rfl, by simp, fun _ => hs⟩
      · rw [if_neg hs, if_neg htd]
        exact ⟨_, _, rfl, by simp, fun h => by simp at h⟩
    obtain ⟨ks, u, hva, hks, husc⟩ := hva
    obtain ⟨x, w', O', hex, hm⟩ := vapp_sound (P := P) hτ h1 (o := o') (c := ⟨.builtin .append, #[.tmp d, .tmp sx], #[T, T]⟩) rfl rfl rfl rfl (d := d) hva
    have ev1 : A1.eval (.tmp d) = .slice (some ⟨w.heap.size, 0, none⟩) 0 0 := by
      show A1.tmps.getD d undef = _
      rw [getD_put (by rw [h.size]; exact hN.2), if_pos rfl]
    have ev2 : A1.eval (.tmp sx) = .slice (some ⟨g0, 0, none⟩) xs.length cap := by
      show A1.tmps.getD sx undef = _
      rw [getD_put (by rw [h.size]; exact hN.2), if_neg hsd]
      exact hv
    have happ : (Builtin.append_ #[T, T] T #[.slice (some ⟨w.heap.size, 0, none⟩) 0 0, .slice (some ⟨g0, 0, none⟩) xs.length cap]).run P (w.alloc (.cells #[] e)) = .ok x w' := by
      have hex' : (execOp A1.eval o').run P (w.alloc (.cells #[] e)) = .ok (.value x) w' := hex
      simp only [execOp, o', resolve, List.map_toArray, List.map_cons, List.map_nil, ev1, ev2] at hex'
      simp [invoke, builtin] at hex'
      generalize (Builtin.append_ #[T, T] T #[.slice (some ⟨w.heap.size, 0, none⟩) 0 0, .slice (some ⟨g0, 0, none⟩) xs.length cap]).run P (w.alloc (.cells #[] e)) = r at hex' ⊢
      cases r <;> simp_all
    refine (hcs w w' ⟨g0, 0, none⟩ xs.length cap x happ).mono ?_
    rintro y w'' ⟨rfl, rfl⟩
    refine hK () O' _ _ trivial ?_
    have h2 := h1.made hm hN
    have hput : A1.put (some d) x = a.put (some d) x := by simp [A1, Act.put]
    have h3 : St R B w0 N O' (upd (killl ks σ1) d (.ref d [] u (.list xs))) (a.put (some d) x) w'' := by rw [← hput]; exact h2
    refine ⟨h3.below, h3.base, h3.fresh, h3.own, h3.inj, h3.size, h3.defers, h3.pin, fun s => ?_⟩
    have hs := h3.slots s
    rw [mk_upd_kill]
    show Rel R w'' O' (upd (killl [d] (mk fl)) d (.ref d [] false (.list xs)) s) _
    unfold upd at hs ⊢
    by_cases hsd' : s = d
    · rw [if_pos hsd'] at hs ⊢
      exact tree_weak hs husc
    · rw [if_neg hsd'] at hs ⊢
      have hsame : killl ks σ1 s = killl [d] (mk fl) s := by
        have hσ : σ1 s = killl [d] (mk fl) s := by simp only [σ1, upd, if_neg hsd']
        unfold killl at hσ ⊢
        rw [hσ]
        have hoff : ∀ k ∈ ks, (if ([d].any fun t => (mk fl s).on t) = true then VV.dead else mk fl s).on k = false := by
          intro k hk
          rw [hks k hk]
          split
          · rfl
          · rename_i hn
            simpa using hn
        rw [if_neg]
        intro ha
        obtain ⟨k, k1, k2⟩ := List.any_eq_true.1 ha
        rw [hoff k k1] at k2
        cases k2
      rw [← hsame]
      exact hs
end
end Go.Vam
