/- Results that stand in a cell; the door of a call that may spoil its first argument. -/
import Derived.Test.YtijmfifejmgeaaaVamR
import Derived.Laws.Cover3
namespace Go.Vam
open Go Go.RowKit
set_option linter.unusedSimpArgs false

section
variable {P : Program} {N : Lim} {fl : FL} {Q : Exit → Frm → Prop}

def PostC (a : Tmp) (n : Nat) (xs : List D) : Exit → Frm → Prop
 | .normal,σ => (∃ k p,σ a = .ref k p true (.ptr xs)) ∧ xs.length = n
 | .ret,σ => (∃ k p,σ a = .ref k p true (.ptr xs)) ∧ xs.length = n
 | _,_ => False
def PostC2 (a s : Tmp) (n : Nat) (xs : List D) (y : D) : Exit → Frm → Prop
 | .normal,σ => (∃ k p,σ a = .ref k p true (.ptr xs)) ∧ xs.length = n ∧ σ s = .val y ∧ y.sc = true
 | .ret,σ => (∃ k p,σ a = .ref k p true (.ptr xs)) ∧ xs.length = n ∧ σ s = .val y ∧ y.sc = true
 | _,_ => False

theorem VSpoil.enter {f : FuncId} {fn : Func} {c : Code} {d : D} {ds : List D} {r : D} (hcall : ∀ args w,(callFunc f args).run P w = .ok (.enter f args) w)
  (hf : P.funcs[f]? = some fn) (hb : fn.body = some c) (n : Nat) (hn' : fn.ntmps = n) (hn : ds.length + 1 ≤ n) (t : Tmp) (hres : fn.results.toList = [.tmp t])
  (hw : VW P ⟨n,0⟩ c (mk ((0,.ref 0 [] true d) :: dl 1 ds)) (Post [.tmp t] [.sc r])) : VSpoil P f d ds r := by
 subst hn'
 refine ⟨hcall,fun w A C vs v hA hC hinj hown hsz hv0 hvs => calls_of_wp hf hb ?_⟩
 have hst : St (fun g => A g ∨ ¬ (g < w.heap.size ∧ C g = none)) (fun g => g < w.heap.size ∧ C g = none) ⟨w,fun s => undef⟩ ⟨fn.ntmps,0⟩ (asO C) (mk ((0,.ref 0 [] true d) :: dl 1 ds)) { tmps := vs ++ Array.replicate (fn.ntmps - vs.size) undef,defers := [] } w := by
  have hget : ∀ s,s < vs.size → (vs ++ Array.replicate (fn.ntmps - vs.size) undef).getD s undef = vs.getD s undef := fun s hs => by
   rw [Array.getD_eq_getD_getElem?,Array.getElem?_append_left hs,Array.getD_eq_getD_getElem?]
  refine ⟨.refl _ _,fun g hg => hg.1,fun g hg => .inr hg,fun g y hy => ?_,fun g g' y h1 h2 => ?_,by simp; omega,rfl,fun s hs => absurd hs (Nat.not_lt_zero _),fun s => ?_⟩
  ·obtain ⟨q,h1,h2⟩ := Option.map_eq_some_iff.1 hy
   exact ⟨fun h => (by rw [h.2] at h1; cases h1),hC g q h1⟩
  ·obtain ⟨q,a1,a2⟩ := Option.map_eq_some_iff.1 h1
   obtain ⟨q',b1,b2⟩ := Option.map_eq_some_iff.1 h2
   rw [← a2] at b2
   simp only [Prod.mk.injEq,true_and] at b2
   subst b2
   exact hinj g g' _ a1 b1
  ·by_cases hs : s = 0
   ·subst hs
    simp only [mk_cons,if_true]
    have h1 : (vs ++ Array.replicate (fn.ntmps - vs.size) undef).getD 0 undef = v := by
     rw [hget 0 (by omega),Array.getD_eq_getD_getElem?,hv0]; rfl
    rw [h1]
    exact hown
   ·simp only [mk_cons,if_neg hs,dl_at]
    by_cases h1 : 1 ≤ s
    ·rw [if_pos h1]
     cases hd : ds[s - 1]? with
     | none => exact trivial
     | some d =>
      have hs1 : s - 1 < ds.length := (List.getElem?_eq_some_iff.1 hd).1
      obtain ⟨u,h2,h3⟩ := hvs (s - 1) hs1
      have hd' : ds[s - 1] = d := by rw [List.getElem?_eq_getElem hs1] at hd; exact Option.some.inj hd
      rw [hd'] at h3
      have e : s - 1 + 1 = s := by omega
      rw [e] at h2
      have hg : (vs ++ Array.replicate (fn.ntmps - vs.size) undef).getD s undef = u := by
       rw [hget s (by have := (Array.getElem?_eq_some_iff.1 h2).1; exact this),Array.getD_eq_getD_getElem?,h2]; rfl
      simp only
      rw [hg]
      exact h3.keep (fun g hg => ⟨by simp only [asO]; rw [(hA g hg).2]; rfl,(hA g hg).1,.inl hg⟩) fun _ _ => rfl
    ·omega
 refine wp_mono (hw _ _ _ _ _ _ hst) ?_
 rintro e a' w' ⟨O,σ,hs,hq⟩
 have fin : resVV [.tmp t] σ [.sc r] → ∃ v,(results fn a'.tmps).run P w' = .ok v w' ∧ ∃ x,Ending.returned v = .returned x ∧ Rd w' (fun _ => False) x r ∧ Blw (fun g => g < w.heap.size ∧ C g = none) w w' := by
  rintro ⟨t',h1,h2,h3⟩
  simp only [List.cons.injEq,ResultVar.tmp.injEq,and_true] at h1
  subst h1
  have r1 := hs.slots t
  rw [h2] at r1
  exact ⟨_,results_tmp1 hres _ _,_,rfl,sc_rd h3 (sc_own h3 r1 (fun _ => none) w' 0 []) _ _,hs.below⟩
 cases e with
 | normal => obtain ⟨v,h1,h2⟩ := fin hq; exact ⟨hs.defers,v,h1,h2⟩
 | ret => obtain ⟨v,h1,h2⟩ := fin hq; exact ⟨hs.defers,v,h1,h2⟩
 | _ => exact hq.elim

end
end Go.Vam

