/- A call that takes its last argument, an own list with frozen elements, and gives one back. -/
import Derived.Test.YtalfgfpgenlokaaVamAJ
namespace Go.Vam
open Go Go.RowKit
set_option linter.unusedSimpArgs false
set_option linter.unusedVariables false

def VTkW (P : Program) (f : FuncId) (ds : List D) (xs rs : List D) : Prop :=
 (∀ args w,(callFunc f args).run P w = .ok (.enter f args) w) ∧
 ∀ (w : World) (A : Nat → Prop) (C : Own) (vs : Array Value) (v : Value),
  (∀ g,A g → g < w.heap.size ∧ C g = none) → (∀ g y,C g = some y → y = (ds.length,[]) ∧ g < w.heap.size) → (∀ g g' y,C g = some y → C g' = some y → g = g') →
  OwnF A w C ds.length [] v (.list xs) → vs.size = ds.length + 1 → (∀ i (h : i < ds.length),∃ u,vs[i]? = some u ∧ Rd w A u ds[i]) → vs[ds.length]? = some v →
  Calls P f vs w fun e w' => ∃ (x : Value) (C' : Own),e = .returned x ∧ Blw (fun g => g < w.heap.size ∧ C g = none) w w' ∧
   (∀ g y,C' g = some y → y = (ds.length,[]) ∧ (C g ≠ none ∨ w.heap.size ≤ g) ∧ g < w'.heap.size) ∧ (∀ g g' y,C' g = some y → C' g' = some y → g = g') ∧
   OwnF (fun g => A g ∨ ¬ (g < w.heap.size ∧ C g = none)) w' C' ds.length [] x (.list rs)

theorem OwnF.turn {R R' : Nat → Prop} {w : World} {O O' : Own} {t t' : Nat} {p p' : List Nat} {v : Value} {xs : List D} (h : OwnF R w O t p v (.list xs)) (hO : ∀ g,O g = some (t,p) → O' g = some (t',p'))
  (hF : ∀ g,Fro R O w g → Fro R' O' w g) : OwnF R' w O' t' p' v (.list xs) := by
 cases h with
 | nil => exact .nil
 | list g cap cur E _ vs h1 h2 h3 h4 h5 h6 h7 => exact .list g cap cur E xs vs (hO g h1) h2 h3 h4 h5 h6 fun i hi => (h7 i hi).keep hF fun _ _ => rfl

section
variable {P : Program} {N : Lim}

theorem VTkW.enter {f : FuncId} {fn : Func} {c : Code} {ds : List D} {xs rs : List D} (hcall : ∀ args w,(callFunc f args).run P w = .ok (.enter f args) w)
  (hf : P.funcs[f]? = some fn) (hb : fn.body = some c) (n : Nat) (hn' : fn.ntmps = n) (hn : ds.length + 1 ≤ n) (t : Tmp) (hres : fn.results.toList = [.tmp t])
  (hw : VW P ⟨n,0⟩ c (mk (dl 0 ds ++ [(ds.length,.ref ds.length [] false (.list xs))])) (Post [.tmp t] [.own false (.list rs)])) : VTkW P f ds xs rs := by
 subst hn'
 have hfr : mk (dl 0 ds ++ [(ds.length,VV.ref ds.length [] false (.list xs))]) = fun s => if s < ds.length then (match ds[s]? with | some d => .val d | none => .dead) else if s = ds.length then .ref ds.length [] false (.list xs) else .dead := by
  have key : ∀ (ds : List D) (k n s : Nat) (x : VV),n = k + ds.length → mk (dl k ds ++ [(n,x)]) s = if k ≤ s ∧ s < n then (match ds[s - k]? with | some d => .val d | none => .dead) else if s = n then x else .dead := by
   intro ds
   induction ds with
   | nil =>
    intro k n s x hn
    simp only [List.length_nil,Nat.add_zero] at hn
    subst hn
    simp only [dl,List.nil_append,mk_cons,mk_nil]
    rw [if_neg (by omega : ¬ (n ≤ s ∧ s < n))]
   | cons d r ih =>
    intro k n s x hn
    simp only [dl,List.cons_append,mk_cons]
    rw [ih (k + 1) n s x (by simp at hn; omega)]
    simp only [List.length_cons] at hn
    by_cases h1 : s = k
    ·subst h1
     rw [if_pos rfl,if_pos ⟨Nat.le_refl _,by omega⟩,Nat.sub_self]
     rfl
    ·rw [if_neg h1]
     by_cases h2 : k + 1 ≤ s ∧ s < n
     ·have e2 : s - k = (s - (k + 1)) + 1 := by omega
      have e3 : (d :: r)[s - k]? = r[s - (k + 1)]? := by rw [e2]; simp
      rw [if_pos h2,if_pos ⟨by omega,h2.2⟩,e3]
     ·rw [if_neg h2,if_neg (show ¬ (k ≤ s ∧ s < n) from fun h => h2 ⟨by omega,h.2⟩)]
  funext s
  rw [key ds 0 ds.length s _ (by simp)]
  simp
 refine ⟨hcall,fun w A C vs v hA hC hinj hown hsz hvs hv0 => calls_of_wp hf hb ?_⟩
 have hfro : ∀ g,A g → Fro (fun g => A g ∨ ¬ (g < w.heap.size ∧ C g = none)) C w g := fun g hg => ⟨(hA g hg).2,(hA g hg).1,.inl hg⟩
 have hst : St (fun g => A g ∨ ¬ (g < w.heap.size ∧ C g = none)) (fun g => g < w.heap.size ∧ C g = none) ⟨w,fun s => undef⟩ ⟨fn.ntmps,0⟩ C (mk (dl 0 ds ++ [(ds.length,.ref ds.length [] false (.list xs))])) { tmps := vs ++ Array.replicate (fn.ntmps - vs.size) undef,defers := [] } w := by
  rw [hfr]
  have hget : ∀ s,s < vs.size → (vs ++ Array.replicate (fn.ntmps - vs.size) undef).getD s undef = vs.getD s undef := fun s hs => by
   rw [Array.getD_eq_getD_getElem?,Array.getElem?_append_left hs,Array.getD_eq_getD_getElem?]
  refine ⟨.refl _ _,fun g hg => hg.1,fun g hg => .inr hg,fun g y hy => ⟨fun h => (by rw [h.2] at hy; cases hy),(hC g y hy).2⟩,hinj,by simp; omega,rfl,fun s hs => absurd hs (Nat.not_lt_zero _),fun s => ?_⟩
  simp only
  by_cases hs : s < ds.length
  ·rw [if_pos hs]
   obtain ⟨u,h2,h3⟩ := hvs s hs
   rw [List.getElem?_eq_getElem hs]
   simp only
   have hg : (vs ++ Array.replicate (fn.ntmps - vs.size) undef).getD s undef = u := by
    rw [hget s (by omega),Array.getD_eq_getD_getElem?,h2]; rfl
   rw [hg]
   exact h3.keep hfro fun _ _ => rfl
  ·rw [if_neg hs]
   by_cases hs2 : s = ds.length
   ·subst hs2
    rw [if_pos rfl]
    have hg : (vs ++ Array.replicate (fn.ntmps - vs.size) undef).getD ds.length undef = v := by
     rw [hget ds.length (by omega),Array.getD_eq_getD_getElem?,hv0]; rfl
    rw [hg]
    show OwnF _ w C ds.length [] v (.list xs)
    exact hown.turn (fun g hg => hg) fun g hg => ⟨hg.1,hg.2.1,.inl hg.2.2⟩
   ·rw [if_neg hs2]; exact trivial
 refine wp_mono (hw _ _ _ _ _ _ hst) ?_
 rintro e a' w' ⟨O,σ,hs,hq⟩
 have fin : resVV [.tmp t] σ [.own false (.list rs)] → ∃ v,(results fn a'.tmps).run P w' = .ok v w' ∧ ∃ x C',Ending.returned v = .returned x ∧ Blw (fun g => g < w.heap.size ∧ C g = none) w w' ∧
   (∀ g y,C' g = some y → y = (ds.length,[]) ∧ (C g ≠ none ∨ w.heap.size ≤ g) ∧ g < w'.heap.size) ∧ (∀ g g' y,C' g = some y → C' g' = some y → g = g') ∧ OwnF (fun g => A g ∨ ¬ (g < w.heap.size ∧ C g = none)) w' C' ds.length [] x (.list rs) := by
  rintro ⟨t',k,p,h1,h2⟩
  simp only [List.cons.injEq,ResultVar.tmp.injEq,and_true] at h1
  subst h1
  have r1 := hs.slots t
  rw [h2] at r1
  let C' : Own := fun g => if O g = some (k,p) then some (ds.length,[]) else none
  have hC' : ∀ g y,C' g = some y → y = (ds.length,[]) ∧ O g = some (k,p) := fun g y hg => by
   simp only [C'] at hg
   split at hg
   ·simp only [Option.some.injEq] at hg; exact ⟨hg.symm,‹_›⟩
   ·cases hg
  refine ⟨_,results_tmp1 hres _ _,_,C',rfl,hs.below,fun g y hy => ⟨(hC' g y hy).1,?_,(hs.own g _ (hC' g y hy).2).2⟩,fun g g' y h1 h2 => hs.inj g g' _ (hC' g y h1).2 (hC' g' y h2).2,?_⟩
  ·have := (hs.own g _ (hC' g y hy).2).1
   by_cases hg : g < w.heap.size
   ·left; intro hc; exact this ⟨hg,hc⟩
   ·right; omega
  ·exact (r1 : OwnF _ w' O k p _ (.list rs)).turn (fun g hg => by simp only [C',if_pos hg]) fun g hg => ⟨by simp only [C',hg.1]; simp,hg.2.1,hg.2.2⟩
 cases e with
 | normal => obtain ⟨v,h1,h2⟩ := fin hq; exact ⟨hs.defers,v,h1,h2⟩
 | ret => obtain ⟨v,h1,h2⟩ := fin hq; exact ⟨hs.defers,v,h1,h2⟩
 | _ => exact hq.elim

theorem step_tkw {o : Oper} {g : FuncId} {as : Array Operand} {ts : Array TypeId} {x : Operand} {ys : List Operand} {d t : Nat} {u : Bool} {fl : FL} {ds xs rs : List D} (ho : o.op = .call ⟨.value (.func g),as,ts⟩)
  (hargs : as.toList = ys ++ [x]) (hd : o.dst = some d) (hN : d ∈ N) (hx : ev (mk fl) x = .ref t [] u (.list xs)) (hu : u = true → xs.all D.sc = true) (hds : vals (mk fl) ys = some ds) (hv : VTkW P g ds xs rs) :
  OStep P N o (mk fl) (fun _ : Unit => mk ((d,.ref d [] false (.list rs)) :: fl.map fun q => (q.1,kmap [t,d] q.2))) (fun _ => True) := by
 intro R B w0 O a w K Q h hK
 obtain ⟨hcall,hv⟩ := hv
 have hrun : (execOp a.eval o).run P w = .ok (.enter g (as.map a.eval)) w := by
  have he : a.eval (.func g) = .func (.func g) #[] #[] := rfl
  simp only [execOp,ho,resolve,he,Deferred.ofValue]
  simp [invoke,hcall]
 unfold Oper.wp
 rw [hrun]
 simp only [Oper.upon]
 obtain ⟨hlen,hvals⟩ := vals_rd h ys ds hds
 have hxr := rel_ev h x
 rw [hx] at hxr
 have htree : OwnF R w O t [] (a.eval x) (.list xs) := tree_weak (hxr : Tree R w O t [] u (a.eval x) (.list xs)) hu
 let C : Own := fun b => if O b = some (t,[]) then some (ds.length,[]) else none
 have hCs : ∀ b y,C b = some y → y = (ds.length,[]) ∧ O b = some (t,[]) := fun b y hb => by
  simp only [C] at hb
  split at hb
  ·simp only [Option.some.injEq] at hb; exact ⟨hb.symm,‹_›⟩
  ·cases hb
 have hC0 : ∀ b,O b ≠ some (t,[]) → C b = none := fun b hb => by simp only [C,if_neg hb]
 have hmap : (as.map a.eval).toList = (ys ++ [x]).map a.eval := by rw [Array.toList_map,hargs]
 have hsz : (as.map a.eval).size = ds.length + 1 := by rw [← Array.length_toList,hmap]; simp [hlen]
 have hget : ∀ i : Nat,(as.map a.eval)[i]? = ((ys ++ [x]).map a.eval)[i]? := fun i => by rw [← hmap,Array.getElem?_toList]
 have key := hv w (Fro R O w) C (as.map a.eval) (a.eval x)
  (fun b hb => ⟨hb.2.1,hC0 b (by rw [hb.1]; simp)⟩) (fun b y hb => ⟨(hCs b y hb).1,(h.own b _ (hCs b y hb).2).2⟩)
  (fun b b' y h1 h2 => h.inj b b' _ (hCs b y h1).2 (hCs b' y h2).2)
  (htree.turn (fun b hb => by simp only [C,if_pos hb]) fun b hb => ⟨hC0 b (by rw [hb.1]; simp),hb.2.1,hb⟩) hsz
  (fun i hi => by obtain ⟨u,h1,h2⟩ := hvals i hi; exact ⟨u,by rw [hget,List.map_append,List.getElem?_append_left (by simp [hlen]; exact hi)]; exact h1,h2⟩)
  (by rw [hget,List.map_append,List.getElem?_append_right (by simp [hlen])]; simp [hlen])
 refine key.mono ?_
 rintro e w' ⟨y,C',rfl,hb,hC1,hC2,hrel⟩
 simp only
 rw [hd]
 let dr : Own := fun b => match O b with
  | some (r,q) => if r = t ∨ r = d then none else some (r,q)
  | none => none
 have hdr : ∀ b z,dr b = some z → O b = some z ∧ z.1 ≠ t ∧ z.1 ≠ d := by
  intro b z hz
  simp only [dr] at hz
  split at hz
  ·rename_i r q hO
   split at hz
   ·cases hz
   ·rename_i hr
    simp only [Option.some.injEq] at hz
    subst hz
    simp only [not_or] at hr
    exact ⟨hO,hr.1,hr.2⟩
  ·cases hz
 let O' : Own := fun b => if b < w.heap.size ∧ C b = none then dr b else (C' b).map fun _ => (d,[])
 have hold : ∀ b,b < w.heap.size → C b = none → O' b = dr b := fun b h1 h2 => by simp only [O',if_pos (⟨h1,h2⟩ : b < w.heap.size ∧ C b = none)]
 have hneu : ∀ b,¬ (b < w.heap.size ∧ C b = none) → O' b = (C' b).map fun _ => (d,[]) := fun b h1 => by simp only [O',if_neg h1]
 have hinv : ∀ b z,O' b = some z → (b < w.heap.size ∧ C b = none ∧ O b = some z ∧ z.1 ≠ d) ∨ (∃ y,C' b = some y ∧ z = (d,[])) := by
  intro b z hz
  by_cases hcb : b < w.heap.size ∧ C b = none
  ·rw [hold b hcb.1 hcb.2] at hz; exact .inl ⟨hcb.1,hcb.2,(hdr b z hz).1,(hdr b z hz).2.2⟩
  ·rw [hneu b hcb] at hz
   obtain ⟨y,h1,h2⟩ := Option.map_eq_some_iff.1 hz
   exact .inr ⟨y,h1,h2.symm⟩
 have hBC : ∀ b,B b → b < w.heap.size ∧ C b = none := fun b hBb => ⟨h.base b hBb,hC0 b fun e => (h.own b _ e).1 hBb⟩
 have m : Made R B w w' O O' [t,d] (.ref d [] false (.list rs)) y := by
  refine ⟨⟨hb.size,fun b hbs hbn => ?_,fun b s q hbt hst => ?_⟩,⟨hb.os,hb.tape,hb.output,hb.size,fun b hBb => hb.block b (hBC b hBb)⟩,?_,?_,?_⟩
  ·have h2 := hC0 b (by rw [hbn]; simp)
   exact ⟨by rw [hold b hbs h2]; simp only [dr,hbn],hb.block b ⟨hbs,h2⟩⟩
  ·simp only [List.mem_cons,List.not_mem_nil,or_false,not_or] at hst
   have hbs := (h.own b _ hbt).2
   have h2 := hC0 b (by rw [hbt]; intro e; simp at e; exact hst.1 e.1)
   exact ⟨by rw [hold b hbs h2]; simp only [dr,hbt]; rw [if_neg (by simp [hst.1,hst.2])],hb.block b ⟨hbs,h2⟩⟩
  ·intro b z hz
   rcases hinv b z hz with ⟨h1,_,h3,_⟩ | ⟨y',h1,_⟩
   ·exact ⟨(h.own b _ h3).1,Nat.lt_of_lt_of_le h1 hb.size⟩
   ·refine ⟨fun hBb => ?_,(hC1 b _ h1).2.2⟩
    have h2 := hBC b hBb
    rcases (hC1 b _ h1).2.1 with h3 | h3
    ·exact h3 h2.2
    ·omega
  ·intro b b' z h1 h2
   rcases hinv b z h1 with ⟨_,_,b3,b4⟩ | ⟨q,b1,rfl⟩ <;> rcases hinv b' _ h2 with ⟨_,_,c3,c4⟩ | ⟨q',c1,c2⟩
   ·exact h.inj b b' _ b3 c3
   ·subst c2; exact absurd rfl b4
   ·exact absurd rfl c4
   ·have e1 := (hC1 b q b1).1
    have e2 := (hC1 b' q' c1).1
    subst e1; subst e2
    exact hC2 b b' _ b1 c1
  ·show OwnF R w' O' d [] y (.list rs)
   refine hrel.turn (fun b hg => ?_) fun b hg => ⟨?_,hg.2.1,?_⟩
   ·have h1 : ¬ (b < w.heap.size ∧ C b = none) := fun hc => by rcases (hC1 b _ hg).2.1 with h2 | h2; exact h2 hc.2; omega
    rw [hneu b h1,hg]; rfl
   ·by_cases hc : b < w.heap.size ∧ C b = none
    ·rw [hold b hc.1 hc.2]
     rcases hg.2.2 with h1 | h1
     ·simp only [dr,h1.1]
     ·exact absurd hc h1
    ·rw [hneu b hc,hg.1]; rfl
   ·rcases hg.2.2 with h1 | h1
    ·exact h1.2.2
    ·by_cases hbs : b < w.heap.size
     ·have hcn : C b ≠ none := fun e => h1 ⟨hbs,e⟩
      cases hcb : C b with
      | none => exact absurd hcb hcn
      | some z => exact h.fresh b (h.own b _ (hCs b z hcb).2).1
     ·exact h.fresh b (h.newB (by omega))
 have h' := h.made m hN
 have e : upd (killl [t,d] (mk fl)) d (.ref d [] false (.list rs)) = mk ((d,.ref d [] false (.list rs)) :: fl.map fun q => (q.1,kmap [t,d] q.2)) := (mk_upd_kill d _ [t,d] fl).symm
 rw [e] at h'
 exact hK () O' _ w' trivial h'
end
end Go.Vam
