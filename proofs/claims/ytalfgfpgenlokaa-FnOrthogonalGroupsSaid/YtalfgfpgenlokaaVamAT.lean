/- A call that takes its last argument, an own deep list, and gives one back. -/
import Derived.Test.YtalfgfpgenlokaaVamAS
namespace Go.Vam
open Go Go.RowKit
set_option linter.unusedSimpArgs false
set_option linter.unusedVariables false

def VTkU (P : Program) (f : FuncId) (ds : List D) (d0 d' : D) : Prop :=
 (∀ args w,(callFunc f args).run P w = .ok (.enter f args) w) ∧
 ∀ (w : World) (A : Nat → Prop) (C : Nat → Option (List Nat)) (vs : Array Value) (v : Value),
  (∀ g,A g → g < w.heap.size ∧ C g = none) → (∀ g q,C g = some q → g < w.heap.size) → (∀ g g' q,C g = some q → C g' = some q → g = g') →
  OwnU w (asO C) 0 [] v d0 → vs.size = ds.length + 1 → (∀ i (h : i < ds.length),∃ u,vs[i]? = some u ∧ Rd w A u ds[i]) → vs[ds.length]? = some v →
  Calls P f vs w fun e w' => ∃ (x : Value) (C' : Nat → Option (List Nat)),e = .returned x ∧ Blw (fun g => g < w.heap.size ∧ C g = none) w w' ∧
   (∀ g q,C' g = some q → (C g ≠ none ∨ w.heap.size ≤ g) ∧ g < w'.heap.size) ∧ (∀ g g' q,C' g = some q → C' g' = some q → g = g') ∧ OwnU w' (asO C') 0 [] x d'

section
variable {P : Program} {N : Lim}
theorem VTkU.enter {f : FuncId} {fn : Func} {c : Code} {ds : List D} {d0 d' : D} (hcall : ∀ args w,(callFunc f args).run P w = .ok (.enter f args) w)
  (hf : P.funcs[f]? = some fn) (hb : fn.body = some c) (n : Nat) (hn' : fn.ntmps = n) (hn : ds.length + 1 ≤ n) (t : Tmp) (hres : fn.results.toList = [.tmp t])
  (hw : VW P ⟨n,0⟩ c (mk (dl 0 ds ++ [(ds.length,.ref ds.length [] true d0)])) (Post [.tmp t] [.own true d'])) : VTkU P f ds d0 d' := by
 classical
 subst hn'
 refine ⟨hcall,fun w A C vs v hA hC hinj hown hsz hvs hv0 => calls_of_wp hf hb ?_⟩
 have hst : St (fun g => A g ∨ ¬ (g < w.heap.size ∧ C g = none)) (fun g => g < w.heap.size ∧ C g = none) ⟨w,fun s => undef⟩ ⟨fn.ntmps,0⟩ (asT ds.length C) (mk (dl 0 ds ++ [(ds.length,.ref ds.length [] true d0)])) { tmps := vs ++ Array.replicate (fn.ntmps - vs.size) undef,defers := [] } w := by
  have hget : ∀ s,s < vs.size → (vs ++ Array.replicate (fn.ntmps - vs.size) undef).getD s undef = vs.getD s undef := fun s hs => by
   rw [Array.getD_eq_getD_getElem?,Array.getElem?_append_left hs,Array.getD_eq_getD_getElem?]
  refine ⟨.refl _ _,fun g hg => hg.1,fun g hg => .inr hg,fun g y hy => ?_,fun g g' y h1 h2 => ?_,by simp; omega,rfl,fun s hs => absurd hs (Nat.not_lt_zero _),fun s => ?_⟩
  ·obtain ⟨q,h1,h2⟩ := Option.map_eq_some_iff.1 hy
   exact ⟨fun h => (by rw [h.2] at h1; cases h1),hC g q h1⟩
  ·obtain ⟨q,a1,a2⟩ := Option.map_eq_some_iff.1 h1
   obtain ⟨q',b1,b2⟩ := Option.map_eq_some_iff.1 h2
   rw [← a2] at b2
   simp only [Prod.mk.injEq,true_and] at b2
   subst b2
   exact hinj g g' _ a1 b1
  ·rw [dl_app,Nat.zero_add]
   by_cases hs : s < ds.length
   ·rw [if_pos ⟨Nat.zero_le _,hs⟩,Nat.sub_zero]
    obtain ⟨u,h2,h3⟩ := hvs s hs
    rw [List.getElem?_eq_getElem hs]
    have hg : (vs ++ Array.replicate (fn.ntmps - vs.size) undef).getD s undef = u := by
     rw [hget s (by omega),Array.getD_eq_getD_getElem?,h2]; rfl
    simp only
    rw [hg]
    exact h3.keep (fun g hg => ⟨by simp only [asT]; rw [(hA g hg).2]; rfl,(hA g hg).1,.inl hg⟩) fun _ _ => rfl
   ·rw [if_neg (fun h => hs h.2),mk_cons]
    by_cases hs2 : s = ds.length
    ·rw [if_pos hs2]
     have h1 : (vs ++ Array.replicate (fn.ntmps - vs.size) undef).getD s undef = v := by
      rw [hget s (by omega),Array.getD_eq_getD_getElem?,hs2,hv0]; rfl
     simp only [h1]
     exact OwnU.keep hown [] fun g q hq => ⟨by
      obtain ⟨q',e1,e2⟩ := Option.map_eq_some_iff.1 hq
      simp only [Prod.mk.injEq,true_and,List.nil_append] at e2
      subst e2
      simp only [asT,e1]; rfl,rfl⟩
    ·rw [if_neg hs2]; exact trivial
 refine wp_mono (hw _ _ _ _ _ _ hst) ?_
 rintro e a' w' ⟨O,σ,hs,hq⟩
 have fin : resVV [.tmp t] σ [.own true d'] → ∃ v,(results fn a'.tmps).run P w' = .ok v w' ∧ ∃ x C',Ending.returned v = .returned x ∧ Blw (fun g => g < w.heap.size ∧ C g = none) w w' ∧
   (∀ g q,C' g = some q → (C g ≠ none ∨ w.heap.size ≤ g) ∧ g < w'.heap.size) ∧ (∀ g g' q,C' g = some q → C' g' = some q → g = g') ∧ OwnU w' (asO C') 0 [] x d' := by
  rintro ⟨t',k,p,h1,h2⟩
  simp only [List.cons.injEq,ResultVar.tmp.injEq,and_true] at h1
  subst h1
  have r1 := hs.slots t
  rw [h2] at r1
  let C' : Nat → Option (List Nat) := subT O k p
  have hC' : ∀ g q,C' g = some q ↔ O g = some (k,p ++ q) := fun g q => subT_some
  refine ⟨_,results_tmp1 hres _ _,_,C',rfl,hs.below,fun g q hq => ⟨?_,(hs.own g _ ((hC' g q).1 hq)).2⟩,fun g g' q h1 h2 => hs.inj g g' _ ((hC' g q).1 h1) ((hC' g' q).1 h2),?_⟩
  ·have := (hs.own g _ ((hC' g q).1 hq)).1
   by_cases hg : g < w.heap.size
   ·left; intro hc; exact this ⟨hg,hc⟩
   ·right; omega
  ·exact (r1 : OwnU w' O k p _ d').keep [] fun g q hq => ⟨by simp [asO,(hC' g q).2 hq],rfl⟩
 cases e with
 | normal => obtain ⟨v,h1,h2⟩ := fin hq; exact ⟨hs.defers,v,h1,h2⟩
 | ret => obtain ⟨v,h1,h2⟩ := fin hq; exact ⟨hs.defers,v,h1,h2⟩
 | _ => exact hq.elim
theorem step_tku {o : Oper} {g : FuncId} {as : Array Operand} {ts : Array TypeId} {x : Operand} {ys : List Operand} {d t : Nat} {fl : FL} {d0 d' : D} {ds : List D} (ho : o.op = .call ⟨.value (.func g),as,ts⟩)
  (hargs : as.toList = ys ++ [x]) (hd : o.dst = some d) (hN : d ∈ N) (hx : ev (mk fl) x = .ref t [] true d0) (hds : vals0 (mk fl) ys = some ds) (hv : VTkU P g ds d0 d') :
  OStep P N o (mk fl) (fun _ : Unit => mk ((d,.ref d [] true d') :: fl.map fun q => (q.1,kmap [t,d] q.2))) (fun _ => True) := by
 intro R B w0 O a w K Q h hK
 obtain ⟨hcall,hv⟩ := hv
 have hrun : (execOp a.eval o).run P w = .ok (.enter g (as.map a.eval)) w := by
  have he : a.eval (.func g) = .func (.func g) #[] #[] := rfl
  simp only [execOp,ho,resolve,he,Deferred.ofValue]
  simp [invoke,hcall]
 unfold Oper.wp
 rw [hrun]
 simp only [Oper.upon]
 obtain ⟨hlen,hvals⟩ := vals0_rd h ys ds hds
 have hxr := rel_ev h x
 rw [hx] at hxr
 have htree : OwnU w O t [] (a.eval x) d0 := hxr
 let C : Nat → Option (List Nat) := subT O t []
 have hCs : ∀ b q,C b = some q ↔ O b = some (t,q) := fun b q => by
  have : C b = some q ↔ O b = some (t,[] ++ q) := subT_some
  simpa using this
 have hC0 : ∀ b,(∀ q,O b ≠ some (t,q)) → C b = none := fun b hb => by
  cases hc : C b with
  | none => rfl
  | some q => exact absurd ((hCs b q).1 hc) (hb q)
 have hmap : (as.map a.eval).toList = (ys ++ [x]).map a.eval := by rw [Array.toList_map,hargs]
 have hsz : (as.map a.eval).size = ds.length + 1 := by rw [← Array.length_toList,hmap]; simp [hlen]
 have hget : ∀ i : Nat,(as.map a.eval)[i]? = ((ys ++ [x]).map a.eval)[i]? := fun i => by rw [← hmap,Array.getElem?_toList]
 have key := hv w (Fro R O w) C (as.map a.eval) (a.eval x)
  (fun b hb => ⟨hb.2.1,hC0 b fun q => (by rw [hb.1]; simp)⟩) (fun b q hb => (h.own b _ ((hCs b q).1 hb)).2)
  (fun b b' q h1 h2 => h.inj b b' _ ((hCs b q).1 h1) ((hCs b' q).1 h2))
  (htree.keep [] fun b q hb => ⟨by simp only [List.nil_append] at hb; simp [asO,(hCs b q).2 hb],rfl⟩) hsz
  (fun i hi => by obtain ⟨u,h1,h2⟩ := hvals i hi; exact ⟨u,by rw [hget,List.map_append,List.getElem?_append_left (by simp [hlen]; exact hi)]; exact h1,h2⟩)
  (by rw [hget,List.map_append,List.getElem?_append_right (by simp [hlen])]; simp [hlen])
 refine key.mono ?_
 rintro e w' ⟨y,C',rfl,hb,hC1,hC2,hrel⟩
 simp only
 rw [hd]
 let dr : Own := fun b => match O b with
  | some (r,q) => if r = t ∨ r = d then none else some (r,q)
  | none => none
 have hdr : ∀ b z,dr b = some z → O b = some z ∧ z.1 ≠ t ∧ z.1 ≠ d := by
  intro b z hz
  simp only [dr] at hz
  split at hz
  ·rename_i r q hO
   split at hz
   ·cases hz
   ·rename_i hr
    simp only [Option.some.injEq] at hz
    subst hz
    simp only [not_or] at hr
    exact ⟨hO,hr.1,hr.2⟩
  ·cases hz
 let O' : Own := fun b => if b < w.heap.size ∧ C b = none then dr b else (C' b).map fun q => (d,q)
 have hold : ∀ b,b < w.heap.size → C b = none → O' b = dr b := fun b h1 h2 => by simp only [O',if_pos (⟨h1,h2⟩ : b < w.heap.size ∧ C b = none)]
 have hneu : ∀ b,¬ (b < w.heap.size ∧ C b = none) → O' b = (C' b).map fun q => (d,q) := fun b h1 => by simp only [O',if_neg h1]
 have hinv : ∀ b z,O' b = some z → (b < w.heap.size ∧ C b = none ∧ O b = some z ∧ z.1 ≠ d) ∨ (∃ y,C' b = some y ∧ z = (d,y)) := by
  intro b z hz
  by_cases hcb : b < w.heap.size ∧ C b = none
  ·rw [hold b hcb.1 hcb.2] at hz; exact .inl ⟨hcb.1,hcb.2,(hdr b z hz).1,(hdr b z hz).2.2⟩
  ·rw [hneu b hcb] at hz
   obtain ⟨y,h1,h2⟩ := Option.map_eq_some_iff.1 hz
   exact .inr ⟨y,h1,h2.symm⟩
 have hBC : ∀ b,B b → b < w.heap.size ∧ C b = none := fun b hBb => ⟨h.base b hBb,hC0 b fun q e => (h.own b _ e).1 hBb⟩
 have m : Made R B w w' O O' [t,d] (.ref d [] true d') y := by
  refine ⟨⟨hb.size,fun b hbs hbn => ?_,fun b s q hbt hst => ?_⟩,⟨hb.os,hb.tape,hb.output,hb.size,fun b hBb => hb.block b (hBC b hBb)⟩,?_,?_,?_⟩
  ·have h2 := hC0 b fun q => (by rw [hbn]; simp)
   exact ⟨by rw [hold b hbs h2]; simp only [dr,hbn],hb.block b ⟨hbs,h2⟩⟩
  ·simp only [List.mem_cons,List.not_mem_nil,or_false,not_or] at hst
   have hbs := (h.own b _ hbt).2
   have h2 := hC0 b fun q => (by rw [hbt]; intro e; simp at e; exact hst.1 e.1)
   exact ⟨by rw [hold b hbs h2]; simp only [dr,hbt]; rw [if_neg (by simp [hst.1,hst.2])],hb.block b ⟨hbs,h2⟩⟩
  ·intro b z hz
   rcases hinv b z hz with ⟨h1,_,h3,_⟩ | ⟨y',h1,_⟩
   ·exact ⟨(h.own b _ h3).1,Nat.lt_of_lt_of_le h1 hb.size⟩
   ·refine ⟨fun hBb => ?_,(hC1 b _ h1).2⟩
    have h2 := hBC b hBb
    rcases (hC1 b _ h1).1 with h3 | h3
    ·exact h3 h2.2
    ·omega
  ·intro b b' z h1 h2
   rcases hinv b z h1 with ⟨_,_,b3,b4⟩ | ⟨q,b1,rfl⟩ <;> rcases hinv b' _ h2 with ⟨_,_,c3,c4⟩ | ⟨q',c1,c2⟩
   ·exact h.inj b b' _ b3 c3
   ·subst c2; exact absurd rfl b4
   ·exact absurd rfl c4
   ·simp only [Prod.mk.injEq,true_and] at c2
    subst c2
    exact hC2 b b' _ b1 c1
  ·show OwnU w' O' d [] y d'
   refine hrel.keep [] fun b q hg => ?_
   have hq : C' b = some q := by
    obtain ⟨q',h1,h2⟩ := Option.map_eq_some_iff.1 (show (C' b).map (fun q => ((0 : Nat),q)) = some (0,[] ++ q) from hg)
    simp only [Prod.mk.injEq,true_and,List.nil_append] at h2
    rw [h1,h2]
   have h1 : ¬ (b < w.heap.size ∧ C b = none) := fun hc => by rcases (hC1 b _ hq).1 with h2 | h2; exact h2 hc.2; omega
   exact ⟨by rw [hneu b h1,hq]; rfl,rfl⟩
 have h' := h.made m hN
 have e : upd (killl [t,d] (mk fl)) d (.ref d [] true d') = mk ((d,.ref d [] true d') :: fl.map fun q => (q.1,kmap [t,d] q.2)) := (mk_upd_kill d _ [t,d] fl).symm
 rw [e] at h'
 exact hK () O' _ w' trivial h'
theorem step_tku' {o : Oper} {g : FuncId} {as : Array Operand} {ts : Array TypeId} {x : Operand} {d t : Nat} {fl : FL} {d0 d' : D} {ds : List D} (ho : o.op = .call ⟨.value (.func g),as,ts⟩)
  (hargs : as.toList.getLast? = some x) (hd : o.dst = some d) (hN : d ∈ N) (hx : ev (mk fl) x = .ref t [] true d0) (hds : vals0 (mk fl) as.toList.dropLast = some ds) (hv : VTkU P g ds d0 d') :
  OStep P N o (mk fl) (fun _ : Unit => mk ((d,.ref d [] true d') :: fl.map fun q => (q.1,kmap [t,d] q.2))) (fun _ => True) :=
 step_tku ho (by obtain ⟨ys,e⟩ := List.getLast?_eq_some_iff.1 hargs; rw [e]; simp) hd hN hx hds hv
end
end Go.Vam
