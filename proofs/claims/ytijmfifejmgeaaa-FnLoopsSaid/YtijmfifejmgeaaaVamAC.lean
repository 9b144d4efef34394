/- A call that takes an own list and gives it back; a list's tail, cleared. -/
import Derived.Test.YtijmfifejmgeaaaVamAA
import Derived.Lib.SliceRun
namespace Go.Vam
open Go Go.RowKit
set_option linter.unusedSimpArgs false

def VTake (P : Program) (f : FuncId) (d : D) (ds : List D) (r : D) : Prop :=
 (∀ args w,(callFunc f args).run P w = .ok (.enter f args) w) ∧
 ∀ (w : World) (A : Nat → Prop) (C : Nat → Option (List Nat)) (vs : Array Value) (v : Value),
  (∀ g,A g → g < w.heap.size ∧ C g = none) → (∀ g q,C g = some q → g < w.heap.size) → (∀ g g' q,C g = some q → C g' = some q → g = g') →
  OwnU w (asO C) 0 [] v d → vs.size = ds.length + 1 → vs[0]? = some v → (∀ i (h : i < ds.length),∃ u,vs[i + 1]? = some u ∧ Rd w A u ds[i]) →
  Calls P f vs w fun e w' => ∃ (x : Value) (C' : Nat → Option (List Nat)),e = .returned x ∧ Blw (fun g => g < w.heap.size ∧ C g = none) w w' ∧
   (∀ g q,C' g = some q → (C g ≠ none ∨ w.heap.size ≤ g) ∧ g < w'.heap.size) ∧ (∀ g g' q,C' g = some q → C' g' = some q → g = g') ∧ OwnU w' (asO C') 0 [] x r

section
variable {P : Program} {N : Lim}

theorem VTake.enter {f : FuncId} {fn : Func} {c : Code} {d : D} {ds : List D} {r : D} (hcall : ∀ args w,(callFunc f args).run P w = .ok (.enter f args) w)
  (hf : P.funcs[f]? = some fn) (hb : fn.body = some c) (n : Nat) (hn' : fn.ntmps = n) (hn : ds.length + 1 ≤ n) (t : Tmp) (hres : fn.results.toList = [.tmp t])
  (hw : VW P ⟨n,0⟩ c (mk ((0,.ref 0 [] true d) :: dl 1 ds)) (Post [.tmp t] [.own true r])) : VTake P f d ds r := by
 subst hn'
 refine ⟨hcall,fun w A C vs v hA hC hinj hown hsz hv0 hvs => calls_of_wp hf hb ?_⟩
 have hst : St (fun g => A g ∨ ¬ (g < w.heap.size ∧ C g = none)) (fun g => g < w.heap.size ∧ C g = none) ⟨w,fun s => undef⟩ ⟨fn.ntmps,0⟩ (asO C) (mk ((0,.ref 0 [] true d) :: dl 1 ds)) { tmps := vs ++ Array.replicate (fn.ntmps - vs.size) undef,defers := [] } w := by
  have hget : ∀ s,s < vs.size → (vs ++ Array.replicate (fn.ntmps - vs.size) undef).getD s undef = vs.getD s undef := fun s hs => by
   rw [Array.getD_eq_getD_getElem?,Array.getElem?_append_left hs,Array.getD_eq_getD_getElem?]
  refine ⟨.refl _ _,fun g hg => hg.1,fun g hg => .inr hg,fun g y hy => ?_,fun g g' y h1 h2 => ?_,by simp; omega,rfl,fun s hs => absurd hs (Nat.not_lt_zero _),fun s => ?_⟩
  ·obtain ⟨q,h1,h2⟩ := Option.map_eq_some_iff.1 hy
   exact ⟨fun h => (by rw [h.2] at h1; cases h1),hC g q h1⟩
  ·obtain ⟨q,a1,a2⟩ := Option.map_eq_some_iff.1 h1
   obtain ⟨q',b1,b2⟩ := Option.map_eq_some_iff.1 h2
   rw [← a2] at b2
   simp only [Prod.mk.injEq,true_and] at b2
   subst b2
   exact hinj g g' _ a1 b1
  ·by_cases hs : s = 0
   ·subst hs
    simp only [mk_cons,if_true]
    have h1 : (vs ++ Array.replicate (fn.ntmps - vs.size) undef).getD 0 undef = v := by
     rw [hget 0 (by omega),Array.getD_eq_getD_getElem?,hv0]; rfl
    rw [h1]
    exact hown
   ·simp only [mk_cons,if_neg hs,dl_at]
    by_cases h1 : 1 ≤ s
    ·rw [if_pos h1]
     cases hd : ds[s - 1]? with
     | none => exact trivial
     | some d =>
      have hs1 : s - 1 < ds.length := (List.getElem?_eq_some_iff.1 hd).1
      obtain ⟨u,h2,h3⟩ := hvs (s - 1) hs1
      have hd' : ds[s - 1] = d := by rw [List.getElem?_eq_getElem hs1] at hd; exact Option.some.inj hd
      rw [hd'] at h3
      have e : s - 1 + 1 = s := by omega
      rw [e] at h2
      have hg : (vs ++ Array.replicate (fn.ntmps - vs.size) undef).getD s undef = u := by
       rw [hget s (by have := (Array.getElem?_eq_some_iff.1 h2).1; exact this),Array.getD_eq_getD_getElem?,h2]; rfl
      simp only
      rw [hg]
      exact h3.keep (fun g hg => ⟨by simp only [asO]; rw [(hA g hg).2]; rfl,(hA g hg).1,.inl hg⟩) fun _ _ => rfl
    ·omega
 refine wp_mono (hw _ _ _ _ _ _ hst) ?_
 rintro e a' w' ⟨O,σ,hs,hq⟩
 have fin : resVV [.tmp t] σ [.own true r] → ∃ v,(results fn a'.tmps).run P w' = .ok v w' ∧ ∃ x C',Ending.returned v = .returned x ∧ Blw (fun g => g < w.heap.size ∧ C g = none) w w' ∧
   (∀ g q,C' g = some q → (C g ≠ none ∨ w.heap.size ≤ g) ∧ g < w'.heap.size) ∧ (∀ g g' q,C' g = some q → C' g' = some q → g = g') ∧ OwnU w' (asO C') 0 [] x r := by
  rintro ⟨t',k,p,h1,h2⟩
  simp only [List.cons.injEq,ResultVar.tmp.injEq,and_true] at h1
  subst h1
  have r1 := hs.slots t
  rw [h2] at r1
  have hC' : ∀ g q,subT O k p g = some q ↔ O g = some (k,p ++ q) := fun g q => subT_some
  refine ⟨_,results_tmp1 hres _ _,_,subT O k p,rfl,hs.below,fun g q hq => ⟨?_,(hs.own g _ ((hC' g q).1 hq)).2⟩,fun g g' q h1 h2 => hs.inj g g' _ ((hC' g q).1 h1) ((hC' g' q).1 h2),?_⟩
  ·have := (hs.own g _ ((hC' g q).1 hq)).1
   by_cases hg : g < w.heap.size
   ·left; intro hc; exact this ⟨hg,hc⟩
   ·right; omega
  ·refine OwnU.keep (r1 : OwnU w' O k p _ r) [] fun g q hg => ⟨?_,rfl⟩
   simp only [asO]
   rw [(hC' g q).2 hg]
   rfl
 cases e with
 | normal => obtain ⟨v,h1,h2⟩ := fin hq; exact ⟨hs.defers,v,h1,h2⟩
 | ret => obtain ⟨v,h1,h2⟩ := fin hq; exact ⟨hs.defers,v,h1,h2⟩
 | _ => exact hq.elim

theorem step_take {o : Oper} {g : FuncId} {as : Array Operand} {ts : Array TypeId} {sx d t : Nat} {xs : List Operand} {fl : FL} {d0 r : D} {ds : List D} (ho : o.op = .call ⟨.value (.func g),as,ts⟩)
  (hargs : as.toList = .tmp sx :: xs) (hd : o.dst = some d) (hN : d ∈ N) (hx : mk fl sx = .ref t [] true d0) (hds : vals (mk fl) xs = some ds) (hv : VTake P g d0 ds r) :
  OStep P N o (mk fl) (fun _ : Unit => mk ((d,.ref d [] true r) :: fl.map fun q => (q.1,kmap [t,d] q.2))) (fun _ => True) := by
 intro R B w0 O a w K Q h hK
 obtain ⟨hcall,hv⟩ := hv
 have hrun : (execOp a.eval o).run P w = .ok (.enter g (as.map a.eval)) w := by
  have he : a.eval (.func g) = .func (.func g) #[] #[] := rfl
  simp only [execOp,ho,resolve,he,Deferred.ofValue]
  simp [invoke,hcall]
 unfold Oper.wp
 rw [hrun]
 simp only [Oper.upon]
 obtain ⟨hlen,hvals⟩ := vals_rd h xs ds hds
 have hxr := rel_ev h (.tmp sx)
 have hev : ev (mk fl) (.tmp sx) = .ref t [] true d0 := hx
 rw [hev] at hxr
 have htree : OwnU w O t [] (a.eval (.tmp sx)) d0 := hxr
 have hC : ∀ g q,subT O t [] g = some q ↔ O g = some (t,[] ++ q) := fun g q => subT_some
 have hmap : (as.map a.eval).toList = (.tmp sx :: xs).map a.eval := by rw [Array.toList_map,hargs]
 have hsz : (as.map a.eval).size = ds.length + 1 := by rw [← Array.length_toList,hmap]; simp [hlen]
 have hget : ∀ i : Nat,(as.map a.eval)[i]? = ((.tmp sx :: xs).map a.eval)[i]? := fun i => by rw [← hmap,Array.getElem?_toList]
 have key := hv w (Fro R O w) (subT O t []) (as.map a.eval) (a.eval (.tmp sx))
  (fun g hg => ⟨hg.2.1,by unfold subT; rw [hg.1]⟩) (fun g q hg => (h.own g _ ((hC g q).1 hg)).2)
  (fun g g' q h1 h2 => h.inj g g' _ ((hC g q).1 h1) ((hC g' q).1 h2))
  (htree.keep [] fun g q hg => ⟨by simp only [asO]; rw [(hC g q).2 hg]; rfl,rfl⟩) hsz (by rw [hget]; rfl)
  (fun i hi => by obtain ⟨u,h1,h2⟩ := hvals i hi; exact ⟨u,by rw [hget]; simpa using h1,h2⟩)
 refine key.mono ?_
 rintro e w' ⟨y,C',rfl,hb,hC1,hC2,hrel⟩
 simp only
 have hsub : ∀ b,(∀ q,O b ≠ some (t,q)) → subT O t [] b = none := fun b hb => by
  cases hs : subT O t [] b with
  | none => rfl
  | some q => exact absurd ((hC b q).1 hs) (hb _)
 have e1 : ∀ g z,drp O d g = some z → O g = some z ∧ z.1 ≠ d := by
  intro g z hg
  unfold drp at hg
  split at hg
  ·cases hg
  ·rename_i r q hO
   split at hg
   ·cases hg
   ·rename_i hr
    refine ⟨by rw [hO]; exact hg,?_⟩
    simp only [Option.some.injEq] at hg
    rw [← hg]; exact hr
 let O' : Own := fun b => if b < w.heap.size ∧ subT O t [] b = none then drp O d b else (C' b).map fun q => (d,q)
 have hold : ∀ b,b < w.heap.size → subT O t [] b = none → O' b = drp O d b := fun b h1 h2 => by simp only [O',if_pos (⟨h1,h2⟩ : b < w.heap.size ∧ subT O t [] b = none)]
 have hneu : ∀ b,¬ (b < w.heap.size ∧ subT O t [] b = none) → O' b = (C' b).map fun q => (d,q) := fun b h1 => by simp only [O',if_neg h1]
 have hinv : ∀ b z,O' b = some z → (b < w.heap.size ∧ subT O t [] b = none ∧ O b = some z ∧ z.1 ≠ d) ∨ (∃ q,C' b = some q ∧ z = (d,q)) := by
  intro b z hz
  by_cases hcb : b < w.heap.size ∧ subT O t [] b = none
  ·rw [hold b hcb.1 hcb.2] at hz; exact .inl ⟨hcb.1,hcb.2,e1 b z hz⟩
  ·rw [hneu b hcb] at hz
   obtain ⟨q,h1,h2⟩ := Option.map_eq_some_iff.1 hz
   exact .inr ⟨q,h1,h2.symm⟩
 have hCin : ∀ b q,C' b = some q → O' b = some (d,q) := by
  intro b q hq
  have := (hC1 b q hq).1
  rw [hneu b (fun hc => by rcases this with h1 | h1; exact h1 hc.2; omega),hq]; rfl
 have hBC : ∀ b,B b → b < w.heap.size ∧ subT O t [] b = none := fun b hBb => ⟨h.base b hBb,hsub b fun q hq => (h.own b _ hq).1 hBb⟩
 have m : Made R B w w' O O' [t,d] (.ref d [] true r) y := by
  refine ⟨⟨hb.size,fun b hbs hbn => ?_,fun b s q hbt hst => ?_⟩,⟨hb.os,hb.tape,hb.output,hb.size,fun b hBb => hb.block b (hBC b hBb)⟩,?_,?_,?_⟩
  ·have h2 := hsub b (fun q => by rw [hbn]; simp)
   exact ⟨by rw [hold b hbs h2]; unfold drp; rw [hbn],hb.block b ⟨hbs,h2⟩⟩
  ·simp only [List.mem_cons,List.not_mem_nil,or_false,not_or] at hst
   have hbs := (h.own b _ hbt).2
   have h2 := hsub b fun q hq => by rw [hbt] at hq; simp at hq; exact hst.1 hq.1
   exact ⟨by rw [hold b hbs h2]; unfold drp; rw [hbt]; simp [hst.2],hb.block b ⟨hbs,h2⟩⟩
  ·intro b z hz
   rcases hinv b z hz with ⟨h1,_,h3,_⟩ | ⟨q,h1,_⟩
   ·exact ⟨(h.own b _ h3).1,Nat.lt_of_lt_of_le h1 hb.size⟩
   ·refine ⟨fun hBb => ?_,(hC1 b q h1).2⟩
    have h2 := hBC b hBb
    rcases (hC1 b q h1).1 with h3 | h3
    ·exact h3 h2.2
    ·omega
  ·intro b b' z h1 h2
   rcases hinv b z h1 with ⟨_,_,b3,b4⟩ | ⟨q,b1,rfl⟩ <;> rcases hinv b' _ h2 with ⟨_,_,c3,c4⟩ | ⟨q',c1,c2⟩
   ·exact h.inj b b' _ b3 c3
   ·subst c2; exact absurd rfl b4
   ·exact absurd rfl c4
   ·simp only [Prod.mk.injEq,true_and] at c2
    subst c2
    exact hC2 b b' q b1 c1
  ·show OwnU w' O' d [] y r
   refine hrel.keep [] fun g q hg => ⟨?_,rfl⟩
   obtain ⟨q',h1,h2⟩ := Option.map_eq_some_iff.1 hg
   simp only [List.nil_append,Prod.mk.injEq,true_and] at h2
   subst h2
   simpa using hCin g _ h1
 rw [hd]
 refine hK () O' _ _ trivial ?_
 rw [mk_upd_kill]
 exact h.made m hN

/-! ### Clearing a list's tail -/
theorem setCells_block {g : Nat} {E : TypeId} {fr : Nat × Nat} : ∀ (vs : List Value) (o : Nat) (w : World) (cur : Array Value),w.heap[g]? = some (.cells cur E fr) →
  ∃ cur',(w.setCells g o vs).heap[g]? = some (.cells cur' E fr) ∧ cur'.size = cur.size ∧ (∀ j,j < o → cur'[j]? = cur[j]?) ∧ (∀ g',g' ≠ g → (w.setCells g o vs).heap[g']? = w.heap[g']?) ∧
   (w.setCells g o vs).heap.size = w.heap.size ∧ (w.setCells g o vs).os = w.os ∧ (w.setCells g o vs).tape = w.tape ∧ (w.setCells g o vs).output = w.output
 | [],o,w,cur,h => ⟨cur,h,rfl,fun _ _ => rfl,fun _ _ => rfl,rfl,rfl,rfl,rfl⟩
 | v :: vs,o,w,cur,h => by
  have h1 := setCell_block (i := o) (v := v) h
  obtain ⟨cur',a1,a2,a3,a4,a5,a6,a7,a8⟩ := setCells_block vs (o + 1) (w.setCell ⟨g,o,none⟩ v) _ h1
  refine ⟨cur',a1,by rw [a2]; simp,fun j hj => ?_,fun g' hg' => ?_,?_,?_,?_,?_⟩
  ·rw [a3 j (by omega),Array.getElem?_setIfInBounds_ne (by omega)]
  ·exact (a4 g' hg').trans (heap_setCell_other w _ g' _ hg')
  ·exact a5.trans (by simp)
  ·exact a6.trans (by rfl)
  ·exact a7.trans (by rfl)
  ·exact a8.trans (by rfl)

theorem run_slice_from {T e : TypeId} {i : TypeInfo} (hu : P.underlying T = some (.slice e)) (hie : P.info? e = some i) (hse : i.size = 1) {w : World} {ad : Option Addr} {n c : Nat} {lo : Int} (h0 : 0 ≤ lo) (h1 : lo ≤ n) (_h2 : n ≤ c) :
  (Instr.sliceAt T (.slice ad n c) (some (.int .i64 lo)) none none).run P w = .ok (.slice (if c = lo.toNat then ad else ad.map (·.add lo.toNat)) (n - lo.toNat) (c - lo.toNat)) w := by
 have b2 : ∀ (b : BoundsCode),(Instr.sliceBound (.int .i64 lo) n b).run P w = .ok lo.toNat w := fun b => sliceBound_run (by omega) (by omega)
 have hb : (Instr.sliceBounds true n c (some (.int .i64 lo)) none none).run P w = .ok (lo.toNat,n,c) w := by
  simp [Instr.sliceBounds,b2]
 simp only [Instr.sliceAt,Sem.run_bind,run_underlying hu,Result.andThen_ok,Instr.slice,hb,sizeOf_run hie,hse,Nat.mul_one,Sem.run_pure]

theorem VW.clr {τ : TypeId → TK} (hτ : TyOk P τ) {T e : TypeId} (hT : τ T = .sl e) (hz : ∃ i,P.info? e = some i ∧ i.zero = some (.int .i64 0)) {t0 ti s1 s2 s3 : Tmp} {xs : List D} {i : Int} {id : Nat} {o1 o2 o3 o4 : Oper} {y : Code} {fl : FL} {Q : Exit → Frm → Prop}
  (h0 : mk fl t0 = .ref 0 [] true (.list xs)) (hi : mk fl ti = .val (.int .i64 i)) (hb : 0 ≤ i ∧ i ≤ (xs.length : Int))
  (e1 : o1.op = .move (.tmp t0)) (d1 : o1.dst = some s1) (g1 : o1.guard = none) (n1 : s1 ∈ N)
  (e2 : o2.op = .move (.tmp ti)) (d2 : o2.dst = some s2) (g2 : o2.guard = none) (n2 : s2 ∈ N)
  (e3 : o3.op = .slice T (.tmp s1) (some (.tmp s2)) none none) (d3 : o3.dst = some s3) (g3 : o3.guard = none) (n3 : s3 ∈ N)
  (e4 : o4.op = .call ⟨.builtin .clear,#[.tmp s3],#[T]⟩) (d4 : o4.dst = none) (g4 : o4.guard = none)
  (hne : t0 ≠ s1 ∧ t0 ≠ s2 ∧ t0 ≠ s3 ∧ ti ≠ s1 ∧ ti ≠ s2 ∧ ti ≠ s3 ∧ s1 ≠ s2 ∧ s1 ≠ s3 ∧ s2 ≠ s3 ∧ t0 ≠ ti)
  (h : VW P N y (mk [(t0,.ref 0 [] true (.list (xs.take i.toNat ++ List.replicate (xs.length - i.toNat) .gone))),(ti,.val (.int .i64 i))]) Q) :
  VW P N (.seq (.region id [o1,o2,o3,o4].toArray false) y) (mk fl) Q := by
 obtain ⟨ne1,ne2,ne3,ne4,ne5,ne6,ne7,ne8,ne9,ne10⟩ := hne
 have hk := hτ T
 rw [hT] at hk
 obtain ⟨_,hu,ie,hie,hse⟩ := hk
 obtain ⟨ie',hie',hz⟩ := hz
 have : ie' = ie := Option.some.inj (hie'.symm.trans hie)
 subst this
 refine VW.seq fun R B w0 O a w hs => wp_region_lit ?_
 have r0 := hs.slots t0
 have ri := hs.slots ti
 rw [h0] at r0
 rw [hi] at ri
 generalize hv0 : a.tmps.getD t0 undef = v0 at r0
 generalize hvi : a.tmps.getD ti undef = vi at ri
 cases (ri : Rd w (Fro R O w) vi _)
 have r0' : OwnU w O 0 [] v0 (.list xs) := r0
 have sl : ∃ ad n c,v0 = .slice ad n c ∧ n = xs.length ∧ n ≤ c := by
  cases r0' with
  | nil => exact ⟨_,_,_,rfl,rfl,Nat.le_refl _⟩
  | list _ g cap cur E _ vs a1 a2 a3 a4 a5 a6 a7 => exact ⟨_,_,_,rfl,rfl,a3⟩
 obtain ⟨ad,n,c,rfl,hn,hnc⟩ := sl
 let v3 : Value := .slice (if c = i.toNat then ad else ad.map (·.add i.toNat)) (n - i.toNat) (c - i.toNat)
 let A1 := a.put (some s1) (.slice ad n c)
 let A2 := A1.put (some s2) (.int .i64 i)
 let A3 := A2.put (some s3) v3
 have z1 : A1.tmps.size = N.n := by simp [A1,Act.put,hs.size]
 have z2 : A2.tmps.size = N.n := by simp [A2,A1,Act.put,hs.size]
 have z3 : A3.tmps.size = N.n := by simp [A3,A2,A1,Act.put,hs.size]
 have p1 : ∀ s,A1.tmps.getD s undef = if s = s1 then .slice ad n c else a.tmps.getD s undef := fun s => getD_put (by rw [hs.size]; exact n1.2) s
 have p2 : ∀ s,A2.tmps.getD s undef = if s = s2 then .int .i64 i else A1.tmps.getD s undef := fun s => getD_put (by rw [z1]; exact n2.2) s
 have p3 : ∀ s,A3.tmps.getD s undef = if s = s3 then v3 else A2.tmps.getD s undef := fun s => getD_put (by rw [z2]; exact n3.2) s
 have q3 : ∀ s,s ≠ s1 → s ≠ s2 → s ≠ s3 → A3.tmps.getD s undef = a.tmps.getD s undef := fun s h1 h2 h3 => by rw [p3,if_neg h3,p2,if_neg h2,p1,if_neg h1]
 refine wpList_step fun K1 hK1 => ?_
 rw [if_pos (by simp [Region.wanted,g1])]
 refine wp_val (v := .slice ad n c) (w' := w) (by simp only [execOp,e1]; show _ = _; simp [Act.eval,hv0]) (hK1 _ _ ?_)
 rw [d1]
 refine wpList_step fun K2 hK2 => ?_
 rw [if_pos (by simp [Region.wanted,g2])]
 have ev2 : A1.eval (.tmp ti) = .int .i64 i := by show A1.tmps.getD ti undef = _; rw [p1,if_neg ne4,hvi]
 refine wp_val (v := .int .i64 i) (w' := w) (by simp only [execOp,e2]; show _ = _; rw [show (a.put (some s1) (.slice ad n c)).eval (.tmp ti) = .int .i64 i from ev2]; simp) (hK2 _ _ ?_)
 rw [d2]
 refine wpList_step fun K3 hK3 => ?_
 rw [if_pos (by simp [Region.wanted,g3])]
 have ev3 : A2.eval (.tmp s1) = .slice ad n c := by show A2.tmps.getD s1 undef = _; rw [p2,if_neg ne7,p1,if_pos rfl]
 have ev4 : A2.eval (.tmp s2) = .int .i64 i := by show A2.tmps.getD s2 undef = _; rw [p2,if_pos rfl]
 refine wp_val (v := v3) (w' := w) ?_ (hK3 _ _ ?_)
 ·show (execOp A2.eval o3).run P w = _
  simp only [execOp,e3,ev3,Option.map_some,Option.map_none,ev4]
  exact run_v (run_slice_from hu hie hse hb.1 (by omega) hnc)
 rw [d3]
 refine wpList_step fun K4 hK4 => ?_
 rw [if_pos (by simp [Region.wanted,g4])]
 have ev5 : A3.eval (.tmp s3) = v3 := by show A3.tmps.getD s3 undef = _; rw [p3,if_pos rfl]
 have fin : ∀ w',(Builtin.clear_ #[T] o4.type #[v3]).run P w = .ok (.tuple #[]) w' → Blw B w w' → w'.heap.size = w.heap.size →
   OwnU w' O 0 [] (.slice ad n c) (.list (xs.take i.toNat ++ List.replicate (xs.length - i.toNat) .gone)) →
   o4.wp P A3 w K4 (fun e a' w' => ∃ O' σ',St R B w0 N O' σ' a' w' ∧ Nx (fun σ' => VW P N y σ' Q) Q e σ') := by
  intro w' hrun hbl hsz hown
  refine wp_val (v := .tuple #[]) (w' := w') ?_ (hK4 _ _ (wpList_nil ⟨O,_,?_,h⟩))
  ·simp only [execOp,e4]
   simp only [resolve,List.map_toArray,List.map_cons,List.map_nil,ev5]
   simp [invoke,builtin,hrun]
  ·rw [d4]
   refine ⟨hs.below.trans hbl,fun b hBb => by rw [hsz]; exact hs.base b hBb,hs.fresh,fun b z hz => ⟨(hs.own b z hz).1,by rw [hsz]; exact (hs.own b z hz).2⟩,hs.inj,z3,hs.defers,fun s hlo => ?_,fun s => ?_⟩
   ·show A3.tmps.getD s undef = _
    rw [q3 s (fun e => absurd (e ▸ hlo) (Nat.not_lt.2 n1.1)) (fun e => absurd (e ▸ hlo) (Nat.not_lt.2 n2.1)) (fun e => absurd (e ▸ hlo) (Nat.not_lt.2 n3.1))]
    exact hs.pin s hlo
   ·show Rel R w' O _ (A3.tmps.getD s undef)
    simp only [mk_cons,mk_nil]
    by_cases hs0 : s = t0
    ·subst hs0
     rw [if_pos rfl,q3 s ne1 ne2 ne3,hv0]
     exact hown
    ·rw [if_neg hs0]
     by_cases hsi : s = ti
     ·subst hsi
      rw [if_pos rfl,q3 s ne4 ne5 ne6,hvi]
      exact Rd.int _ _
     ·rw [if_neg hsi]
      exact trivial
 by_cases hcnt : n - i.toNat = 0
 ·refine fin w ?_ (.refl _ _) rfl ?_
  ·simp only [v3,hcnt]
   generalize (if c = i.toNat then ad else ad.map (·.add i.toNat)) = ad'
   cases ad' <;> simp [Builtin.clear_,run_underlying hu]
  ·have : xs.length - i.toNat = 0 := by omega
   rw [this,List.replicate_zero,List.append_nil,List.take_of_length_le (by omega)]
   exact r0'
 ·cases r0' with
  | nil => simp at hcnt
  | list _ g cap cur E _ vs a1 a2 a3 a4 a5 a6 a7 =>
   have hcap : ¬ c = i.toNat := by omega
   have hv3 : v3 = .slice (some ⟨g,i.toNat,none⟩) (xs.length - i.toNat) (c - i.toNat) := by
    simp only [v3,if_neg hcap,Option.map_some,Addr.add]
    split <;> simp_all
   obtain ⟨cur',b1,b2,b3,b4,b5,b6,b7,b8⟩ := setCells_block (List.replicate (xs.length - i.toNat) (.int .i64 0)) i.toNat w cur a2
   have hnB : ¬ B g := (hs.own g _ a1).1
   refine fin (w.setCells g i.toNat (List.replicate (xs.length - i.toNat) (.int .i64 0))) ?_ ⟨b6,b7,b8,by rw [b5]; exact Nat.le_refl _,fun b hBb => b4 b (fun e => hnB (e ▸ hBb))⟩ b5 ?_
   ·rw [hv3]
    refine Lib.run_clear_slice w T e o4.type (.int .i64 0) hu (fun w => by simp [zeroValue,typeInfo,hie,hz]) rfl rfl g i.toNat _ _ (by omega) (fun j hj => ?_) fun j hj => frozen_of_row w g _ cur E a2
    have : i.toNat + j < cur.size := by omega
    simp [World.cell?,a2,this]
   ·have hl : (xs.take i.toNat ++ List.replicate (xs.length - i.toNat) D.gone).length = xs.length := by simp; omega
    suffices hh : OwnU (w.setCells g i.toNat (List.replicate (xs.length - i.toNat) (.int .i64 0))) O 0 [] (.slice (some ⟨g,0,none⟩) (xs.take i.toNat ++ List.replicate (xs.length - i.toNat) D.gone).length c)
      (.list (xs.take i.toNat ++ List.replicate (xs.length - i.toNat) D.gone)) by rw [hl] at hh; exact hh
    refine OwnU.list [] g c cur' E _ (fun j => cur'.getD j undef) a1 b1 (by rw [hl]; exact a3) a4 (by rw [b2]; exact a5) (fun j hj => ?_) fun j hj => ?_
    ·rw [hl] at hj
     simp [Array.getD_eq_getD_getElem?,show j < cur'.size by omega]
    ·by_cases hji : j < i.toNat
     ·have e5 : (xs.take i.toNat ++ List.replicate (xs.length - i.toNat) D.gone)[j] = xs[j]'(by rw [hl] at hj; exact hj) := by
       rw [List.getElem_append_left (by simp; rw [hl] at hj; omega)]
       simp
      rw [e5]
      have hjl : j < xs.length := by rw [hl] at hj; exact hj
      have e6 : cur'.getD j undef = vs j := by
       rw [Array.getD_eq_getD_getElem?,b3 j hji,a6 j hjl]; rfl
      rw [e6]
      refine (a7 j hjl).keep ([] ++ [j]) fun b q hq => ⟨by simpa using hq,?_⟩
      refine b4 b fun e => ?_
      subst e
      rw [a1] at hq
      simp at hq
     ·have e5 : (xs.take i.toNat ++ List.replicate (xs.length - i.toNat) D.gone)[j] = .gone := by
       rw [List.getElem_append_right (by simp; omega)]
       simp
      rw [e5]
      exact .gone _ _
end

@[simp high] theorem len_gone {α : Type} (f : α → D) (xs : List α) (n : Nat) : (List.take n (xs.map f) ++ List.replicate (xs.length - n) D.gone).length = xs.length := by
 simp; omega
@[simp high] theorem take_gone {α : Type} (f : α → D) (xs : List α) (n : Nat) : List.take n (List.take n (xs.map f) ++ List.replicate (xs.length - n) D.gone) = List.take n (xs.map f) := by
 rcases Nat.lt_or_ge n xs.length with h | h
 ·rw [List.take_append_of_le_length (by simp; omega),List.take_take,Nat.min_self]
 ·have : xs.length - n = 0 := by omega
  rw [this,List.replicate_zero,List.append_nil,List.take_take,Nat.min_self]
end Go.Vam
