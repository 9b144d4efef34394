/- Calls that write into the list that is their last argument. -/
import Derived.Test.YtalfgfpgenlokaaVamAR
namespace Go.Vam
open Go Go.RowKit
set_option linter.unusedSimpArgs false
set_option linter.unusedVariables false

def asT (n : Nat) (C : Nat → Option (List Nat)) : Own := fun g => (C g).map fun q => (n,q)
def VMutZ (P : Program) (f : FuncId) (d : D) (ds rs : List D) (d' : D) : Prop :=
 (∀ args w,(callFunc f args).run P w = .ok (.enter f args) w) ∧
 ∀ (w : World) (A : Nat → Prop) (C : Nat → Option (List Nat)) (vs : Array Value) (v : Value),
  (∀ g,A g → g < w.heap.size ∧ C g = none) → (∀ g q,C g = some q → g < w.heap.size) → (∀ g g' q,C g = some q → C g' = some q → g = g') →
  OwnU w (asO C) 0 [] v d → vs.size = ds.length + 1 → vs[ds.length]? = some v → (∀ i (h : i < ds.length),∃ u,vs[i]? = some u ∧ Rd w A u ds[i]) →
  Calls P f vs w fun e w' => ∃ (x : Value) (C' : Nat → Option (List Nat)),e = .returned x ∧ RsR w' rs x ∧
   Blw (fun g => g < w.heap.size ∧ C g = none) w w' ∧ (∀ g q,C' g = some q → (C g ≠ none ∨ w.heap.size ≤ g) ∧ g < w'.heap.size) ∧
   (∀ g g' q,C' g = some q → C' g' = some q → g = g') ∧ ∀ v2,OwnU w (asO C) 0 [] v2 d → OwnU w' (asO C') 0 [] v2 d'

def PostZ (n : Nat) (res : List ResultVar) (rs : List D) (d' : D) : Exit → Frm → Prop
 | .normal,σ => resT res σ rs ∧ ∃ k p,σ n = .ref k p true d'
 | .ret,σ => resT res σ rs ∧ ∃ k p,σ n = .ref k p true d'
 | _,_ => False
def PostZx (N : Lim) (n : Nat) (res : List ResultVar) (rs : List D) (d' : D) (e : Exit) (σ : Frm) : Prop := ∃ σ',Le N σ' σ ∧ PostZ n res rs d' e σ'
theorem PostZx.n {N : Lim} {n : Nat} {fl : FL} {res : List ResultVar} {rs : List D} {d' : D} (h : PostZ n res rs d' .normal (mk fl)) : PostZx N n res rs d' .normal (mk fl) := ⟨_,fun _ _ _ O _ _ h => ⟨O,h⟩,h⟩
theorem PostZx.r {N : Lim} {n : Nat} {fl : FL} {res : List ResultVar} {rs : List D} {d' : D} (h : PostZ n res rs d' .ret (mk fl)) : PostZx N n res rs d' .ret (mk fl) := ⟨_,fun _ _ _ O _ _ h => ⟨O,h⟩,h⟩

section
variable {P : Program}
theorem VMutZ.intro {f : FuncId} {fn : Func} {c : Code} {xs : List D} {ds rs : List D} {d' : D} (hcall : ∀ args w,(callFunc f args).run P w = .ok (.enter f args) w)
  (hf : P.funcs[f]? = some fn) (hb : fn.body = some c) (hn : ds.length + 1 ≤ fn.ntmps)
  (hw : VW P ⟨fn.ntmps,ds.length + 1⟩ c (mk (dl 0 ds ++ [(ds.length,.ref ds.length [] true (.list xs))])) (PostZx ⟨fn.ntmps,ds.length + 1⟩ ds.length fn.results.toList rs d')) : VMutZ P f (.list xs) ds rs d' := by
 classical
 refine ⟨hcall,fun w A C0 vs v hA hC hinj hown hsz hv0 hvs => ?_⟩
 let C : Nat → Option (List Nat) := fun g => if v = .slice none 0 0 then none else C0 g
 have hCC : ∀ g q,C g = some q → C0 g = some q := fun g q h => by
  simp only [C] at h; split at h; cases h; exact h
 have hCn : ∀ g,C0 g = none → C g = none := fun g h => by simp only [C]; split <;> first | rfl | exact h
 have hown' : OwnU w (asO C) 0 [] v (.list xs) := by
  by_cases hvn : v = .slice none 0 0
  ·subst hvn
   have : D.list xs = .list [] := (own_nil hown).resolve_right (by simp)
   rw [this]; exact .nil []
  ·have e : C = C0 := by funext g; simp only [C,if_neg hvn]
   rw [e]; exact hown
 refine Calls.mono (calls_of_wp hf hb ?_ : Calls P f vs w fun e w' => ∃ (x : Value) (O : Own) (k : Nat) (p : List Nat),e = .returned x ∧ RsR w' rs x ∧
  Blw (fun g => g < w.heap.size ∧ C g = none) w w' ∧ (∀ g y,O g = some y → (C g ≠ none ∨ w.heap.size ≤ g) ∧ g < w'.heap.size) ∧ (∀ g g' y,O g = some y → O g' = some y → g = g') ∧ OwnU w' O k p v d') ?_
 ·have hst : St (fun g => A g ∨ ¬ (g < w.heap.size ∧ C g = none)) (fun g => g < w.heap.size ∧ C g = none) ⟨w,fun s => vs.getD s undef⟩ ⟨fn.ntmps,ds.length + 1⟩ (asT ds.length C) (mk (dl 0 ds ++ [(ds.length,.ref ds.length [] true (.list xs))])) { tmps := vs ++ Array.replicate (fn.ntmps - vs.size) undef,defers := [] } w := by
   have hget : ∀ s,s < vs.size → (vs ++ Array.replicate (fn.ntmps - vs.size) undef).getD s undef = vs.getD s undef := fun s hs => by
    rw [Array.getD_eq_getD_getElem?,Array.getElem?_append_left hs,Array.getD_eq_getD_getElem?]
   refine ⟨.refl _ _,fun g hg => hg.1,fun g hg => .inr hg,fun g y hy => ?_,fun g g' y h1 h2 => ?_,by simp; omega,rfl,fun s hs => hget s (by simp only [] at hs; omega),fun s => ?_⟩
   ·obtain ⟨q,h1,h2⟩ := Option.map_eq_some_iff.1 hy
    exact ⟨fun h => (by rw [h.2] at h1; cases h1),hC g q (hCC g q h1)⟩
   ·obtain ⟨q,a1,a2⟩ := Option.map_eq_some_iff.1 h1
    obtain ⟨q',b1,b2⟩ := Option.map_eq_some_iff.1 h2
    rw [← a2] at b2
    simp only [Prod.mk.injEq,true_and] at b2
    subst b2
    exact hinj g g' _ (hCC g _ a1) (hCC g' _ b1)
   ·rw [dl_app,Nat.zero_add]
    by_cases hs : s < ds.length
    ·rw [if_pos ⟨Nat.zero_le _,hs⟩,Nat.sub_zero]
     obtain ⟨u,h2,h3⟩ := hvs s hs
     rw [List.getElem?_eq_getElem hs]
     have hg : (vs ++ Array.replicate (fn.ntmps - vs.size) undef).getD s undef = u := by
      rw [hget s (by omega),Array.getD_eq_getD_getElem?,h2]; rfl
     simp only
     rw [hg]
     exact h3.keep (fun g hg => ⟨by simp only [asT]; rw [hCn g (hA g hg).2]; rfl,(hA g hg).1,.inl hg⟩) fun _ _ => rfl
    ·rw [if_neg (fun h => hs h.2),mk_cons]
     by_cases hs2 : s = ds.length
     ·rw [if_pos hs2]
      have h1 : (vs ++ Array.replicate (fn.ntmps - vs.size) undef).getD s undef = v := by
       rw [hget s (by omega),Array.getD_eq_getD_getElem?,hs2,hv0]; rfl
      simp only [h1]
      exact OwnU.keep hown' [] fun g q hq => ⟨by
       obtain ⟨q',e1,e2⟩ := Option.map_eq_some_iff.1 hq
       simp only [Prod.mk.injEq,true_and,List.nil_append] at e2
       subst e2
       simp only [asT,e1]; rfl,rfl⟩
     ·rw [if_neg hs2]; exact trivial
  refine wp_mono (hw _ _ _ _ _ _ hst) ?_
  rintro e a' w' ⟨O0,σ0,hs0,σ,hle,hq⟩
  obtain ⟨O,hs⟩ := hle _ _ _ _ _ _ hs0
  have fin : (resT fn.results.toList σ rs ∧ ∃ k p,σ ds.length = .ref k p true d') → ∃ x,(results fn a'.tmps).run P w' = .ok x w' ∧ ∃ (x' : Value) (O : Own) (k : Nat) (p : List Nat),Ending.returned x = .returned x' ∧ RsR w' rs x' ∧
    Blw (fun g => g < w.heap.size ∧ C g = none) w w' ∧ (∀ g y,O g = some y → (C g ≠ none ∨ w.heap.size ≤ g) ∧ g < w'.heap.size) ∧ (∀ g g' y,O g = some y → O g' = some y → g = g') ∧ OwnU w' O k p v d' := by
   rintro ⟨hres,k,p,h4⟩
   have r2 := hs.slots ds.length
   rw [h4,hs.pin ds.length (show ds.length < ds.length + 1 by omega)] at r2
   have ev : vs.getD ds.length undef = v := by rw [Array.getD_eq_getD_getElem?,hv0]; rfl
   simp only [ev] at r2
   have hx : ∃ x,(results fn a'.tmps).run P w' = .ok x w' ∧ RsR w' rs x := by
    match rs,hres with
    | [],h =>
     have : fn.results = #[] := by rw [← Array.toArray_toList (xs := fn.results),h]
     refine ⟨_,by simp [results,this]; rfl,trivial⟩
    | [x],⟨t,h1,h2,h3⟩ =>
     have r1 := hs.slots t
     rw [h2] at r1
     exact ⟨_,results_tmp1 h1 _ _,sc_rd h3 (sc_own h3 r1 (fun _ => none) w' 0 []) _ _⟩
    | [x,y],⟨t,s,h1,h2,h3,h5,h6⟩ =>
     have r1 := hs.slots t
     rw [h2] at r1
     have r3 := hs.slots s
     rw [h3] at r3
     refine ⟨_,results_tmp2 h1 _ _,_,rfl,rfl,fun i hi => ?_⟩
     match i,hi with
     | 0,_ => exact ⟨_,rfl,sc_rd h5 (sc_own h5 r1 (fun _ => none) w' 0 []) _ _⟩
     | 1,_ => exact ⟨_,rfl,sc_rd h6 (sc_own h6 r3 (fun _ => none) w' 0 []) _ _⟩
   obtain ⟨x,hx1,hx2⟩ := hx
   refine ⟨x,hx1,x,O,k,p,rfl,hx2,hs.below,fun g y hy => ⟨?_,(hs.own g y hy).2⟩,hs.inj,r2⟩
   have := (hs.own g y hy).1
   by_cases hg : g < w.heap.size
   ·left; intro hc; exact this ⟨hg,hc⟩
   ·right; omega
  cases e with
  | normal => obtain ⟨x,h1,h2⟩ := fin hq; exact ⟨hs.defers,x,h1,h2⟩
  | ret => obtain ⟨x,h1,h2⟩ := fin hq; exact ⟨hs.defers,x,h1,h2⟩
  | _ => exact hq.elim
 ·rintro e w' ⟨x,O,k,p,rfl,hx,hb',hO,hOi,hfin⟩
  by_cases hvn : v = .slice none 0 0
  ·-- nothing to write
   have hd' : d' = .list [] ∨ d' = .gone := by rw [hvn] at hfin; exact own_nil hfin
   have hxs : xs = [] := by rw [hvn] at hown; have := (own_nil hown).resolve_right (by simp); simpa using this
   have hb0 : Blw (fun g => g < w.heap.size) w w' := ⟨hb'.os,hb'.tape,hb'.output,hb'.size,fun g hg => hb'.block g ⟨hg,by simp only [C,if_pos hvn]⟩⟩
   refine ⟨x,C0,rfl,hx,⟨hb'.os,hb'.tape,hb'.output,hb'.size,fun g hg => hb0.block g hg.1⟩,fun g q hq => ⟨.inl (by rw [hq]; simp),Nat.lt_of_lt_of_le (hC g q hq) hb'.size⟩,hinj,fun v2 h2 => ?_⟩
   subst hxs
   rcases hd' with rfl | rfl
   case inr => exact .gone _ _
   refine h2.keep [] fun g q hq => ⟨hq,hb0.block g ?_⟩
   obtain ⟨q',h3,_⟩ := Option.map_eq_some_iff.1 hq
   exact hC g q' h3
  ·have e : C = C0 := by funext g; simp only [C,if_neg hvn]
   rw [e] at hb' hO
   let C' : Nat → Option (List Nat) := subT O k p
   have hC' : ∀ g q,C' g = some q ↔ O g = some (k,p ++ q) := fun g q => subT_some
   have hv1 : OwnU w' (asO C') 0 [] v d' := hfin.keep [] fun g q hq => ⟨by simp [asO,(hC' g q).2 hq],rfl⟩
   refine ⟨x,C',rfl,hx,hb',fun g q hq => hO g _ ((hC' g q).1 hq),fun g g' q h1 h2 => hOi g g' _ ((hC' g q).1 h1) ((hC' g' q).1 h2),fun v2 h2 => ?_⟩
   cases h2 with
   | nil =>
    cases hown with
    | nil => exact absurd rfl hvn
    | list _ g cap cur E xs' vs' h1 h2 h3 h4 h5 h6 h7 =>
     rcases own_nil hv1 with e | e
     ·rw [e]; exact .nil []
     ·rw [e]; exact .gone _ _
   | list _ g2 cap2 cur2 E2 _ vs2 g1 g2' g3 g4 g5 g6 g7 =>
    have : v = .slice (some ⟨g2,0,none⟩) xs.length cap2 := by
     cases hown with
     | nil => exact absurd rfl hvn
     | list _ g cap cur E _ vs' h1 h2 h3 h4 h5 h6 h7 =>
      obtain ⟨q,e1,e2⟩ := Option.map_eq_some_iff.1 h1
      obtain ⟨q',e3,e4⟩ := Option.map_eq_some_iff.1 g1
      simp only [Prod.mk.injEq,true_and] at e2 e4
      subst e2; subst e4
      have := hinj g g2 [] e1 e3
      subst this
      rw [h2] at g2'
      simp only [Option.some.injEq,Obj.cells.injEq,and_true] at g2'
      obtain ⟨rfl,_⟩ := g2'
      rw [← h5,← g5]
    rw [← this]
    exact hv1

theorem VMutZ.enter {f : FuncId} {fn : Func} {c : Code} {xs : List D} {ds rs : List D} {d' : D} (hcall : ∀ args w,(callFunc f args).run P w = .ok (.enter f args) w)
  (hf : P.funcs[f]? = some fn) (hb : fn.body = some c) (n : Nat) (hn' : fn.ntmps = n) (hn : ds.length + 1 ≤ n) (lo : Nat) (hlo : lo = ds.length + 1) (res : List ResultVar) (hres : fn.results.toList = res)
  (hw : VW P ⟨n,lo⟩ c (mk (dl 0 ds ++ [(ds.length,.ref ds.length [] true (.list xs))])) (PostZx ⟨n,lo⟩ ds.length res rs d')) : VMutZ P f (.list xs) ds rs d' := by
 subst hn'; subst hres; subst hlo
 exact VMutZ.intro hcall hf hb hn hw
end
section
variable {P : Program} {τ : TypeId → TK} {Φ : Orc} {R : Nat → Prop} {B : Nat → Prop} {w0 : W0} {N : Lim} {O : Own} {σ : Frm} {a : Act} {w : World}
theorem wp_mutZ (h : St R B w0 N O σ a w) {o : Oper} {c : Call} (ho : o.op = .call c) {f : Operand} (hc : c.callee = .value f) {g : FuncId}
  (hf : ev σ f = .val (.fn g [])) {x : Operand} {xs : List Operand} (hargs : c.args.toList = xs ++ [x]) {t : Nat} {p : List Nat} {d0 d' : D} {rs : List D} (hx : ev σ x = .ref t p true d0)
  {ds : List D} (hds : vals σ xs = some ds) (hv : VMutZ P g d0 ds rs d') {d : Nat} (hd : o.dst = some d) (hN : d ∈ N)
  {K : Act → World → Prop} {Q : Exit → Act → World → Prop} (hK : ∀ O' a' w',St R B w0 N O' (upd (fun s => mutVV t p d0 d' (σ s)) d (slotT rs)) a' w' → K a' w') : o.wp P a w K Q := by
 obtain ⟨hcall,hv⟩ := hv
 have hfd := rel_ev h f
 rw [hf] at hfd
 generalize hfv : a.eval f = fv at hfd
 cases (hfd : Rd w (Fro R O w) fv _) with
 | fn _ cs _ cvs hl hcv hcr =>
 have hcs : cs = #[] := by simpa using hl
 subst hcs
 have hrun : (execOp a.eval o).run P w = .ok (.enter g (c.args.map a.eval)) w := by
  simp only [execOp,ho,resolve,hc,hfv,Deferred.ofValue]
  simp [invoke,hcall]
 unfold Oper.wp
 rw [hrun]
 simp only [Oper.upon]
 obtain ⟨hlen,hvals⟩ := vals_rd h xs ds hds
 have hxr := rel_ev h x
 rw [hx] at hxr
 have htree : OwnU w O t p (a.eval x) d0 := hxr
 have hC : ∀ g q,subA O t p d0 g = some q ↔ O g = some (t,p ++ q) ∧ (q = [] → d0.isAgg = false) := fun g q => subA_some
 have hnoO : ∀ b,O b = none → subA O t p d0 b = none := fun b hb => subA_none fun q => by rw [hb]; simp
 have hagg : ∀ v,OwnU w O t p v d0 → d0.isAgg = true → ∃ cs,v = .agg cs := fun v hv h => by
  cases hv <;> first | exact ⟨_,rfl⟩ | (simp [D.isAgg] at h)
 have hmap : (c.args.map a.eval).toList = (xs ++ [x]).map a.eval := by rw [Array.toList_map,hargs]
 have hsz : (c.args.map a.eval).size = ds.length + 1 := by rw [← Array.length_toList,hmap]; simp [hlen]
 have hget : ∀ i : Nat,(c.args.map a.eval)[i]? = ((xs ++ [x]).map a.eval)[i]? := fun i => by rw [← hmap,Array.getElem?_toList]
 have key := hv w (Fro R O w) (subA O t p d0) (c.args.map a.eval) (a.eval x)
  (fun g hg => ⟨hg.2.1,hnoO g hg.1⟩) (fun g q hg => (h.own g _ ((hC g q).1 hg).1).2)
  (fun g g' q h1 h2 => h.inj g g' _ ((hC g q).1 h1).1 ((hC g' q).1 h2).1)
  htree.toA hsz (by rw [hget,List.map_append,List.getElem?_append_right (by simp [hlen])]; simp [hlen])
  (fun i hi => by obtain ⟨u,h1,h2⟩ := hvals i hi; exact ⟨u,by rw [hget,List.map_append,List.getElem?_append_left (by simp [hlen,hi])]; exact h1,h2⟩)
 refine key.mono ?_
 rintro e w' ⟨y,C',rfl,hy,hb,hC1,hC2,hnew⟩
 simp only
 rw [hd]
 have hsame : ∀ b,b < w.heap.size → subA O t p d0 b = none → w'.heap[b]? = w.heap[b]? := fun b h1 h2 => hb.block b ⟨h1,h2⟩
 let O' : Own := fun b => if b < w.heap.size ∧ subA O t p d0 b = none then O b else (C' b).bind fun q => if q = [] ∧ d0.isAgg = true then none else some (t,p ++ q)
 have hold : ∀ b,b < w.heap.size → subA O t p d0 b = none → O' b = O b := fun b h1 h2 => by simp only [O',if_pos (⟨h1,h2⟩ : b < w.heap.size ∧ subA O t p d0 b = none)]
 have hneu : ∀ b,¬ (b < w.heap.size ∧ subA O t p d0 b = none) → O' b = (C' b).bind fun q => if q = [] ∧ d0.isAgg = true then none else some (t,p ++ q) := fun b h1 => by simp only [O',if_neg h1]
 have hinv : ∀ b z,O' b = some z → (b < w.heap.size ∧ subA O t p d0 b = none ∧ O b = some z) ∨ (∃ q,C' b = some q ∧ (q = [] → d0.isAgg = false) ∧ z = (t,p ++ q)) := by
  intro b z hz
  by_cases hcb : b < w.heap.size ∧ subA O t p d0 b = none
  ·rw [hold b hcb.1 hcb.2] at hz; exact .inl ⟨hcb.1,hcb.2,hz⟩
  ·rw [hneu b hcb] at hz
   obtain ⟨q,h1,h2⟩ := Option.bind_eq_some_iff.1 hz
   split at h2
   ·cases h2
   ·rename_i hn
    simp only [Option.some.injEq] at h2
    exact .inr ⟨q,h1,fun e => by cases hd : d0.isAgg with
     | false => rfl
     | true => exact absurd ⟨e,hd⟩ hn,h2.symm⟩
 have hCin : ∀ b q,C' b = some q → (q = [] → d0.isAgg = false) → O' b = some (t,p ++ q) := by
  intro b q hq hn
  have := (hC1 b q hq).1
  rw [hneu b (fun hc => by rcases this with h1 | h1; exact h1 hc.2; omega),hq]
  simp only [Option.bind_some]
  rw [if_neg (fun ⟨e,hd⟩ => by rw [hn e] at hd; cases hd)]
 have k : Keeps w w' O O' (fun s => s = t) := by
  refine ⟨hb.size,fun b hbs hbn => ?_,fun b s q hbt hst => ?_⟩
  ·have h2 := hnoO b hbn
   exact ⟨by rw [hold b hbs h2,hbn],hsame b hbs h2⟩
  ·have hbs := (h.own b _ hbt).2
   have h2 : subA O t p d0 b = none := subA_none fun q' => by rw [hbt]; simp [hst]
   exact ⟨by rw [hold b hbs h2,hbt],hsame b hbs h2⟩
 have hBC : ∀ b,B b → b < w.heap.size ∧ subA O t p d0 b = none := fun b hBb => ⟨h.base b hBb,by
  cases hs : subA O t p d0 b with
  | none => rfl
  | some q => exact absurd hBb (h.own b _ ((hC b q).1 hs).1).1⟩
 refine hK O' _ w' ⟨h.below.trans ⟨hb.os,hb.tape,hb.output,hb.size,fun b hBb => hb.block b (hBC b hBb)⟩,fun b hBb => Nat.lt_of_lt_of_le (h.base b hBb) hb.size,h.fresh,?_,?_,
  by simp [Act.put,h.size],h.defers,fun s hs => by rw [getD_put (by rw [h.size]; exact hN.2),if_neg (fun e => by have := hN.1; omega)]; exact h.pin s hs,fun s => ?_⟩
 ·intro b z hz
  rcases hinv b z hz with ⟨h1,h2,h3⟩ | ⟨q,h1,_,rfl⟩
  ·exact ⟨(h.own b _ h3).1,Nat.lt_of_lt_of_le h1 hb.size⟩
  ·refine ⟨fun hBb => ?_,(hC1 b q h1).2⟩
   have h2 := hBC b hBb
   rcases (hC1 b q h1).1 with h3 | h3
   ·exact h3 h2.2
   ·omega
 ·intro b b' z h1 h2
  rcases hinv b z h1 with ⟨b1,b2,b3⟩ | ⟨q,b1,bn,rfl⟩ <;> rcases hinv b' _ h2 with ⟨c1,c2,c3⟩ | ⟨q',c1,cn,c2⟩
  ·exact h.inj b b' _ b3 c3
  ·subst c2; rw [(hC b q').2 ⟨b3,cn⟩] at b2; cases b2
  ·rw [(hC b' q).2 ⟨c3,bn⟩] at c2; cases c2
  ·simp only [Prod.mk.injEq,true_and,List.append_cancel_left_eq] at c2
   subst c2
   exact hC2 b b' q b1 c1
 ·rw [getD_put (by rw [h.size]; exact hN.2)]
  unfold upd
  by_cases hs : s = d
  ·rw [if_pos hs,if_pos hs]
   exact hy.rel
  ·rw [if_neg hs,if_neg hs]
   have hslot := h.slots s
   have away : (σ s).on t = false → Rel R w' O' (σ s) (a.tmps.getD s undef) := fun hon => hslot.keeps k (fun r hr => by rw [hr]; exact hon)
   have hkeep : ∀ b q,O b = some (t,q) → ¬ p <+: q → O' b = some (t,q) ∧ w'.heap[b]? = w.heap[b]? := fun b q hq hnp => by
    have h2 : subA O t p d0 b = none := subA_none fun q' e => hnp (by rw [hq] at e; simp only [Option.some.injEq,Prod.mk.injEq,true_and] at e; exact ⟨q',e.symm⟩)
    have hbs := (h.own b _ hq).2
    exact ⟨by rw [hold b hbs h2,hq],hsame b hbs h2⟩
   have hneww : ∀ v,OwnU w O t p v d0 → OwnU w' O' t p v d' := fun v hvv => (hnew v hvv.toA).fromA (hagg v hvv) hCin
   rcases mutVV_cases t p d0 d' (σ s) with hm | ⟨hon,hm⟩ | ⟨D0,hσ,hnode,hm⟩ | ⟨xs,ys,hσ,hnode,hput,hm⟩ | ⟨xs,ys,hσ,hp0,hd0,hd',hm⟩
   ·simp only [hm]; exact trivial
   ·simp only [hm]; exact away hon
   ·simp only [hm]
    rw [hσ] at hslot
    have hown : OwnU w O t [] (a.tmps.getD s undef) D0 := hslot
    show OwnU w' O' t [] _ _
    exact OwnU.sub (p := p) (D0 := d0) hkeep hneww hown p (by simp) hnode
   ·simp only [hm]
    rw [hσ] at hslot
    obtain ⟨g1,cur,E,fr,e1,e2,e3,e4⟩ := hslot
    have h0 := k.fro g1 e2.2.1 e2.1
    refine ⟨g1,cur,E,fr,e1,⟨h0.1,Nat.lt_of_lt_of_le e2.2.1 hb.size,e2.2.2⟩,by rw [h0.2]; exact e3,?_⟩
    rw [← hput]
    exact OwnU.sub (p := p) (D0 := d0) hkeep hneww e4 p (by simp) hnode
   ·simp only [hm]
    rw [hσ] at hslot
    subst hp0; subst hd0; subst hd'
    have hown : OwnU w O t [] (a.tmps.getD s undef) (.ptr xs) := hslot
    show OwnU w' O' t [] _ _
    generalize a.tmps.getD s undef = sv at hown
    cases hown with
    | ptr _ g1 cur E _ vs h1 h2 h3 h4 h5 =>
     have hroot : subA O t [] (.agg xs) g1 = none := by
      cases hs : subA O t [] (.agg xs) g1 with
      | none => rfl
      | some q =>
       have := (hC g1 q).1 hs
       rw [h1] at this
       simp only [List.nil_append,Option.some.injEq,Prod.mk.injEq,true_and] at this
       exact absurd (this.2 this.1.symm) (by simp [D.isAgg])
     have hbs := (h.own g1 _ h1).2
     have h6 := hneww (.agg cur) (.agg [] cur xs vs h3 h4 h5)
     cases h6 with
     | agg _ _ _ vs' k1 k2 k3 =>
      exact .ptr [] g1 cur E ys vs' (by rw [hold g1 hbs hroot,h1]) (by rw [hsame g1 hbs hroot]; exact h2) k1 k2 k3
theorem step_mutZ {o : Oper} {g : FuncId} {as : Array Operand} {tt : Array TypeId} {x : Operand} {d t : Nat} {p : List Nat} {fl : FL} {d0 d' : D} {ds rs : List D} (ho : o.op = .call ⟨.value (.func g),as,tt⟩)
  (hargs : as.toList.getLast? = some x) (hd : o.dst = some d) (hN : d ∈ N) (hx : ev (mk fl) x = .ref t p true d0) (hds : vals (mk fl) as.toList.dropLast = some ds) (hv : VMutZ P g d0 ds rs d') :
  OStep P N o (mk fl) (fun _ : Unit => mk ((d,slotT rs) :: fl.map fun q => (q.1,mutVV t p d0 d' q.2))) (fun _ => True) := by
 intro R B w0 O a w K Q h hK
 have hl : as.toList = as.toList.dropLast ++ [x] := by
  have hne : as.toList ≠ [] := fun e => by rw [e] at hargs; cases hargs
  have := List.dropLast_concat_getLast hne
  rw [List.getLast?_eq_some_getLast hne] at hargs
  rw [← Option.some.inj hargs]; exact this.symm
 refine wp_mutZ h ho (f := .func g) rfl rfl hl hx hds hv hd hN fun O' a' w' h' => ?_
 have e : upd (fun s => mutVV t p d0 d' (mk fl s)) d (slotT rs) = mk ((d,slotT rs) :: fl.map fun q => (q.1,mutVV t p d0 d' q.2)) := by
  funext j
  simp only [upd,mk_cons,mk_map (fun z => mutVV t p d0 d' z) (by simp [mutVV,VV.on])]
 rw [e] at h'
 exact hK () O' a' w' trivial h'
end
end Go.Vam
