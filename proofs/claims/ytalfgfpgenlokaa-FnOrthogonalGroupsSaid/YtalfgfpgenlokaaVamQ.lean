/- Calls that write into the tree that they are given. -/
import Derived.Test.YtalfgfpgenlokaaVamI
namespace Go.Vam
open Go Go.RowKit

def asO (C : Nat → Option (List Nat)) : Own := fun g => (C g).map fun q => (0,q)

def VMut (P : Program) (f : FuncId) (d : D) (ds : List D) (r d' : D) : Prop :=
 (∀ args w,(callFunc f args).run P w = .ok (.enter f args) w) ∧
 ∀ (w : World) (A : Nat → Prop) (C : Nat → Option (List Nat)) (vs : Array Value) (v : Value),
  (∀ g,A g → g < w.heap.size ∧ C g = none) → (∀ g q,C g = some q → g < w.heap.size) → (∀ g g' q,C g = some q → C g' = some q → g = g') →
  OwnU w (asO C) 0 [] v d → vs.size = ds.length + 1 → vs[0]? = some v → (∀ i (h : i < ds.length),∃ u,vs[i + 1]? = some u ∧ Rd w A u ds[i]) →
  Calls P f vs w fun e w' => ∃ (x : Value) (C' : Nat → Option (List Nat)),e = .returned x ∧ Rd w' (fun _ => False) x r ∧
   Blw (fun g => g < w.heap.size ∧ C g = none) w w' ∧ (∀ g q,C' g = some q → (C g ≠ none ∨ w.heap.size ≤ g) ∧ g < w'.heap.size) ∧
   (∀ g g' q,C' g = some q → C' g' = some q → g = g') ∧ ∀ v2,OwnU w (asO C) 0 [] v2 d → OwnU w' (asO C') 0 [] v2 d'

theorem OwnU.sub {w w' : World} {O O' : Own} {t : Nat} {p : List Nat} {D0 D1 : D}
  (hkeep : ∀ g q,O g = some (t,q) → ¬ p <+: q → O' g = some (t,q) ∧ w'.heap[g]? = w.heap[g]?)
  (hnew : ∀ v,OwnU w O t p v D0 → OwnU w' O' t p v D1) {q : List Nat} {v : Value} {d : D} (h : OwnU w O t q v d) :
  ∀ r,p = q ++ r → D.node r d = D0 → OwnU w' O' t q v (D.put r d D1) := by
 have root : ∀ {q v d},OwnU w O t q v d → ∀ r,r = [] → p = q ++ r → D.node r d = D0 → OwnU w' O' t q v (D.put r d D1) := by
  intro q v d h r hr hp hn
  subst hr
  simp only [List.append_nil] at hp
  subst hp
  simp only [D.node] at hn
  subst hn
  exact hnew v h
 have beside : ∀ {q : List Nat} {v : Value} {d : D},OwnU w O t q v d → (∀ s,¬ p <+: (q ++ s)) → OwnU w' O' t q v d := by
  intro q v d hh hn
  exact hh.keep q fun g s hs => hkeep g _ hs (hn s)
 induction h with
 | int q k n =>
  intro r hp hn
  cases r with
  | nil => exact root (.int q k n) [] rfl hp hn
  | cons j r => exact .int q k n
 | bool q b =>
  intro r hp hn
  cases r with
  | nil => exact root (.bool q b) [] rfl hp hn
  | cons j r => exact .bool q b
 | gone q v =>
  intro r hp hn
  cases r with
  | nil => exact root (.gone q v) [] rfl hp hn
  | cons j r => exact .gone q v
 | nil q =>
  intro r hp hn
  cases r with
  | nil => exact root (.nil q) [] rfl hp hn
  | cons j r => simp only [D.put,List.set_nil]; exact .nil q
 | list q g cap cur E xs vs hOg hg hl hm hc hv hr ih =>
  intro r hp hn
  cases r with
  | nil => exact root (.list q g cap cur E xs vs hOg hg hl hm hc hv hr) [] rfl hp hn
  | cons j r' =>
   subst hp
   have h0 := hkeep g q hOg (fun hp => by have := hp.length_le; simp at this; omega)
   have hlen : (xs.set j (D.put r' (xs.getD j default) D1)).length = xs.length := by simp
   simp only [D.put]
   rw [← hlen]
   refine .list q g cap cur E _ vs h0.1 (by rw [h0.2]; exact hg) (by omega) hm hc (fun k hk => hv k (by omega)) fun k hk => ?_
   have hk' : k < xs.length := by omega
   by_cases hkj : k = j
   ·subst hkj
    simp only [List.getElem_set_self]
    rw [wf_get _ _ hk']
    exact ih k hk' r' (by simp) (by simpa [D.node,hk'] using hn)
   ·rw [List.getElem_set_ne (fun e => hkj e.symm)]
    refine beside (hr k hk') fun s => ?_
    rw [List.append_assoc]
    exact not_pre_sibling (fun e => hkj e.symm)
 | agg q cs xs vs hl hv hr ih =>
  intro r hp hn
  cases r with
  | nil => exact root (.agg q cs xs vs hl hv hr) [] rfl hp hn
  | cons j r' =>
   subst hp
   simp only [D.put]
   have hlen : (xs.set j (D.put r' (xs.getD j default) D1)).length = xs.length := by simp
   refine .agg q cs _ vs (by omega) (fun k hk => hv k (by omega)) fun k hk => ?_
   have hk' : k < xs.length := by omega
   by_cases hkj : k = j
   ·subst hkj
    simp only [List.getElem_set_self]
    rw [wf_get _ _ hk']
    exact ih k hk' r' (by simp) (by simpa [D.node,hk'] using hn)
   ·rw [List.getElem_set_ne (fun e => hkj e.symm)]
    refine beside (hr k hk') fun s => ?_
    rw [List.append_assoc]
    exact not_pre_sibling (fun e => hkj e.symm)
 | ptr q g cur E xs vs hOg hg hl hv hr ih =>
  intro r hp hn
  cases r with
  | nil => exact root (.ptr q g cur E xs vs hOg hg hl hv hr) [] rfl hp hn
  | cons j r' =>
   subst hp
   have h0 := hkeep g q hOg (fun hp => by have := hp.length_le; simp at this; omega)
   have hlen : (xs.set j (D.put r' (xs.getD j default) D1)).length = xs.length := by simp
   simp only [D.put]
   refine .ptr q g cur E _ vs h0.1 (by rw [h0.2]; exact hg) (by omega) (fun k hk => hv k (by omega)) fun k hk => ?_
   have hk' : k < xs.length := by omega
   by_cases hkj : k = j
   ·subst hkj
    simp only [List.getElem_set_self]
    rw [wf_get _ _ hk']
    exact ih k hk' r' (by simp) (by simpa [D.node,hk'] using hn)
   ·rw [List.getElem_set_ne (fun e => hkj e.symm)]
    refine beside (hr k hk') fun s => ?_
    rw [List.append_assoc]
    exact not_pre_sibling (fun e => hkj e.symm)

def subT (O : Own) (t : Nat) (p : List Nat) (g : Nat) : Option (List Nat) := match O g with
 | some (r,l) => if r = t ∧ p <+: l then some (l.drop p.length) else none
 | none => none

theorem subT_some {O : Own} {t : Nat} {p : List Nat} {g : Nat} {q : List Nat} : subT O t p g = some q ↔ O g = some (t,p ++ q) := by
 unfold subT
 constructor
 ·intro h
  split at h
  ·rename_i r l hO
   split at h
   ·rename_i hc
    obtain ⟨rfl,s,rfl⟩ := hc
    simp only [List.drop_left,Option.some.injEq] at h
    subst h
    exact hO
   ·cases h
  ·cases h
 ·intro h
  rw [h]
  simp

def D.isAgg : D → Bool
 | .agg _ => true
 | _ => false
def subA (O : Own) (t : Nat) (p : List Nat) (d0 : D) (g : Nat) : Option (List Nat) := match subT O t p g with
 | some [] => if d0.isAgg = true then none else some []
 | z => z
theorem subA_some {O : Own} {t : Nat} {p : List Nat} {d0 : D} {g : Nat} {q : List Nat} : subA O t p d0 g = some q ↔ O g = some (t,p ++ q) ∧ (q = [] → d0.isAgg = false) := by
 rw [← subT_some]
 unfold subA
 split
 ·rename_i h
  by_cases hd : d0.isAgg = true
  ·rw [if_pos hd]
   constructor
   ·intro h; cases h
   ·rintro ⟨h1,h2⟩
    rw [h] at h1
    simp only [Option.some.injEq] at h1
    rw [h2 h1.symm] at hd; cases hd
  ·rw [if_neg hd]
   constructor
   ·intro h1; exact ⟨h.trans h1,fun _ => by simpa using hd⟩
   ·intro h1; exact h.symm.trans h1.1
 ·rename_i z h
  constructor
  ·intro h1; exact ⟨h1,fun hq => absurd (hq ▸ h1) h⟩
  ·intro h1; exact h1.1
theorem subA_none {O : Own} {t : Nat} {p : List Nat} {d0 : D} {g : Nat} (h : ∀ q,O g ≠ some (t,p ++ q)) : subA O t p d0 g = none := by
 cases hs : subA O t p d0 g with
 | none => rfl
 | some q => exact absurd (subA_some.1 hs).1 (h q)
theorem OwnU.toA {w : World} {O : Own} {t : Nat} {p : List Nat} {d0 : D} {v : Value} (h : OwnU w O t p v d0) : OwnU w (asO (subA O t p d0)) 0 [] v d0 := by
 have key : d0.isAgg = false → OwnU w (asO (subA O t p d0)) 0 [] v d0 := fun hd =>
  h.keep [] fun g q hg => ⟨by simp [asO,(subA_some (d0 := d0)).2 ⟨hg,fun _ => hd⟩],rfl⟩
 cases hd0 : d0 with
 | agg xs =>
  subst hd0
  cases h with
  | agg _ cs _ vs h1 h2 h3 =>
   refine .agg [] cs xs vs h1 h2 fun i hi => (h3 i hi).keep ([] ++ [i]) fun g q hg => ⟨?_,rfl⟩
   have : subA O t p (.agg xs) g = some ([i] ++ q) := subA_some.2 ⟨by rw [hg,List.append_assoc],fun e => by simp at e⟩
   simp [asO,this]
 | _ => rw [← hd0]; exact key (by rw [hd0]; rfl)
theorem OwnU.fromA {w' : World} {O' : Own} {C' : Nat → Option (List Nat)} {t : Nat} {p : List Nat} {d0 d' : D} {v : Value} (h : OwnU w' (asO C') 0 [] v d') (hv : d0.isAgg = true → ∃ cs,v = .agg cs)
  (H : ∀ g q,C' g = some q → (q = [] → d0.isAgg = false) → O' g = some (t,p ++ q)) : OwnU w' O' t p v d' := by
 have hin : ∀ g q,asO C' g = some (0,q) → C' g = some q := fun g q hg => by
  simp only [asO,Option.map_eq_some_iff,Prod.mk.injEq,true_and] at hg
  obtain ⟨q',h1,rfl⟩ := hg
  exact h1
 cases hd : d0.isAgg with
 | false => exact h.keep p fun g q hg => ⟨H g q (hin g q (by simpa using hg)) fun _ => hd,rfl⟩
 | true =>
  obtain ⟨cs,rfl⟩ := hv hd
  cases h with
  | agg _ _ ys vs h1 h2 h3 =>
   refine .agg p cs ys vs h1 h2 fun i hi => (h3 i hi).keep (p ++ [i]) fun g q hg => ⟨?_,rfl⟩
   have := H g ([i] ++ q) (hin g _ (by simpa using hg)) (fun e => by simp at e)
   rw [this,List.append_assoc]
  | gone => exact .gone _ _

open Classical in
noncomputable def mutP (t : Nat) (p : List Nat) (d d' D0 : D) : VV := match p,D0,d,d' with
 | [],.ptr xs,.agg zs,.agg ys => if xs = zs then .ref t [] true (.ptr ys) else .dead
 | _,_,_,_ => .dead
open Classical in
noncomputable def mutVV (t : Nat) (p : List Nat) (d d' : D) (x : VV) : VV :=
 match x with
 | .ref r [] true D0 => if r = t then (if D.node p D0 = d then .ref t [] true (D.put p D0 d') else mutP t p d d' D0) else x
 | .al r xs => if r = t then (if D.node p (.agg xs) = d then (match D.put p (.agg xs) d' with | .agg ys => .al t ys | _ => .dead) else .dead) else x
 | _ => if x.on t then .dead else x

theorem mutP_cases (t : Nat) (p : List Nat) (d d' D0 : D) : mutP t p d d' D0 = .dead ∨ ∃ xs ys,D0 = .ptr xs ∧ p = [] ∧ d = .agg xs ∧ d' = .agg ys ∧ mutP t p d d' D0 = .ref t [] true (.ptr ys) := by
 unfold mutP
 split
 ·split
  ·rename_i h; subst h
   exact .inr ⟨_,_,rfl,rfl,rfl,rfl,rfl⟩
  ·exact .inl rfl
 ·exact .inl rfl
theorem mutVV_cases (t : Nat) (p : List Nat) (d d' : D) (x : VV) : mutVV t p d d' x = .dead ∨ (x.on t = false ∧ mutVV t p d d' x = x) ∨
  (∃ D0,x = .ref t [] true D0 ∧ D.node p D0 = d ∧ mutVV t p d d' x = .ref t [] true (D.put p D0 d')) ∨
  (∃ xs ys,x = .al t xs ∧ D.node p (.agg xs) = d ∧ D.put p (.agg xs) d' = .agg ys ∧ mutVV t p d d' x = .al t ys) ∨
  (∃ xs ys,x = .ref t [] true (.ptr xs) ∧ p = [] ∧ d = .agg xs ∧ d' = .agg ys ∧ mutVV t p d d' x = .ref t [] true (.ptr ys)) := by
 have other : (∀ r D0,x ≠ .ref r [] true D0) → (∀ r xs,x ≠ .al r xs) → mutVV t p d d' x = if x.on t then .dead else x := by
  intro h h2
  unfold mutVV
  split
  ·exact absurd rfl (h _ _)
  ·exact absurd rfl (h2 _ _)
  ·rfl
 by_cases hx : ∃ r D0,x = .ref r [] true D0
 ·obtain ⟨r,D0,rfl⟩ := hx
  by_cases hr : r = t
  ·subst hr
   by_cases hn : D.node p D0 = d
   ·exact .inr (.inr (.inl ⟨D0,rfl,hn,by simp [mutVV,hn]⟩))
   ·have e : mutVV r p d d' (.ref r [] true D0) = mutP r p d d' D0 := by simp [mutVV,hn]
    rcases mutP_cases r p d d' D0 with h | ⟨xs,ys,rfl,h2,h3,h4,h5⟩
    ·exact .inl (e.trans h)
    ·exact .inr (.inr (.inr (.inr ⟨xs,ys,rfl,h2,h3,h4,e.trans h5⟩)))
  ·exact .inr (.inl ⟨by simp [VV.on,hr],by simp [mutVV,hr]⟩)
 ·by_cases hx2 : ∃ r xs,x = .al r xs
  ·obtain ⟨r,xs,rfl⟩ := hx2
   by_cases hr : r = t
   ·subst hr
    by_cases hn : D.node p (.agg xs) = d
    ·cases hp : D.put p (.agg xs) d' with
     | agg ys => exact .inr (.inr (.inr (.inl ⟨xs,ys,rfl,hn,hp,by simp [mutVV,hn,hp]⟩)))
     | _ => exact .inl (by simp [mutVV,hn,hp])
    ·exact .inl (by simp [mutVV,hn])
   ·exact .inr (.inl ⟨by simp [VV.on,hr],by simp [mutVV,hr]⟩)
  ·have h := other (fun r D0 e => hx ⟨r,D0,e⟩) (fun r xs e => hx2 ⟨r,xs,e⟩)
   by_cases hon : x.on t = true
   ·exact .inl (by rw [h,if_pos hon])
   ·exact .inr (.inl ⟨by simpa using hon,by rw [h,if_neg hon]⟩)

section
variable {P : Program} {τ : TypeId → TK} {Φ : Orc} {R : Nat → Prop} {B : Nat → Prop} {w0 : W0} {N : Lim} {O : Own} {σ : Frm} {a : Act} {w : World}

theorem wp_mut (h : St R B w0 N O σ a w) {o : Oper} {c : Call} (ho : o.op = .call c) {f : Operand} (hc : c.callee = .value f) {g : FuncId}
  (hf : ev σ f = .val (.fn g [])) {x : Operand} {xs : List Operand} (hargs : c.args.toList = x :: xs) {t : Nat} {p : List Nat} {d0 d' r : D} (hx : ev σ x = .ref t p true d0)
  {ds : List D} (hds : vals σ xs = some ds) (hv : VMut P g d0 ds r d') (hr : r.sc = true) {d : Nat} (hd : o.dst = some d) (hN : d ∈ N)
  {K : Act → World → Prop} {Q : Exit → Act → World → Prop} (hK : ∀ O' a' w',St R B w0 N O' (upd (fun s => mutVV t p d0 d' (σ s)) d (.val r)) a' w' → K a' w') : o.wp P a w K Q := by
 obtain ⟨hcall,hv⟩ := hv
 have hfd := rel_ev h f
 rw [hf] at hfd
 generalize hfv : a.eval f = fv at hfd
 cases (hfd : Rd w (Fro R O w) fv _) with
 | fn _ cs _ cvs hl hcv hcr =>
 have hcs : cs = #[] := by simpa using hl
 subst hcs
 have hrun : (execOp a.eval o).run P w = .ok (.enter g (c.args.map a.eval)) w := by
  simp only [execOp,ho,resolve,hc,hfv,Deferred.ofValue]
  simp [invoke,hcall]
 unfold Oper.wp
 rw [hrun]
 simp only [Oper.upon]
 obtain ⟨hlen,hvals⟩ := vals_rd h xs ds hds
 have hxr := rel_ev h x
 rw [hx] at hxr
 have htree : OwnU w O t p (a.eval x) d0 := hxr
 have hC : ∀ g q,subA O t p d0 g = some q ↔ O g = some (t,p ++ q) ∧ (q = [] → d0.isAgg = false) := fun g q => subA_some
 have hnoO : ∀ b,O b = none → subA O t p d0 b = none := fun b hb => subA_none fun q => by rw [hb]; simp
 have hagg : ∀ v,OwnU w O t p v d0 → d0.isAgg = true → ∃ cs,v = .agg cs := fun v hv h => by
  cases hv <;> first | exact ⟨_,rfl⟩ | (simp [D.isAgg] at h)
 have hmap : (c.args.map a.eval).toList = (x :: xs).map a.eval := by rw [Array.toList_map,hargs]
 have hsz : (c.args.map a.eval).size = ds.length + 1 := by rw [← Array.length_toList,hmap]; simp [hlen]
 have hget : ∀ i : Nat,(c.args.map a.eval)[i]? = ((x :: xs).map a.eval)[i]? := fun i => by rw [← hmap,Array.getElem?_toList]
 have key := hv w (Fro R O w) (subA O t p d0) (c.args.map a.eval) (a.eval x)
  (fun g hg => ⟨hg.2.1,hnoO g hg.1⟩) (fun g q hg => (h.own g _ ((hC g q).1 hg).1).2)
  (fun g g' q h1 h2 => h.inj g g' _ ((hC g q).1 h1).1 ((hC g' q).1 h2).1)
  htree.toA hsz (by rw [hget]; rfl)
  (fun i hi => by obtain ⟨u,h1,h2⟩ := hvals i hi; exact ⟨u,by rw [hget]; simpa using h1,h2⟩)
 refine key.mono ?_
 rintro e w' ⟨y,C',rfl,hy,hb,hC1,hC2,hnew⟩
 simp only
 rw [hd]
 have hsame : ∀ b,b < w.heap.size → subA O t p d0 b = none → w'.heap[b]? = w.heap[b]? := fun b h1 h2 => hb.block b ⟨h1,h2⟩
 let O' : Own := fun b => if b < w.heap.size ∧ subA O t p d0 b = none then O b else (C' b).bind fun q => if q = [] ∧ d0.isAgg = true then none else some (t,p ++ q)
 have hold : ∀ b,b < w.heap.size → subA O t p d0 b = none → O' b = O b := fun b h1 h2 => by simp only [O',if_pos (⟨h1,h2⟩ : b < w.heap.size ∧ subA O t p d0 b = none)]
 have hneu : ∀ b,¬ (b < w.heap.size ∧ subA O t p d0 b = none) → O' b = (C' b).bind fun q => if q = [] ∧ d0.isAgg = true then none else some (t,p ++ q) := fun b h1 => by simp only [O',if_neg h1]
 have hinv : ∀ b z,O' b = some z → (b < w.heap.size ∧ subA O t p d0 b = none ∧ O b = some z) ∨ (∃ q,C' b = some q ∧ (q = [] → d0.isAgg = false) ∧ z = (t,p ++ q)) := by
  intro b z hz
  by_cases hcb : b < w.heap.size ∧ subA O t p d0 b = none
  ·rw [hold b hcb.1 hcb.2] at hz; exact .inl ⟨hcb.1,hcb.2,hz⟩
  ·rw [hneu b hcb] at hz
   obtain ⟨q,h1,h2⟩ := Option.bind_eq_some_iff.1 hz
   split at h2
   ·cases h2
   ·rename_i hn
    simp only [Option.some.injEq] at h2
    exact .inr ⟨q,h1,fun e => by cases hd : d0.isAgg with
     | false => rfl
     | true => exact absurd ⟨e,hd⟩ hn,h2.symm⟩
 have hCin : ∀ b q,C' b = some q → (q = [] → d0.isAgg = false) → O' b = some (t,p ++ q) := by
  intro b q hq hn
  have := (hC1 b q hq).1
  rw [hneu b (fun hc => by rcases this with h1 | h1; exact h1 hc.2; omega),hq]
  simp only [Option.bind_some]
  rw [if_neg (fun ⟨e,hd⟩ => by rw [hn e] at hd; cases hd)]
 have k : Keeps w w' O O' (fun s => s = t) := by
  refine ⟨hb.size,fun b hbs hbn => ?_,fun b s q hbt hst => ?_⟩
  ·have h2 := hnoO b hbn
   exact ⟨by rw [hold b hbs h2,hbn],hsame b hbs h2⟩
  ·have hbs := (h.own b _ hbt).2
   have h2 : subA O t p d0 b = none := subA_none fun q' => by rw [hbt]; simp [hst]
   exact ⟨by rw [hold b hbs h2,hbt],hsame b hbs h2⟩
 have hBC : ∀ b,B b → b < w.heap.size ∧ subA O t p d0 b = none := fun b hBb => ⟨h.base b hBb,by
  cases hs : subA O t p d0 b with
  | none => rfl
  | some q => exact absurd hBb (h.own b _ ((hC b q).1 hs).1).1⟩
 refine hK O' _ w' ⟨h.below.trans ⟨hb.os,hb.tape,hb.output,hb.size,fun b hBb => hb.block b (hBC b hBb)⟩,fun b hBb => Nat.lt_of_lt_of_le (h.base b hBb) hb.size,h.fresh,?_,?_,
  by simp [Act.put,h.size],h.defers,fun s hs => by rw [getD_put (by rw [h.size]; exact hN.2),if_neg (fun e => by have := hN.1; omega)]; exact h.pin s hs,fun s => ?_⟩
 ·intro b z hz
  rcases hinv b z hz with ⟨h1,h2,h3⟩ | ⟨q,h1,_,rfl⟩
  ·exact ⟨(h.own b _ h3).1,Nat.lt_of_lt_of_le h1 hb.size⟩
  ·refine ⟨fun hBb => ?_,(hC1 b q h1).2⟩
   have h2 := hBC b hBb
   rcases (hC1 b q h1).1 with h3 | h3
   ·exact h3 h2.2
   ·omega
 ·intro b b' z h1 h2
  rcases hinv b z h1 with ⟨b1,b2,b3⟩ | ⟨q,b1,bn,rfl⟩ <;> rcases hinv b' _ h2 with ⟨c1,c2,c3⟩ | ⟨q',c1,cn,c2⟩
  ·exact h.inj b b' _ b3 c3
  ·subst c2; rw [(hC b q').2 ⟨b3,cn⟩] at b2; cases b2
  ·rw [(hC b' q).2 ⟨c3,bn⟩] at c2; cases c2
  ·simp only [Prod.mk.injEq,true_and,List.append_cancel_left_eq] at c2
   subst c2
   exact hC2 b b' q b1 c1
 ·rw [getD_put (by rw [h.size]; exact hN.2)]
  unfold upd
  by_cases hs : s = d
  ·rw [if_pos hs,if_pos hs]
   exact (sc_rd hr (sc_own hr hy (fun _ => none) w' 0 []) _ _ : Rd w' (Fro R O' w') y r)
  ·rw [if_neg hs,if_neg hs]
   have hslot := h.slots s
   have away : (σ s).on t = false → Rel R w' O' (σ s) (a.tmps.getD s undef) := fun hon => hslot.keeps k (fun r hr => by rw [hr]; exact hon)
   have hkeep : ∀ b q,O b = some (t,q) → ¬ p <+: q → O' b = some (t,q) ∧ w'.heap[b]? = w.heap[b]? := fun b q hq hnp => by
    have h2 : subA O t p d0 b = none := subA_none fun q' e => hnp (by rw [hq] at e; simp only [Option.some.injEq,Prod.mk.injEq,true_and] at e; exact ⟨q',e.symm⟩)
    have hbs := (h.own b _ hq).2
    exact ⟨by rw [hold b hbs h2,hq],hsame b hbs h2⟩
   have hneww : ∀ v,OwnU w O t p v d0 → OwnU w' O' t p v d' := fun v hvv => (hnew v hvv.toA).fromA (hagg v hvv) hCin
   rcases mutVV_cases t p d0 d' (σ s) with hm | ⟨hon,hm⟩ | ⟨D0,hσ,hnode,hm⟩ | ⟨xs,ys,hσ,hnode,hput,hm⟩ | ⟨xs,ys,hσ,hp0,hd0,hd',hm⟩
   ·simp only [hm]; exact trivial
   ·simp only [hm]; exact away hon
   ·simp only [hm]
    rw [hσ] at hslot
    have hown : OwnU w O t [] (a.tmps.getD s undef) D0 := hslot
    show OwnU w' O' t [] _ _
    exact OwnU.sub (p := p) (D0 := d0) hkeep hneww hown p (by simp) hnode
   ·simp only [hm]
    rw [hσ] at hslot
    obtain ⟨g1,cur,E,fr,e1,e2,e3,e4⟩ := hslot
    have h0 := k.fro g1 e2.2.1 e2.1
    refine ⟨g1,cur,E,fr,e1,⟨h0.1,Nat.lt_of_lt_of_le e2.2.1 hb.size,e2.2.2⟩,by rw [h0.2]; exact e3,?_⟩
    rw [← hput]
    exact OwnU.sub (p := p) (D0 := d0) hkeep hneww e4 p (by simp) hnode
   ·simp only [hm]
    rw [hσ] at hslot
    subst hp0; subst hd0; subst hd'
    have hown : OwnU w O t [] (a.tmps.getD s undef) (.ptr xs) := hslot
    show OwnU w' O' t [] _ _
    generalize a.tmps.getD s undef = sv at hown
    cases hown with
    | ptr _ g1 cur E _ vs h1 h2 h3 h4 h5 =>
     have hroot : subA O t [] (.agg xs) g1 = none := by
      cases hs : subA O t [] (.agg xs) g1 with
      | none => rfl
      | some q =>
       have := (hC g1 q).1 hs
       rw [h1] at this
       simp only [List.nil_append,Option.some.injEq,Prod.mk.injEq,true_and] at this
       exact absurd (this.2 this.1.symm) (by simp [D.isAgg])
     have hbs := (h.own g1 _ h1).2
     have h6 := hneww (.agg cur) (.agg [] cur xs vs h3 h4 h5)
     cases h6 with
     | agg _ _ _ vs' k1 k2 k3 =>
      exact .ptr [] g1 cur E ys vs' (by rw [hold g1 hbs hroot,h1]) (by rw [hsame g1 hbs hroot]; exact h2) k1 k2 k3
end
end Go.Vam
