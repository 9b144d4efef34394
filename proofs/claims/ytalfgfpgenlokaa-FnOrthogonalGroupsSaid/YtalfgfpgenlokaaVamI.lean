/- Stores. -/
import Derived.Test.YtalfgfpgenlokaaVamH
namespace Go.Vam
open Go Go.RowKit

def D.node : List Nat → D → D
 | [],d => d
 | j :: r,.list xs => D.node r (xs.getD j default)
 | j :: r,.ptr xs => D.node r (xs.getD j default)
 | j :: r,.agg xs => D.node r (xs.getD j default)
 | _ :: _,d => d

section
variable {P : Program} {τ : TypeId → TK} {Φ : Orc} {R : Nat → Prop} {B : Nat → Prop} {w0 : W0} {N : Lim} {O : Own} {σ : Frm} {a : Act} {w : World}

theorem put_leaf (d : D) (l : List Nat) (e : D) (hl : l ≠ []) (h : ∀ xs,d ≠ .list xs ∧ d ≠ .ptr xs ∧ d ≠ .agg xs) : D.put l d e = d := by
 cases l with
 | nil => exact absurd rfl hl
 | cons j r =>
  cases d with
  | list xs => exact absurd rfl (h xs).1
  | ptr xs => exact absurd rfl (h xs).2.1
  | agg xs => exact absurd rfl (h xs).2.2
  | _ => rfl

theorem not_pre_sibling {q : List Nat} {j k : Nat} {r r' : List Nat} (h : j ≠ k) : ¬ (q ++ j :: r) <+: (q ++ k :: r') := by
 intro hp
 rw [List.prefix_append_right_inj] at hp
 obtain ⟨s,hs⟩ := hp
 simp only [List.cons_append,List.cons.injEq] at hs
 exact h hs.1

theorem OwnU.put {w w' : World} {O O' : Own} {t g0 i : Nat} {p : List Nat} {cur : Array Value} {E : TypeId} {cv : Value} {e : D}
  (hO : O g0 = some (t,p)) (hinj : ∀ g g' x,O g = some x → O g' = some x → g = g')
  (h0 : w.heap[g0]? = some (.cells cur E (0,0))) (h1 : w'.heap[g0]? = some (.cells (cur.setIfInBounds i cv) E (0,0))) (hi : i < cur.size)
  (hsame : ∀ g q,O g = some (t,q) → g ≠ g0 → w'.heap[g]? = w.heap[g]?)
  (hkeep : ∀ g q,O g = some (t,q) → ¬ (p ++ [i]) <+: q → O' g = some (t,q))
  (hnew : OwnU w' O' t (p ++ [i]) cv e) {q : List Nat} {v : Value} {d : D} (h : OwnU w O t q v d) :
  ∀ r,p = q ++ r → (∀ xs,D.node r d ≠ .agg xs) → OwnU w' O' t q v (D.put (r ++ [i]) d e) := by
 have ne0 : ∀ g q',O g = some (t,q') → q' ≠ p → g ≠ g0 := fun g q' hg hne e' => hne (by rw [e',hO] at hg; simp at hg; exact hg.symm)
 have beside : ∀ {q : List Nat} {v : Value} {d : D},OwnU w O t q v d → (∀ s,¬ (p ++ [i]) <+: (q ++ s)) → (∀ s,q ++ s ≠ p) → OwnU w' O' t q v d := by
  intro q v d hh hn hp
  exact hh.keep q fun g s hs => ⟨hkeep g _ hs (hn s),hsame g _ hs (ne0 g _ hs (hp s))⟩
 induction h with
 | int q k n => intro r _ _; rw [put_leaf _ _ _ (by simp) (by simp)]; exact .int q k n
 | bool q b => intro r _ _; rw [put_leaf _ _ _ (by simp) (by simp)]; exact .bool q b
 | gone q v => intro r _ _; rw [put_leaf _ _ _ (by simp) (by simp)]; exact .gone q v
 | nil q =>
  intro r _ _
  have : D.put (r ++ [i]) (.list []) e = .list [] := by cases r <;> simp [D.put]
  rw [this]; exact .nil q
 | list q g cap cur' E' xs vs hOg hg hl hm hc hv hr ih =>
  intro r hr' hna
  cases r with
  | nil =>
   simp only [List.append_nil] at hr'
   subst hr'
   have hgg := hinj g g0 _ hOg hO
   subst hgg
   rw [h0] at hg
   simp only [Option.some.injEq,Obj.cells.injEq,and_true] at hg
   obtain ⟨rfl,rfl⟩ := hg
   have hlen : (xs.set i e).length = xs.length := by simp
   simp only [List.nil_append,D.put]
   rw [← hlen]
   refine .list p g cap _ E (xs.set i e) (fun j => if j = i then cv else vs j) (hkeep g p hO (fun hp => by have := hp.length_le; simp at this; omega)) h1 (by omega) hm (by simp [hc]) (fun j hj => ?_) fun j hj => ?_
   ·by_cases hji : j = i
    ·subst hji; simp [hi]
    ·simp only [if_neg hji]
     rw [Array.getElem?_setIfInBounds_ne (fun e => hji e.symm)]; exact hv j (by omega)
   ·by_cases hji : j = i
    ·subst hji; simp; exact hnew
    ·simp only [if_neg hji]
     rw [List.getElem_set_ne (fun e => hji e.symm)]
     exact beside (hr j (by omega)) (fun s => by rw [List.append_assoc]; exact not_pre_sibling (fun e => hji e.symm)) (fun s hs => by have := congrArg List.length hs; simp at this)
  | cons j r' =>
   subst hr'
   have hOg' := hkeep g q hOg (fun hp => by have := hp.length_le; simp at this; omega)
   have hne := ne0 g q hOg (fun e => by have := congrArg List.length e; simp at this)
   have hlen : (xs.set j (D.put (r' ++ [i]) (xs.getD j default) e)).length = xs.length := by simp
   simp only [List.cons_append,D.put]
   rw [← hlen]
   refine .list q g cap cur' E' _ vs hOg' (by rw [hsame g q hOg hne]; exact hg) (by omega) hm hc (fun k hk => hv k (by omega)) fun k hk => ?_
   have hk' : k < xs.length := by omega
   by_cases hkj : k = j
   ·subst hkj
    simp only [List.getElem_set_self]
    rw [wf_get _ _ hk']
    exact ih k hk' r' (by simp) (fun ys => by have := hna ys; simpa [D.node,hk'] using this)
   ·rw [List.getElem_set_ne (fun e => hkj e.symm)]
    exact beside (hr k hk') (fun s => by
     rw [List.append_assoc,List.append_assoc]; exact not_pre_sibling (fun e => hkj e.symm)) (fun s hs => by
     rw [List.append_assoc] at hs
     have := List.append_cancel_left hs
     simp only [List.singleton_append,List.cons.injEq] at this
     exact hkj this.1)
 | agg q cs xs vs hl hv hr ih =>
  intro r hr' hna
  cases r with
  | nil =>
   exact absurd rfl (hna xs)
  | cons j r' =>
   subst hr'
   simp only [List.cons_append,D.put]
   have hlen : (xs.set j (D.put (r' ++ [i]) (xs.getD j default) e)).length = xs.length := by simp
   refine .agg q cs _ vs (by omega) (fun k hk => hv k (by omega)) fun k hk => ?_
   have hk' : k < xs.length := by omega
   by_cases hkj : k = j
   ·subst hkj
    simp only [List.getElem_set_self]
    rw [wf_get _ _ hk']
    exact ih k hk' r' (by simp) (fun ys => by have := hna ys; simpa [D.node,hk'] using this)
   ·rw [List.getElem_set_ne (fun e => hkj e.symm)]
    exact beside (hr k hk') (fun s => by
     rw [List.append_assoc,List.append_assoc]; exact not_pre_sibling (fun e => hkj e.symm)) (fun s hs => by
     rw [List.append_assoc] at hs
     have := List.append_cancel_left hs
     simp only [List.singleton_append,List.cons.injEq] at this
     exact hkj this.1)
 | ptr q g cur' E' xs vs hOg hg hl hv hr ih =>
  intro r hr' hna
  cases r with
  | nil =>
   simp only [List.append_nil] at hr'
   subst hr'
   have hgg := hinj g g0 _ hOg hO
   subst hgg
   rw [h0] at hg
   simp only [Option.some.injEq,Obj.cells.injEq,and_true] at hg
   obtain ⟨rfl,rfl⟩ := hg
   simp only [List.nil_append,D.put]
   refine .ptr p g _ E (xs.set i e) (fun j => if j = i then cv else vs j) (hkeep g p hO (fun hp => by have := hp.length_le; simp at this; omega)) h1 (by simp [hl]) (fun j hj => ?_) fun j hj => ?_
   ·have hj' : j < xs.length := by simpa using hj
    by_cases hji : j = i
    ·subst hji; simp [hi]
    ·simp only [if_neg hji]
     rw [Array.getElem?_setIfInBounds_ne (fun e => hji e.symm)]; exact hv j hj'
   ·have hj' : j < xs.length := by simpa using hj
    by_cases hji : j = i
    ·subst hji; simp; exact hnew
    ·simp only [if_neg hji]
     rw [List.getElem_set_ne (fun e => hji e.symm)]
     exact beside (hr j hj') (fun s => by rw [List.append_assoc]; exact not_pre_sibling (fun e => hji e.symm)) (fun s hs => by have := congrArg List.length hs; simp at this)
  | cons j r' =>
   subst hr'
   have hOg' := hkeep g q hOg (fun hp => by have := hp.length_le; simp at this; omega)
   have hne := ne0 g q hOg (fun e => by have := congrArg List.length e; simp at this)
   simp only [List.cons_append,D.put]
   refine .ptr q g cur' E' _ vs hOg' (by rw [hsame g q hOg hne]; exact hg) (by simp [hl]) (fun k hk => hv k (by simpa using hk)) fun k hk => ?_
   have hk' : k < xs.length := by simpa using hk
   by_cases hkj : k = j
   ·subst hkj
    simp only [List.getElem_set_self]
    rw [wf_get _ _ hk']
    exact ih k hk' r' (by simp) (fun ys => by have := hna ys; simpa [D.node,hk'] using this)
   ·rw [List.getElem_set_ne (fun e => hkj e.symm)]
    exact beside (hr k hk') (fun s => by
     rw [List.append_assoc,List.append_assoc]; exact not_pre_sibling (fun e => hkj e.symm)) (fun s hs => by
     rw [List.append_assoc] at hs
     have := List.append_cancel_left hs
     simp only [List.singleton_append,List.cons.injEq] at this
     exact hkj this.1)


def VV.place : VV → Option (Nat × List Nat × Nat × Bool)
 | .adr t p i u _ => some (t,p,i,u)
 | .ref t p u (.ptr [_]) => some (t,p,0,u)
 | _ => none

def VV.given (u : Bool) : VV → Option (D × Option Nat)
 | .val d => if d.one = true ∧ (d.sc = true ∨ u = false) then some (d,none) else none
 | .ref t [] u' d => if (u = true → u' = true) ∧ d.one = true then some (d,some t) else none
 | _ => none

def D.isNode : D → Nat → Bool
 | .list xs,i => decide (i < xs.length)
 | .ptr xs,i => decide (i < xs.length)
 | _,_ => false

def diverge (m : Nat) : List Nat → Bool
 | [] => false
 | k :: _ => decide (m ≠ k)

def storeVV (t : Nat) (p : List Nat) (i : Nat) (u : Bool) (e : D) (tv : Option Nat) (x : VV) : VV :=
 match x with
 | .ref r [] u' d => if r = t then (if u' = u ∧ (D.node p d).isNode i = true then .ref t [] u (D.put (p ++ [i]) d e) else .dead) else if tv = some r then .dead else x
 | .ref r (m :: q) true d => if r = t then (if u = true ∧ p = m :: q ∧ d.isNode i = true then .ref t (m :: q) true (D.put [i] d e) else if diverge m p = true then .ref r (m :: q) true d else .dead) else if tv = some r then .dead else x
 | .clo f cs => if tv.any (fun r => (VV.clo f cs).on r) = true then .dead else .clo f cs
 | .cel q f cs => if q = t ∨ tv.any (fun r => (VV.cel q f cs).on r) = true then .dead else .cel q f cs
 | _ => if x.on t then .dead else match tv with
  | some r => if x.on r then .dead else x
  | none => x

theorem CloR.roots {R : Nat → Prop} {w w' : World} {O O' : Own} {r : Nat → Prop} (k : Keeps w w' O O' r) {f : FuncId} {cs : List Cap} {v : Value}
  (hr : ∀ t g,(cs.any fun c => c.on t) = true → O g = some (t,[]) → O' g = some (t,[])) (h : CloR R w O f cs v) : CloR R w' O' f cs v := by
 obtain ⟨vs,h1,h2,h3⟩ := h
 refine ⟨vs,h1,h2,fun i hi => ?_⟩
 obtain ⟨u,h4,h5⟩ := h3 i hi
 refine ⟨u,h4,?_⟩
 have hm : cs[i] ∈ cs := List.getElem_mem hi
 cases hc : cs[i] with
 | tok t =>
  rw [hc] at h5
  obtain ⟨g,h6,h7⟩ := h5
  refine ⟨g,h6,hr t g (List.any_eq_true.2 ⟨_,hm,by rw [hc]; simp [Cap.on]⟩) h7⟩
 | dat d =>
  rw [hc] at h5
  exact Rd.fro k h5

def vstore (τ : TypeId → TK) (T : TypeId) (ad x : VV) (σ : Frm) : Option Frm :=
 match τ T,ad.place with
 | .st _,_ => none
 | .ss _ _,_ => none
 | .fn,_ => none
 | .ar _,_ => none
 | .other,_ => none
 | _,some (t,p,i,u) => if u = false ∧ p ≠ [] then none else
  match x.given u with
  | some (e,tv) => if tv = some t then none else some fun s => storeVV t p i u e tv (σ s)
  | none => none
 | _,none => none

def sto (O : Own) (t : Nat) (l : List Nat) (tv : Option Nat) (u : Bool) : Own := fun g =>
 match O g with
 | none => none
 | some (r,q) => if r = t then (if l.isPrefixOf q then none else some (r,q)) else if tv = some r then (if u then some (t,l ++ q) else none) else some (r,q)

theorem sto_inv {O : Own} {t : Nat} {l : List Nat} {tv : Option Nat} {u : Bool} {g r : Nat} {q : List Nat} (h : sto O t l tv u g = some (r,q)) :
  (r = t ∧ ¬ l <+: q ∧ O g = some (t,q)) ∨ (r = t ∧ ∃ r' q',tv = some r' ∧ r' ≠ t ∧ q = l ++ q' ∧ O g = some (r',q')) ∨ (r ≠ t ∧ tv ≠ some r ∧ O g = some (r,q)) := by
 unfold sto at h
 split at h
 ·cases h
 ·rename_i r' q' hO
  split at h
  ·rename_i hr
   split at h
   ·cases h
   ·rename_i hp
    simp only [Option.some.injEq,Prod.mk.injEq] at h
    obtain ⟨rfl,rfl⟩ := h
    subst hr
    exact .inl ⟨rfl,fun hh => hp (List.isPrefixOf_iff_prefix.2 hh),hO⟩
  ·rename_i hr
   split at h
   ·rename_i htv
    split at h
    ·simp only [Option.some.injEq,Prod.mk.injEq] at h
     exact .inr (.inl ⟨h.1.symm,r',q',htv,hr,h.2.symm,hO⟩)
    ·cases h
   ·rename_i htv
    simp only [Option.some.injEq,Prod.mk.injEq] at h
    obtain ⟨rfl,rfl⟩ := h
    exact .inr (.inr ⟨hr,htv,hO⟩)

theorem place_cell {x : VV} {v : Value} (hr : Rel R w O x v) {t : Nat} {p : List Nat} {i : Nat} {u : Bool} (hp : x.place = some (t,p,i,u)) :
  ∃ g cur E,v = .pointer (some ⟨g,i,none⟩) ∧ O g = some (t,p) ∧ w.heap[g]? = some (.cells cur E (0,0)) ∧ i < cur.size := by
 unfold VV.place at hp
 split at hp <;> simp only [Option.some.injEq,Prod.mk.injEq,reduceCtorEq] at hp
 ·obtain ⟨rfl,rfl,rfl,rfl⟩ := hp
  obtain ⟨g,cur,E,cv,h1,h2,h3,h4,_⟩ := hr
  exact ⟨g,cur,E,h1,h2,h3,(Array.getElem?_eq_some_iff.1 h4).1⟩
 ·obtain ⟨rfl,rfl,rfl,rfl⟩ := hp
  rename_i t p u d
  cases u with
  | true =>
   cases (hr : OwnU w O t p v (.ptr [d])) with
   | ptr _ g cur E _ vs h1 h2 h3 h4 h5 => exact ⟨g,cur,E,rfl,h1,h2,by simp at h3; omega⟩
  | false =>
   cases (hr : OwnF R w O t p v (.ptr [d])) with
   | ptr g cur E _ vs h1 h2 h3 h4 h5 => exact ⟨g,cur,E,rfl,h1,h2,by simp at h3; omega⟩

theorem run_storeAt {T : TypeId} (hT : TyOk1 P T (τ T)) (hk : ∀ zs,τ T ≠ .st zs) (hk' : τ T ≠ .other ∧ ∀ zs,τ T ≠ .ar zs) (hk2 : ∀ e m,τ T ≠ .ss e m) {g i : Nat} {cur : Array Value} {E : TypeId} {v : Value}
  (hg : w.heap[g]? = some (.cells cur E (0,0))) (hi : i < cur.size) (hv : v.cells = #[v]) (hv1 : v.oneCell' = true) :
  (Instr.storeAt T (.pointer (some ⟨g,i,none⟩)) v).run P w = .ok () (w.setCell ⟨g,i,none⟩ v) := by
 have hs : ∃ ti,P.info? T = some ti ∧ ti.size = 1 := by
  cases ht : τ T <;> rw [ht] at hT
  ·obtain ⟨⟨i,z,h1,h2,_⟩,_⟩ := hT; exact ⟨i,h1,by simpa using h2⟩
  ·obtain ⟨⟨i,z,h1,h2,_⟩,_⟩ := hT; exact ⟨i,h1,by simpa using h2⟩
  ·obtain ⟨⟨i,z,h1,h2,_⟩,_⟩ := hT; exact ⟨i,h1,by simpa using h2⟩
  ·exact absurd ht (hk _)
  ·exact absurd ht (hk2 _ _)
  ·obtain ⟨⟨i,z,h1,h2,_⟩,_⟩ := hT; exact ⟨i,h1,h2⟩
  ·exact absurd ht (hk'.2 _)
  ·exact absurd ht hk'.1
 obtain ⟨ti,hti,hsz⟩ := hs
 have hc : w.cell? ⟨g,i,none⟩ = some cur[i] := by simp [World.cell?,hg,hi]
 have hf : w.frozen? ⟨g,i,none⟩ = false := frozen_of_row w g i cur E hg
 have hst : (store ⟨g,i,none⟩ v).run P w = .ok () (w.setCell ⟨g,i,none⟩ v) := by
  rw [run_store P w _ v .plain hv1,hc]; simp [hf]
 have hadd : (⟨g,i,none⟩ : Addr).add 0 = ⟨g,i,none⟩ := by simp [Addr.add]
 simp [Instr.storeAt,Instr.sureAddr,storeVar,sizeOf_run hti,hsz,hv,storeCells,hadd,hst]

theorem setCell_block {g i : Nat} {cur : Array Value} {E : TypeId} {fr : Nat × Nat} {v : Value} (hg : w.heap[g]? = some (.cells cur E fr)) :
  (w.setCell ⟨g,i,none⟩ v).heap[g]? = some (.cells (cur.setIfInBounds i v) E fr) := by
 simp only [World.setCell,Array.getElem?_modify,hg]
 simp

theorem sound_store (hτ : TyOk P τ) (h : St R B w0 N O σ a w) {o : Oper} {T : TypeId} {ad x : Operand} (ho : o.op = .store T ad x) {σ' : Frm}
  (hv : vstore τ T (ev σ ad) (ev σ x) σ = some σ') : ∃ w' O',(execOp a.eval o).run P w = .ok .skip w' ∧ St R B w0 N O' σ' a w' := by
 have key : ∀ t p i u,(∀ zs,τ T ≠ .st zs) → (τ T ≠ .other ∧ ∀ zs,τ T ≠ .ar zs) → (∀ e m,τ T ≠ .ss e m) → (ev σ ad).place = some (t,p,i,u) →
   (if u = false ∧ p ≠ [] then none else match (ev σ x).given u with
    | some (e,tv) => if tv = some t then none else some (fun s => storeVV t p i u e tv (σ s))
    | none => none) = some σ' → ∃ w' O',(execOp a.eval o).run P w = .ok .skip w' ∧ St R B w0 N O' σ' a w' := by
  intro t p i u hk1 hk2 hk3 hpl hv
  split at hv <;> try cases hv
  rename_i hup
  split at hv <;> try cases hv
  rename_i e tv hgv
  split at hv <;> simp only [Option.some.injEq,reduceCtorEq] at hv
  rename_i htv
  subst hv
  obtain ⟨g0,cur,E,hadv,hO,h0,hi⟩ := place_cell (rel_ev h ad) hpl
  have hxr := rel_ev h x
  have hval : (a.eval x).cells = #[a.eval x] ∧ (a.eval x).oneCell' = true ∧ (tv = none → (e.sc = true ∨ u = false) ∧ Rd w (Fro R O w) (a.eval x) e) ∧
    (∀ r,tv = some r → ∃ u',(u = true → u' = true) ∧ Tree R w O r [] u' (a.eval x) e) := by
   unfold VV.given at hgv
   split at hgv
   ·rename_i d hd
    rw [hd] at hxr
    split at hgv <;> simp only [Option.some.injEq,Prod.mk.injEq,reduceCtorEq] at hgv
    rename_i hc
    obtain ⟨rfl,rfl⟩ := hgv
    exact ⟨one_cells hxr hc.1,one_one hxr hc.1,fun _ => ⟨hc.2,hxr⟩,fun r hr => by cases hr⟩
   ·rename_i r u' d hd
    rw [hd] at hxr
    split at hgv <;> simp only [Option.some.injEq,Prod.mk.injEq,reduceCtorEq] at hgv
    rename_i hc
    obtain ⟨rfl,rfl⟩ := hgv
    have hr := Tree.rd (hxr : Tree R w O r [] u' _ _) (S := fun _ => True) (fun _ _ _ => trivial) (fun _ _ => trivial)
    exact ⟨one_cells hr hc.2,one_one hr hc.2,fun hh => (by cases hh),fun r' hr' => by simp only [Option.some.injEq] at hr'; subst hr'; exact ⟨u',hc.1,hxr⟩⟩
   ·cases hgv
  obtain ⟨hc1,hc2,hnone,hsome⟩ := hval
  have hrun := run_storeAt (P := P) (τ := τ) (hτ T) hk1 hk2 hk3 h0 hi hc1 hc2
  let w' := w.setCell ⟨g0,i,none⟩ (a.eval x)
  let O' := sto O t (p ++ [i]) tv u
  have h1 : w'.heap[g0]? = some (.cells (cur.setIfInBounds i (a.eval x)) E (0,0)) := setCell_block h0
  have hother : ∀ g,g ≠ g0 → w'.heap[g]? = w.heap[g]? := fun g hg => heap_setCell_other w _ g _ hg
  have hsz : w'.heap.size = w.heap.size := by simp [w']
  have hO'in : ∀ g r q,O g = some (r,q) → r ≠ t → tv ≠ some r → O' g = some (r,q) := by
   intro g r q hg hr htr
   show sto O t (p ++ [i]) tv u g = _
   unfold sto; rw [hg]; simp [hr,htr]
  have hO't : ∀ g q,O g = some (t,q) → ¬ (p ++ [i]) <+: q → O' g = some (t,q) := by
   intro g q hg hq
   show sto O t (p ++ [i]) tv u g = _
   unfold sto; rw [hg]
   have : (p ++ [i]).isPrefixOf q = false := by
    cases hh : (p ++ [i]).isPrefixOf q with
    | false => rfl
    | true => exact absurd (List.isPrefixOf_iff_prefix.1 hh) hq
   simp [this]
  have hO'v : u = true → ∀ g r q,tv = some r → O g = some (r,q) → O' g = some (t,p ++ [i] ++ q) := by
   intro hu g r q hr hg
   have hne : r ≠ t := fun e => htv (e ▸ hr)
   show sto O t (p ++ [i]) tv u g = _
   unfold sto; rw [hg]; simp [hne,hr,hu]
  have hO'w : u = false → ∀ g r q,tv = some r → O g = some (r,q) → O' g = none := by
   intro hu g r q hr hg
   have hne : r ≠ t := fun e => htv (e ▸ hr)
   show sto O t (p ++ [i]) tv u g = _
   unfold sto; rw [hg]; simp [hne,hr,hu]
  have hnoneO : ∀ g,O g = none → O' g = none := fun g hg => by show sto O t (p ++ [i]) tv u g = _; unfold sto; rw [hg]
  have k : Keeps w w' O O' (fun r => r = t ∨ tv = some r) := by
   refine ⟨by omega,fun g hg hn => ⟨hnoneO g hn,hother g (fun e => by rw [e,hO] at hn; cases hn)⟩,fun g r q hg hr => ?_⟩
   simp only [not_or] at hr
   exact ⟨hO'in g r q hg hr.1 hr.2,hother g (fun e => by rw [e,hO] at hg; simp at hg; exact hr.1 hg.1.symm)⟩
  have hgB := (h.own g0 _ hO)
  have hsame : ∀ g q,O g = some (t,q) → g ≠ g0 → w'.heap[g]? = w.heap[g]? := fun g q _ hne => hother g hne
  have hnewU : u = true → OwnU w' O' t (p ++ [i]) (a.eval x) e := by
   intro hu
   cases htv' : tv with
   | none =>
    obtain ⟨h3,h4⟩ := hnone htv'
    rcases h3 with h3 | h3
    ·exact sc_own h3 h4 _ _ _ _
    ·rw [hu] at h3; cases h3
   | some r =>
    obtain ⟨u',hu',h4⟩ := hsome r htv'
    have hu'' := hu' hu
    subst hu''
    refine OwnU.keep h4 (p ++ [i]) fun g q hq => ?_
    have hq' : O g = some (r,q) := by simpa using hq
    refine ⟨hO'v hu g r q htv' hq',hother g fun e => ?_⟩
    rw [e,hO] at hq'
    simp only [Option.some.injEq,Prod.mk.injEq] at hq'
    exact htv (by rw [htv',hq'.1])
  refine ⟨w',O',?_,⟨h.below.trans ⟨rfl,rfl,rfl,by omega,fun g hg => hother g (fun e => hgB.1 (e ▸ hg))⟩,fun g hg => by rw [hsz]; exact h.base g hg,h.fresh,?_,?_,h.size,h.defers,h.pin,fun s => ?_⟩⟩
  ·simp only [execOp,ho,hadv]
   simp [hrun,w']
  ·rintro g ⟨r,q⟩ hg
   rw [hsz]
   rcases sto_inv hg with ⟨_,_,e⟩ | ⟨_,r',q',_,_,_,e⟩ | ⟨_,_,e⟩ <;> exact h.own g _ e
  ·rintro g g' ⟨r,q⟩ e1 e2
   rcases sto_inv e1 with ⟨a1,a2,a3⟩ | ⟨a1,r1,q1,a2,a3,a4,a5⟩ | ⟨a1,a2,a3⟩ <;> rcases sto_inv e2 with ⟨b1,b2,b3⟩ | ⟨b1,r2,q2,b2,b3,b4,b5⟩ | ⟨b1,b2,b3⟩
   ·exact h.inj g g' _ a3 b3
   ·exact absurd ⟨q2,b4.symm⟩ a2
   ·exact absurd a1 b1
   ·exact absurd ⟨q1,a4.symm⟩ b2
   ·rw [a2] at b2
    simp only [Option.some.injEq] at b2
    subst b2
    rw [a4] at b4
    have := List.append_cancel_left b4
    subst this
    exact h.inj g g' _ a5 b5
   ·exact absurd a1 b1
   ·exact absurd b1 a1
   ·exact absurd b1 a1
   ·exact h.inj g g' _ a3 b3
  ·have hs := h.slots s
   have plain : ∀ y,Rel R w O y (a.tmps.getD s undef) → y.on t = false → (∀ r,tv = some r → y.on r = false) → Rel R w' O' y (a.tmps.getD s undef) := by
    intro y hy h3 h4
    refine Rel.keeps k (fun r hr => ?_) hy
    rcases hr with rfl | hr
    ·exact h3
    ·exact h4 r hr
   unfold storeVV
   split
   ·rename_i r u' d hd
    rw [hd] at hs
    split
    ·rename_i hrt
     subst hrt
     split
     ·rename_i hc
      obtain ⟨hu',hnode⟩ := hc
      subst hu'
      cases u' with
      | true =>
       refine OwnU.put hO h.inj h0 h1 hi hsame hO't (hnewU rfl) (hs : OwnU w O r [] _ d) p (by simp) (fun xs hxs => ?_)
       rw [hxs] at hnode
       simp [D.isNode] at hnode
      | false =>
       have hp : p = [] := by
        by_cases hp : p = []
        ·exact hp
        ·exact absurd ⟨rfl,hp⟩ hup
       subst hp
       have hfro : ∀ {v : Value} {d : D},Rd w (Fro R O w) v d → Rd w' (Fro R O' w') v d := fun hh => Rd.fro k hh
       have hel : Rd w' (Fro R O' w') (a.eval x) e := by
        cases htv' : tv with
        | none => exact hfro (hnone htv').2
        | some r' =>
         obtain ⟨u',_,h4⟩ := hsome r' htv'
         have h5 := Tree.rd h4 (S := fun g => (∃ q,O g = some (r',q)) ∨ Fro R O w g) (fun g q hg => .inl ⟨_,hg⟩) (fun g hg => .inr hg)
         have hne : ∀ g,((∃ q,O g = some (r',q)) ∨ Fro R O w g) → g ≠ g0 := by
          rintro g (⟨q,hq⟩ | hq) e
          ·rw [e,hO] at hq
           simp only [Option.some.injEq,Prod.mk.injEq] at hq
           exact htv (by rw [htv',hq.1])
          ·have := hq.1; rw [e,hO] at this; cases this
         refine h5.keep (fun g hg => ?_) fun g hg => hother g (hne g hg)
         rcases hg with ⟨q,hq⟩ | hg
         ·exact ⟨hO'w rfl g r' q htv' hq,by rw [hsz]; exact (h.own g _ hq).2,h.fresh g (h.own g _ hq).1⟩
         ·exact ⟨hnoneO g hg.1,by rw [hsz]; exact hg.2.1,hg.2.2⟩
       have hroot : O' g0 = some (r,[]) := hO't g0 [] hO (by simp)
       generalize hvv : a.tmps.getD s undef = vv at hs ⊢
       cases (hs : OwnF R w O r [] vv d) with
       | nil => simp [D.node,D.isNode] at hnode
       | list g cap cur2 E2 xs vs q1 q2 q3 q4 q5 q6 q7 =>
        have hgg := h.inj g g0 _ q1 hO
        subst hgg
        rw [h0] at q2
        simp only [Option.some.injEq,Obj.cells.injEq,and_true] at q2
        obtain ⟨rfl,rfl⟩ := q2
        have hlen : (xs.set i e).length = xs.length := by simp
        simp only [List.nil_append,D.put]
        rw [← hlen]
        refine OwnF.list g cap _ E (xs.set i e) (fun j => if j = i then a.eval x else vs j) hroot h1 (by omega) q4 (by simp [q5]) (fun j hj => ?_) fun j hj => ?_
        ·by_cases hji : j = i
         ·subst hji; simp [hi]
         ·simp only [if_neg hji]
          rw [Array.getElem?_setIfInBounds_ne (fun e => hji e.symm)]; exact q6 j (by omega)
        ·by_cases hji : j = i
         ·subst hji; simp; exact hel
         ·simp only [if_neg hji]
          rw [List.getElem_set_ne (fun e => hji e.symm)]
          exact hfro (q7 j (by omega))
       | ptr g cur2 E2 xs vs q1 q2 q3 q4 q5 =>
        have hgg := h.inj g g0 _ q1 hO
        subst hgg
        rw [h0] at q2
        simp only [Option.some.injEq,Obj.cells.injEq,and_true] at q2
        obtain ⟨rfl,rfl⟩ := q2
        simp only [List.nil_append,D.put]
        refine OwnF.ptr g _ E (xs.set i e) (fun j => if j = i then a.eval x else vs j) hroot h1 (by simp [q3]) (fun j hj => ?_) fun j hj => ?_
        ·have hj' : j < xs.length := by simpa using hj
         by_cases hji : j = i
         ·subst hji; simp [hi]
         ·simp only [if_neg hji]
          rw [Array.getElem?_setIfInBounds_ne (fun e => hji e.symm)]; exact q4 j hj'
        ·have hj' : j < xs.length := by simpa using hj
         by_cases hji : j = i
         ·subst hji; simp; exact hel
         ·simp only [if_neg hji]
          rw [List.getElem_set_ne (fun e => hji e.symm)]
          exact hfro (q5 j hj')
     ·exact trivial
    ·rename_i hrt
     split
     ·exact trivial
     ·rename_i htr
      rw [hd]
      refine plain _ hs (by simp [VV.on,hrt]) fun r' hr' => ?_
      have : r ≠ r' := fun e => htr (e ▸ hr')
      simp [VV.on,this]
   ·rename_i r m q d hd
    rw [hd] at hs
    split
    ·rename_i hrt
     subst hrt
     split
     ·rename_i hc
      obtain ⟨hu,hp,hnode⟩ := hc
      subst hu
      subst hp
      exact OwnU.put hO h.inj h0 h1 hi hsame hO't (hnewU rfl) (hs : OwnU w O r (m :: q) _ d) [] (by simp) (fun xs hxs => by
       have : d = .agg xs := by simpa [D.node] using hxs
       rw [this] at hnode
       simp [D.isNode] at hnode)
     ·split
      ·rename_i hdv
       have hpk : ∃ k p',p = k :: p' ∧ m ≠ k := by
        cases p with
        | nil => simp [diverge] at hdv
        | cons k0 p' => exact ⟨k0,p',rfl,by simpa [diverge] using hdv⟩
       obtain ⟨k',p',rfl,hmk⟩ := hpk
       refine OwnU.keep (hs : OwnU w O r (m :: q) _ d) (m :: q) fun g s hg => ⟨hO't g _ hg fun hpre => ?_,hother g fun e => ?_⟩
       ·obtain ⟨z,hz⟩ := hpre
        simp only [List.cons_append,List.cons.injEq] at hz
        exact hmk hz.1.symm
       ·rw [e,hO] at hg
        simp only [List.cons_append,Option.some.injEq,Prod.mk.injEq,List.cons.injEq,true_and] at hg
        exact hmk hg.1.symm
      ·exact trivial
    ·rename_i hrt
     split
     ·exact trivial
     ·rename_i htr
      rw [hd]
      refine plain _ hs (by simp [VV.on,hrt]) fun r' hr' => ?_
      have : r ≠ r' := fun e => htr (e ▸ hr')
      simp [VV.on,this]
   ·rename_i f cs hd
    rw [hd] at hs
    have hkr : ∀ {v : Value},CloR R w O f cs v → tv.any (fun r => (VV.clo f cs).on r) = false → CloR R w' O' f cs v := fun {v} hv hno => by
     refine CloR.roots k (fun r g hon hg => ?_) hv
     by_cases hrt : r = t
     ·subst hrt; exact hO't g [] hg (by simp)
     ·have hne : tv ≠ some r := fun e => by
       rw [e] at hno
       simp only [Option.any_some,VV.on] at hno
       rw [hon] at hno; cases hno
      exact (k.own g r [] hg fun e => by rcases e with e | e; exact hrt e; exact hne e).1
    split
    ·exact trivial
    ·rename_i hno
     exact hkr hs (by simpa using hno)
   ·rename_i q f cs hd
    rw [hd] at hs
    split
    ·exact trivial
    ·rename_i hno
     simp only [not_or] at hno
     obtain ⟨hqt,hno⟩ := hno
     have hno : tv.any (fun r => (VV.cel q f cs).on r) = false := by simpa using hno
     have hqn : tv ≠ some q := fun e => by
      rw [e] at hno
      simp [VV.on] at hno
     obtain ⟨g,cur',E',cv',c1,c2,c3,c4,c5,c6⟩ := hs
     have hk := k.own g q [] c2 fun e => by rcases e with e | e; exact hqt e; exact hqn e
     refine ⟨g,cur',E',cv',c1,hk.1,by rw [hk.2]; exact c3,c4,c5,CloR.roots k (fun r g hon hg => ?_) c6⟩
     by_cases hrt : r = t
     ·subst hrt; exact hO't g [] hg (by simp)
     ·have hne : tv ≠ some r := fun e => by
       rw [e] at hno
       simp only [Option.any_some,VV.on,Bool.or_eq_false_iff] at hno
       rw [hon] at hno; cases hno.2
      exact (k.own g r [] hg fun e => by rcases e with e | e; exact hrt e; exact hne e).1
   ·split
    ·exact trivial
    ·rename_i hon
     have hon' : (σ s).on t = false := by simpa using hon
     cases htv' : tv with
     | some r =>
      simp only
      split
      ·exact trivial
      ·rename_i hor
       exact plain _ hs hon' fun r' hr' => by rw [htv'] at hr'; simp only [Option.some.injEq] at hr'; subst hr'; simpa using hor
     | none => exact plain _ hs hon' fun r' hr' => by rw [htv'] at hr'; cases hr'
 unfold vstore at hv
 cases hpl : (ev σ ad).place with
 | none => rw [hpl] at hv; cases hT : τ T <;> rw [hT] at hv <;> cases hv
 | some q =>
  obtain ⟨t,p,i,u⟩ := q
  rw [hpl] at hv
  cases hT : τ T with
  | st zs => rw [hT] at hv; cases hv
  | other => rw [hT] at hv; cases hv
  | ar zs => rw [hT] at hv; cases hv
  | fn => rw [hT] at hv; cases hv
  | ss e m => rw [hT] at hv; cases hv
  | _ => rw [hT] at hv; exact key t p i u (by rw [hT]; simp) (by rw [hT]; simp) (by rw [hT]; simp) hpl hv

end
end Go.Vam
