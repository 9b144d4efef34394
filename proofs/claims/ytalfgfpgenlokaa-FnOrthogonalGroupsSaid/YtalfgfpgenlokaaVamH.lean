/- Stores, assignments, parts that are put together; steps without code. -/
import Derived.Test.YtalfgfpgenlokaaVamG
namespace Go.Vam
open Go Go.RowKit

def D.put : List Nat → D → D → D
 | [],_,e => e
 | j :: r,.list xs,e => .list (xs.set j (D.put r (xs.getD j default) e))
 | j :: r,.ptr xs,e => .ptr (xs.set j (D.put r (xs.getD j default) e))
 | j :: r,.agg xs,e => .agg (xs.set j (D.put r (xs.getD j default) e))
 | _ :: _,d,_ => d

section
variable {P : Program} {τ : TypeId → TK} {Φ : Orc} {R : Nat → Prop} {B : Nat → Prop} {w0 : W0} {N : Lim} {O : Own} {σ : Frm} {a : Act} {w : World}

def grp (O : Own) (d : Nat) (f : Nat → Option Nat) : Own := fun g =>
 match O g with
 | none => none
 | some (t,q) => match f t with
  | some i => some (d,i :: q)
  | none => if t = d then none else some (t,q)

theorem grp_inv {O : Own} {d : Nat} {f : Nat → Option Nat} {g t : Nat} {p : List Nat} (h : grp O d f g = some (t,p)) :
  (t = d ∧ ∃ i q t',p = i :: q ∧ f t' = some i ∧ O g = some (t',q)) ∨ (t ≠ d ∧ f t = none ∧ O g = some (t,p)) := by
 unfold grp at h
 split at h
 ·cases h
 ·rename_i t' q hO
  split at h
  ·rename_i i hf
   simp only [Option.some.injEq,Prod.mk.injEq] at h
   exact .inl ⟨h.1.symm,i,q,t',h.2.symm,hf,hO⟩
  ·rename_i hf
   split at h
   ·cases h
   ·rename_i hd
    simp only [Option.some.injEq,Prod.mk.injEq] at h
    obtain ⟨rfl,rfl⟩ := h
    exact .inr ⟨hd,hf,hO⟩

theorem grp_of {O : Own} {d : Nat} {f : Nat → Option Nat} {g t i : Nat} {q : List Nat} (hO : O g = some (t,q)) (hf : f t = some i) : grp O d f g = some (d,i :: q) := by
 unfold grp; rw [hO]; simp [hf]

theorem grp_inj {O : Own} {d : Nat} {f : Nat → Option Nat} (hO : ∀ g g' x,O g = some x → O g' = some x → g = g') (hf : ∀ t t' i,f t = some i → f t' = some i → t = t') :
  ∀ g g' x,grp O d f g = some x → grp O d f g' = some x → g = g' := by
 rintro g g' ⟨t,p⟩ h1 h2
 rcases grp_inv h1 with ⟨e1,i,q,t1,e2,e3,e4⟩ | ⟨e1,e2,e3⟩ <;> rcases grp_inv h2 with ⟨f1,i',q',t2,f2,f3,f4⟩ | ⟨f1,f2,f3⟩
 ·rw [e2] at f2
  simp only [List.cons.injEq] at f2
  obtain ⟨rfl,rfl⟩ := f2
  have := hf t1 t2 i e3 f3
  subst this
  exact hO g g' _ e4 f4
 ·exact absurd e1 f1
 ·exact absurd f1 e1
 ·exact hO g g' _ e3 f3

theorem grp_keeps {d : Nat} {f : Nat → Option Nat} {ks : List Nat} (hd : d ∈ ks) (hf : ∀ t i,f t = some i → t ∈ ks) : Keeps w w O (grp O d f) (fun t => t ∈ ks) := by
 refine ⟨Nat.le_refl _,fun g _ hO => ⟨by unfold grp; rw [hO],rfl⟩,fun g t p hO ht => ⟨?_,rfl⟩⟩
 unfold grp
 rw [hO]
 have : f t = none := by
  cases h : f t with
  | none => rfl
  | some i => exact absurd (hf t i h) ht
 have hne : t ≠ d := fun e => ht (e ▸ hd)
 simp [this,hne]

theorem grp_own (h : St R B w0 N O σ a w) {d : Nat} {f : Nat → Option Nat} : ∀ g y,grp O d f g = some y → ¬ B g ∧ g < w.heap.size := by
 rintro g ⟨t,p⟩ hg
 rcases grp_inv hg with ⟨_,i,q,t',_,_,e⟩ | ⟨_,_,e⟩
 ·exact h.own g _ e
 ·exact h.own g _ e

inductive PartV where
 | sc (d : D)
 | own (t : Nat) (d : D)

def PartV.d : PartV → D
 | .sc d => d
 | .own _ d => d

def partVV : VV → Option PartV
 | .val d => if d.sc then some (.sc d) else none
 | .ref t [] true d => if d.one then some (.own t d) else none
 | _ => none

def partsV (σ : Frm) : List Operand → Option (List PartV)
 | [] => some []
 | x :: r => match partVV (ev σ x),partsV σ r with
  | some d,some ds => some (d :: ds)
  | _,_ => none

def ptoks : List PartV → List Nat
 | [] => []
 | .sc _ :: r => ptoks r
 | .own t _ :: r => t :: ptoks r

def pidx (ix : List Nat) (ps : List PartV) (t : Nat) : Option Nat :=
 match ix,ps with
 | i :: ir,.own t' _ :: r => if t = t' then some i else pidx ir r t
 | _ :: ir,.sc _ :: r => pidx ir r t
 | _,_ => none

theorem pidx_mem : ∀ (ix : List Nat) (ps : List PartV) (t i : Nat),pidx ix ps t = some i → t ∈ ptoks ps ∧ i ∈ ix
 | [],[],t,i,h => by simp [pidx] at h
 | [],_ :: _,t,i,h => by simp [pidx] at h
 | _ :: _,[],t,i,h => by simp [pidx] at h
 | j :: ir,.own t' d :: r,t,i,h => by
  simp only [pidx] at h
  split at h
  ·rename_i e; simp only [Option.some.injEq] at h; subst e; subst h; exact ⟨by simp [ptoks],by simp⟩
  ·have := pidx_mem ir r t i h; exact ⟨by simp [ptoks,this.1],by simp [this.2]⟩
 | j :: ir,.sc d :: r,t,i,h => by
  simp only [pidx] at h
  have := pidx_mem ir r t i h; exact ⟨by simp [ptoks,this.1],by simp [this.2]⟩

theorem pidx_inj : ∀ (ix : List Nat) (ps : List PartV),ix.Nodup → ∀ t t' i,pidx ix ps t = some i → pidx ix ps t' = some i → t = t'
 | [],[],_,t,t',i,h,_ => by simp [pidx] at h
 | [],_ :: _,_,t,t',i,h,_ => by simp [pidx] at h
 | _ :: _,[],_,t,t',i,h,_ => by simp [pidx] at h
 | j :: ir,.own t0 d :: r,hn,t,t',i,h1,h2 => by
  simp only [pidx] at h1 h2
  have hn' := List.nodup_cons.1 hn
  split at h1 <;> split at h2
  ·rename_i e1 e2; rw [e1,e2]
  ·simp only [Option.some.injEq] at h1; subst h1
   exact absurd (pidx_mem ir r t' j h2).2 hn'.1
  ·simp only [Option.some.injEq] at h2; subst h2
   exact absurd (pidx_mem ir r t j h1).2 hn'.1
  ·exact pidx_inj ir r hn'.2 t t' i h1 h2
 | j :: ir,.sc d :: r,hn,t,t',i,h1,h2 => by
  simp only [pidx] at h1 h2
  exact pidx_inj ir r (List.nodup_cons.1 hn).2 t t' i h1 h2

theorem pidx_at : ∀ (ix : List Nat) (ps : List PartV),(ptoks ps).Nodup → ∀ (j t : Nat) (d : D) (i : Nat),ps[j]? = some (PartV.own t d) → ix[j]? = some i → pidx ix ps t = some i
 | _,[],_,j,t,d,i,h,_ => by simp at h
 | [],_ :: _,_,j,t,d,i,_,h => by simp at h
 | k :: ir,.own t0 d0 :: r,hn,0,t,d,i,h1,h2 => by
  simp only [List.getElem?_cons_zero,Option.some.injEq,PartV.own.injEq] at h1 h2
  obtain ⟨rfl,rfl⟩ := h1
  simp [pidx,h2]
 | k :: ir,.own t0 d0 :: r,hn,j + 1,t,d,i,h1,h2 => by
  simp only [List.getElem?_cons_succ] at h1 h2
  have hn' := List.nodup_cons.1 hn
  have hr := pidx_at ir r hn'.2 j t d i h1 h2
  have hne : t ≠ t0 := fun e => hn'.1 (e ▸ (pidx_mem ir r t i hr).1)
  simp [pidx,hne,hr]
 | k :: ir,.sc d0 :: r,hn,0,t,d,i,h1,h2 => by simp at h1
 | k :: ir,.sc d0 :: r,hn,j + 1,t,d,i,h1,h2 => by
  simp only [List.getElem?_cons_succ] at h1 h2
  simp only [pidx]
  exact pidx_at ir r hn j t d i h1 h2

def PRel (w : World) (O : Own) (p : PartV) (v : Value) : Prop :=
 match p with
 | .sc d => d.sc = true ∧ ∃ S,Rd w S v d
 | .own t d => d.one = true ∧ OwnU w O t [] v d

theorem partVV_rel {x : VV} {v : Value} (hr : Rel R w O x v) {p : PartV} (hp : partVV x = some p) : PRel w O p v ∧ p.d.one = true := by
 unfold partVV at hp
 split at hp
 ·rename_i d
  split at hp <;> simp only [Option.some.injEq,reduceCtorEq] at hp
  rename_i hs; subst hp
  refine ⟨⟨hs,_,hr⟩,?_⟩
  cases d <;> simp_all [D.sc,D.one,PartV.d]
 ·rename_i t d
  split at hp <;> simp only [Option.some.injEq,reduceCtorEq] at hp
  rename_i hs; subst hp
  exact ⟨⟨hs,hr⟩,hs⟩
 ·cases hp

theorem partsV_rel (h : St R B w0 N O σ a w) : ∀ (xs : List Operand) (ps : List PartV),partsV σ xs = some ps →
  xs.length = ps.length ∧ ∀ i (hi : i < ps.length),∃ v,(xs.map a.eval)[i]? = some v ∧ PRel w O ps[i] v ∧ ps[i].d.one = true
 | [],ps,hd => by
  simp only [partsV,Option.some.injEq] at hd; subst hd
  exact ⟨rfl,fun i hi => absurd hi (by simp)⟩
 | x :: r,ps,hd => by
  simp only [partsV] at hd
  split at hd
  ·rename_i d ds' h1 h2
   simp only [Option.some.injEq] at hd; subst hd
   obtain ⟨e,ih⟩ := partsV_rel h r ds' h2
   refine ⟨by simp [e],fun i hi => ?_⟩
   cases i with
   | zero => exact ⟨a.eval x,rfl,partVV_rel (rel_ev h x) h1⟩
   | succ i => exact ih i (by simpa using hi)
  ·cases hd

theorem PRel.part {d : Nat} {f : Nat → Option Nat} {p : PartV} {v : Value} (hp : PRel w O p v) {i : Nat} (hf : ∀ t e,p = .own t e → f t = some i) {O' : Own} {w' : World}
  (hO : ∀ g q t,O g = some (t,q) → f t = some i → O' g = some (d,i :: q) ∧ w'.heap[g]? = w.heap[g]?) : OwnU w' O' d [i] v p.d := by
 cases p with
 | sc e => obtain ⟨h1,S,h2⟩ := hp; exact sc_own h1 h2 _ _ _ _
 | own t e =>
  have h1 := hf t e rfl
  refine OwnU.keep hp.2 [i] fun g q hq => ?_
  have := hO g q t (by simpa using hq) h1
  simpa using this

theorem oneCell_of {p : PartV} {v : Value} (hp : PRel w O p v) (ho : p.d.one = true) : v.cells = #[v] := by
 cases p with
 | sc e => obtain ⟨_,S,h2⟩ := hp; exact one_cells h2 ho
 | own t e => exact one_cells (OwnU.rd hp.2 (S := fun _ => True) fun _ _ _ => trivial) ho

def vbuildS (τ : TypeId → TK) (d : Nat) (T : TypeId) (n : Nat) (parts : Array (Nat × Operand)) (σ : Frm) : Option (List Nat × VV) :=
 match τ T with
 | .sl e => if parts.toList.map (·.1) = List.range n ∧ n ≤ 1000 ∧ (τ e).zd.isSome then
   match partsV σ (parts.toList.map (·.2)) with
   | some ps => if (ptoks ps).Nodup then some (d :: ptoks ps,.ref d [] true (.list (ps.map PartV.d))) else none
   | none => none
  else none
 | _ => none

def vbuildT (τ : TypeId → TK) (d : Nat) (T : TypeId) (parts : Array (Nat × Operand)) (σ : Frm) : Option (List Nat × VV) :=
 match τ T with
 | .st zs => match partsV σ (parts.toList.map (·.2)) with
  | some ps => if (ptoks ps).Nodup ∧ (parts.toList.map (·.1)) = List.range zs.length then some (d :: ptoks ps,.ref d [] true (.agg (ps.map PartV.d))) else none
  | none => none
 | _ => none

theorem fill_vals (place : Nat → Option (Nat × Nat)) (hp : ∀ i,place i = none ∨ place i = some (i,1)) : ∀ (vs : List Value) (k : Nat) (cs : Array Value),
  (∀ v ∈ vs,v.cells = #[v]) → k + vs.length ≤ cs.size → (∀ i,k ≤ i → i < k + vs.length → place i = some (i,1)) →
  ∃ cs',Instr.fill place cs ((List.range' k vs.length).zip vs) = some cs' ∧ cs'.size = cs.size ∧ (∀ i,i < vs.length → cs'[k + i]? = vs[i]?) ∧ ∀ i,i < k → cs'[i]? = cs[i]?
 | [],k,cs,_,_,_ => ⟨cs,by simp [Instr.fill],rfl,fun i hi => absurd hi (by simp),fun _ _ => rfl⟩
 | v :: vs,k,cs,h1,h2,h3 => by
  have hv := h1 v (by simp)
  simp only [List.length_cons] at h2 h3
  obtain ⟨cs',f1,f2,f3,f4⟩ := fill_vals place hp vs (k + 1) (cs.setIfInBounds k v) (fun u hu => h1 u (by simp [hu])) (by simp; omega) (fun i a1 a2 => h3 i (by omega) (by omega))
  refine ⟨cs',?_,by simp [f2],fun i hi => ?_,fun i hi => ?_⟩
  ·simp only [List.length_cons,List.range'_succ,List.zip_cons_cons,Instr.fill,h3 k (by omega) (by omega),hv]
   have hsz : ¬ (k + 1 > cs.size) := by omega
   simp only [List.size_toArray,List.length_cons,List.length_nil,Nat.zero_add,ne_eq]
   simp [hsz]
   simpa using f1
  ·cases i with
   | zero =>
    rw [Nat.add_zero,f4 k (by omega)]
    have : k < cs.size := by omega
    simp [this]
   | succ i =>
    have := f3 i (by simpa using hi)
    rw [show k + (i + 1) = k + 1 + i by omega,this]
    simp
  ·rw [f4 i (by omega),Array.getElem?_setIfInBounds_ne (by omega)]

theorem zip_parts (parts : Array (Nat × Operand)) (n : Nat) (hidx : parts.toList.map (·.1) = List.range n) (ρ : Operand → Value) :
  (parts.map (fun (i,x) => (i,ρ x))).toList = (List.range' 0 ((parts.toList.map (·.2)).map ρ).length).zip ((parts.toList.map (·.2)).map ρ) := by
 have hlen : parts.toList.length = n := by have := congrArg List.length hidx; simpa using this
 have h1 : (List.range' 0 ((parts.toList.map (·.2)).map ρ).length) = parts.toList.map (·.1) := by
  rw [hidx,List.range_eq_range']; simp [← hlen]
 rw [h1]
 apply List.ext_getElem?
 intro i
 simp only [Array.toList_map,List.getElem?_map,List.zip_map',List.map_map]
 simp [Function.comp]

theorem sound_buildS (hτ : TyOk P τ) (h : St R B w0 N O σ a w) {o : Oper} {T : TypeId} {n : Nat} {parts : Array (Nat × Operand)} (ho : o.op = .buildSlice T n parts) {d : Nat} {ks : List Nat} {z : VV}
  (hv : vbuildS τ d T n parts σ = some (ks,z)) : Yld P R B O ks z (execOp a.eval o) w := by
 unfold vbuildS at hv
 split at hv <;> try cases hv
 rename_i e hT
 split at hv <;> try cases hv
 rename_i hc
 split at hv <;> try cases hv
 rename_i ps hps
 split at hv <;> simp only [Option.some.injEq,reduceCtorEq,Prod.mk.injEq] at hv
 rename_i hnd
 obtain ⟨rfl,rfl⟩ := hv
 obtain ⟨hidx,hn,hzs⟩ := hc
 obtain ⟨zd,hzd⟩ := Option.isSome_iff_exists.1 hzs
 have hk := hτ T
 rw [hT] at hk
 obtain ⟨_,hu,_⟩ := hk
 obtain ⟨i,zval,i1,i2,i3,i4,i5,i6⟩ := TK.info (hτ e) hzd
 have i5' : zval.cells = #[zv zd] := by simpa using i5
 obtain ⟨hl1,hrel⟩ := partsV_rel h _ _ hps
 have hlen : ps.length = n := by
  have := congrArg List.length hidx
  simp at this
  rw [← hl1]; simp [this]
 obtain ⟨cs,f1,f2,f3,_⟩ := fill_vals (fun i => some (i * 1,1)) (fun i => .inr (by simp)) ((parts.toList.map (·.2)).map a.eval) 0 (madeCells zval.cells n)
  (fun v hv => by
   obtain ⟨j,hj,e⟩ := List.getElem_of_mem hv
   obtain ⟨u,r1,r2,r3⟩ := hrel j (by simpa [← hl1] using hj)
   rw [List.getElem?_eq_getElem hj,e] at r1
   simp only [Option.some.injEq] at r1; subst r1
   exact oneCell_of r2 r3) (by rw [size_madeCells]; simp only [List.length_map] at hl1 ⊢; omega) (fun i _ _ => by simp)
 rw [← zip_parts parts n hidx] at f1
 have hrun := run_buildSlice (w := w) hu i1 (by simpa using i2) i4 n hn _ cs f1
 have hcsz : cs.size = n := by rw [f2,size_madeCells]
 let f := pidx (List.range n) ps
 let O' : Own := fun g => if g = w.heap.size then some (d,[]) else grp O d f g
 have hnew : O' w.heap.size = some (d,[]) := by simp [O']
 have hold : ∀ g,g ≠ w.heap.size → O' g = grp O d f g := fun g hg => by simp only [O',if_neg hg]
 have hke := grp_keeps (w := w) (O := O) (d := d) (f := f) (ks := d :: ptoks ps) (by simp) (fun t i hh => by simp [(pidx_mem _ _ _ _ hh).1])
 have hlt : ∀ g y,O g = some y → g ≠ w.heap.size := fun g y hg e => by have := (h.own g y hg).2; omega
 refine ⟨_,_,O',by simp only [execOp,ho]; exact run_v hrun,⟨⟨by simp,fun g hg hO => ⟨?_,_root_.Go.heap_alloc_old w _ hg⟩,fun g t p hO ht => ⟨?_,_root_.Go.heap_alloc_old w _ (h.own g _ hO).2⟩⟩,(Blw.refl _ _).alloc h.base _,?_,?_,?_⟩⟩
 ·rw [hold g (by omega)]; exact (hke.fro g hg hO).1
 ·rw [hold g (hlt g _ hO)]; exact (hke.own g t p hO ht).1
 ·intro g y hg
  by_cases hgs : g = w.heap.size
  ·subst hgs; exact ⟨h.newB (Nat.le_refl _),by simp⟩
  ·rw [hold g hgs] at hg
   have := grp_own h g y hg
   exact ⟨this.1,by simp; omega⟩
 ·rintro g g' ⟨t,p⟩ e1 e2
  have nr : ∀ b q,b ≠ w.heap.size → O' b = some (d,q) → q ≠ [] := by
   intro b q hb hq
   rw [hold b hb] at hq
   rcases grp_inv hq with ⟨_,i,q',t',e,_⟩ | ⟨e,_⟩
   ·rw [e]; simp
   ·exact absurd rfl e
  by_cases h1 : g = w.heap.size <;> by_cases h2 : g' = w.heap.size
  ·rw [h1,h2]
  ·subst h1; rw [hnew] at e1
   simp only [Option.some.injEq,Prod.mk.injEq] at e1
   obtain ⟨rfl,rfl⟩ := e1
   exact absurd rfl (nr g' [] h2 e2)
  ·subst h2; rw [hnew] at e2
   simp only [Option.some.injEq,Prod.mk.injEq] at e2
   obtain ⟨rfl,rfl⟩ := e2
   exact absurd rfl (nr g [] h1 e1)
  ·rw [hold g h1] at e1
   rw [hold g' h2] at e2
   exact grp_inj h.inj (pidx_inj _ _ List.nodup_range) g g' _ e1 e2
 ·have hlm : (ps.map PartV.d).length = n := by simp [hlen]
  have := OwnU.list (w := w.alloc (.cells cs e)) (O := O') (t := d) [] w.heap.size n cs e (ps.map PartV.d) (fun j => (cs.getD j undef)) hnew (heap_alloc_new w _) (by omega) (by simp only [maxLen]; omega) hcsz (fun j hj => by
   have hj' : j < cs.size := by omega
   simp [hj']) (fun j hj => by
   have hj2 : j < ps.length := by simpa using hj
   obtain ⟨v,r1,r2,r3⟩ := hrel j hj2
   have hg : cs.getD j undef = v := by
    have := f3 j (by simp only [List.length_map] at hl1 ⊢; omega)
    rw [Nat.zero_add,r1] at this
    simp [Array.getD_eq_getD_getElem?,this]
   rw [hg,List.getElem_map]
   refine PRel.part (f := f) r2 (fun t e he => ?_) fun g q t hO hf => ?_
   ·exact pidx_at (List.range n) ps hnd j t e j (by rw [List.getElem?_eq_getElem hj2,he]) (List.getElem?_range (by omega))
   ·exact ⟨by rw [hold g (hlt g _ hO)]; exact grp_of hO hf,_root_.Go.heap_alloc_old w _ (h.own g _ hO).2⟩)
  rwa [hlm] at this


theorem sound_buildT (hτ : TyOk P τ) (h : St R B w0 N O σ a w) {o : Oper} {T : TypeId} {parts : Array (Nat × Operand)} (ho : o.op = .build T parts) {d : Nat} {ks : List Nat} {z : VV}
  (hv : vbuildT τ d T parts σ = some (ks,z)) : Yld P R B O ks z (execOp a.eval o) w := by
 unfold vbuildT at hv
 split at hv <;> try cases hv
 rename_i zs hT
 split at hv <;> try cases hv
 rename_i ps hps
 split at hv <;> simp only [Option.some.injEq,reduceCtorEq,Prod.mk.injEq] at hv
 rename_i hc
 obtain ⟨rfl,rfl⟩ := hv
 obtain ⟨hnd,hidx⟩ := hc
 have hk := hτ T
 rw [hT] at hk
 obtain ⟨⟨i,zval,i1,i2,i3,i4,i5,i6⟩,fs,h7,h8,h9⟩ := hk
 obtain ⟨hl1,hrel⟩ := partsV_rel h _ _ hps
 have hlen : ps.length = zs.length := by
  have := congrArg List.length hidx
  simp at this
  rw [← hl1]; simp [this]
 let place : Nat → Option (Nat × Nat) := fun j => (fs.map fun f => (f.offset,1))[j]?
 have hplace : ∀ j,j < zs.length → place j = some (j,1) := by
  intro j hj
  have hj' : j < fs.size := by omega
  have := (h9 j fs[j] (by rw [Array.getElem?_eq_getElem])).1
  simp [place,hj',this]
 obtain ⟨cs,f1,f2,f3,_⟩ := fill_vals place (fun j => by
   by_cases hj : j < zs.length
   ·exact .inr (hplace j hj)
   ·left; simp [place]; omega) ((parts.toList.map (·.2)).map a.eval) 0 zval.cells
  (fun v hv => by
   obtain ⟨j,hj,e⟩ := List.getElem_of_mem hv
   obtain ⟨u,r1,r2,r3⟩ := hrel j (by simpa [← hl1] using hj)
   rw [List.getElem?_eq_getElem hj,e] at r1
   simp only [Option.some.injEq] at r1; subst r1
   exact oneCell_of r2 r3) (by rw [i5]; simp only [List.length_map,List.size_toArray] at hl1 ⊢; omega) (fun j _ hj => hplace j (by simp only [List.length_map] at hl1 hj; omega))
 rw [← zip_parts parts zs.length hidx] at f1
 have hcsz : cs.size = zs.length := by rw [f2,i5]; simp
 let f := pidx (List.range zs.length) ps
 have hke := grp_keeps (w := w) (O := O) (d := d) (f := f) (ks := d :: ptoks ps) (by simp) (fun t i hh => by simp [(pidx_mem _ _ _ _ hh).1])
 refine ⟨.agg cs,w,grp O d f,?_,⟨hke,.refl _ _,grp_own h,grp_inj h.inj (pidx_inj _ _ List.nodup_range),?_⟩⟩
 ·simp only [execOp,ho]
  refine run_v ?_
  have hm : (fs.mapM fun f => do pure (f.offset,← sizeOf f.type) : Sem (Array (Nat × Nat))).run P w = .ok (fs.map fun f => (f.offset,1)) w := by
   have := mapM_sizes (P := P) (w := w) (fun f : Field => (do pure (f.offset,← sizeOf f.type) : Sem (Nat × Nat))) (fun f => (f.offset,1)) fs.toList (fun f hf => by
    obtain ⟨j,hj,e⟩ := List.getElem_of_mem hf
    obtain ⟨_,⟨fi,hfi,hsz⟩,_⟩ := h9 j f (by rw [← Array.getElem?_toList,List.getElem?_eq_getElem hj,e])
    simp [sizeOf_run hfi,hsz])
   rw [Array.mapM_eq_mapM_toList]
   simp only [Functor.map] at this ⊢
   refine (Sem.run_bind P w _ _).trans ?_
   rw [this]
   simp [Result.andThen]
   apply Array.ext'; simp
  have hzv : (zeroValue T).run P w = .ok zval w := by simp [zeroValue,typeInfo,i1,i4]
  simp only [Instr.build,Sem.run_bind,hzv,run_underlying h7,Result.andThen_ok,hm]
  have f1' : Instr.fill (fun x => (fs.map fun f => (f.offset,1))[x]?) zval.cells (parts.map (fun (i,x) => (i,a.eval x))).toList = some cs := f1
  simp only [f1',Sem.run_pure]
 ·refine OwnU.agg [] cs (ps.map PartV.d) (fun j => cs.getD j undef) (by simp [hcsz,hlen]) (fun j hj => ?_) fun j hj => ?_
  ·have hj' : j < cs.size := by simp at hj; omega
   simp [hj']
  ·have hj2 : j < ps.length := by simpa using hj
   obtain ⟨v,r1,r2,r3⟩ := hrel j hj2
   have hg : cs.getD j undef = v := by
    have := f3 j (by simp only [List.length_map] at hl1 ⊢; omega)
    rw [Nat.zero_add,r1] at this
    simp [Array.getD_eq_getD_getElem?,this]
   rw [hg,List.getElem_map]
   refine PRel.part (f := f) r2 (fun t e he => ?_) fun g q t hO hf => ?_
   ·exact pidx_at (List.range zs.length) ps hnd j t e j (by rw [List.getElem?_eq_getElem hj2,he]) (List.getElem?_range (by omega))
   ·exact ⟨grp_of hO hf,rfl⟩

/-! ### A token gets another name -/

def ren (O : Own) (t d : Nat) (p : List Nat) : Own := fun g =>
 match O g with
 | none => none
 | some (t',q) => if t' = t then (if p.isPrefixOf q then some (d,q.drop p.length) else none) else if t' = d then none else some (t',q)

theorem ren_inv {O : Own} {t d : Nat} {p : List Nat} {g t1 : Nat} {q : List Nat} (h : ren O t d p g = some (t1,q)) :
  (t1 = d ∧ O g = some (t,p ++ q)) ∨ (t1 ≠ d ∧ t1 ≠ t ∧ O g = some (t1,q)) := by
 unfold ren at h
 split at h
 ·cases h
 ·rename_i t' q' hO
  split at h
  ·rename_i ht
   subst ht
   split at h
   ·rename_i hp
    simp only [Option.some.injEq,Prod.mk.injEq] at h
    obtain ⟨h1,h2⟩ := h
    refine .inl ⟨h1.symm,?_⟩
    obtain ⟨r,hr⟩ := List.isPrefixOf_iff_prefix.1 hp
    rw [hO,← h2,← hr]; simp
   ·cases h
  ·rename_i ht
   split at h
   ·cases h
   ·rename_i hd
    simp only [Option.some.injEq,Prod.mk.injEq] at h
    obtain ⟨rfl,rfl⟩ := h
    exact .inr ⟨hd,ht,hO⟩

theorem ren_of {O : Own} {t d : Nat} {p q : List Nat} {g : Nat} (hO : O g = some (t,p ++ q)) : ren O t d p g = some (d,q) := by
 unfold ren
 rw [hO]
 simp

theorem ren_made (h : St R B w0 N O σ a w) (t d : Nat) (p : List Nat) (u : Bool) (x : D) (v : Value) (hv : Tree R w O t p u v x) :
  Made R B w w O (ren O t d p) [d,t] (.ref d [] u x) v := by
 have k : Keeps w w O (ren O t d p) (fun r => r ∈ [d,t]) := by
  refine ⟨Nat.le_refl _,fun g _ hO => ⟨by unfold ren; rw [hO],rfl⟩,fun g r q hO hr => ⟨?_,rfl⟩⟩
  simp only [List.mem_cons,List.not_mem_nil,or_false,not_or] at hr
  unfold ren
  rw [hO]
  simp [hr.1,hr.2]
 refine ⟨k,.refl _ _,?_,?_,?_⟩
 ·rintro g ⟨r,q⟩ hg
  rcases ren_inv hg with ⟨_,e⟩ | ⟨_,_,e⟩
  ·exact h.own g _ e
  ·exact h.own g _ e
 ·rintro g g' ⟨r,q⟩ h1 h2
  rcases ren_inv h1 with ⟨e1,e2⟩ | ⟨e1,e2,e3⟩ <;> rcases ren_inv h2 with ⟨f1,f2⟩ | ⟨f1,f2,f3⟩
  ·exact h.inj g g' _ e2 f2
  ·exact absurd e1 f1
  ·exact absurd f1 e1
  ·exact h.inj g g' _ e3 f3
 ·cases u with
  | true => exact OwnU.keep (hv : OwnU w O t p v x) [] fun g q hq => ⟨by simpa using ren_of hq,rfl⟩
  | false =>
   have hfro : ∀ g,Fro R O w g → Fro R (ren O t d p) w g := fun g hg => ⟨(k.fro g hg.2.1 hg.1).1,hg.2⟩
   have hroot : ∀ g,O g = some (t,p) → ren O t d p g = some (d,[]) := fun g hg => ren_of (by simpa using hg)
   cases (hv : OwnF R w O t p v x) with
   | nil => exact OwnF.nil
   | list g cap cur E xs vs h1 h2 h3 h4 h5 h6 h7 => exact OwnF.list g cap cur E xs vs (hroot g h1) h2 h3 h4 h5 h6 fun i hi => (h7 i hi).keep hfro fun _ _ => rfl
   | ptr g cur E xs vs h1 h2 h3 h4 h5 => exact OwnF.ptr g cur E xs vs (hroot g h1) h2 h3 h4 fun i hi => (h5 i hi).keep hfro fun _ _ => rfl

def vassign (d : Nat) (x : VV) : List Nat × VV :=
 match x with
 | .ref t [] u y => if t = d then ([],x) else ([d,t],.ref d [] u y)
 | _ => ([],x)

theorem sound_assign (h : St R B w0 N O σ a w) {o : Oper} {x : Operand} (ho : o.op = .assign x) (d : Nat) :
  Yld P R B O (vassign d (ev σ x)).1 (vassign d (ev σ x)).2 (execOp a.eval o) w := by
 have hx := rel_ev h x
 have hrun : (execOp a.eval o).run P w = .ok (.value (a.eval x)) w := by simp [execOp,ho]
 unfold vassign
 split
 ·rename_i t u y he
  split
  ·exact ⟨_,w,O,hrun,Made.quiet h hx⟩
  ·rw [he] at hx
   exact ⟨_,w,_,hrun,ren_made h t d [] u y _ hx⟩
 ·exact ⟨_,w,O,hrun,Made.quiet h hx⟩

/-! ### Steps without code -/

theorem put_same {a : Act} {s : Nat} (hs : s < a.tmps.size) : a.put (some s) (a.tmps.getD s undef) = a := by
 simp only [Act.put]
 have : a.tmps.setIfInBounds s (a.tmps.getD s undef) = a.tmps := by
  apply Array.ext (by simp)
  intro i h1 h2
  by_cases e : s = i
  ·subst e; simp [hs]
  ·rw [Array.getElem_setIfInBounds_ne _ e]
 rw [this]

theorem St.take (h : St R B w0 N O σ a w) {s t : Nat} {p : List Nat} {u : Bool} {x : D} (hs : σ s = .ref t p u x) (hN : s ∈ N) (d : Nat) :
  ∃ O',St R B w0 N O' (upd (killl [d,t] σ) s (.ref d [] u x)) a w := by
 have hr := h.slots s
 rw [hs] at hr
 have := h.made (ren_made h t d p u x _ hr) hN
 rw [put_same (by rw [h.size]; exact hN.2)] at this
 exact ⟨_,this⟩

def drp (O : Own) (t : Nat) : Own := fun g => match O g with | none => none | some (t',q) => if t' = t then none else some (t',q)

theorem St.freeze (h : St R B w0 N O σ a w) {s t : Nat} {p : List Nat} {u : Bool} {x : D} (hs : σ s = .ref t p u x) (hN : s ∈ N) :
  ∃ O',St R B w0 N O' (upd (killl [t] σ) s (.val x)) a w := by
 have hr := h.slots s
 rw [hs] at hr
 have e1 : ∀ g,O g = none → drp O t g = none := fun g hg => by unfold drp; rw [hg]
 have e2 : ∀ g r q,O g = some (r,q) → r ≠ t → drp O t g = some (r,q) := fun g r q hg hr => by unfold drp; rw [hg]; simp [hr]
 have e3 : ∀ g q,O g = some (t,q) → drp O t g = none := fun g q hg => by unfold drp; rw [hg]; simp
 have e4 : ∀ g y,drp O t g = some y → O g = some y := by
  intro g y hg
  unfold drp at hg
  split at hg
  ·cases hg
  ·rename_i r q hO
   split at hg
   ·cases hg
   ·rw [hO]; exact hg
 have hS : ∀ g q,O g = some (t,p ++ q) → Fro R (drp O t) w g := fun g q hg => ⟨e3 g _ hg,(h.own g _ hg).2,h.fresh g (h.own g _ hg).1⟩
 have hF : ∀ g,Fro R O w g → Fro R (drp O t) w g := fun g hg => ⟨e1 g hg.1,hg.2⟩
 have m : Made R B w w O (drp O t) [t] (.val x) (a.tmps.getD s undef) :=
  ⟨⟨Nat.le_refl _,fun g _ hO => ⟨e1 g hO,rfl⟩,fun g r q hO hr => ⟨e2 g r q hO (by simpa using hr),rfl⟩⟩,.refl _ _,fun g y hg => h.own g y (e4 g y hg),
   fun g g' y h1 h2 => h.inj g g' y (e4 g y h1) (e4 g' y h2),Tree.rd hr hS hF⟩
 have := h.made m hN
 rw [put_same (by rw [h.size]; exact hN.2)] at this
 exact ⟨_,this⟩

end
end Go.Vam
