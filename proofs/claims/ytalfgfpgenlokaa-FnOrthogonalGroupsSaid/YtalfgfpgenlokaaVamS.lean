/- Structs that are owned: boxes, stores of whole structs; trees whose parts become shared; calls that may spoil their first argument. -/
import Derived.Test.YtalfgfpgenlokaaVamQ
import Derived.Laws.CopyRow
namespace Go.Vam
open Go Go.RowKit
set_option linter.unusedSimpArgs false

def mvO (O : Own) (r t : Nat) : Own := fun g => match O g with
 | none => none
 | some (s,q) => if s = r then (if q = [] then none else some (t,q)) else if s = t then (if q = [] then some (t,[]) else none) else some (s,q)

theorem mvO_inv {O : Own} {r t g s : Nat} {q : List Nat} (hrt : r ≠ t) (h : mvO O r t g = some (s,q)) :
  (s = t ∧ q ≠ [] ∧ O g = some (r,q)) ∨ (s = t ∧ q = [] ∧ O g = some (t,[])) ∨ (s ≠ t ∧ s ≠ r ∧ O g = some (s,q)) := by
 unfold mvO at h
 split at h
 ·cases h
 ·rename_i s' q' hO
  split at h
  ·rename_i hs
   split at h
   ·cases h
   ·rename_i hq
    simp only [Option.some.injEq,Prod.mk.injEq] at h
    obtain ⟨rfl,rfl⟩ := h
    exact .inl ⟨rfl,hq,hs ▸ hO⟩
  ·rename_i hs
   split at h
   ·rename_i hst
    split at h
    ·rename_i hq
     simp only [Option.some.injEq,Prod.mk.injEq] at h
     obtain ⟨rfl,rfl⟩ := h
     exact .inr (.inl ⟨rfl,rfl,by rw [hO,hst,hq]⟩)
    ·cases h
   ·rename_i hst
    simp only [Option.some.injEq,Prod.mk.injEq] at h
    obtain ⟨rfl,rfl⟩ := h
    exact .inr (.inr ⟨hst,hs,hO⟩)

theorem mvO_own {O : Own} {r t g : Nat} {y : Nat × List Nat} (hrt : r ≠ t) (h : mvO O r t g = some y) : ∃ z,O g = some z := by
 obtain ⟨s,q⟩ := y
 rcases mvO_inv hrt h with ⟨_,_,e⟩ | ⟨_,_,e⟩ | ⟨_,_,e⟩ <;> exact ⟨_,e⟩

theorem mvO_inj {O : Own} {r t : Nat} (hrt : r ≠ t) (hO : ∀ g g' x,O g = some x → O g' = some x → g = g') : ∀ g g' x,mvO O r t g = some x → mvO O r t g' = some x → g = g' := by
 rintro g g' ⟨s,q⟩ h1 h2
 rcases mvO_inv hrt h1 with ⟨a1,a2,a3⟩ | ⟨a1,a2,a3⟩ | ⟨a1,a2,a3⟩ <;> rcases mvO_inv hrt h2 with ⟨b1,b2,b3⟩ | ⟨b1,b2,b3⟩ | ⟨b1,b2,b3⟩
 ·exact hO g g' _ a3 b3
 ·exact absurd b2 a2
 ·exact absurd a1 b1
 ·exact absurd a2 b2
 ·exact hO g g' _ a3 b3
 ·exact absurd a1 b1
 ·exact absurd b1 a1
 ·exact absurd b1 a1
 ·exact hO g g' _ a3 b3

def stoSVV (t r : Nat) (xs : List D) (v : VV) : VV := match v with
 | .ref s [] true (.ptr _) => if s = t then .ref t [] true (.ptr xs) else if s = r then .dead else v
 | _ => if v.on t || v.on r then .dead else v

def vstoreS0 (t : TK) (ad x : VV) : Option (VV → VV) := match t,ad,x with
 | .st zs,.ref t [] true (.ptr ys),.ref r [] true (.agg xs) => if r ≠ t ∧ ys.length = zs.length ∧ xs.length = zs.length ∧ xs.all D.one = true then some (stoSVV t r xs) else none
 | _,_,_ => none

section
variable {P : Program} {τ : TypeId → TK} {Φ : Orc} {R : Nat → Prop} {B : Nat → Prop} {w0 : W0} {N : Lim} {O : Own} {σ : Frm} {a : Act} {w : World}

theorem take_drop_all {α : Type} (l m : List α) (h : m.length = l.length) : l.take 0 ++ m ++ l.drop (0 + m.length) = m := by
 simp [h]

theorem sound_storeS0 (hτ : TyOk P τ) (h : St R B w0 N O σ a w) {o : Oper} {T : TypeId} {ad x : Operand} (ho : o.op = .store T ad x) {f : VV → VV}
  (hv : vstoreS0 (τ T) (ev σ ad) (ev σ x) = some f) : ∃ w' O',(execOp a.eval o).run P w = .ok .skip w' ∧ St R B w0 N O' (fun s => f (σ s)) a w' := by
 unfold vstoreS0 at hv
 split at hv <;> try cases hv
 rename_i zs t ys r xs hT had hx
 split at hv <;> simp only [Option.some.injEq,reduceCtorEq] at hv
 rename_i hc
 subst hv
 obtain ⟨hrt,hyl,hxl,hone⟩ := hc
 have hTy := hτ T
 rw [hT] at hTy
 obtain ⟨⟨i,zval,i1,i2,i3,i4,i5,i6⟩,_⟩ := hTy
 have hadr := rel_ev h ad
 rw [had] at hadr
 have hxr := rel_ev h x
 rw [hx] at hxr
 generalize hav : a.eval ad = av at hadr
 generalize hxv : a.eval x = xv at hxr
 cases (hadr : OwnU w O t [] av _) with
 | ptr _ g0 cur E _ vs0 hO hg hl hcv hcr =>
 cases (hxr : OwnU w O r [] xv _) with
 | agg _ cs _ vs hsz hvs hvr =>
 have hcells : ∀ v ∈ cs.toList,v.oneCell' = true := by
  intro v hv
  obtain ⟨j,hj,e⟩ := List.getElem_of_mem hv
  have hj' : j < xs.length := by rw [← hsz]; simpa using hj
  have h1 := hvs j hj'
  have h2 : cs[j]? = some v := by rw [← e,← Array.getElem?_toList,List.getElem?_eq_getElem hj]
  rw [h2] at h1
  simp only [Option.some.injEq] at h1
  subst h1
  exact one_one (OwnU.rd (hvr j hj') (S := fun _ => True) fun _ _ _ => trivial) (List.all_eq_true.1 hone _ (List.getElem_mem hj'))
 have hlen : cs.toList.length = cur.toList.length := by simp only [Array.length_toList]; omega
 let w' := w.setRow g0 cs
 have hrun : (Instr.storeAt T (.pointer (some ⟨g0,0,none⟩)) (.agg cs)).run P w = .ok () w' := by
  have h1 := run_storeCells_at P g0 0 E cs.toList 0 cur w hg (by simp only [Array.length_toList] at hlen ⊢; omega) hcells
  rw [Nat.add_zero,take_drop_all _ _ hlen] at h1
  have hcs : cs.size = i.size := by omega
  simp only [Array.toArray_toList] at h1
  simp [Instr.storeAt,Instr.sureAddr,storeVar,sizeOf_run i1,Value.cells,hcs,h1,w']
 let O' := mvO O r t
 have hnew : w'.heap[g0]? = some (.cells cs E (0,0)) := setRow_heap w g0 cur cs E _ hg
 have hother : ∀ g,g ≠ g0 → w'.heap[g]? = w.heap[g]? := fun g hne => by
  simp only [w',World.setRow]
  rw [Array.getElem?_modify,if_neg (fun e => hne (Eq.symm e))]
 have hsize : w'.heap.size = w.heap.size := by simp [w',World.setRow]
 have k : Keeps w w' O O' (fun s => s = t ∨ s = r) := by
  refine ⟨by omega,fun g hgs hn => ⟨by show mvO O r t g = none; unfold mvO; rw [hn],hother g (fun e => by rw [e,hO] at hn; cases hn)⟩,fun g s q hgo hns => ?_⟩
  simp only [not_or] at hns
  exact ⟨by show mvO O r t g = _; unfold mvO; rw [hgo]; simp [hns.1,hns.2],hother g (fun e => by rw [e,hO] at hgo; simp at hgo; exact hns.1 hgo.1.symm)⟩
 have hgB := h.own g0 _ hO
 refine ⟨w',O',?_,⟨h.below.trans ⟨rfl,rfl,rfl,by omega,fun g hg => hother g (fun e => hgB.1 (e ▸ hg))⟩,fun g hg => by rw [hsize]; exact h.base g hg,h.fresh,?_,mvO_inj hrt h.inj,h.size,h.defers,h.pin,fun s => ?_⟩⟩
 ·simp only [execOp,ho,hav,hxv]
  simp [hrun]
 ·intro g y hy
  obtain ⟨z,hz⟩ := mvO_own hrt hy
  rw [hsize]
  exact h.own g _ hz
 ·have hs := h.slots s
  have plain : (σ s).on t = false → (σ s).on r = false → Rel R w' O' (σ s) (a.tmps.getD s undef) := fun h1 h2 => Rel.keeps k (fun q hq => by rcases hq with rfl | rfl <;> assumption) hs
  unfold stoSVV
  split
  ·rename_i s' d hd
   split
   ·rename_i hst
    subst hst
    rw [hd] at hs
    generalize a.tmps.getD s undef = vv at hs
    cases (hs : OwnU w O s' [] vv _) with
    | ptr _ g1 cur1 E1 _ vs1 q1 q2 q3 q4 q5 =>
    have hgg := h.inj g1 g0 _ q1 hO
    subst hgg
    refine OwnU.ptr [] g1 cs E xs vs (by show mvO O r s' g1 = _; unfold mvO; rw [hO]; simp [show ¬ s' = r from fun e => hrt (Eq.symm e)]) hnew hsz hvs fun j hj => ?_
    refine (hvr j hj).keep _ fun g q hq => ?_
    have hgne : g ≠ g1 := fun e => by rw [e,hO] at hq; simp at hq
    exact ⟨by show mvO O r s' g = _; unfold mvO; rw [hq]; simp,hother g hgne⟩
   ·rename_i hst
    split
    ·exact trivial
    ·rename_i hsr
     exact plain (by rw [hd]; simp [VV.on,hst]) (by rw [hd]; simp [VV.on,hsr])
  ·split
   ·exact trivial
   ·rename_i hon
    simp only [Bool.or_eq_true,not_or,Bool.not_eq_true] at hon
    exact plain hon.1 hon.2

def swpO (O : Own) (t i j : Nat) : Own := fun g => match O g with
 | some (r,k :: q) => if r = t then some (t,(if k = i then j else if k = j then i else k) :: q) else some (r,k :: q)
 | y => y
theorem swpO_inv {O : Own} {t i j g r : Nat} {p : List Nat} (h : swpO O t i j g = some (r,p)) : (r ≠ t ∧ O g = some (r,p)) ∨ (r = t ∧ p = [] ∧ O g = some (t,[])) ∨ (r = t ∧ ∃ k q,p = (if k = i then j else if k = j then i else k) :: q ∧ O g = some (t,k :: q)) := by
 unfold swpO at h
 split at h
 ·rename_i r' k q hO
  split at h
  ·rename_i hr
   simp only [Option.some.injEq,Prod.mk.injEq] at h
   obtain ⟨rfl,rfl⟩ := h
   subst hr
   exact .inr (.inr ⟨rfl,k,q,rfl,hO⟩)
  ·rename_i hr
   simp only [Option.some.injEq,Prod.mk.injEq] at h
   obtain ⟨rfl,rfl⟩ := h
   exact .inl ⟨hr,hO⟩
 ·rename_i hno
  by_cases hr : r = t
  ·subst hr
   cases p with
   | nil => exact .inr (.inl ⟨rfl,rfl,h⟩)
   | cons k q => exact absurd h (hno r k q)
  ·exact .inl ⟨hr,h⟩
theorem swpO_sub {O : Own} {t i j g k : Nat} {q : List Nat} (h : O g = some (t,k :: q)) : swpO O t i j g = some (t,(if k = i then j else if k = j then i else k) :: q) := by
 unfold swpO; rw [h]; simp
theorem swpO_root {O : Own} {t i j g : Nat} (h : O g = some (t,[])) : swpO O t i j g = some (t,[]) := by
 unfold swpO; rw [h]
theorem swpO_none {O : Own} {t i j g : Nat} (h : O g = none) : swpO O t i j g = none := by
 unfold swpO; rw [h]
theorem swpO_other {O : Own} {t i j g r : Nat} {p : List Nat} (h : O g = some (r,p)) (hr : r ≠ t) : swpO O t i j g = some (r,p) := by
 unfold swpO; rw [h]
 cases p with
 | nil => rfl
 | cons k q => simp [hr]
theorem swp_idx {i j k k' : Nat} (h : (if k = i then j else if k = j then i else k) = (if k' = i then j else if k' = j then i else k')) : k = k' := by
 split at h <;> split at h <;> (try split at h) <;> (try split at h) <;> omega

def detVV (t i k : Nat) (d : D) (x : VV) : VV := match x with
 | .ref r [] true (.list ys) => if r = t then (if i < ys.length ∧ k < ys.length then .ref r [] true (.list ((ys.set i d).set k .gone)) else .dead) else .ref r [] true (.list ys)
 | .ref r [m] true e => if r = t then (if m = i then .part t k e else .dead) else .ref r [m] true e
 | y => if y.on t then .dead else y
def attVV (t i : Nat) (d : D) (x : VV) : VV := match x with
 | .ref r [] true (.list ys) => if r = t then (if i < ys.length then .ref r [] true (.list (ys.set i d)) else .dead) else .ref r [] true (.list ys)
 | y => if y.on t then .dead else y
def stfVV (t : Nat) (xs : List D) (v : VV) : VV := match v with
 | .ref s [] true (.ptr ys) => if s = t then .val (.ptr xs) else .ref s [] true (.ptr ys)
 | y => if y.on t then .dead else y
def vstoreS (t : TK) (ad x : VV) : Option (VV → VV) := match t,ad,x with
 | .st zs,.ref t [] true (.ptr ys),.ref r [] true (.agg xs) => if r ≠ t ∧ ys.length = zs.length ∧ xs.length = zs.length ∧ xs.all D.one = true then some (stoSVV t r xs) else none
 | .sl _,.adr t [] i true _,.ref r [k] true d => if r = t ∧ d.one = true then some (detVV t i k d) else none
 | .sl _,.adr t [] i true _,.part r k d => if r = t ∧ k = i ∧ d.one = true then some (attVV t i d) else none
 | .st zs,.ref t [] true (.ptr ys),.val (.agg xs) => if ys.length = zs.length ∧ xs.length = zs.length ∧ xs.all D.one = true then some (stfVV t xs) else none
 | _,_,_ => none
theorem sound_det (hτ : TyOk P τ) (h : St R B w0 N O σ a w) {o : Oper} {T e : TypeId} {ad x : Operand} {t i k : Nat} {d1 d : D} (hT : τ T = .sl e) (ho : o.op = .store T ad x)
  (e1 : ev σ ad = .adr t [] i true d1) (e2 : ev σ x = .ref t [k] true d) (q : d.one = true) :
  ∃ w' O',(execOp a.eval o).run P w = .ok .skip w' ∧ St R B w0 N O' (fun s => detVV t i k d (σ s)) a w' := by
 obtain ⟨g0,cur,E,cv1,hE1,a2,a3,a4,a5⟩ := rel_tmp h ad e1
 have hx : OwnU w O t [k] (a.eval x) d := rel_tmp h x e2
 have r1 := OwnU.rd hx (S := fun _ => True) (fun _ _ _ => trivial)
 have hi : i < cur.size := by
  rcases Nat.lt_or_ge i cur.size with h | h
  ·exact h
  ·rw [Array.getElem?_eq_none h] at a4; cases a4
 have hk1 : ∀ zs,τ T ≠ .st zs := fun zs e => by rw [hT] at e; cases e
 have hk2 : τ T ≠ .other ∧ ∀ zs,τ T ≠ .ar zs := ⟨fun e => (by rw [hT] at e; cases e),fun zs e => (by rw [hT] at e; cases e)⟩
 have hk3 : ∀ e m,τ T ≠ .ss e m := fun e m e => by rw [hT] at e; cases e
 have run1 := run_storeAt (P := P) (τ := τ) (hτ T) hk1 hk2 hk3 a3 hi (one_cells r1 q) (one_one r1 q)
 have s1 := setCell_block (i := i) (v := a.eval x) a3
 have hsz : (w.setCell ⟨g0,i,none⟩ (a.eval x)).heap.size = w.heap.size := by simp
 have hoth : ∀ g,g ≠ g0 → (w.setCell ⟨g0,i,none⟩ (a.eval x)).heap[g]? = w.heap[g]? := fun g hg => heap_setCell_other _ _ g _ hg
 refine ⟨w.setCell ⟨g0,i,none⟩ (a.eval x),swpO O t i k,by simp only [execOp,ho,hE1]; simp [run1],?_⟩
 generalize hW : w.setCell ⟨g0,i,none⟩ (a.eval x) = w3 at *
 have hbel : Blw B w w3 := by
  subst hW
  exact ⟨rfl,rfl,rfl,by rw [hsz]; exact Nat.le_refl _,fun g hg => hoth g fun e => (h.own g0 _ a2).1 (e ▸ hg)⟩
 have kp : Keeps w w3 O (swpO O t i k) (fun r => r = t) := by
  refine ⟨by omega,fun g hg hn => ⟨swpO_none hn,hoth g fun e => by rw [e,a2] at hn; cases hn⟩,fun g r p hg hr => ⟨swpO_other hg hr,hoth g fun e => ?_⟩⟩
  rw [e,a2] at hg
  simp only [Option.some.injEq,Prod.mk.injEq] at hg
  exact hr hg.1.symm
 have hsub : ∀ (m m' : Nat) (u : Value) (d : D),(if m = i then k else if m = k then i else m) = m' → OwnU w O t [m] u d → OwnU w3 (swpO O t i k) t [m'] u d := by
  intro m m' u d hkk hu
  refine OwnU.keep hu _ fun g' q hq => ?_
  have hq' : O g' = some (t,m :: q) := by simpa using hq
  refine ⟨by rw [swpO_sub hq',hkk]; rfl,hoth g' fun e => ?_⟩
  rw [e,a2] at hq'
  cases hq'
 refine ⟨h.below.trans hbel,fun g hg => by rw [hsz]; exact h.base g hg,h.fresh,?_,?_,h.size,h.defers,h.pin,fun s => ?_⟩
 ·rintro g ⟨r,p⟩ hg
  rw [hsz]
  rcases swpO_inv hg with ⟨_,e⟩ | ⟨_,_,e⟩ | ⟨_,_,_,_,e⟩ <;> exact h.own g _ e
 ·rintro g g' ⟨r,p⟩ u1 u2
  rcases swpO_inv u1 with ⟨m1,m2⟩ | ⟨m1,m2,m3⟩ | ⟨m1,k1,l1,m2,m3⟩ <;> rcases swpO_inv u2 with ⟨n1,n2⟩ | ⟨n1,n2,n3⟩ | ⟨n1,k2,l2,n2,n3⟩
  ·exact h.inj g g' _ m2 n2
  ·exact absurd n1 m1
  ·exact absurd n1 m1
  ·exact absurd m1 n1
  ·exact h.inj g g' _ m3 n3
  ·rw [m2] at n2; cases n2
  ·exact absurd m1 n1
  ·rw [n2] at m2; cases m2
  ·rw [m2] at n2
   simp only [List.cons.injEq] at n2
   obtain ⟨n2,rfl⟩ := n2
   have := swp_idx n2
   subst this
   exact h.inj g g' _ m3 n3
 ·have hs := h.slots s
  show Rel R w3 (swpO O t i k) (detVV t i k d (σ s)) _
  generalize σ s = y at hs ⊢
  generalize a.tmps.getD s undef = v at hs ⊢
  unfold detVV
  split
  ·rename_i r ys
   by_cases hr : r = t
   ·subst hr
    rw [if_pos rfl]
    by_cases hlen : i < ys.length ∧ k < ys.length
    ·rw [if_pos hlen]
     show OwnU w3 (swpO O r i k) r [] v _
     cases (hs : OwnU w O r [] v (.list ys)) with
     | nil => simp at hlen
     | list _ g cap cur1 E1 _ vs f1 f2 f3 f4 f5 f6 f7 =>
      have hgg := h.inj g g0 _ f1 a2
      subst hgg
      rw [a3] at f2
      simp only [Option.some.injEq,Obj.cells.injEq] at f2
      obtain ⟨rfl,rfl,_⟩ := f2
      have hl' : ((ys.set i d).set k .gone).length = ys.length := by simp
      have res := OwnU.list (w := w3) (O := swpO O r i k) (t := r) [] g cap (cur.setIfInBounds i (a.eval x)) E ((ys.set i d).set k .gone) (fun m => if m = i then a.eval x else vs m) (swpO_root a2) s1 (by rw [hl']; exact f3) f4 (by simpa using f5) (fun m hm => by
       rw [hl'] at hm
       have hmc : m < cur.size := by omega
       by_cases hmi : m = i
       ·subst hmi
        rw [if_pos rfl]
        simp [hmc]
       ·rw [if_neg hmi,Array.getElem?_setIfInBounds_ne (fun e => hmi e.symm)]
        exact f6 m hm) (fun m hm => by
       rw [hl'] at hm
       by_cases hmk : m = k
       ·subst hmk
        simp only [List.getElem_set_self]
        exact .gone _ _
       ·rw [List.getElem_set_ne (fun e => hmk e.symm)]
        by_cases hmi : m = i
        ·subst hmi
         simp only [if_true,List.getElem_set_self]
         exact hsub k _ _ _ (by split <;> simp_all) hx
        ·simp only [hmi,if_false]
         rw [List.getElem_set_ne (fun e => hmi e.symm)]
         exact hsub m _ _ _ (by simp [hmi,hmk]) (f7 m hm))
      rw [hl'] at res
      exact res
    ·rw [if_neg hlen]; exact trivial
   ·rw [if_neg hr]
    exact hs.keeps kp fun r' hr' => by subst hr'; simp [VV.on,hr]
  ·rename_i r m e
   by_cases hr : r = t
   ·subst hr
    rw [if_pos rfl]
    by_cases hm : m = i
    ·subst hm
     rw [if_pos rfl]
     show OwnU w3 (swpO O r m k) r [k] v e
     exact hsub m k v e (by simp) hs
    ·rw [if_neg hm]; exact trivial
   ·rw [if_neg hr]
    exact hs.keeps kp fun r' hr' => by subst hr'; simp [VV.on,hr]
  ·split
   ·exact trivial
   ·rename_i hno
    exact hs.keeps kp fun r' hr' => by subst hr'; simpa using hno
theorem sound_att (hτ : TyOk P τ) (h : St R B w0 N O σ a w) {o : Oper} {T e : TypeId} {ad x : Operand} {t i : Nat} {d1 d : D} (hT : τ T = .sl e) (ho : o.op = .store T ad x)
  (e1 : ev σ ad = .adr t [] i true d1) (e2 : ev σ x = .part t i d) (q : d.one = true) :
  ∃ w' O',(execOp a.eval o).run P w = .ok .skip w' ∧ St R B w0 N O' (fun s => attVV t i d (σ s)) a w' := by
 obtain ⟨g0,cur,E,cv1,hE1,a2,a3,a4,a5⟩ := rel_tmp h ad e1
 have hx : OwnU w O t [i] (a.eval x) d := rel_tmp h x e2
 have r1 := OwnU.rd hx (S := fun _ => True) (fun _ _ _ => trivial)
 have hi : i < cur.size := by
  rcases Nat.lt_or_ge i cur.size with h | h
  ·exact h
  ·rw [Array.getElem?_eq_none h] at a4; cases a4
 have hk1 : ∀ zs,τ T ≠ .st zs := fun zs e => by rw [hT] at e; cases e
 have hk2 : τ T ≠ .other ∧ ∀ zs,τ T ≠ .ar zs := ⟨fun e => (by rw [hT] at e; cases e),fun zs e => (by rw [hT] at e; cases e)⟩
 have hk3 : ∀ e m,τ T ≠ .ss e m := fun e m e => by rw [hT] at e; cases e
 have run1 := run_storeAt (P := P) (τ := τ) (hτ T) hk1 hk2 hk3 a3 hi (one_cells r1 q) (one_one r1 q)
 have s1 := setCell_block (i := i) (v := a.eval x) a3
 have hsz : (w.setCell ⟨g0,i,none⟩ (a.eval x)).heap.size = w.heap.size := by simp
 have hoth : ∀ g,g ≠ g0 → (w.setCell ⟨g0,i,none⟩ (a.eval x)).heap[g]? = w.heap[g]? := fun g hg => heap_setCell_other _ _ g _ hg
 refine ⟨w.setCell ⟨g0,i,none⟩ (a.eval x),O,by simp only [execOp,ho,hE1]; simp [run1],?_⟩
 generalize hW : w.setCell ⟨g0,i,none⟩ (a.eval x) = w3 at *
 have hbel : Blw B w w3 := by
  subst hW
  exact ⟨rfl,rfl,rfl,by rw [hsz]; exact Nat.le_refl _,fun g hg => hoth g fun e => (h.own g0 _ a2).1 (e ▸ hg)⟩
 have kp : Keeps w w3 O O (fun r => r = t) := by
  refine ⟨by omega,fun g hg hn => ⟨hn,hoth g fun e => by rw [e,a2] at hn; cases hn⟩,fun g r p hg hr => ⟨hg,hoth g fun e => ?_⟩⟩
  rw [e,a2] at hg
  simp only [Option.some.injEq,Prod.mk.injEq] at hg
  exact hr hg.1.symm
 have hsub : ∀ (m : Nat) (u : Value) (d : D),OwnU w O t [m] u d → OwnU w3 O t [m] u d := by
  intro m u d hu
  refine OwnU.keep hu _ fun g' q hq => ?_
  have hq' : O g' = some (t,m :: q) := by simpa using hq
  refine ⟨hq,hoth g' fun e => ?_⟩
  rw [e,a2] at hq'
  cases hq'
 refine ⟨h.below.trans hbel,fun g hg => by rw [hsz]; exact h.base g hg,h.fresh,fun g y hg => by rw [hsz]; exact h.own g y hg,h.inj,h.size,h.defers,h.pin,fun s => ?_⟩
 have hs := h.slots s
 show Rel R w3 O (attVV t i d (σ s)) _
 generalize σ s = y at hs ⊢
 generalize a.tmps.getD s undef = v at hs ⊢
 unfold attVV
 split
 ·rename_i r ys
  by_cases hr : r = t
  ·subst hr
   rw [if_pos rfl]
   by_cases hlen : i < ys.length
   ·rw [if_pos hlen]
    show OwnU w3 O r [] v _
    cases (hs : OwnU w O r [] v (.list ys)) with
    | nil => simp at hlen
    | list _ g cap cur1 E1 _ vs f1 f2 f3 f4 f5 f6 f7 =>
     have hgg := h.inj g g0 _ f1 a2
     subst hgg
     rw [a3] at f2
     simp only [Option.some.injEq,Obj.cells.injEq] at f2
     obtain ⟨rfl,rfl,_⟩ := f2
     have hl' : (ys.set i d).length = ys.length := by simp
     have res := OwnU.list (w := w3) (O := O) (t := r) [] g cap (cur.setIfInBounds i (a.eval x)) E (ys.set i d) (fun m => if m = i then a.eval x else vs m) a2 s1 (by rw [hl']; exact f3) f4 (by simpa using f5) (fun m hm => by
      rw [hl'] at hm
      have hmc : m < cur.size := by omega
      by_cases hmi : m = i
      ·subst hmi
       rw [if_pos rfl]
       simp [hmc]
      ·rw [if_neg hmi,Array.getElem?_setIfInBounds_ne (fun e => hmi e.symm)]
       exact f6 m hm) (fun m hm => by
      rw [hl'] at hm
      by_cases hmi : m = i
      ·subst hmi
       simp only [if_true,List.getElem_set_self]
       exact hsub m _ _ hx
      ·simp only [hmi,if_false]
       rw [List.getElem_set_ne (fun e => hmi e.symm)]
       exact hsub m _ _ (f7 m hm))
     rw [hl'] at res
     exact res
   ·rw [if_neg hlen]; exact trivial
  ·rw [if_neg hr]
   exact hs.keeps kp fun r' hr' => by subst hr'; simp [VV.on,hr]
 ·split
  ·exact trivial
  ·rename_i hno
   exact hs.keeps kp fun r' hr' => by subst hr'; simpa using hno
def drpT (O : Own) (d : Nat) : Own := fun g => match O g with
 | some (s,q) => if s = d then none else some (s,q)
 | none => none
theorem drpT_inv {O : Own} {d g s : Nat} {q : List Nat} (hg : drpT O d g = some (s,q)) : O g = some (s,q) ∧ s ≠ d := by
 unfold drpT at hg
 split at hg
 ·rename_i s' q' hO
  split at hg
  ·cases hg
  ·rename_i hs
   simp only [Option.some.injEq,Prod.mk.injEq] at hg
   obtain ⟨rfl,rfl⟩ := hg
   exact ⟨hO,hs⟩
 ·cases hg
theorem sound_storeF (hτ : TyOk P τ) (h : St R B w0 N O σ a w) {o : Oper} {T : TypeId} {ad x : Operand} (ho : o.op = .store T ad x) {zs ys xs : List D} {t : Nat} (hT : τ T = .st zs) (had : ev σ ad = .ref t [] true (.ptr ys)) (hx : ev σ x = .val (.agg xs))
  (hyl : ys.length = zs.length) (hxl : xs.length = zs.length) (hone : xs.all D.one = true) : ∃ w' O',(execOp a.eval o).run P w = .ok .skip w' ∧ St R B w0 N O' (fun s => stfVV t xs (σ s)) a w' := by
 have hTy := hτ T
 rw [hT] at hTy
 obtain ⟨⟨i,zval,i1,i2,i3,i4,i5,i6⟩,_⟩ := hTy
 have hadr := rel_ev h ad
 rw [had] at hadr
 have hxr := rel_ev h x
 rw [hx] at hxr
 generalize hav : a.eval ad = av at hadr
 generalize hxv : a.eval x = xv at hxr
 cases (hadr : OwnU w O t [] av _) with
 | ptr _ g0 cur E _ vs0 hO hg hl hcv hcr =>
 cases (hxr : Rd w (Fro R O w) xv _) with
 | agg cs _ vs hsz hvs hvr =>
 have hcells : ∀ v ∈ cs.toList,v.oneCell' = true := by
  intro v hv
  obtain ⟨j,hj,e⟩ := List.getElem_of_mem hv
  have hj' : j < xs.length := by rw [← hsz]; simpa using hj
  have h1 := hvs j hj'
  have h2 : cs[j]? = some v := by rw [← e,← Array.getElem?_toList,List.getElem?_eq_getElem hj]
  rw [h2] at h1
  simp only [Option.some.injEq] at h1
  subst h1
  exact one_one (hvr j hj') (List.all_eq_true.1 hone _ (List.getElem_mem hj'))
 have hlen : cs.toList.length = cur.toList.length := by simp only [Array.length_toList]; omega
 let w' := w.setRow g0 cs
 have hrun : (Instr.storeAt T (.pointer (some ⟨g0,0,none⟩)) (.agg cs)).run P w = .ok () w' := by
  have h1 := run_storeCells_at P g0 0 E cs.toList 0 cur w hg (by simp only [Array.length_toList] at hlen ⊢; omega) hcells
  rw [Nat.add_zero,take_drop_all _ _ hlen] at h1
  have hcs : cs.size = i.size := by omega
  simp only [Array.toArray_toList] at h1
  simp [Instr.storeAt,Instr.sureAddr,storeVar,sizeOf_run i1,Value.cells,hcs,h1,w']
 have hnew : w'.heap[g0]? = some (.cells cs E (0,0)) := setRow_heap w g0 cur cs E _ hg
 have hother : ∀ g,g ≠ g0 → w'.heap[g]? = w.heap[g]? := fun g hne => by
  simp only [w',World.setRow]
  rw [Array.getElem?_modify,if_neg (fun e => hne (Eq.symm e))]
 have hsize : w'.heap.size = w.heap.size := by simp [w',World.setRow]
 have hne : ∀ g,O g = none → g ≠ g0 := fun g hn e => by rw [e,hO] at hn; cases hn
 have hnn : ∀ g,O g = none → drpT O t g = none := fun g hn => by unfold drpT; rw [hn]
 have k : Keeps w w' O (drpT O t) (fun s => s = t) := by
  refine ⟨by omega,fun g hgs hn => ⟨hnn g hn,hother g (hne g hn)⟩,fun g s q hgo hns => ?_⟩
  exact ⟨by unfold drpT; rw [hgo]; simp [hns],hother g (fun e => by rw [e,hO] at hgo; simp at hgo; exact hns hgo.1.symm)⟩
 have hgB := h.own g0 _ hO
 refine ⟨w',drpT O t,?_,⟨h.below.trans ⟨rfl,rfl,rfl,by omega,fun g hg => hother g (fun e => hgB.1 (e ▸ hg))⟩,fun g hg => by rw [hsize]; exact h.base g hg,h.fresh,?_,?_,h.size,h.defers,h.pin,fun s => ?_⟩⟩
 ·simp only [execOp,ho,hav,hxv]
  simp [hrun]
 ·rintro g ⟨s,q⟩ hy
  rw [hsize]
  exact h.own g _ (drpT_inv hy).1
 ·rintro g g' ⟨s,q⟩ h1 h2
  exact h.inj g g' _ (drpT_inv h1).1 (drpT_inv h2).1
 ·have hs := h.slots s
  show Rel R w' (drpT O t) (stfVV t xs (σ s)) _
  generalize σ s = y at hs ⊢
  generalize a.tmps.getD s undef = vv at hs ⊢
  have plain : y.on t = false → Rel R w' (drpT O t) y vv := fun h1 => Rel.keeps k (fun q hq => by subst hq; exact h1) hs
  unfold stfVV
  split
  ·rename_i s' ys'
   by_cases hst : s' = t
   ·subst hst
    rw [if_pos rfl]
    cases (hs : OwnU w O s' [] vv _) with
    | ptr _ g1 cur1 E1 _ vs1 q1 q2 q3 q4 q5 =>
    have hgg := h.inj g1 g0 _ q1 hO
    subst hgg
    refine Rd.ptr g1 cs E (0,0) xs vs ⟨by unfold drpT; rw [hO]; simp,by rw [hsize]; exact hgB.2,h.fresh g1 hgB.1⟩ hnew hsz hvs fun j hj => ?_
    exact (hvr j hj).keep (fun g hgf => ⟨hnn g hgf.1,by rw [hsize]; exact hgf.2.1,hgf.2.2⟩) fun g hgf => hother g (hne g hgf.1)
   ·rw [if_neg hst]
    exact plain (by simp [VV.on,hst])
  ·split
   ·exact trivial
   ·rename_i hon
    exact plain (by simpa using hon)
theorem sound_storeS (hτ : TyOk P τ) (h : St R B w0 N O σ a w) {o : Oper} {T : TypeId} {ad x : Operand} (ho : o.op = .store T ad x) {f : VV → VV}
  (hv : vstoreS (τ T) (ev σ ad) (ev σ x) = some f) : ∃ w' O',(execOp a.eval o).run P w = .ok .skip w' ∧ St R B w0 N O' (fun s => f (σ s)) a w' := by
 unfold vstoreS at hv
 split at hv
 ·rename_i zs t ys r xs hT had hx
  exact sound_storeS0 hτ h ho (by unfold vstoreS0; rw [hT,had,hx]; exact hv)
 ·rename_i e t i d1 r k d hT had hx
  split at hv <;> simp only [Option.some.injEq,reduceCtorEq] at hv
  rename_i hc
  obtain ⟨rfl,hc⟩ := hc
  subst hv
  exact sound_det hτ h hT ho had hx hc
 ·rename_i e t i d1 r k d hT had hx
  split at hv <;> simp only [Option.some.injEq,reduceCtorEq] at hv
  rename_i hc
  obtain ⟨rfl,rfl,hc⟩ := hc
  subst hv
  exact sound_att hτ h hT ho had hx hc
 ·rename_i zs t ys xs hT had hx
  split at hv <;> simp only [Option.some.injEq,reduceCtorEq] at hv
  rename_i hc
  obtain ⟨c1,c2,c3⟩ := hc
  subst hv
  exact sound_storeF hτ h ho hT had hx c1 c2 c3
 ·cases hv

def vboxO (t : TK) (d : Nat) (x : VV) : Option (List Nat × VV) := match t,x with
 | .st zs,.ref r [] true (.agg xs) => if xs.length = zs.length then some ([d,r],.ref d [] true (.ptr xs)) else none
 | .st zs,.val (.agg xs) => if zs.any D.u64 then some ([d],.ref d [] false (.ptr xs)) else none
 | .sl _,.ref r [] true (.list xs) => some ([d,r],.ref d [] true (.ptr [.list xs]))
 | _,_ => none

theorem sound_boxO (h : St R B w0 N O σ a w) {o : Oper} {T : TypeId} {x : Operand} (ho : o.op = .box T x) {d : Nat} {ks : List Nat} {z : VV}
  (hv : vboxO (τ T) d (ev σ x) = some (ks,z)) : Yld P R B O ks z (execOp a.eval o) w := by
 unfold vboxO at hv
 split at hv <;> try cases hv
 case h_2 zs xs hT hx =>
  split at hv <;> simp only [Option.some.injEq,reduceCtorEq,Prod.mk.injEq] at hv
  obtain ⟨rfl,rfl⟩ := hv
  have hr := rel_tmp h x hx
  generalize hev : a.eval x = v at hr
  cases (hr : Rd w (Fro R O w) v _) with
  | agg cs _ vs h1 h2 h3 =>
  obtain ⟨O',m⟩ := Made.new (R := R) (B := B) h d cs T false (.ptr xs) (.pointer (some ⟨w.heap.size,0,none⟩)) (w.alloc (.cells cs T)) rfl rfl rfl rfl fun O' h4 h5 => by
   refine OwnF.ptr w.heap.size cs T xs vs h4 (heap_alloc_new w _) h1 h2 fun i hi => ?_
   refine (h3 i hi).keep (fun g hg => ⟨h5 g hg.2.1 hg.1,by simp; have := hg.2.1; omega,hg.2.2⟩) fun g hg => _root_.Go.heap_alloc_old w _ hg.2.1
  refine ⟨_,_,O',?_,m⟩
  simp only [execOp,ho,hev]
  refine run_v ?_
  simp [Instr.box,newVar,newRow,Value.cells]
 case h_3 e r xs hT hx =>
  have hxr := rel_ev h x
  rw [hx] at hxr
  generalize hxv : a.eval x = xv at hxr
  have hcs : xv.cells = #[xv] := by
   cases (hxr : OwnU w O r [] xv (.list xs)) <;> rfl
  let w' := w.alloc (.cells #[xv] T)
  let O' : Own := fun g => if g = w.heap.size then some (d,[]) else match O g with
   | none => none
   | some (s,q) => if s = r then some (d,0 :: q) else if s = d then none else some (s,q)
  have hold : ∀ g,g < w.heap.size → O' g = match O g with
   | none => none
   | some (s,q) => if s = r then some (d,0 :: q) else if s = d then none else some (s,q) := fun g hg => by
    simp only [O',if_neg (Nat.ne_of_lt hg)]
  have hself : O' w.heap.size = some (d,[]) := by simp only [O',if_true]
  have hbig : ∀ g,¬ g < w.heap.size → g ≠ w.heap.size → O' g = none := fun g h1 h2 => by
   simp only [O',if_neg h2]
   cases hO : O g with
   | none => rfl
   | some y => exact absurd (h.own g _ hO).2 h1
  have hinv : ∀ g s q,O' g = some (s,q) → (g = w.heap.size ∧ s = d ∧ q = []) ∨ (g < w.heap.size ∧ s = d ∧ ∃ q',q = 0 :: q' ∧ O g = some (r,q')) ∨ (g < w.heap.size ∧ s ≠ r ∧ s ≠ d ∧ O g = some (s,q)) := by
   intro g s q hg
   by_cases e : g = w.heap.size
   ·subst e; rw [hself] at hg; simp only [Option.some.injEq,Prod.mk.injEq] at hg; exact .inl ⟨rfl,hg.1.symm,hg.2.symm⟩
   ·by_cases hlt : g < w.heap.size
    ·rw [hold g hlt] at hg
     split at hg
     ·cases hg
     ·rename_i s' q' hO
      split at hg
      ·rename_i hs
       simp only [Option.some.injEq,Prod.mk.injEq] at hg
       obtain ⟨rfl,rfl⟩ := hg
       exact .inr (.inl ⟨hlt,rfl,q',rfl,hs ▸ hO⟩)
      ·rename_i hs
       split at hg
       ·cases hg
       ·rename_i hd
        simp only [Option.some.injEq,Prod.mk.injEq] at hg
        obtain ⟨rfl,rfl⟩ := hg
        exact .inr (.inr ⟨hlt,hs,hd,hO⟩)
    ·rw [hbig g hlt e] at hg; cases hg
  have k : Keeps w w' O O' (fun s => s ∈ [d,r]) := by
   refine ⟨by simp [w'],fun g hg hn => ⟨by rw [hold g hg,hn],_root_.Go.heap_alloc_old w _ hg⟩,fun g s q hgo hns => ?_⟩
   have hlt := (h.own g _ hgo).2
   simp only [List.mem_cons,List.not_mem_nil,or_false,not_or] at hns
   exact ⟨by rw [hold g hlt,hgo]; simp [hns.1,hns.2],_root_.Go.heap_alloc_old w _ hlt⟩
  refine ⟨.pointer (some ⟨w.heap.size,0,none⟩),w',O',?_,⟨k,(Blw.refl _ _).alloc h.base _,?_,?_,?_⟩⟩
  ·simp only [execOp,ho,hxv]
   refine run_v ?_
   simp [Instr.box,newVar,newRow,hcs,w']
  ·rintro g ⟨s,q⟩ hg
   rcases hinv g s q hg with ⟨rfl,_,_⟩ | ⟨hlt,_,q',_,hO⟩ | ⟨hlt,_,_,hO⟩
   ·exact ⟨h.newB (Nat.le_refl _),by simp [w']⟩
   ·exact ⟨(h.own g _ hO).1,by simp [w']; omega⟩
   ·exact ⟨(h.own g _ hO).1,by simp [w']; omega⟩
  ·rintro g g' ⟨s,q⟩ h1 h2
   rcases hinv g s q h1 with ⟨a1,a2,a3⟩ | ⟨a1,a2,q1,a3,a4⟩ | ⟨a1,a2,a3,a4⟩ <;> rcases hinv g' s q h2 with ⟨b1,b2,b3⟩ | ⟨b1,b2,q2,b3,b4⟩ | ⟨b1,b2,b3,b4⟩
   ·rw [a1,b1]
   ·rw [a3] at b3; cases b3
   ·exact absurd a2 b3
   ·rw [b3] at a3; cases a3
   ·rw [a3] at b3
    simp only [List.cons.injEq,true_and] at b3
    subst b3
    exact h.inj g g' _ a4 b4
   ·exact absurd a2 b3
   ·exact absurd b2 a3
   ·exact absurd b2 a3
   ·exact h.inj g g' _ a4 b4
  ·show OwnU w' O' d [] _ _
   refine OwnU.ptr [] w.heap.size #[xv] T [.list xs] (fun _ => xv) hself (heap_alloc_new w _) rfl (fun i hi => ?_) fun j hj => ?_
   ·have : i = 0 := by simpa using hi
    subst this; rfl
   ·have : j = 0 := by simpa using hj
    subst this
    refine (hxr : OwnU w O r [] xv (.list xs)).keep _ fun g q hq => ?_
    have hlt := (h.own g _ hq).2
    exact ⟨by rw [hold g hlt,hq]; simp,_root_.Go.heap_alloc_old w _ hlt⟩
 rename_i zs r xs hT hx
 split at hv <;> simp only [Option.some.injEq,reduceCtorEq,Prod.mk.injEq] at hv
 obtain ⟨rfl,rfl⟩ := hv
 have hxr := rel_ev h x
 rw [hx] at hxr
 generalize hxv : a.eval x = xv at hxr
 cases (hxr : OwnU w O r [] xv _) with
 | agg _ cs _ vs hsz hvs hvr =>
 let w' := w.alloc (.cells cs T)
 let O' : Own := fun g => if g = w.heap.size then some (d,[]) else match O g with
  | none => none
  | some (s,q) => if s = r then (if q = [] then none else some (d,q)) else if s = d then none else some (s,q)
 have hold : ∀ g,g < w.heap.size → O' g = match O g with
  | none => none
  | some (s,q) => if s = r then (if q = [] then none else some (d,q)) else if s = d then none else some (s,q) := fun g hg => by
   simp only [O',if_neg (Nat.ne_of_lt hg)]
 have hself : O' w.heap.size = some (d,[]) := by simp only [O',if_true]
 have hbig : ∀ g,¬ g < w.heap.size → g ≠ w.heap.size → O' g = none := fun g h1 h2 => by
  simp only [O',if_neg h2]
  cases hO : O g with
  | none => rfl
  | some y => exact absurd (h.own g _ hO).2 h1
 have hinv : ∀ g s q,O' g = some (s,q) → (g = w.heap.size ∧ s = d ∧ q = []) ∨ (g < w.heap.size ∧ s = d ∧ q ≠ [] ∧ O g = some (r,q)) ∨ (g < w.heap.size ∧ s ≠ r ∧ s ≠ d ∧ O g = some (s,q)) := by
  intro g s q hg
  by_cases e : g = w.heap.size
  ·subst e; rw [hself] at hg; simp only [Option.some.injEq,Prod.mk.injEq] at hg; exact .inl ⟨rfl,hg.1.symm,hg.2.symm⟩
  ·by_cases hlt : g < w.heap.size
   ·rw [hold g hlt] at hg
    split at hg
    ·cases hg
    ·rename_i s' q' hO
     split at hg
     ·rename_i hs
      split at hg
      ·cases hg
      ·rename_i hq
       simp only [Option.some.injEq,Prod.mk.injEq] at hg
       obtain ⟨rfl,rfl⟩ := hg
       exact .inr (.inl ⟨hlt,rfl,hq,hs ▸ hO⟩)
     ·rename_i hs
      split at hg
      ·cases hg
      ·rename_i hd
       simp only [Option.some.injEq,Prod.mk.injEq] at hg
       obtain ⟨rfl,rfl⟩ := hg
       exact .inr (.inr ⟨hlt,hs,hd,hO⟩)
   ·rw [hbig g hlt e] at hg; cases hg
 have k : Keeps w w' O O' (fun s => s ∈ [d,r]) := by
  refine ⟨by simp [w'],fun g hg hn => ⟨by rw [hold g hg,hn],_root_.Go.heap_alloc_old w _ hg⟩,fun g s q hgo hns => ?_⟩
  have hlt := (h.own g _ hgo).2
  simp only [List.mem_cons,List.not_mem_nil,or_false,not_or] at hns
  exact ⟨by rw [hold g hlt,hgo]; simp [hns.1,hns.2],_root_.Go.heap_alloc_old w _ hlt⟩
 refine ⟨.pointer (some ⟨w.heap.size,0,none⟩),w',O',?_,⟨k,(Blw.refl _ _).alloc h.base _,?_,?_,?_⟩⟩
 ·simp only [execOp,ho,hxv]
  refine run_v ?_
  simp [Instr.box,newVar,newRow,Value.cells,w']
 ·rintro g ⟨s,q⟩ hg
  rcases hinv g s q hg with ⟨rfl,_,_⟩ | ⟨hlt,_,_,hO⟩ | ⟨hlt,_,_,hO⟩
  ·exact ⟨h.newB (Nat.le_refl _),by simp [w']⟩
  ·exact ⟨(h.own g _ hO).1,by simp [w']; omega⟩
  ·exact ⟨(h.own g _ hO).1,by simp [w']; omega⟩
 ·rintro g g' ⟨s,q⟩ h1 h2
  rcases hinv g s q h1 with ⟨a1,a2,a3⟩ | ⟨a1,a2,a3,a4⟩ | ⟨a1,a2,a3,a4⟩ <;> rcases hinv g' s q h2 with ⟨b1,b2,b3⟩ | ⟨b1,b2,b3,b4⟩ | ⟨b1,b2,b3,b4⟩
  ·rw [a1,b1]
  ·exact absurd a3 b3
  ·exact absurd a2 b3
  ·exact absurd b3 a3
  ·exact h.inj g g' _ a4 b4
  ·exact absurd a2 b3
  ·exact absurd b2 a3
  ·exact absurd b2 a3
  ·exact h.inj g g' _ a4 b4
 ·show OwnU w' O' d [] _ _
  refine OwnU.ptr [] w.heap.size cs T xs vs hself (heap_alloc_new w _) hsz hvs fun j hj => ?_
  refine (hvr j hj).keep _ fun g q hq => ?_
  have hlt := (h.own g _ hq).2
  exact ⟨by rw [hold g hlt,hq]; simp,_root_.Go.heap_alloc_old w _ hlt⟩

def vbuildZ (t : TK) (d : Nat) (ps : List (Nat × Operand)) : Option (List Nat × VV) := match t,ps with
 | .st zs,[] => some ([d],.ref d [] true (.agg zs))
 | _,_ => none

theorem sound_buildZ (hτ : TyOk P τ) (h : St R B w0 N O σ a w) {o : Oper} {T : TypeId} {parts : Array (Nat × Operand)} (ho : o.op = .build T parts) {d : Nat} {ks : List Nat} {z : VV}
  (hv : vbuildZ (τ T) d parts.toList = some (ks,z)) : Yld P R B O ks z (execOp a.eval o) w := by
 unfold vbuildZ at hv
 split at hv <;> try cases hv
 rename_i zs hT hp
 have hpe : parts = #[] := by rw [← Array.toArray_toList (xs := parts),hp]
 subst hpe
 have hTy := hτ T
 rw [hT] at hTy
 obtain ⟨⟨i,zval,i1,i2,i3,i4,i5,i6⟩,fs,h7,h8,h9⟩ := hTy
 have e1 : ∀ g s q,drp O d g = some (s,q) → O g = some (s,q) ∧ s ≠ d := by
  intro g s q hg
  unfold drp at hg
  split at hg
  ·cases hg
  ·rename_i s' q' hO
   split at hg
   ·cases hg
   ·rename_i hs
    simp only [Option.some.injEq,Prod.mk.injEq] at hg
    obtain ⟨rfl,rfl⟩ := hg
    exact ⟨hO,hs⟩
 refine ⟨.agg (zs.map zv).toArray,w,drp O d,?_,⟨⟨Nat.le_refl _,fun g hg hn => ⟨by unfold drp; rw [hn],rfl⟩,fun g s q hgo hns => ⟨by unfold drp; rw [hgo]; simp at hns; simp [hns],rfl⟩⟩,.refl _ _,?_,?_,?_⟩⟩
 ·simp only [execOp,ho]
  refine run_v ?_
  have hm : (fs.mapM fun f => do pure (f.offset,← sizeOf f.type) : Sem (Array (Nat × Nat))).run P w = .ok (fs.map fun f => (f.offset,1)) w := by
   have := mapM_sizes (P := P) (w := w) (fun f : Field => (do pure (f.offset,← sizeOf f.type) : Sem (Nat × Nat))) (fun f => (f.offset,1)) fs.toList (fun f hf => by
    obtain ⟨j,hj,e⟩ := List.getElem_of_mem hf
    obtain ⟨_,⟨fi,hfi,hsz⟩,_⟩ := h9 j f (by rw [← Array.getElem?_toList,List.getElem?_eq_getElem hj,e])
    simp [sizeOf_run hfi,hsz])
   rw [Array.mapM_eq_mapM_toList]
   simp only [Functor.map] at this ⊢
   refine (Sem.run_bind P w _ _).trans ?_
   rw [this]
   simp [Result.andThen]
   apply Array.ext'; simp
  have hzv : (zeroValue T).run P w = .ok zval w := by simp [zeroValue,typeInfo,i1,i4]
  simp only [Instr.build,Sem.run_bind,hzv,run_underlying h7,Result.andThen_ok,hm]
  simp [Instr.fill,i5]
 ·rintro g ⟨s,q⟩ hg; exact h.own g _ (e1 g s q hg).1
 ·rintro g g' ⟨s,q⟩ h1 h2; exact h.inj g g' _ (e1 g s q h1).1 (e1 g' s q h2).1
 ·show OwnU w (drp O d) d [] _ _
  refine OwnU.agg [] _ zs (fun j => ((zs.map zv).toArray).getD j undef) (by simp) (fun j hj => by simp [hj]) fun j hj => ?_
  have hz := List.all_eq_true.1 i6 zs[j] (List.getElem_mem hj)
  have : ((zs.map zv).toArray).getD j undef = zv zs[j] := by simp [hj]
  rw [this]
  revert hz
  generalize zs[j] = e
  intro hz
  unfold D.zero at hz
  split at hz
  ·exact .int _ _ _
  ·exact .bool _ _
  ·exact .nil _
  ·cases hz

def vbuildP (t : TK) (d : Nat) (ix : List Nat) (o : Option (List D)) : Option (List Nat × VV) := match t,o with
 | .st zs,some ds => if ds.all D.sc ∧ ix.all (fun i => decide (i < zs.length)) then some ([d],.ref d [] true (.agg (setAll zs (ix.zip ds)))) else none
 | _,_ => none

def CellsOwn (O : Own) (w : World) (t : Nat) (cs : Array Value) (xs : List D) : Prop :=
 cs.size = xs.length ∧ ∀ i (h : i < xs.length),∃ v,cs[i]? = some v ∧ OwnU w O t [i] v xs[i]

theorem CellsOwn.set {O : Own} {w : World} {t : Nat} {cs : Array Value} {xs : List D} (h : CellsOwn O w t cs xs) (i : Nat) {v : Value} {d : D} (hr : ∀ p,OwnU w O t p v d) : CellsOwn O w t (cs.setIfInBounds i v) (xs.set i d) := by
 refine ⟨by simp [h.1],fun j hj => ?_⟩
 have hj' : j < xs.length := by simpa using hj
 by_cases e : i = j
 ·subst e
  exact ⟨v,by simp [h.1,hj'],by simpa using hr [i]⟩
 ·obtain ⟨u,h1,h2⟩ := h.2 j hj'
  exact ⟨u,by rw [Array.getElem?_setIfInBounds_ne e]; exact h1,by rw [List.getElem_set_ne e]; exact h2⟩

theorem fill_own {O : Own} {w : World} {t : Nat} (place : Nat → Option (Nat × Nat)) (n : Nat) (hp : ∀ i,i < n → place i = some (i,1)) :
  ∀ (parts : List (Nat × Value)) (ds : List D) (cs : Array Value) (zs : List D),zs.length = n → CellsOwn O w t cs zs → parts.length = ds.length →
   (∀ j (h : j < ds.length),∃ p,parts[j]? = some p ∧ p.1 < n ∧ (∀ q,OwnU w O t q p.2 ds[j]) ∧ p.2.cells = #[p.2]) →
   ∃ cs',Instr.fill place cs parts = some cs' ∧ CellsOwn O w t cs' (setAll zs ((parts.map (·.1)).zip ds))
 | [],ds,cs,zs,_,h2,h3,_ => ⟨cs,rfl,by simpa [setAll] using h2⟩
 | (i,v) :: r,[],cs,zs,_,_,h3,_ => by simp at h3
 | (i,v) :: r,d :: ds,cs,zs,h1,h2,h3,h4 => by
  obtain ⟨p,e1,e2,e3,e5⟩ := h4 0 (by simp)
  simp only [List.getElem?_cons_zero,Option.some.injEq] at e1
  subst e1
  obtain ⟨cs',f1,f2⟩ := fill_own place n hp r ds (cs.setIfInBounds i v) (zs.set i d) (by simpa using h1) (h2.set i e3) (by simpa using h3) fun j hj => by
   obtain ⟨p,g1,g2⟩ := h4 (j + 1) (by simpa using hj)
   exact ⟨p,by simpa using g1,by simpa using g2⟩
  refine ⟨cs',?_,?_⟩
  ·have hsz : ¬ (i + 1 > cs.size) := by have := h2.1; simp only at e2; omega
   simp only at e5
   simp only [Instr.fill,hp i e2,e5]
   simp only [List.size_toArray,List.length_cons,List.length_nil,Nat.zero_add,ne_eq]
   simp [hsz]
   simpa using f1
  ·simpa [setAll] using f2

theorem sound_buildP (hτ : TyOk P τ) (h : St R B w0 N O σ a w) {o : Oper} {T : TypeId} {parts : Array (Nat × Operand)} (ho : o.op = .build T parts) {d : Nat} {ks : List Nat} {z : VV}
  (hv : vbuildP (τ T) d (parts.toList.map (·.1)) (vals σ (parts.toList.map (·.2))) = some (ks,z)) : Yld P R B O ks z (execOp a.eval o) w := by
 unfold vbuildP at hv
 split at hv <;> try cases hv
 rename_i zs ds hT hds
 split at hv <;> simp only [Option.some.injEq,reduceCtorEq,Prod.mk.injEq] at hv
 rename_i hc
 obtain ⟨rfl,rfl⟩ := hv
 obtain ⟨hsc,hidx⟩ := hc
 have hTy := hτ T
 rw [hT] at hTy
 obtain ⟨⟨i,zval,i1,i2,i3,i4,i5,i6⟩,fs,h7,h8,h9⟩ := hTy
 have hone : ds.all D.one = true := List.all_eq_true.2 fun x hx => by
  have := List.all_eq_true.1 hsc x hx
  revert this; cases x <;> simp [D.sc,D.one]
 obtain ⟨p1,p2,p3⟩ := parts_rel h parts zs.length ds hds (fun j hj => by have := List.all_eq_true.1 hidx j hj; simpa using this) hone
 let place : Nat → Option (Nat × Nat) := fun j => (fs.map fun f => (f.offset,1))[j]?
 have hplace : ∀ j,j < zs.length → place j = some (j,1) := by
  intro j hj
  have hj' : j < fs.size := by omega
  have := (h9 j fs[j] (by rw [Array.getElem?_eq_getElem])).1
  simp [place,hj',this]
 have hz0 : CellsOwn (drp O d) w d zval.cells zs := by
  rw [i5]
  refine ⟨by simp,fun j hj => ⟨zv zs[j],by simp [hj],zv_own _ (List.all_eq_true.1 i6 zs[j] (List.getElem_mem hj)) _ _ _ _⟩⟩
 obtain ⟨cs,f1,f2⟩ := fill_own (O := drp O d) (w := w) (t := d) place zs.length hplace _ ds zval.cells zs rfl hz0 p1 (fun j hj => by
  obtain ⟨p,q1,q2,q3,q4⟩ := p3 j hj
  exact ⟨p,q1,q2,fun q => sc_own (List.all_eq_true.1 hsc _ (List.getElem_mem hj)) q3 _ _ _ _,one_cells q3 q4⟩)
 rw [p2] at f2
 have e1 : ∀ g s q,drp O d g = some (s,q) → O g = some (s,q) ∧ s ≠ d := by
  intro g s q hg
  unfold drp at hg
  split at hg
  ·cases hg
  ·rename_i s' q' hO
   split at hg
   ·cases hg
   ·rename_i hs
    simp only [Option.some.injEq,Prod.mk.injEq] at hg
    obtain ⟨rfl,rfl⟩ := hg
    exact ⟨hO,hs⟩
 refine ⟨.agg cs,w,drp O d,?_,⟨⟨Nat.le_refl _,fun g hg hn => ⟨by unfold drp; rw [hn],rfl⟩,fun g s q hgo hns => ⟨by unfold drp; rw [hgo]; simp at hns; simp [hns],rfl⟩⟩,.refl _ _,?_,?_,?_⟩⟩
 ·simp only [execOp,ho]
  refine run_v ?_
  have hm : (fs.mapM fun f => do pure (f.offset,← sizeOf f.type) : Sem (Array (Nat × Nat))).run P w = .ok (fs.map fun f => (f.offset,1)) w := by
   have := mapM_sizes (P := P) (w := w) (fun f : Field => (do pure (f.offset,← sizeOf f.type) : Sem (Nat × Nat))) (fun f => (f.offset,1)) fs.toList (fun f hf => by
    obtain ⟨j,hj,e⟩ := List.getElem_of_mem hf
    obtain ⟨_,⟨fi,hfi,hsz⟩,_⟩ := h9 j f (by rw [← Array.getElem?_toList,List.getElem?_eq_getElem hj,e])
    simp [sizeOf_run hfi,hsz])
   rw [Array.mapM_eq_mapM_toList]
   simp only [Functor.map] at this ⊢
   refine (Sem.run_bind P w _ _).trans ?_
   rw [this]
   simp [Result.andThen]
   apply Array.ext'; simp
  have hzv : (zeroValue T).run P w = .ok zval w := by simp [zeroValue,typeInfo,i1,i4]
  simp only [Instr.build,Sem.run_bind,hzv,run_underlying h7,Result.andThen_ok,hm]
  have f1' : Instr.fill (fun x => (fs.map fun f => (f.offset,1))[x]?) zval.cells (parts.map (fun (i,x) => (i,a.eval x))).toList = some cs := f1
  simp only [f1',Sem.run_pure]
 ·rintro g ⟨s,q⟩ hg; exact h.own g _ (e1 g s q hg).1
 ·rintro g g' ⟨s,q⟩ h1 h2; exact h.inj g g' _ (e1 g s q h1).1 (e1 g' s q h2).1
 ·show OwnU w (drp O d) d [] _ _
  refine OwnU.agg [] _ _ (fun j => cs.getD j undef) f2.1 (fun j hj => ?_) fun j hj => ?_
  ·obtain ⟨v,q1,_⟩ := f2.2 j hj
   simp [Array.getD_eq_getD_getElem?,q1]
  ·obtain ⟨v,q1,q2⟩ := f2.2 j hj
   have : cs.getD j undef = v := by simp [Array.getD_eq_getD_getElem?,q1]
   rw [this]; exact q2

theorem St.weak (h : St R B w0 N O σ a w) {s t : Nat} {xs : List D} (hs : σ s = .ref t [] true (.list xs)) (hN : s ∈ N) :
  ∃ O',St R B w0 N O' (upd (killl [t] σ) s (.ref t [] false (.list xs))) a w := by
 have hr := h.slots s
 rw [hs] at hr
 let O' : Own := fun g => match O g with
  | none => none
  | some (r,q) => if r = t ∧ q ≠ [] then none else some (r,q)
 have e1 : ∀ g y,O' g = some y → O g = some y := by
  intro g y hg
  simp only [O'] at hg
  split at hg
  ·cases hg
  ·rename_i r q hO
   split at hg
   ·cases hg
   ·rw [hO]; exact hg
 have e2 : ∀ g,O g = none → O' g = none := fun g hg => by simp only [O',hg]
 have e3 : ∀ g r q,O g = some (r,q) → r ≠ t → O' g = some (r,q) := fun g r q hg hr => by simp only [O',hg]; simp [hr]
 have e4 : ∀ g,O g = some (t,[]) → O' g = some (t,[]) := fun g hg => by simp only [O',hg]; simp
 have e5 : ∀ g q,q ≠ [] → O g = some (t,q) → O' g = none := fun g q hq hg => by simp only [O',hg]; simp [hq]
 have hrel : Rel R w O' (.ref t [] false (.list xs)) (a.tmps.getD s undef) := by
  generalize a.tmps.getD s undef = v at hr
  show OwnF R w O' t [] v _
  cases (hr : OwnU w O t [] v _) with
  | nil => exact .nil
  | list _ g cap cur E _ vs h1 h2 h3 h4 h5 h6 h7 =>
   refine .list g cap cur E xs vs (e4 g h1) h2 h3 h4 h5 h6 fun i hi => ?_
   refine OwnU.rd (h7 i hi) fun g' q hq => ?_
   exact ⟨e5 g' _ (by simp) hq,(h.own g' _ hq).2,h.fresh g' (h.own g' _ hq).1⟩
 have m : Made R B w w O O' [t] (.ref t [] false (.list xs)) (a.tmps.getD s undef) :=
  ⟨⟨Nat.le_refl _,fun g _ hO => ⟨e2 g hO,rfl⟩,fun g r q hO hr => ⟨e3 g r q hO (by simpa using hr),rfl⟩⟩,.refl _ _,fun g y hg => h.own g y (e1 g y hg),
   fun g g' y h1 h2 => h.inj g g' y (e1 g y h1) (e1 g' y h2),hrel⟩
 have := h.made m hN
 rw [put_same (by rw [h.size]; exact hN.2)] at this
 exact ⟨_,this⟩

def VSpoil (P : Program) (f : FuncId) (d : D) (ds : List D) (r : D) : Prop :=
 (∀ args w,(callFunc f args).run P w = .ok (.enter f args) w) ∧
 ∀ (w : World) (A : Nat → Prop) (C : Nat → Option (List Nat)) (vs : Array Value) (v : Value),
  (∀ g,A g → g < w.heap.size ∧ C g = none) → (∀ g q,C g = some q → g < w.heap.size) → (∀ g g' q,C g = some q → C g' = some q → g = g') →
  OwnU w (asO C) 0 [] v d → vs.size = ds.length + 1 → vs[0]? = some v → (∀ i (h : i < ds.length),∃ u,vs[i + 1]? = some u ∧ Rd w A u ds[i]) →
  Calls P f vs w fun e w' => ∃ (x : Value),e = .returned x ∧ Rd w' (fun _ => False) x r ∧ Blw (fun g => g < w.heap.size ∧ C g = none) w w'

theorem wp_spoil (h : St R B w0 N O σ a w) {o : Oper} {c : Call} (ho : o.op = .call c) {f : Operand} (hc : c.callee = .value f) {g : FuncId}
  (hf : ev σ f = .val (.fn g [])) {x : Operand} {xs : List Operand} (hargs : c.args.toList = x :: xs) {t : Nat} {d0 r : D} (hx : ev σ x = .ref t [] true d0)
  {ds : List D} (hds : vals σ xs = some ds) (hv : VSpoil P g d0 ds r) (hr : r.sc = true) {d : Nat} (hd : o.dst = some d) (hN : d ∈ N)
  {K : Act → World → Prop} {Q : Exit → Act → World → Prop} (hK : ∀ O' a' w',St R B w0 N O' (upd (killl [t] σ) d (.val r)) a' w' → K a' w') : o.wp P a w K Q := by
 obtain ⟨hcall,hv⟩ := hv
 have hfd := rel_ev h f
 rw [hf] at hfd
 generalize hfv : a.eval f = fv at hfd
 cases (hfd : Rd w (Fro R O w) fv _) with
 | fn _ cs _ cvs hl hcv hcr =>
 have hcs : cs = #[] := by simpa using hl
 subst hcs
 have hrun : (execOp a.eval o).run P w = .ok (.enter g (c.args.map a.eval)) w := by
  simp only [execOp,ho,resolve,hc,hfv,Deferred.ofValue]
  simp [invoke,hcall]
 unfold Oper.wp
 rw [hrun]
 simp only [Oper.upon]
 obtain ⟨hlen,hvals⟩ := vals_rd h xs ds hds
 have hxr := rel_ev h x
 rw [hx] at hxr
 have htree : OwnU w O t [] (a.eval x) d0 := hxr
 have hC : ∀ g q,subT O t [] g = some q ↔ O g = some (t,[] ++ q) := fun g q => subT_some
 have hmap : (c.args.map a.eval).toList = (x :: xs).map a.eval := by rw [Array.toList_map,hargs]
 have hsz : (c.args.map a.eval).size = ds.length + 1 := by rw [← Array.length_toList,hmap]; simp [hlen]
 have hget : ∀ i : Nat,(c.args.map a.eval)[i]? = ((x :: xs).map a.eval)[i]? := fun i => by rw [← hmap,Array.getElem?_toList]
 have key := hv w (Fro R O w) (subT O t []) (c.args.map a.eval) (a.eval x)
  (fun g hg => ⟨hg.2.1,by unfold subT; rw [hg.1]⟩) (fun g q hg => (h.own g _ ((hC g q).1 hg)).2)
  (fun g g' q h1 h2 => h.inj g g' _ ((hC g q).1 h1) ((hC g' q).1 h2))
  (htree.keep [] fun g q hg => ⟨by simp only [asO]; rw [(hC g q).2 hg]; rfl,rfl⟩) hsz (by rw [hget]; rfl)
  (fun i hi => by obtain ⟨u,h1,h2⟩ := hvals i hi; exact ⟨u,by rw [hget]; simpa using h1,h2⟩)
 refine key.mono ?_
 rintro e w' ⟨y,rfl,hy,hb⟩
 simp only
 have hsub : ∀ b,(∀ q,O b ≠ some (t,q)) → subT O t [] b = none := fun b hb => by
  cases hs : subT O t [] b with
  | none => rfl
  | some q => exact absurd ((hC b q).1 hs) (hb _)
 have e1 : ∀ g y,drp O t g = some y → O g = some y := by
  intro g y hg
  unfold drp at hg
  split at hg
  ·cases hg
  ·rename_i r q hO
   split at hg
   ·cases hg
   ·rw [hO]; exact hg
 have m : Made R B w w' O (drp O t) [t] (.val r) y := by
  refine ⟨⟨hb.size,fun b hbs hbn => ⟨by unfold drp; rw [hbn],hb.block b ⟨hbs,hsub b (fun q => by rw [hbn]; simp)⟩⟩,fun b s q hbt hst => ?_⟩,⟨hb.os,hb.tape,hb.output,hb.size,fun b hBb => hb.block b ⟨h.base b hBb,hsub b fun q hq => (h.own b _ hq).1 hBb⟩⟩,?_,?_,?_⟩
  ·have hst' : s ≠ t := by simpa using hst
   exact ⟨by unfold drp; rw [hbt]; simp [hst'],hb.block b ⟨(h.own b _ hbt).2,hsub b fun q hq => by rw [hbt] at hq; simp at hq; exact hst' hq.1⟩⟩
  ·intro b z hz
   exact ⟨(h.own b _ (e1 b z hz)).1,Nat.lt_of_lt_of_le (h.own b _ (e1 b z hz)).2 hb.size⟩
  ·intro b b' z h1 h2
   exact h.inj b b' _ (e1 b z h1) (e1 b' z h2)
  ·exact (sc_rd hr (sc_own hr hy (fun _ => none) w' 0 []) _ _ : Rd w' (Fro R (drp O t) w') y r)
 rw [hd]
 exact hK _ _ _ (h.made m hN)
end

def PtrF (w : World) (S : Nat → Prop) (g0 : Nat) (xs : List D) : Prop := ∃ (cur : Array Value) (E : TypeId) (vs : Nat → Value),
 w.heap[g0]? = some (.cells cur E (0,0)) ∧ cur.size = xs.length ∧ (∀ i,i < xs.length → cur[i]? = some (vs i)) ∧ ∀ i (h : i < xs.length),Rd w S (vs i) xs[i]

def VPtr (P : Program) (f : FuncId) (xs : List D) (ds : List D) (rs : List Ret) (xs' : List D) : Prop :=
 (∀ args w,(callFunc f args).run P w = .ok (.enter f args) w) ∧
 ∀ (w : World) (A : Nat → Prop) (g0 : Nat) (vs : Array Value),g0 < w.heap.size → (∀ g,A g → g < w.heap.size ∧ g ≠ g0) → PtrF w A g0 xs →
  vs.size = ds.length + 1 → vs[0]? = some (.pointer (some ⟨g0,0,none⟩)) → (∀ i (h : i < ds.length),∃ u,vs[i + 1]? = some u ∧ Rd w A u ds[i]) →
  Calls P f vs w fun e w' => ∃ (v : Value) (O : Own),e = .returned v ∧ Blw (fun g => g < w.heap.size ∧ g ≠ g0) w w' ∧ (∀ g y,O g = some y → w.heap.size ≤ g ∧ g < w'.heap.size) ∧
   (∀ g g' y,O g = some y → O g' = some y → g = g') ∧ RetOk (fun g => A g ∨ w.heap.size ≤ g) w' O rs v ∧ PtrF w' (fun g => (A g ∨ w.heap.size ≤ g) ∧ O g = none ∧ g < w'.heap.size) g0 xs'

open Classical in
noncomputable def wkVV (t : Nat) (xs xs' : List D) (x : VV) : VV :=
 match x with
 | .ref r [] false (.ptr ys) => if r = t then (if ys = xs then .ref t [] false (.ptr xs') else .dead) else x
 | _ => if x.on t then .dead else x

theorem wkVV_cases (t : Nat) (xs xs' : List D) (x : VV) : wkVV t xs xs' x = .dead ∨ (x.on t = false ∧ wkVV t xs xs' x = x) ∨
  (x = .ref t [] false (.ptr xs) ∧ wkVV t xs xs' x = .ref t [] false (.ptr xs')) := by
 have other : (∀ r ys,x ≠ .ref r [] false (.ptr ys)) → wkVV t xs xs' x = if x.on t then .dead else x := by
  intro h
  unfold wkVV
  split
  ·exact absurd rfl (h _ _)
  ·rfl
 by_cases hx : ∃ r ys,x = .ref r [] false (.ptr ys)
 ·obtain ⟨r,ys,rfl⟩ := hx
  by_cases hr : r = t
  ·subst hr
   by_cases hn : ys = xs
   ·subst hn; exact .inr (.inr ⟨rfl,by simp [wkVV]⟩)
   ·exact .inl (by simp [wkVV,hn])
  ·exact .inr (.inl ⟨by simp [VV.on,hr],by simp [wkVV,hr]⟩)
 ·have h := other fun r ys e => hx ⟨r,ys,e⟩
  by_cases hon : x.on t = true
  ·exact .inl (by rw [h,if_pos hon])
  ·exact .inr (.inl ⟨by simpa using hon,by rw [h,if_neg hon]⟩)

section
variable {P : Program} {τ : TypeId → TK} {Φ : Orc} {R : Nat → Prop} {B : Nat → Prop} {w0 : W0} {N : Lim} {O : Own} {σ : Frm} {a : Act} {w : World}

theorem wp_ptr (h : St R B w0 N O σ a w) {o : Oper} {c : Call} (ho : o.op = .call c) {f : Operand} (hc : c.callee = .value f) {g : FuncId}
  (hf : ev σ f = .val (.fn g [])) {x : Operand} {xs : List Operand} (hargs : c.args.toList = x :: xs) {t : Nat} {ys ys' : List D} (hx : ev σ x = .ref t [] false (.ptr ys))
  {ds : List D} (hds : data σ xs = some ds) {rs : List Ret} (hv : VPtr P g ys ds rs ys') {d : Nat} {ks0 : List Nat} {y : VV} (hy : retVV d (toks σ xs) rs = some (ks0,y)) (htd : t ∉ toks σ xs ++ ks0) (hd : o.dst = some d) (hN : d ∈ N)
  {K : Act → World → Prop} {Q : Exit → Act → World → Prop} (hK : ∀ O' a' w',St R B w0 N O' (upd (killl (toks σ xs ++ ks0) fun s => wkVV t ys ys' (σ s)) d y) a' w' → K a' w') : o.wp P a w K Q := by
 obtain ⟨hcall,hv⟩ := hv
 generalize hks : toks σ xs ++ ks0 = ks at htd hK
 have hts : ∀ r ∈ toks σ xs,r ∈ ks := fun r hr => by rw [← hks]; exact List.mem_append_left _ hr
 have hk0 : ∀ r ∈ ks0,r ∈ ks := fun r hr => by rw [← hks]; exact List.mem_append_right _ hr
 have hfd := rel_ev h f
 rw [hf] at hfd
 generalize hfv : a.eval f = fv at hfd
 cases (hfd : Rd w (Fro R O w) fv _) with
 | fn _ cs _ cvs hl hcv hcr =>
 have hcs : cs = #[] := by simpa using hl
 subst hcs
 have hrun : (execOp a.eval o).run P w = .ok (.enter g (c.args.map a.eval)) w := by
  simp only [execOp,ho,resolve,hc,hfv,Deferred.ofValue]
  simp [invoke,hcall]
 unfold Oper.wp
 rw [hrun]
 simp only [Oper.upon]
 obtain ⟨hlen,hvals⟩ := data_rd h (ts := toks σ xs) xs ds hds fun t ht => ht
 have hxr := rel_ev h x
 rw [hx] at hxr
 have hmap : (c.args.map a.eval).toList = (x :: xs).map a.eval := by rw [Array.toList_map,hargs]
 have hsz : (c.args.map a.eval).size = ds.length + 1 := by rw [← Array.length_toList,hmap]; simp [hlen]
 have hget : ∀ i : Nat,(c.args.map a.eval)[i]? = ((x :: xs).map a.eval)[i]? := fun i => by rw [← hmap,Array.getElem?_toList]
 generalize hxv : a.eval x = xv at hxr
 cases (hxr : OwnF R w O t [] xv _) with
 | ptr g0 cur E _ cvs' p1 p2 p3 p4 p5 =>
 have hg0 := (h.own g0 _ p1)
 have key := hv w (Foot R O w (toks σ xs)) g0 (c.args.map a.eval) hg0.2 (fun b hb => ⟨hb.1,fun e => by
   rcases hb.2.2 with h1 | ⟨s,p,h1,h2⟩
   ·rw [e,p1] at h1; cases h1
   ·rw [e,p1] at h2; simp only [Option.some.injEq,Prod.mk.injEq] at h2; exact htd (hts t (h2.1 ▸ h1))⟩)
  ⟨cur,E,cvs',p2,p3,p4,fun i hi => (p5 i hi).keep (fun b hb => ⟨hb.2.1,hb.2.2,.inl hb.1⟩) fun _ _ => rfl⟩ hsz (by rw [hget]; simp [hxv])
  (fun i hi => by obtain ⟨u,h1,h2⟩ := hvals i hi; exact ⟨u,by rw [hget]; simpa using h1,h2⟩)
 refine key.mono ?_
 rintro e w' ⟨v,Oc,rfl,hb,hown,hinj,hret,hptr⟩
 simp only
 rw [hd]
 let O' : Own := fun b => if b < w.heap.size then (match O b with | some (t,p) => if t ∈ ks then none else some (t,p) | none => none) else
  (if d ∈ ks0 then (match Oc b with | some (0,p) => some (d,p) | _ => none) else none)
 have hlt : ∀ b,b < w.heap.size → O' b = (match O b with | some (t,p) => if t ∈ ks then none else some (t,p) | none => none) := fun b hb => by simp only [O',if_pos hb]
 have hge : ∀ b,¬ b < w.heap.size → O' b = (if d ∈ ks0 then (match Oc b with | some (0,p) => some (d,p) | _ => none) else none) := fun b hb => by simp only [O',if_neg hb]
 have hne0 : ∀ b z,O b = some z → z ≠ (t,[]) → b ≠ g0 := fun b z h1 h2 e => by rw [e,p1] at h1; exact h2 (Option.some.inj h1).symm
 have hnn0 : ∀ b,O b = none → b ≠ g0 := fun b h1 e => by rw [e,p1] at h1; cases h1
 have k : Keeps w w' O O' (fun s => s ∈ t :: ks) := by
  refine ⟨hb.size,fun b hbs hbn => ⟨by rw [hlt b hbs,hbn],hb.block b ⟨hbs,hnn0 b hbn⟩⟩,fun b s p hbt hst => ?_⟩
  simp only [List.mem_cons,not_or] at hst
  have hbs := (h.own b _ hbt).2
  exact ⟨by rw [hlt b hbs,hbt]; simp only [if_neg hst.2],hb.block b ⟨hbs,hne0 b _ hbt fun e => hst.1 (by simp only [Prod.mk.injEq] at e; exact e.1)⟩⟩
 have tok_lt : ∀ b t p,b < w.heap.size → O' b = some (t,p) → O b = some (t,p) ∧ t ∉ ks := by
  intro b t p hbs hy
  rw [hlt b hbs] at hy
  split at hy
  ·rename_i t' p' hO
   split at hy
   ·cases hy
   ·rename_i hk
    simp only [Option.some.injEq,Prod.mk.injEq] at hy
    obtain ⟨rfl,rfl⟩ := hy
    exact ⟨hO,hk⟩
  ·cases hy
 have tok_ge : ∀ b t p,¬ b < w.heap.size → O' b = some (t,p) → t = d ∧ d ∈ ks0 ∧ Oc b = some (0,p) := by
  intro b t p hbs hy
  rw [hge b hbs] at hy
  split at hy
  ·rename_i hk
   split at hy
   ·rename_i p' hO
    simp only [Option.some.injEq,Prod.mk.injEq] at hy
    obtain ⟨rfl,rfl⟩ := hy
    exact ⟨rfl,hk,hO⟩
   ·cases hy
  ·cases hy
 have hBb : ∀ b,B b → b < w.heap.size ∧ b ≠ g0 := fun b hbB => ⟨h.base b hbB,fun e => hg0.1 (e ▸ hbB)⟩
 have hfro0 : ∀ b,Foot R O w (toks σ xs) b → Fro R O' w' b := fun b hfr => ⟨by
  rw [hlt b hfr.1]
  rcases hfr.2.2 with h2 | ⟨s,p,h2,h3⟩
  ·rw [h2]
  ·rw [h3]; simp only [if_pos (hts s h2)],Nat.lt_of_lt_of_le hfr.1 hb.size,hfr.2.1⟩
 have hfro1 : ∀ b,w.heap.size ≤ b → b < w'.heap.size → Oc b = none → Fro R O' w' b := fun b h1 h2 h3 => ⟨by rw [hge b (by omega),h3]; simp,h2,h.fresh b (h.newB h1)⟩
 have scal : ∀ {y v},Rd w' (fun _ => False) v y → Rd w' (Fro R O' w') v y := fun hh => hh.keep (fun _ f => f.elim) (fun _ f => f.elim)
 have shared : ∀ {y v},(∀ g,Oc g = none) → Rd w' (fun g => (Foot R O w (toks σ xs) g ∨ w.heap.size ≤ g) ∧ g < w'.heap.size) v y → Rd w' (Fro R O' w') v y := by
  intro y v hn hr
  refine hr.keep (fun b hb => ?_) fun _ _ => rfl
  rcases hb.1 with h1 | h1
  ·exact hfro0 b h1
  ·exact hfro1 b h1 hb.2 (hn b)
 have tree : ∀ u y v,d ∈ ks0 → Tree (fun g => Foot R O w (toks σ xs) g ∨ w.heap.size ≤ g) w' Oc 0 [] u v y → Tree R w' O' d [] u v y := by
  intro u y v hd ht
  have hroot : ∀ b q,Oc b = some (0,q) → O' b = some (d,q) := fun b q hq => by
   rw [hge b (by have := (hown b _ hq).1; omega),if_pos hd,hq]; rfl
  have hfro : ∀ b,Fro (fun g => Foot R O w (toks σ xs) g ∨ w.heap.size ≤ g) Oc w' b → Fro R O' w' b := by
   intro b hfr
   rcases hfr.2.2 with h1 | h1
   ·exact hfro0 b h1
   ·exact hfro1 b h1 hfr.2.1 hfr.1
  cases u with
  | true => exact OwnU.keep ht [] fun b q hq => ⟨hroot b _ (by simpa using hq),rfl⟩
  | false =>
   cases (ht : OwnF _ w' Oc 0 [] v y) with
   | nil => exact OwnF.nil
   | list g cap cur E xs vs h1 h2 h3 h4 h5 h6 h7 =>
    exact OwnF.list g cap cur E xs vs (hroot _ _ h1) h2 h3 h4 h5 h6 fun i hi => (h7 i hi).keep hfro fun _ _ => rfl
   | ptr g cur E xs vs h1 h2 h3 h4 h5 =>
    exact OwnF.ptr g cur E xs vs (hroot _ _ h1) h2 h3 h4 fun i hi => (h5 i hi).keep hfro fun _ _ => rfl
 have hrel : Rel R w' O' y v := by
  unfold retVV at hy
  split at hy
  ·simp only [Option.some.injEq,Prod.mk.injEq] at hy; obtain ⟨rfl,rfl⟩ := hy
   exact scal hret
  ·simp only [Option.some.injEq,Prod.mk.injEq] at hy; obtain ⟨rfl,rfl⟩ := hy
   exact tree true _ _ (by simp) hret
  ·simp only [Option.some.injEq,Prod.mk.injEq] at hy; obtain ⟨rfl,rfl⟩ := hy
   exact tree false _ _ (by simp) hret
  ·simp only [Option.some.injEq,Prod.mk.injEq] at hy; obtain ⟨rfl,rfl⟩ := hy
   obtain ⟨p,q,h1,h2,h3⟩ := hret
   exact ⟨p,q,h1,scal h2,scal h3⟩
  ·simp only [Option.some.injEq,Prod.mk.injEq] at hy; obtain ⟨rfl,rfl⟩ := hy
   obtain ⟨p,q,h1,h2,h3⟩ := hret
   exact ⟨p,q,h1,tree true _ _ (by simp) h2,scal h3⟩
  ·simp only [Option.some.injEq,Prod.mk.injEq] at hy; obtain ⟨rfl,rfl⟩ := hy
   obtain ⟨p,q,h1,h2,h3⟩ := hret
   exact ⟨p,q,h1,tree false _ _ (by simp) h2,scal h3⟩
  ·simp only [Option.some.injEq,Prod.mk.injEq] at hy; obtain ⟨rfl,rfl⟩ := hy
   exact shared hret.1 hret.2
  ·simp only [Option.some.injEq,Prod.mk.injEq] at hy; obtain ⟨rfl,rfl⟩ := hy
   obtain ⟨hn,p,q,h1,h2,h3⟩ := hret
   exact ⟨p,q,h1,shared hn h2,scal h3⟩
  ·simp only [Option.some.injEq,Prod.mk.injEq] at hy; obtain ⟨rfl,rfl⟩ := hy
   obtain ⟨hn,vs,h1,h2,h3⟩ := hret
   exact ⟨vs,h1,h2,fun i hi => by obtain ⟨u,h4,h5⟩ := h3 i hi; exact ⟨u,h4,shared hn h5⟩⟩
  ·cases hy
 refine hK O' _ w' ⟨h.below.trans ⟨hb.os,hb.tape,hb.output,hb.size,fun b hbB => hb.block b (hBb b hbB)⟩,fun b hbB => Nat.lt_of_lt_of_le (h.base b hbB) hb.size,h.fresh,?_,?_,
  by simp [Act.put,h.size],h.defers,fun s hs => by rw [getD_put (by rw [h.size]; exact hN.2),if_neg (fun e => by have := hN.1; omega)]; exact h.pin s hs,fun s => ?_⟩
 ·rintro b ⟨s,p⟩ hz
  by_cases hbs : b < w.heap.size
  ·exact ⟨(h.own b _ (tok_lt b s p hbs hz).1).1,Nat.lt_of_lt_of_le hbs hb.size⟩
  ·have := hown b _ (tok_ge b s p hbs hz).2.2
   exact ⟨h.newB this.1,this.2⟩
 ·rintro b b' ⟨s,p⟩ h1 h2
  by_cases hb1 : b < w.heap.size <;> by_cases hb2 : b' < w.heap.size
  ·exact h.inj b b' _ (tok_lt b s p hb1 h1).1 (tok_lt b' s p hb2 h2).1
  ·have e1 := tok_lt b s p hb1 h1
   have e2 := tok_ge b' s p hb2 h2
   exact absurd (hk0 _ e2.2.1) (e2.1 ▸ e1.2)
  ·have e1 := tok_lt b' s p hb2 h2
   have e2 := tok_ge b s p hb1 h1
   exact absurd (hk0 _ e2.2.1) (e2.1 ▸ e1.2)
  ·exact hinj b b' _ (tok_ge b s p hb1 h1).2.2 (tok_ge b' s p hb2 h2).2.2
 ·rw [getD_put (by rw [h.size]; exact hN.2)]
  unfold upd
  by_cases hs : s = d
  ·rw [if_pos hs,if_pos hs]
   exact hrel
  ·rw [if_neg hs,if_neg hs]
   have hslot := h.slots s
   have nokill : ∀ x : VV,(∀ t ∈ ks,x.on t = false) → (if (ks.any fun t => x.on t) = true then VV.dead else x) = x := fun x hx => by
    rw [if_neg]
    intro he
    obtain ⟨t,h1,h2⟩ := List.any_eq_true.1 he
    rw [hx t h1] at h2
    cases h2
   unfold killl
   simp only
   rcases wkVV_cases t ys ys' (σ s) with hm | ⟨hon,hm⟩ | ⟨hσ,hm⟩
   ·rw [hm]; split <;> exact trivial
   ·rw [hm]
    split
    ·exact trivial
    ·rename_i hk
     refine hslot.keeps k fun r hr => ?_
     rcases List.mem_cons.1 hr with rfl | hr
     ·exact hon
     ·cases he : (σ s).on r with
      | false => rfl
      | true => exact absurd (List.any_eq_true.2 ⟨r,hr,he⟩) hk
   ·rw [hm,nokill _ fun r hr => by simp only [VV.on,beq_eq_false_iff_ne,ne_eq]; rintro rfl; exact htd hr]
    rw [hσ] at hslot
    generalize a.tmps.getD s undef = sv at hslot
    cases (hslot : OwnF R w O t [] sv _) with
    | ptr g1 cur1 E1 _ vs1 q1 q2 q3 q4 q5 =>
    have := h.inj g0 g1 _ p1 q1
    subst this
    obtain ⟨cur2,E2,vs2,r1,r2,r3,r4⟩ := hptr
    refine OwnF.ptr g0 cur2 E2 ys' vs2 (by rw [hlt g0 hg0.2,p1]; simp only [if_neg htd]) r1 r2 r3 fun i hi => (r4 i hi).keep (fun b hb => ?_) fun _ _ => rfl
    rcases hb.1 with h1 | h1
    ·exact hfro0 b h1
    ·exact hfro1 b h1 hb.2.2 hb.2.1
end

def dtcVV (t : Nat) (p : List Nat) (d : Nat) (x : VV) : VV :=
 match x with
 | .ref r [] true D0 => if r = t then .ref t [] true (D.put p D0 .gone) else if r = d then .dead else x
 | .clo f cs => if p.isEmpty || (VV.clo f cs).on d then .dead else .clo f cs
 | .cel q f cs => if p.isEmpty || (VV.cel q f cs).on d then .dead else .cel q f cs
 | _ => if x.on t || x.on d then .dead else x

theorem dtcVV_cases (t : Nat) (p : List Nat) (d : Nat) (x : VV) : dtcVV t p d x = .dead ∨ (x.on t = false ∧ x.on d = false ∧ dtcVV t p d x = x) ∨
  (∃ D0,x = .ref t [] true D0 ∧ dtcVV t p d x = .ref t [] true (D.put p D0 .gone)) ∨
  (p ≠ [] ∧ x.on d = false ∧ dtcVV t p d x = x ∧ ((∃ f cs,x = .clo f cs) ∨ ∃ q f cs,x = .cel q f cs)) := by
 by_cases hc : (∃ f cs,x = .clo f cs) ∨ ∃ q f cs,x = .cel q f cs
 ·have hu : dtcVV t p d x = if p.isEmpty || x.on d then .dead else x := by
   rcases hc with ⟨f,cs,rfl⟩ | ⟨q,f,cs,rfl⟩ <;> rfl
  rw [hu]
  split
  ·exact .inl rfl
  ·rename_i h
   simp only [Bool.or_eq_true,not_or,Bool.not_eq_true] at h
   exact .inr (.inr (.inr ⟨by simpa using h.1,h.2,rfl,hc⟩))
 by_cases hx : ∃ r D0,x = .ref r [] true D0
 ·obtain ⟨r,D0,rfl⟩ := hx
  by_cases hr : r = t
  ·subst hr; exact .inr (.inr (.inl ⟨D0,rfl,by simp [dtcVV]⟩))
  ·by_cases hd : r = d
   ·subst hd; exact .inl (by simp [dtcVV,hr])
   ·exact .inr (.inl ⟨by simp [VV.on,hr],by simp [VV.on,hd],by simp [dtcVV,hr,hd]⟩)
 ·have h : dtcVV t p d x = if x.on t || x.on d then .dead else x := by
   unfold dtcVV
   split
   ·exact absurd ⟨_,_,rfl⟩ hx
   ·exact absurd (.inl ⟨_,_,rfl⟩) hc
   ·exact absurd (.inr ⟨_,_,_,rfl⟩) hc
   ·rfl
  rw [h]
  cases h1 : x.on t with
  | true => exact .inl (by simp)
  | false =>
   cases h2 : x.on d with
   | true => exact .inl (by simp)
   | false => exact .inr (.inl ⟨rfl,rfl,by simp⟩)

open Classical in
noncomputable def dtc (O : Own) (t : Nat) (p : List Nat) (d : Nat) : Own := fun g => match O g with
 | none => none
 | some (r,q) => if r = t ∧ p <+: q then some (d,q.drop p.length) else if r = d then none else some (r,q)

theorem dtc_inv {O : Own} {t d : Nat} {p : List Nat} {g r : Nat} {q : List Nat} (h : dtc O t p d g = some (r,q)) :
  (r = d ∧ O g = some (t,p ++ q)) ∨ (r ≠ d ∧ ¬ (r = t ∧ p <+: q) ∧ O g = some (r,q)) := by
 unfold dtc at h
 split at h
 ·cases h
 ·rename_i r' q' hO
  split at h
  ·rename_i hc
   obtain ⟨rfl,s,rfl⟩ := hc
   simp only [List.drop_left,Option.some.injEq,Prod.mk.injEq] at h
   obtain ⟨rfl,rfl⟩ := h
   exact .inl ⟨rfl,hO⟩
  ·rename_i hc
   split at h
   ·cases h
   ·rename_i hd
    simp only [Option.some.injEq,Prod.mk.injEq] at h
    obtain ⟨rfl,rfl⟩ := h
    exact .inr ⟨hd,hc,hO⟩

section
variable {P : Program} {τ : TypeId → TK} {Φ : Orc} {R : Nat → Prop} {B : Nat → Prop} {w0 : W0} {N : Lim} {O : Own} {σ : Frm} {a : Act} {w : World}
theorem St.detach (h : St R B w0 N O σ a w) {s t : Nat} {p : List Nat} {x : D} (hs : σ s = .ref t p true x) {d : Nat} (htd : t ≠ d) :
  St R B w0 N (dtc O t p d) (upd (fun q => dtcVV t p d (σ q)) s (.ref d [] true x)) a w := by
 have hin : ∀ g q,O g = some (t,p ++ q) → dtc O t p d g = some (d,q) := fun g q hg => by
  unfold dtc
  rw [hg]
  simp
 have hout : ∀ g r q,O g = some (r,q) → r ≠ d → ¬ (r = t ∧ p <+: q) → dtc O t p d g = some (r,q) := fun g r q hg h1 h2 => by
  unfold dtc
  rw [hg]
  simp only [if_neg h2,if_neg h1]
 have k : Keeps w w O (dtc O t p d) (fun r => r = t ∨ r = d) := by
  refine ⟨Nat.le_refl _,fun g _ hO => ⟨by unfold dtc; rw [hO],rfl⟩,fun g r q hO hr => ⟨hout g r q hO (fun e => hr (.inr e)) fun e => hr (.inl e.1),rfl⟩⟩
 refine ⟨h.below,h.base,h.fresh,?_,?_,h.size,h.defers,h.pin,fun q => ?_⟩
 ·rintro g ⟨r,q⟩ hg
  rcases dtc_inv hg with ⟨_,e⟩ | ⟨_,_,e⟩ <;> exact h.own g _ e
 ·rintro g g' ⟨r,q⟩ h1 h2
  rcases dtc_inv h1 with ⟨e1,e2⟩ | ⟨e1,_,e2⟩ <;> rcases dtc_inv h2 with ⟨f1,f2⟩ | ⟨f1,_,f2⟩
  ·exact h.inj g g' _ e2 f2
  ·exact absurd e1 f1
  ·exact absurd f1 e1
  ·exact h.inj g g' _ e2 f2
 ·unfold upd
  split
  ·rename_i e
   subst e
   have hr := h.slots q
   rw [hs] at hr
   exact OwnU.keep (hr : OwnU w O t p _ x) [] fun g q' hq => ⟨by simpa using hin g q' hq,rfl⟩
  ·have hslot := h.slots q
   show Rel R w _ (dtcVV t p d (σ q)) _
   rcases dtcVV_cases t p d (σ q) with hm | ⟨h1,h2,hm⟩ | ⟨D0,hσ,hm⟩ | ⟨hp,hod,hm,hc⟩
   ·rw [hm]; exact trivial
   ·rw [hm]
    exact hslot.keeps k fun r hr => by rcases hr with rfl | rfl; exact h1; exact h2
   ·rw [hm]
    rw [hσ] at hslot
    refine OwnU.sub (p := p) (D0 := D.node p D0) (fun b q' hq hnp => ⟨hout b t q' hq htd fun e => hnp e.2,rfl⟩) (fun v _ => .gone _ v) (hslot : OwnU w O t [] _ D0) p (by simp) rfl
   ·rw [hm]
    have hroot : ∀ g r,O g = some (r,[]) → r ≠ d → dtc O t p d g = some (r,[]) := fun g r hg hr => hout g r [] hg hr fun e => hp (by simpa using e.2)
    rcases hc with ⟨f,cs,hx⟩ | ⟨z,f,cs,hx⟩
    ·rw [hx] at hslot hod ⊢
     refine CloR.roots k (fun r g hon hg => hroot g r hg fun e => ?_) hslot
     subst e
     simp only [VV.on] at hod
     rw [hod] at hon; cases hon
    ·rw [hx] at hslot hod ⊢
     simp only [VV.on,Bool.or_eq_false_iff,beq_eq_false_iff_ne] at hod
     obtain ⟨g,cur,E,cv,c1,c2,c3,c4,c5,c6⟩ := hslot
     refine ⟨g,cur,E,cv,c1,hroot g z c2 hod.1,c3,c4,c5,CloR.roots k (fun r g hon hg => hroot g r hg fun e => ?_) c6⟩
     subst e
     rw [hod.2] at hon; cases hon
end

def VOk (P : Program) (f : FuncId) (ds : List D) : List Ret → Prop
 | [.mut d',.sc r] => match ds with
  | d :: ds' => VMut P f d ds' r d'
  | [] => False
 | [.spoil,.sc r] => match ds with
  | d :: ds' => VSpoil P f d ds' r
  | [] => False
 | .ptr xs' :: rs => match ds with
  | .ptr xs :: ds' => VPtr P f xs ds' rs xs'
  | _ => False
 | rs => VCall P f ds rs

theorem VOk.call {P : Program} {f : FuncId} {ds : List D} {rs : List Ret} {d : Nat} {ts : List Nat} {z : List Nat × VV} (h : VOk P f ds rs) (hz : retVV d ts rs = some z) : VCall P f ds rs := by
 unfold VOk at h
 split at h
 ·simp [retVV] at hz
 ·simp [retVV] at hz
 ·simp [retVV] at hz
 ·exact h

end Go.Vam
