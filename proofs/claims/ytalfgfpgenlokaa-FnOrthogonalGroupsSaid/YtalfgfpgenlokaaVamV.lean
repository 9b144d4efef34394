/- Maps from numbers to numbers that a call makes for itself, and loops over them. -/
import Derived.Test.YtalfgfpgenlokaaVamT
import Derived.Maps.RangeRun
import Derived.Carry
namespace Go.Vam
set_option linter.unusedVariables false
open Go Go.RowKit
set_option linter.unusedSimpArgs false
open Go.ChangeMaps (setBlock)

section
variable {P : Program} {τ : TypeId → TK} {Φ : Orc} {R B : Nat → Prop} {w0 : W0} {N : Lim} {O : Own} {σ : Frm} {a : Act} {w : World}

def OStep (P : Program) (N : Lim) (o : Oper) (σ : Frm) {ι : Type} (F : ι → Frm) (A : ι → Prop) : Prop :=
 ∀ (R B : Nat → Prop) (w0 : W0) (O : Own) (a : Act) (w : World) (K : Act → World → Prop) (Q : Exit → Act → World → Prop),
  St R B w0 N O σ a w → (∀ i O' a' w',A i → St R B w0 N O' (F i) a' w' → K a' w') → o.wp P a w K Q

theorem vrun_pre (hτ : TyOk P τ) (hΦ : Sound P Φ) {ops : Array Oper} {Q : Exit → Act → World → Prop} : ∀ (l l2 : List Oper) {σ σ' : Frm} {O : Own} {a : Act} {w : World},St R B w0 N O σ a w → vrun τ Φ N ops l σ = some σ' →
  (∀ O' a' w',St R B w0 N O' σ' a' w' → wpList P ops Q l2 a' w') → wpList P ops Q (l ++ l2) a w
 | [],l2,σ,σ',O,a,w,h,hv,hQ => by
  simp only [vrun,Option.some.injEq] at hv
  subst hv
  exact hQ O a w h
 | o :: r,l2,σ,σ',O,a,w,h,hv,hQ => by
  simp only [vrun] at hv
  split at hv <;> try cases hv
  rename_i e he
  refine wpList_step fun K hK => ?_
  exact vact_sound hτ hΦ h he fun O' a' w' h' => hK a' w' (vrun_pre hτ hΦ r l2 h' hv hQ)

theorem st_pick {fl f1 : FL} (h : St R B w0 N O (mk fl) a w) (e : pickL (f1.map (·.1)) fl = f1) : St R B w0 N O (mk f1) a w := by
 rw [← e,← keep_mk]
 exact h.forget (keep_spec _ _)

theorem VW.mid (hτ : TyOk P τ) (hΦ : Sound P Φ) (ds : List (Option Nat)) (k : Nat) (f1 : FL) {ι : Type} (F f2 : ι → FL) (A : ι → Prop) {id : Nat} {l : List Oper} {y : Code} {fl : FL} {Q : Exit → Frm → Prop}
  (o : Oper) (hds : l.map (·.dst) = ds) (ho : l[k]? = some o) (hg : o.guard = none)
  (h1 : AfterL (runL τ Φ N ds (l.take k) fl) fun f => pickL (f1.map (·.1)) f = f1)
  (hs : OStep P N o (mk f1) (fun i => mk (F i)) A)
  (h2 : ∀ i,A i → AfterL (runL τ Φ N ds (l.drop (k + 1)) (F i)) fun f => pickL ((f2 i).map (·.1)) f = f2 i)
  (h3 : ∀ i,A i → VW P N y (mk (f2 i)) Q) : VW P N (.seq (.region id l.toArray false) y) (mk fl) Q := by
 subst hds
 refine VW.seq ?_
 intro R B w0 O a w hst
 have el : l.take k ++ o :: l.drop (k + 1) = l := by
  obtain ⟨hk,e⟩ := List.getElem?_eq_some_iff.1 ho
  rw [← e,← List.drop_eq_getElem_cons hk,List.take_append_drop]
 refine wp_region_lit ?_
 have : wpList P l.toArray (fun e a' w' => ∃ O' σ',St R B w0 N O' σ' a' w' ∧ Nx (fun σ' => VW P N y σ' Q) Q e σ') (l.take k ++ o :: l.drop (k + 1)) a w := by
  cases hv : runL τ Φ N (l.map (·.dst)) (l.take k) fl with
  | none => rw [hv] at h1; exact h1.elim
  | some f1' =>
   rw [hv] at h1
   refine vrun_pre hτ hΦ (l.take k) (o :: l.drop (k + 1)) hst (runL_ok (l0 := l) (l.take k) fl f1' hv) fun O1 a1 w1 hst1 => ?_
   have hst2 := st_pick hst1 h1
   refine wpList_step fun K hK => ?_
   have hw : Region.wanted o (yielded l.toArray a1.tmps) = true := by simp [Region.wanted,hg]
   rw [if_pos hw]
   refine hs R B w0 O1 a1 w1 K _ hst2 fun i O2 a2 w2 hA hst3 => hK a2 w2 ?_
   have h2' := h2 i hA
   cases hv2 : runL τ Φ N (l.map (·.dst)) (l.drop (k + 1)) (F i) with
   | none => rw [hv2] at h2'; exact h2'.elim
   | some f2' =>
    rw [hv2] at h2'
    refine vrun_sound hτ hΦ (l.drop (k + 1)) hst3 (runL_ok (l0 := l) (l.drop (k + 1)) (F i) f2' hv2) fun O3 a3 w3 hst4 => ?_
    exact ⟨O3,mk (f2 i),st_pick hst4 h2',h3 i hA⟩
 rwa [el] at this
theorem mk_upd_kill (d : Nat) (x : VV) (ks : List Nat) (fl : FL) : mk ((d,x) :: fl.map fun q => (q.1,kmap ks q.2)) = upd (killl ks (mk fl)) d x := by
 funext s
 simp only [upd,mk_cons]
 rw [mk_map (kmap ks) (kmap_dead ks)]
 rfl
theorem mk_upd (d : Nat) (x : VV) (fl : FL) : mk ((d,x) :: fl) = upd (mk fl) d x := by
 funext s
 simp only [upd,mk_cons]

theorem Made.fresh (h : St R B w0 N O σ a w) (d : Nat) (obj : Obj) (x : VV) (v : Value)
  (hr : ∀ O' : Own,O' w.heap.size = some (d,[]) → (∀ g t p,O g = some (t,p) → t ≠ d → O' g = some (t,p)) → Rel R (w.alloc obj) O' x v) :
  ∃ O',Made R B w (w.alloc obj) O O' [d] x v := by
 let O' : Own := fun g => if g = w.heap.size then some (d,[]) else match O g with | some (t,p) => if t = d then none else some (t,p) | none => none
 have h1 : O' w.heap.size = some (d,[]) := by simp [O']
 have h2 : ∀ g,g ≠ w.heap.size → O' g = (match O g with | some (t,p) => if t = d then none else some (t,p) | none => none) := fun g hg => by simp only [O',if_neg hg]
 have h3 : ∀ g t p,O' g = some (t,p) → g = w.heap.size ∧ t = d ∧ p = [] ∨ g ≠ w.heap.size ∧ O g = some (t,p) ∧ t ≠ d := by
  intro g t p hg
  by_cases e : g = w.heap.size
  ·subst e; rw [h1] at hg; simp only [Option.some.injEq,Prod.mk.injEq] at hg; exact .inl ⟨rfl,hg.1.symm,hg.2.symm⟩
  ·rw [h2 g e] at hg
   split at hg
   ·rename_i t' p' hO
    split at hg
    ·cases hg
    ·rename_i hne
     simp only [Option.some.injEq,Prod.mk.injEq] at hg
     obtain ⟨rfl,rfl⟩ := hg
     exact .inr ⟨e,hO,hne⟩
   ·cases hg
 have hget : ∀ g,g < w.heap.size → (w.alloc obj).heap[g]? = w.heap[g]? := fun g hg => heap_alloc_old w _ hg
 have hsz : (w.alloc obj).heap.size = w.heap.size + 1 := by simp
 have h4 : ∀ g t p,O g = some (t,p) → t ≠ d → O' g = some (t,p) := by
  intro g t p hg ht
  have := (h.own g _ hg).2
  rw [h2 g (by omega),hg]
  simp only [if_neg ht]
 refine ⟨O',⟨by omega,fun g hg hn => ⟨by rw [h2 g (by omega),hn],hget g hg⟩,fun g t p hg htk => ?_⟩,⟨rfl,rfl,rfl,by omega,fun g hg => hget g (h.base g hg)⟩,?_,?_,?_⟩
 ·exact ⟨h4 g t p hg (by simpa using htk),hget g (h.own g _ hg).2⟩
 ·rintro g ⟨t,p⟩ hg
  rcases h3 g t p hg with ⟨rfl,_,_⟩ | ⟨_,e,_⟩
  ·exact ⟨h.newB (Nat.le_refl _),by omega⟩
  ·exact ⟨(h.own g _ e).1,by have := (h.own g _ e).2; omega⟩
 ·rintro g g' ⟨t,p⟩ e1 e2
  rcases h3 g t p e1 with ⟨a1,a2,a3⟩ | ⟨a1,a2,a3⟩ <;> rcases h3 g' t p e2 with ⟨b1,b2,b3⟩ | ⟨b1,b2,b3⟩
  ·rw [a1,b1]
  ·exact absurd a2 b3
  ·exact absurd b2 a3
  ·exact h.inj g g' _ a2 b2
 ·exact hr O' h1 h4

/-! ### The entries -/
theorem entL_len : ∀ (es : List (Int × Int)) (n : Nat),(entL n es).length = es.length
 | [],_ => rfl
 | e :: r,n => by simp [entL,entL_len r]
theorem entL_get : ∀ (es : List (Int × Int)) (n i : Nat) (h : i < es.length),(entL n es)[i]? = some ⟨.int .i64 es[i].1,.int .i64 es[i].2,n + i⟩
 | e :: r,n,0,_ => by simp [entL]
 | e :: r,n,i + 1,h => by
  simp only [entL,List.getElem?_cons_succ,List.getElem_cons_succ]
  rw [entL_get r (n + 1) i (by simpa using h),show n + 1 + i = n + (i + 1) by omega]
theorem entL_mem {es : List (Int × Int)} {n : Nat} {x : MapEntry} (h : x ∈ entL n es) : ∃ i,∃ hi : i < es.length,x = ⟨.int .i64 es[i].1,.int .i64 es[i].2,n + i⟩ := by
 obtain ⟨i,hi,e⟩ := List.getElem_of_mem h
 rw [entL_len] at hi
 have := entL_get es n i hi
 rw [List.getElem?_eq_getElem (by rw [entL_len]; exact hi),e] at this
 exact ⟨i,hi,Option.some.inj this⟩
def mpPut (t : Nat) (es' : List (Int × Int)) (x : VV) : VV := match x with
 | .mp r es => if r = t then .mp r es' else .mp r es
 | y => if y.on t then .dead else y
theorem setBlock_get {w : World} {g : Nat} {o o' : Obj} (h : w.heap[g]? = some o) : (setBlock w g o').heap[g]? = some o' := by
 obtain ⟨hg,_⟩ := Array.getElem?_eq_some_iff.1 h
 simp [setBlock,hg]
theorem setBlock_other {w : World} {g i : Nat} {o' : Obj} (h : i ≠ g) : (setBlock w g o').heap[i]? = w.heap[i]? := by
 simp only [setBlock]
 rw [Array.getElem?_setIfInBounds_ne (fun e => h e.symm)]
theorem setBlock_size {w : World} {g : Nat} {o' : Obj} : (setBlock w g o').heap.size = w.heap.size := by simp [setBlock]
theorem st_setBlock {g t : Nat} {o o' : Obj} {f : VV → VV} (h : St R B w0 N O σ a w) (hg : O g = some (t,[])) (ho : w.heap[g]? = some o)
  (hf : ∀ x v,Rel R w O x v → f x = .dead ∨ (x.on t = false ∧ f x = x) ∨ Rel R (setBlock w g o') O (f x) v) : St R B w0 N O (fun s => f (σ s)) a (ChangeMaps.setBlock w g o') := by
 have k : Keeps w (ChangeMaps.setBlock w g o') O O (fun r => r = t) := by
  refine ⟨by rw [setBlock_size]; exact Nat.le_refl _,fun i hi hn => ⟨hn,setBlock_other fun e => ?_⟩,fun i r p hi hr => ⟨hi,setBlock_other fun e => ?_⟩⟩
  ·rw [e,hg] at hn; cases hn
  ·rw [e,hg] at hi
   simp only [Option.some.injEq,Prod.mk.injEq] at hi
   exact hr hi.1.symm
 refine ⟨h.below.trans ⟨rfl,rfl,rfl,by rw [setBlock_size]; exact Nat.le_refl _,fun i hi => setBlock_other fun e => (h.own g _ hg).1 (e ▸ hi)⟩,fun i hi => by rw [setBlock_size]; exact h.base i hi,h.fresh,fun i x hi => by rw [setBlock_size]; exact h.own i x hi,h.inj,h.size,h.defers,h.pin,fun s => ?_⟩
 rcases hf (σ s) _ (h.slots s) with e | ⟨e1,e2⟩ | e
 ·rw [e]; exact trivial
 ·rw [e2]; exact (h.slots s).keeps k fun r hr => by rw [hr]; exact e1
 ·exact e

def itPut (t : Nat) (seen' : List Nat) (x : VV) : VV := match x with
 | .itr r m es seen => if r = t then (if m = t then .dead else .itr r m es seen') else if m = t then .dead else .itr r m es seen
 | y => if y.on t then .dead else y
theorem VW.next {id : Nat} {o1 o2 : Oper} {s t tm d1 d2 : Nat} {es : List (Int × Int)} {seen : List Nat} {fl : FL} {y : Code} {Q : Exit → Frm → Prop}
  (h1 : o1.op = .next (.tmp s) false) (hd1 : o1.dst = some d1) (hN1 : d1 ∈ N) (g1 : o1.guard = none)
  (h2 : o2.op = .extract (.tmp d1) 0) (hd2 : o2.dst = some d2) (hN2 : d2 ∈ N) (g2 : o2.guard = none)
  (hs : mk fl s = .itr t tm es seen)
  (hover : (∀ i,i < es.length → i ∈ seen) → VW P N y (mk ((d2,.val (.bool false)) :: (d1,.dead) :: fl)) Q)
  (hmore : ∀ i,i < es.length → i ∉ seen → VW P N y (mk ((d2,.val (.bool true)) :: (d1,.dead) :: fl.map fun q => (q.1,itPut t (seen ++ [i]) q.2))) Q) :
  VW P N (.seq (.region id [o1,o2].toArray false) y) (mk fl) Q := by
 refine VW.seq ?_
 intro R B w0 O a w hst
 refine wp_region_lit ?_
 have hr := hst.slots s
 rw [hs] at hr
 obtain ⟨gi,gm,cur,q1,q2,q3,q4,q5,q6⟩ := hr
 have e1 : a.eval (.tmp s) = .pointer (some ⟨gi,0,none⟩) := q1
 have q6' : cur = (entL 0 es).toArray := q6
 have hw1 : Region.wanted o1 (yielded [o1,o2].toArray a.tmps) = true := by simp [Region.wanted,g1]
 have two : ∀ (b : Bool) (rest : List Value) (fl' : FL) (w1 : World),(execOp a.eval o1).run P w = .ok (.value (.tuple (.bool b :: rest).toArray)) w1 → St R B w0 N O (mk fl') a w1 → VW P N y (mk ((d2,.val (.bool b)) :: (d1,.dead) :: fl')) Q →
   wpList P [o1,o2].toArray (fun e a' w' => ∃ O' σ',St R B w0 N O' σ' a' w' ∧ Nx (fun σ' => VW P N y σ' Q) Q e σ') [o1,o2] a w := by
  intro b rest fl' w1 hrun hst1 hy
  refine wpList_step fun K hK => ?_
  rw [if_pos hw1]
  refine wp_val hrun (hK _ _ ?_)
  have hst2 : St R B w0 N O (mk ((d1,.dead) :: fl')) (a.put o1.dst (.tuple (.bool b :: rest).toArray)) w1 := by
   rw [hd1,mk_upd]
   have := hst1.made (ks := []) (x := .dead) (v := .tuple (.bool b :: rest).toArray) (d := d1) ⟨Keeps.refl _ _ _,.refl _ _,hst1.own,hst1.inj,trivial⟩ hN1
   rwa [killl_nil] at this
  have e2 : (a.put o1.dst (.tuple (.bool b :: rest).toArray)).eval (.tmp d1) = .tuple (.bool b :: rest).toArray := by
   show (a.put o1.dst _).tmps.getD d1 undef = _
   rw [hd1,getD_put (by rw [hst.size]; exact hN1.2),if_pos rfl]
  refine wpList_step fun K2 hK2 => ?_
  have hw2 : Region.wanted o2 (yielded [o1,o2].toArray (a.put o1.dst (.tuple (.bool b :: rest).toArray)).tmps) = true := by simp [Region.wanted,g2]
  rw [if_pos hw2]
  refine wp_val (v := .bool b) (w' := w1) ?_ (hK2 _ _ ?_)
  ·simp only [execOp,h2,e2]
   simp [Instr.extract]
  ·refine wpList_nil ⟨O,mk ((d2,.val (.bool b)) :: (d1,.dead) :: fl'),?_,hy⟩
   rw [hd2,mk_upd]
   have := hst2.made (ks := []) (x := .val (.bool b)) (v := .bool b) (d := d2) ⟨Keeps.refl _ _ _,.refl _ _,hst2.own,hst2.inj,Rd.bool _⟩ hN2
   rwa [killl_nil] at this
 have hold : ∀ x ∈ cur.toList,x.born < es.length := by
  intro x hx
  rw [q6'] at hx
  obtain ⟨i,hi,rfl⟩ := entL_mem (n := 0) hx
  simpa using hi
 rcases run_next_at (P := P) w o1.type gi gm es.length es.length seen.toArray cur es.length q4 q5 hold (Nat.le_refl _) with ⟨r1,r2⟩ | ⟨e,r1,w1,r2,r3⟩
 ·refine two false [] fl w (by simp only [execOp,h1,e1]; exact run_v r2) hst (hover fun i hi => ?_)
  unfold leftOf at r1
  by_cases hmem : i ∈ seen
  ·exact hmem
  ·exfalso
   have := entL_get es 0 i hi
   rw [Nat.zero_add] at this
   have hm := List.mem_of_getElem? this
   have hin : (⟨.int .i64 es[i].1,.int .i64 es[i].2,i⟩ : MapEntry) ∈ cur.filter (fun e => !seen.toArray.contains e.born) := by
    rw [Array.mem_filter,q6']
    exact ⟨by simpa using hm,by simpa using hmem⟩
   rw [Array.eq_empty_of_size_eq_zero r1] at hin
   simp at hin
 ·unfold leftOf at r1
  rw [Array.mem_toList_iff,Array.mem_filter,q6'] at r1
  obtain ⟨i,hi,rfl⟩ := entL_mem (n := 0) (by simpa using r1.1)
  have hni : i ∉ seen := by simpa using r1.2
  have hst1 : St R B w0 N O (mk fl) a w1 := by
   rcases r2 with rfl | rfl
   ·exact hst
   ·exact hst.drew
  have hw1i : w1.heap[gi]? = some (.mapIter (some gm) es.length seen.toArray es.length) := by rcases r2 with rfl | rfl <;> exact q4
  have hw1m : w1.heap[gm]? = some (.map cur es.length) := by rcases r2 with rfl | rfl <;> exact q5
  have hgm : gm ≠ gi := fun e => by rw [e,hw1i] at hw1m; cases hw1m
  refine two true _ _ _ (by simp only [execOp,h1,e1]; exact run_v r3) ?_ (hmore i hi hni)
  have e4 : (fun s => itPut t (seen ++ [i]) (mk fl s)) = mk (fl.map fun q => (q.1,itPut t (seen ++ [i]) q.2)) := by
   funext s
   rw [mk_map (itPut t (seen ++ [i])) (by simp [itPut,VV.on])]
  rw [← e4]
  refine st_setBlock hst1 q2 hw1i fun x v hx => ?_
  unfold itPut
  split
  ·rename_i r m es1 seen1
   by_cases hrt : r = t
   ·subst hrt
    rw [if_pos rfl]
    split
    ·exact .inl rfl
    obtain ⟨gi1,gm1,cur1,p1,p2,p3,p4,p5,p6⟩ := hx
    have hgg := hst.inj gi1 gi _ p2 q2
    subst hgg
    rw [hw1i] at p4
    simp only [Option.some.injEq,Obj.mapIter.injEq] at p4
    obtain ⟨p41,p42,p43,p44⟩ := p4
    subst p41
    refine .inr (.inr ⟨gi1,gm,cur1,p1,p2,p3,?_,?_,p6⟩)
    ·rw [setBlock_get hw1i]
     simp [← p42]
    ·rw [setBlock_other hgm]; exact p5
   ·rw [if_neg hrt]
    by_cases hmt : m = t
    ·rw [if_pos hmt]; exact .inl rfl
    ·rw [if_neg hmt]
     exact .inr (.inl ⟨by simp [VV.on,hrt,hmt],rfl⟩)
  ·split
   ·exact .inl rfl
   ·rename_i hno
    exact .inr (.inl ⟨by simpa using hno,rfl⟩)

theorem VCall.frz {f : FuncId} {ds : List D} {u : Bool} {x : D} (h : VCall P f ds [.own u x]) : VCall P f ds [.shr x] := by
 refine ⟨h.1,fun w A vs hA hn hv => (h.2 w A vs hA hn hv).mono ?_⟩
 rintro e w' ⟨v,O,he,hb,ho,hi,hr⟩
 refine ⟨v,fun _ => none,he,hb,(fun g y hy => by simp at hy),(fun g g' y hy => by simp at hy),⟨fun _ => rfl,?_⟩⟩
 exact Tree.rd hr (fun g q hg => ⟨.inr (ho g _ hg).1,(ho g _ hg).2⟩) (fun g hg => ⟨hg.2.2,hg.2.1⟩)
end
attribute [simp] mpPut itPut
end Go.Vam
