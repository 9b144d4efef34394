/- A frame turned ahead of a step; a region of open order whose last two operations are told by hand. -/
import Derived.Test.YtijmfifejmgeaaaVamAL
namespace Go.Vam
open Go Go.RowKit
set_option linter.unusedSimpArgs false
set_option linter.unusedVariables false

section
variable {P : Program} {τ : TypeId → TK} {Φ : Orc} {N : Lim} {ops : Array Oper}

theorem OStep.fits {o : Oper} {f1 : FL} {σ : Frm} {ι : Type} {F : ι → Frm} {A : ι → Prop} (hf : Fits N f1 σ) (h : OStep P N o (mk f1) F A) : OStep P N o σ F A := fun R B w0 O a w K Q hs hK => by
 obtain ⟨O',h'⟩ := hf R B w0 O a w hs
 exact h R B w0 O' a w K Q h' hK

def vOrdG (τ : TypeId → TK) (Φ : Orc) (N : Lim) (ops : Array Oper) (m : Nat) (Sf : Frm → Prop) (E : Nat → Array Bool → Prop) : Nat → Array Bool → Frm → Prop
 | 0,_,_ => False
 | fuel + 1,listed,σ => Region.ready .any ops listed ≠ [] ∧ ∀ i ∈ Region.ready .any ops listed,
   (i < m ∧ ∃ o d x,ops[i]? = some o ∧ calm τ Φ N ops o σ = some (d,x) ∧ vOrdG τ Φ N ops m Sf E fuel (listed.setIfInBounds i true) (upd σ d x)) ∨
   (i = m ∧ Sf σ ∧ E fuel (listed.setIfInBounds m true))

theorem wpAny_of_vOrdG (hτ : TyOk P τ) (hΦ : Sound P Φ) {m : Nat} {Sf : Frm → Prop} {E : Nat → Array Bool → Prop} (hnd : (dsts ops.toList).Nodup) (hnil : nilT ∉ dsts ops.toList) {oH : Oper} (hoH : ops[m]? = some oH) (hg : oH.guard = none)
  {R : Nat → Prop} {B : Nat → Prop} {w0 : W0} {Q : Exit → Act → World → Prop} {QQ : Act → World → Prop}
  (hS : ∀ O σ a w,St R B w0 N O σ a w → Sf σ → ∀ K : Act → World → Prop,(∀ a' w',QQ a' w' → K a' w') → oH.wp P a w K Q)
  (hE : ∀ fuel listed a w,E fuel listed → QQ a w → wpAny P .any ops Q fuel listed a w) :
  ∀ (fuel : Nat) (listed : Array Bool) (σ : Frm) (O : Own) (a : Act) (w : World),St R B w0 N O σ a w → Way ops m listed σ →
  vOrdG τ Φ N ops m Sf E fuel listed σ → wpAny P .any ops Q fuel listed a w
 | 0,_,_,_,_,_,_,_,h => h.elim
 | fuel + 1,listed,σ,O,a,w,hs,hway,h => by
  refine ⟨fun h0 => absurd h0 h.1,fun i hi => ?_⟩
  rcases h.2 i hi with ⟨him,o,d,x,ho,hcalm,hn⟩ | ⟨rfl,hsf,hr0⟩
  ·obtain ⟨hd,e,hv,hrun⟩ := calm_act hcalm fun hm d' hd' => hway.fresh i o ho him (unlisted_of_ready hi) hm d' hd'
   have hK : ∀ O' a' w',St R B w0 N O' (e.run σ) a' w' → wpAny P .any ops Q fuel (listed.setIfInBounds i true) a' w' := fun O' a' w' h' =>
    wpAny_of_vOrdG hτ hΦ hnd hnil hoH hg hS hE fuel _ _ O' a' w' h' (hrun ▸ hway.calm hnd hnil ho hi hcalm hd) (hrun ▸ hn)
   have := vact_sound (Q := Q) hτ hΦ hs hv hK
   unfold wpOp
   rw [ho]
   simp only
   split
   ·rename_i hw; rw [if_pos hw] at this; exact .inl this
   ·rename_i hw; rw [if_neg hw] at this; exact this
  ·unfold wpOp
   rw [hoH]
   simp only
   have hw : Region.wanted oH (yielded ops a.tmps) = true := by simp [Region.wanted,hg]
   rw [if_pos hw]
   exact .inl (hS O σ a w hs hsf _ fun a' w' hq => hE fuel _ a' w' hr0 hq)

theorem vOrdG_first {m : Nat} {Sf : Frm → Prop} {E : Nat → Array Bool → Prop} (hw8 : ∀ i,i < m → reachB ops ops.size m i = true) (hnd : (dsts ops.toList).Nodup) (hnil : nilT ∉ dsts ops.toList) {i : Nat} {oi : Oper} (hi : ops[i]? = some oi) (hin : i < m) :
  ∀ (fuel : Nat) (listed : Array Bool) (σ : Frm) (d : Nat) (x : VV),Way ops m listed σ →
   (∀ j oj,ops[j]? = some oj → j ≠ i → listed.getD j true = false → (∀ e ∈ oj.after,Region.binds .any e = true → e.on ≠ i) → oi.apart ops oj = true) →
   i ∈ Region.ready .any ops listed → calm τ Φ N ops oi σ = some (d,x) →
   vOrdG τ Φ N ops m Sf E fuel (listed.setIfInBounds i true) (upd σ d x) → vOrdG τ Φ N ops m Sf E (fuel + 1) listed σ := by
 intro fuel
 induction fuel with
 | zero => intro listed σ d x _ _ _ _ H; exact H.elim
 | succ fuel ih =>
  intro listed σ d x hway hfree hr hc H
  refine ⟨fun h => (by rw [h] at hr; cases hr),fun j hj => ?_⟩
  by_cases hji : j = i
  ·subst hji; exact .inl ⟨hin,oi,d,x,hi,hc,H⟩
  ·obtain ⟨hjun,oj',hoj',hall⟩ := mem_ready.1 hj
   have hiun := unlisted_of_ready hr
   rcases H.2 j (ready_mono hj hji) with ⟨hjm,oj,d',x',hoj,hc',H'⟩ | ⟨hjm,_,_⟩
   ·have : oj' = oj := Option.some.inj (hoj'.symm.trans hoj)
    subst this
    have hnot : ∀ e ∈ oj'.after,Region.binds .any e = true → e.on ≠ i := fun e he hb heq => by
     have h1 := hall e he hb
     rw [heq,getD_tf hiun] at h1
     cases h1
    obtain ⟨a1,a2,a3⟩ := Oper.apart_spec (hfree j oj' hoj hji hjun hnot)
    have hdi := calm_dst hc
    have hfree' : ∀ k ok,ops[k]? = some ok → k ≠ i → (listed.setIfInBounds j true).getD k true = false →
      (∀ e ∈ ok.after,Region.binds .any e = true → e.on ≠ i) → oi.apart ops ok = true := fun k ok hk hki hun hno => by
     refine hfree k ok hk hki ?_ hno
     by_cases hjk : j = k
     ·subst hjk; exact hjun
     ·rw [getD_set_ne true hjk] at hun; exact hun
    have hri : i ∈ Region.ready .any ops (listed.setIfInBounds j true) := ready_mono hr (Ne.symm hji)
    left
    have hdj := calm_dst hc'
    have hcj : calm τ Φ N ops oj' σ = some (d',x') := by
     rw [← hc']
     refine calm_congr fun t ht => ?_
     have : t ≠ d := fun e => a1 d hdi (e ▸ ht)
     simp [upd,this]
    refine ⟨hjm,oj',d',x',hoj,hcj,ih (listed.setIfInBounds j true) (upd σ d' x') d x (hway.calm hnd hnil hoj hj hcj hdj) hfree' hri ?_ ?_⟩
    ·rw [← hc]
     refine calm_congr fun t ht => ?_
     have : t ≠ d' := fun e => a3 d' hdj (e ▸ ht)
     simp [upd,this]
    ·have hne : d ≠ d' := fun e => a2 d hdi (e ▸ hdj)
     rw [Array.setIfInBounds_comm _ _ hji,upd_comm (fun e => hne e.symm)]
     exact H'
   ·exfalso
    subst hjm
    have := reach_listed hway.closed ops.size j i oj' hoj' hall (hw8 i hin)
    rw [getD_tf hiun] at this
    cases this

def tail2 (ops : Array Oper) (m : Nat) (fuel : Nat) (listed : Array Bool) : Prop :=
 fuel = 1 ∧ Region.ready .any ops listed ≠ [] ∧ (∀ j ∈ Region.ready .any ops listed,j = m + 1) ∧ Region.ready .any ops (listed.setIfInBounds (m + 1) true) = []

theorem vOrdG_lex {m : Nat} {Sf : Frm → Prop} (hm : m + 2 = ops.size) (hw8 : ∀ i,i < m → reachB ops ops.size m i = true) (hw9 : reachB ops ops.size (m + 1) m = true) (hnd : (dsts ops.toList).Nodup) (hnil : nilT ∉ dsts ops.toList) {σ' : Frm} (hQ : Sf σ') :
  ∀ (l : List Oper) (k : Nat) (listed : Array Bool) (σ : Frm),k + l.length = m → (∀ j,j < l.length → l[j]? = ops[k + j]?) → lexB ops (l.length + 2) k listed = true → (∀ j,j < k → listed.getD j true = true) → Way ops m listed σ →
   vmix τ Φ N ops m k l σ = some σ' → vOrdG τ Φ N ops m Sf (tail2 ops m) (l.length + 2) listed σ
 | [],k,listed,σ,hk,_,hB,hpre,hway,h => by
  simp only [vmix,Option.some.injEq] at h
  subst h
  simp only [List.length_nil,Nat.add_zero] at hk
  subst hk
  simp only [List.length_nil,lexB,Bool.and_eq_true] at hB
  obtain ⟨⟨hr,hf⟩,⟨⟨hr2,hf2⟩,hB'⟩⟩ := hB
  have hr' : k ∈ Region.ready .any ops listed := by simpa using hr
  have hr2' : k + 1 ∈ Region.ready .any ops (listed.setIfInBounds k true) := by simpa using hr2
  refine ⟨fun h => (by rw [h] at hr'; cases hr'),fun j hj => .inr ?_⟩
  have hjk : j = k := by
   obtain ⟨hjun,oj,hoj,hall⟩ := mem_ready.1 hj
   have := (Array.getElem?_eq_some_iff.1 hoj).1
   rcases Nat.lt_trichotomy j k with hlt | heq | hgt
   ·rw [hpre j hlt] at hjun; cases hjun
   ·exact heq
   ·have e : j = k + 1 := by omega
    subst e
    have h2 := reach_listed hway.closed ops.size (k + 1) k oj hoj hall hw9
    rw [getD_tf (unlisted_of_ready hr')] at h2
    cases h2
  refine ⟨hjk,hQ,rfl,fun h => (by rw [h] at hr2'; cases hr2'),fun j hj => ?_,by simpa [lexB] using hB'⟩
  obtain ⟨hjun,oj,hoj,_⟩ := mem_ready.1 hj
  have hsz := (Array.getElem?_eq_some_iff.1 hoj).1
  rcases Nat.lt_trichotomy j k with hlt | heq | hgt
  ·rw [getD_set_ne true (by omega),hpre j hlt] at hjun; cases hjun
  ·subst heq
   have : j < listed.size := by rw [hway.size]; exact hsz
   simp [this] at hjun
  ·omega
 | o :: l,k,listed,σ,hk,hl,hB,hpre,hway,h => by
  have h0 : ops[k]? = some o := by simpa using (hl 0 (by simp)).symm
  have hksz : k < ops.size := (Array.getElem?_eq_some_iff.1 h0).1
  simp only [List.length_cons] at hk
  rw [List.length_cons,lexB] at hB
  simp only [Bool.and_eq_true] at hB
  obtain ⟨⟨hr,hf⟩,hB'⟩ := hB
  have hr' : k ∈ Region.ready .any ops listed := by simpa using hr
  have hpre' : ∀ j,j < k + 1 → (listed.setIfInBounds k true).getD j true = true := by
   intro j hj
   by_cases e : k = j
   ·subst e
    have : k < listed.size := by rw [hway.size]; exact hksz
    simp [this]
   ·rw [getD_set_ne true e]; exact hpre j (by omega)
  have hl' : ∀ j,j < l.length → l[j]? = ops[k + 1 + j]? := fun j hj => by have := hl (j + 1) (by simp; omega); simpa [Nat.add_assoc,Nat.add_comm 1 j] using this
  simp only [vmix] at h
  rw [if_pos (by omega)] at h
  split at h <;> (try cases h)
  rename_i d x hc
  have hd := calm_dst hc
  exact vOrdG_first hw8 hnd hnil h0 (by omega) (l.length + 2) listed σ d x hway (Region.free_spec h0 hf) hr' hc
   (vOrdG_lex hm hw8 hw9 hnd hnil hQ l (k + 1) _ _ (by omega) hl' hB' hpre' (hway.calm hnd hnil h0 hr' hc hd) h)

def drawH2 (ops : Array Oper) (m : Nat) : Bool :=
 decide (m + 2 = ops.size) && ((List.range m).all fun i => reachB ops ops.size m i) && reachB ops ops.size (m + 1) m && lexB ops ops.size 0 (Array.replicate ops.size false) && decide ((dsts ops.toList).Nodup) && decide (nilT ∉ dsts ops.toList)

theorem VW.dlr2 (hτ : TyOk P τ) (hΦ : Sound P Φ) (hm : P.follows .mixedOrders = true) (ds : List (Option Nat)) (m : Nat) (f1 F1 f2 F2 f3 : FL) {id : Nat} {l : List Oper} {fl : FL} {Q : Exit → Frm → Prop}
  (o1 o2 : Oper) (hds : l.map (·.dst) = ds) (ho1 : l[m]? = some o1) (ho2 : l[m + 1]? = some o2) (hg1 : o1.guard = none) (hg2 : o2.guard = none) (hB : drawH2 l.toArray m = true) (hf : freshB (newDs (l.take m)) fl = true)
  (h1 : AfterL (mixL τ Φ N ds m (l.take m) fl) fun f => pickL (f1.map (·.1)) f = f1)
  (s1 : OStep P N o1 (mk f1) (fun _ : Unit => mk F1) (fun _ => True)) (e1 : pickL (f2.map (·.1)) F1 = f2)
  (s2 : OStep P N o2 (mk f2) (fun _ : Unit => mk F2) (fun _ => True)) (e2 : pickL (f3.map (·.1)) F2 = f3)
  (h3 : Q .normal (mk f3)) : VW P N (.region id l.toArray true) (mk fl) Q := by
 subst hds
 cases hv : mixL τ Φ N (l.map (·.dst)) m (l.take m) fl with
 | none => rw [hv] at h1; exact h1.elim
 | some f1' =>
  rw [hv] at h1
  have h1' : pickL (f1.map (·.1)) f1' = f1 := h1
  have hvm : vmix τ Φ N l.toArray m 0 (l.take m) (mk fl) = some (mk f1') := mixL_ok (l0 := l) (l.take m) m 0 fl f1' (by simp) hv
  simp only [drawH2,Bool.and_eq_true,decide_eq_true_eq] at hB
  obtain ⟨⟨⟨⟨⟨hmsz,hreach⟩,hw9⟩,hlex⟩,hnd⟩,hnil⟩ := hB
  have hw8 : ∀ i,i < m → reachB l.toArray l.toArray.size m i = true := fun i hi => List.all_eq_true.1 hreach i (List.mem_range.2 hi)
  intro R B w0 O a w hst
  refine wp_region_any hm ?_
  have hway : Way l.toArray m (Array.replicate l.toArray.size false) (mk fl) := by
   refine ⟨by simp,fun j oj _ hl => ?_,fun j oj hj hjn _ hmk d hd s => ?_⟩
   ·exfalso
    rcases Nat.lt_or_ge j l.length with h1 | h1 <;> simp [h1] at hl
   ·refine mk_on (fun q hq => ?_) s
    have hmem : d ∈ newDs (l.take m) := by
     refine List.mem_filterMap.2 ⟨oj,List.mem_filter.2 ⟨?_,hmk⟩,hd⟩
     have hj' : l[j]? = some oj := by simpa using hj
     exact List.mem_of_getElem? (l := l.take m) (i := j) (by rw [List.getElem?_take_of_lt hjn]; exact hj')
    have := List.all_eq_true.1 hf d hmem
    have := List.all_eq_true.1 this q hq
    simpa using this
  have hml : m + 1 < l.length := by simpa using (List.getElem?_eq_some_iff.1 ho2).1
  have hlen : (l.take m).length = m := by simp; omega
  have hord := vOrdG_lex (Sf := fun σ => σ = mk f1') hmsz hw8 hw9 hnd hnil rfl (l.take m) 0 (Array.replicate l.toArray.size false) (mk fl) (by omega)
   (fun j hj => by rw [List.getElem?_take_of_lt (by omega)]; simp) (by rw [hlen,hmsz]; exact hlex) (fun j hj => absurd hj (Nat.not_lt_zero _)) hway hvm
  rw [hlen,hmsz] at hord
  have hoH1 : l.toArray[m]? = some o1 := by simpa using ho1
  have hoH2 : l.toArray[m + 1]? = some o2 := by simpa using ho2
  refine wpAny_of_vOrdG (QQ := fun a' w' => ∃ O',St R B w0 N O' (mk F1) a' w') hτ hΦ hnd hnil hoH1 hg1 (fun O σ a w hst hσ K hK => ?_) (fun fuel listed a w hT hq => ?_) _ _ _ O a _ hst.drew hway hord
  ·subst hσ
   exact s1 R B w0 O a w K _ (st_pick hst h1') fun _ O' a' w' _ hst' => hK a' w' ⟨O',hst'⟩
  ·obtain ⟨rfl,hne,hall,hlast⟩ := hT
   obtain ⟨O2,hst2⟩ := hq
   refine ⟨fun h0 => absurd h0 hne,fun i hi => ?_⟩
   have := hall i hi
   subst this
   unfold wpOp
   rw [hoH2]
   simp only
   have hw : Region.wanted o2 (yielded l.toArray a.tmps) = true := by simp [Region.wanted,hg2]
   rw [if_pos hw]
   refine .inl (s2 R B w0 O2 a w _ _ (st_pick hst2 e1) fun _ O' a' w' _ hst' => ?_)
   exact ⟨hlast,O',_,st_pick hst' e2,h3⟩
theorem VW.dls2 (hτ : TyOk P τ) (hΦ : Sound P Φ) (hm : P.follows .mixedOrders = true) (ds : List (Option Nat)) (m : Nat) (f1 F1 f2 F2 f3 : FL) {id : Nat} {l : List Oper} {y : Code} {fl : FL} {Q : Exit → Frm → Prop}
  (o1 o2 : Oper) (hds : l.map (·.dst) = ds) (ho1 : l[m]? = some o1) (ho2 : l[m + 1]? = some o2) (hg1 : o1.guard = none) (hg2 : o2.guard = none) (hB : drawH2 l.toArray m = true) (hf : freshB (newDs (l.take m)) fl = true)
  (h1 : AfterL (mixL τ Φ N ds m (l.take m) fl) fun f => pickL (f1.map (·.1)) f = f1)
  (s1 : OStep P N o1 (mk f1) (fun _ : Unit => mk F1) (fun _ => True)) (e1 : pickL (f2.map (·.1)) F1 = f2)
  (s2 : OStep P N o2 (mk f2) (fun _ : Unit => mk F2) (fun _ => True)) (e2 : pickL (f3.map (·.1)) F2 = f3)
  (h3 : VW P N y (mk f3) Q) : VW P N (.seq (.region id l.toArray true) y) (mk fl) Q :=
 VW.seq (VW.dlr2 hτ hΦ hm ds m f1 F1 f2 F2 f3 o1 o2 hds ho1 ho2 hg1 hg2 hB hf h1 s1 e1 s2 e2 h3)

theorem step_asnW {o : Oper} {s d ts : Nat} {u : Bool} {x : D} {fl : FL} (ho : o.op = .assign (.tmp s)) (hd : o.dst = some d) (hN : d ∈ N) (hs : mk fl s = .ref ts [] u x) (hne : ts ≠ d) :
  OStep P N o (mk fl) (fun _ : Unit => mk ((d,.ref d [] u x) :: fl.map fun q => (q.1,kmap [d,ts] q.2))) (fun _ => True) := by
 intro R B w0 O a w K Q h hK
 have hev : ev (mk fl) (.tmp s) = .ref ts [] u x := hs
 have hy := sound_assign (P := P) h ho d
 rw [hev] at hy
 unfold vassign at hy
 simp only [if_neg hne] at hy
 obtain ⟨v,w',O',h1,h2⟩ := hy
 refine wp_val h1 ?_
 rw [hd]
 have h' := h.made h2 hN
 have e : upd (killl [d,ts] (mk fl)) d (.ref d [] u x) = mk ((d,.ref d [] u x) :: fl.map fun q => (q.1,kmap [d,ts] q.2)) := (mk_upd_kill d _ [d,ts] fl).symm
 rw [e] at h'
 exact hK () O' _ w' trivial h'

theorem step_tkw' {o : Oper} {g : FuncId} {as : Array Operand} {ts : Array TypeId} {x : Operand} {d t : Nat} {u : Bool} {fl : FL} {ds xs rs : List D} (ho : o.op = .call ⟨.value (.func g),as,ts⟩)
  (hargs : as.toList.getLast? = some x) (hd : o.dst = some d) (hN : d ∈ N) (hx : ev (mk fl) x = .ref t [] u (.list xs)) (hu : u = true → xs.all D.sc = true) (hds : vals (mk fl) as.toList.dropLast = some ds) (hv : VTkW P g ds xs rs) :
  OStep P N o (mk fl) (fun _ : Unit => mk ((d,.ref d [] false (.list rs)) :: fl.map fun q => (q.1,kmap [t,d] q.2))) (fun _ => True) :=
 step_tkw ho (by obtain ⟨ys,e⟩ := List.getLast?_eq_some_iff.1 hargs; rw [e]; simp) hd hN hx hu hds hv

theorem Fits.part {fl fl' : FL} {s t d : Nat} {p : List Nat} {x : D} (hs : mk fl s = .ref t p true x) (hd : t ≠ d)
  (h : Fits N fl' (mk ((s,.ref d [] true x) :: fl.map fun q => (q.1,dtcVV t p d q.2)))) : Fits N fl' (mk fl) := fun R B w0 O a w hst => by
 have h' := hst.detach hs hd
 have e : upd (fun q => dtcVV t p d (mk fl q)) s (.ref d [] true x) = mk ((s,.ref d [] true x) :: fl.map fun q => (q.1,dtcVV t p d q.2)) := by
  funext j
  simp only [upd,mk_cons,mk_map (fun z => dtcVV t p d z) (by simp [dtcVV,VV.on])]
 rw [e] at h'
 exact h R B w0 _ a w h'

end
end Go.Vam
