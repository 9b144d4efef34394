/- A region of open order whose last operation is told by hand; closures that catch addresses. -/
import Derived.Test.YtijmfifejmgeaaaVamAF
namespace Go.Vam
open Go Go.RowKit
set_option linter.unusedSimpArgs false
set_option linter.unusedVariables false

section
variable {P : Program} {τ : TypeId → TK} {Φ : Orc} {N : Lim} {ops : Array Oper}

def vOrdH (τ : TypeId → TK) (Φ : Orc) (N : Lim) (ops : Array Oper) (m : Nat) (Sf : Frm → Prop) : Nat → Array Bool → Frm → Prop
 | 0,_,_ => False
 | fuel + 1,listed,σ => Region.ready .any ops listed ≠ [] ∧ ∀ i ∈ Region.ready .any ops listed,
   (i < m ∧ ∃ o d x,ops[i]? = some o ∧ calm τ Φ N ops o σ = some (d,x) ∧ vOrdH τ Φ N ops m Sf fuel (listed.setIfInBounds i true) (upd σ d x)) ∨
   (i = m ∧ Sf σ ∧ Region.ready .any ops (listed.setIfInBounds m true) = [])

theorem wpAny_of_vOrdH (hτ : TyOk P τ) (hΦ : Sound P Φ) {m : Nat} {Sf : Frm → Prop} (hnd : (dsts ops.toList).Nodup) (hnil : nilT ∉ dsts ops.toList) {oH : Oper} (hoH : ops[m]? = some oH) (hg : oH.guard = none)
  {R : Nat → Prop} {B : Nat → Prop} {w0 : W0} {Q : Exit → Act → World → Prop}
  (hS : ∀ O σ a w,St R B w0 N O σ a w → Sf σ → ∀ K : Act → World → Prop,(∀ a' w',Q .normal a' w' → K a' w') → oH.wp P a w K Q) :
  ∀ (fuel : Nat) (listed : Array Bool) (σ : Frm) (O : Own) (a : Act) (w : World),St R B w0 N O σ a w → Way ops m listed σ →
  vOrdH τ Φ N ops m Sf fuel listed σ → wpAny P .any ops Q fuel listed a w
 | 0,_,_,_,_,_,_,_,h => h.elim
 | fuel + 1,listed,σ,O,a,w,hs,hway,h => by
  refine ⟨fun h0 => absurd h0 h.1,fun i hi => ?_⟩
  rcases h.2 i hi with ⟨him,o,d,x,ho,hcalm,hn⟩ | ⟨rfl,hsf,hr0⟩
  ·obtain ⟨hd,e,hv,hrun⟩ := calm_act hcalm fun hm d' hd' => hway.fresh i o ho him (unlisted_of_ready hi) hm d' hd'
   have hK : ∀ O' a' w',St R B w0 N O' (e.run σ) a' w' → wpAny P .any ops Q fuel (listed.setIfInBounds i true) a' w' := fun O' a' w' h' =>
    wpAny_of_vOrdH hτ hΦ hnd hnil hoH hg hS fuel _ _ O' a' w' h' (hrun ▸ hway.calm hnd hnil ho hi hcalm hd) (hrun ▸ hn)
   have := vact_sound (Q := Q) hτ hΦ hs hv hK
   unfold wpOp
   rw [ho]
   simp only
   split
   ·rename_i hw; rw [if_pos hw] at this; exact .inl this
   ·rename_i hw; rw [if_neg hw] at this; exact this
  ·unfold wpOp
   rw [hoH]
   simp only
   have hw : Region.wanted oH (yielded ops a.tmps) = true := by simp [Region.wanted,hg]
   rw [if_pos hw]
   refine .inl (hS O σ a w hs hsf _ fun a' w' hq => ?_)
   cases fuel with
   | zero => exact ⟨hr0,hq⟩
   | succ fuel => exact ⟨fun _ => hq,fun j hj => by rw [hr0] at hj; cases hj⟩

theorem vOrdH_first {m : Nat} {Sf : Frm → Prop} (hw8 : ∀ i,i < m → reachB ops ops.size m i = true) (hnd : (dsts ops.toList).Nodup) (hnil : nilT ∉ dsts ops.toList) {i : Nat} {oi : Oper} (hi : ops[i]? = some oi) (hin : i < m) :
  ∀ (fuel : Nat) (listed : Array Bool) (σ : Frm) (d : Nat) (x : VV),Way ops m listed σ →
   (∀ j oj,ops[j]? = some oj → j ≠ i → listed.getD j true = false → (∀ e ∈ oj.after,Region.binds .any e = true → e.on ≠ i) → oi.apart ops oj = true) →
   i ∈ Region.ready .any ops listed → calm τ Φ N ops oi σ = some (d,x) →
   vOrdH τ Φ N ops m Sf fuel (listed.setIfInBounds i true) (upd σ d x) → vOrdH τ Φ N ops m Sf (fuel + 1) listed σ := by
 intro fuel
 induction fuel with
 | zero => intro listed σ d x _ _ _ _ H; exact H.elim
 | succ fuel ih =>
  intro listed σ d x hway hfree hr hc H
  refine ⟨fun h => (by rw [h] at hr; cases hr),fun j hj => ?_⟩
  by_cases hji : j = i
  ·subst hji; exact .inl ⟨hin,oi,d,x,hi,hc,H⟩
  ·obtain ⟨hjun,oj',hoj',hall⟩ := mem_ready.1 hj
   have hiun := unlisted_of_ready hr
   rcases H.2 j (ready_mono hj hji) with ⟨hjm,oj,d',x',hoj,hc',H'⟩ | ⟨hjm,_,_⟩
   ·have : oj' = oj := Option.some.inj (hoj'.symm.trans hoj)
    subst this
    have hnot : ∀ e ∈ oj'.after,Region.binds .any e = true → e.on ≠ i := fun e he hb heq => by
     have h1 := hall e he hb
     rw [heq,getD_tf hiun] at h1
     cases h1
    obtain ⟨a1,a2,a3⟩ := Oper.apart_spec (hfree j oj' hoj hji hjun hnot)
    have hdi := calm_dst hc
    have hfree' : ∀ k ok,ops[k]? = some ok → k ≠ i → (listed.setIfInBounds j true).getD k true = false →
      (∀ e ∈ ok.after,Region.binds .any e = true → e.on ≠ i) → oi.apart ops ok = true := fun k ok hk hki hun hno => by
     refine hfree k ok hk hki ?_ hno
     by_cases hjk : j = k
     ·subst hjk; exact hjun
     ·rw [getD_set_ne true hjk] at hun; exact hun
    have hri : i ∈ Region.ready .any ops (listed.setIfInBounds j true) := ready_mono hr (Ne.symm hji)
    left
    have hdj := calm_dst hc'
    have hcj : calm τ Φ N ops oj' σ = some (d',x') := by
     rw [← hc']
     refine calm_congr fun t ht => ?_
     have : t ≠ d := fun e => a1 d hdi (e ▸ ht)
     simp [upd,this]
    refine ⟨hjm,oj',d',x',hoj,hcj,ih (listed.setIfInBounds j true) (upd σ d' x') d x (hway.calm hnd hnil hoj hj hcj hdj) hfree' hri ?_ ?_⟩
    ·rw [← hc]
     refine calm_congr fun t ht => ?_
     have : t ≠ d' := fun e => a3 d' hdj (e ▸ ht)
     simp [upd,this]
    ·have hne : d ≠ d' := fun e => a2 d hdi (e ▸ hdj)
     rw [Array.setIfInBounds_comm _ _ hji,upd_comm (fun e => hne e.symm)]
     exact H'
   ·exfalso
    subst hjm
    have := reach_listed hway.closed ops.size j i oj' hoj' hall (hw8 i hin)
    rw [getD_tf hiun] at this
    cases this

theorem vOrdH_lex {m : Nat} {Sf : Frm → Prop} (hm : m + 1 = ops.size) (hw8 : ∀ i,i < m → reachB ops ops.size m i = true) (hnd : (dsts ops.toList).Nodup) (hnil : nilT ∉ dsts ops.toList) {σ' : Frm} (hQ : Sf σ') :
  ∀ (l : List Oper) (k : Nat) (listed : Array Bool) (σ : Frm),k + l.length = m → (∀ j,j < l.length → l[j]? = ops[k + j]?) → lexB ops (l.length + 1) k listed = true → (∀ j,j < k → listed.getD j true = true) → Way ops m listed σ →
   vmix τ Φ N ops m k l σ = some σ' → vOrdH τ Φ N ops m Sf (l.length + 1) listed σ
 | [],k,listed,σ,hk,_,hB,hpre,_,h => by
  simp only [vmix,Option.some.injEq] at h
  subst h
  simp only [List.length_nil,Nat.add_zero] at hk
  subst hk
  simp only [List.length_nil,lexB,Bool.and_eq_true] at hB
  obtain ⟨⟨hr,hf⟩,hB'⟩ := hB
  have hr' : k ∈ Region.ready .any ops listed := by simpa using hr
  refine ⟨fun h => (by rw [h] at hr'; cases hr'),fun j hj => .inr ?_⟩
  have hjk : j = k := by
   obtain ⟨hjun,oj,hoj,_⟩ := mem_ready.1 hj
   have := (Array.getElem?_eq_some_iff.1 hoj).1
   rcases Nat.lt_trichotomy j k with hlt | heq | hgt
   ·rw [hpre j hlt] at hjun; cases hjun
   ·exact heq
   ·omega
  exact ⟨hjk,hQ,by simpa [lexB] using hB'⟩
 | o :: l,k,listed,σ,hk,hl,hB,hpre,hway,h => by
  have h0 : ops[k]? = some o := by simpa using (hl 0 (by simp)).symm
  have hksz : k < ops.size := (Array.getElem?_eq_some_iff.1 h0).1
  simp only [List.length_cons] at hk
  rw [List.length_cons,lexB] at hB
  simp only [Bool.and_eq_true] at hB
  obtain ⟨⟨hr,hf⟩,hB'⟩ := hB
  have hr' : k ∈ Region.ready .any ops listed := by simpa using hr
  have hpre' : ∀ j,j < k + 1 → (listed.setIfInBounds k true).getD j true = true := by
   intro j hj
   by_cases e : k = j
   ·subst e
    have : k < listed.size := by rw [hway.size]; exact hksz
    simp [this]
   ·rw [getD_set_ne true e]; exact hpre j (by omega)
  have hl' : ∀ j,j < l.length → l[j]? = ops[k + 1 + j]? := fun j hj => by have := hl (j + 1) (by simp; omega); simpa [Nat.add_assoc,Nat.add_comm 1 j] using this
  simp only [vmix] at h
  rw [if_pos (by omega)] at h
  split at h <;> (try cases h)
  rename_i d x hc
  have hd := calm_dst hc
  exact vOrdH_first hw8 hnd hnil h0 (by omega) (l.length + 1) listed σ d x hway (Region.free_spec h0 hf) hr' hc
   (vOrdH_lex hm hw8 hnd hnil hQ l (k + 1) _ _ (by omega) hl' hB' hpre' (hway.calm hnd hnil h0 hr' hc hd) h)

def drawH (ops : Array Oper) (m : Nat) : Bool :=
 decide (m + 1 = ops.size) && ((List.range m).all fun i => reachB ops ops.size m i) && lexB ops ops.size 0 (Array.replicate ops.size false) && decide ((dsts ops.toList).Nodup) && decide (nilT ∉ dsts ops.toList)

theorem VW.dlr (hτ : TyOk P τ) (hΦ : Sound P Φ) (hm : P.follows .mixedOrders = true) (ds : List (Option Nat)) (m : Nat) (f1 : FL) {ι : Type} (F f2 : ι → FL) (A : ι → Prop) {id : Nat} {l : List Oper} {fl : FL} {Q : Exit → Frm → Prop}
  (o : Oper) (hds : l.map (·.dst) = ds) (ho : l[m]? = some o) (hg : o.guard = none) (hB : drawH l.toArray m = true) (hf : freshB (newDs (l.take m)) fl = true)
  (h1 : AfterL (mixL τ Φ N ds m (l.take m) fl) fun f => pickL (f1.map (·.1)) f = f1)
  (hs : OStep P N o (mk f1) (fun i => mk (F i)) A)
  (h2 : ∀ i,A i → pickL ((f2 i).map (·.1)) (F i) = f2 i)
  (h3 : ∀ i,A i → Q .normal (mk (f2 i))) : VW P N (.region id l.toArray true) (mk fl) Q := by
 subst hds
 cases hv : mixL τ Φ N (l.map (·.dst)) m (l.take m) fl with
 | none => rw [hv] at h1; exact h1.elim
 | some f1' =>
  rw [hv] at h1
  have h1' : pickL (f1.map (·.1)) f1' = f1 := h1
  have hvm : vmix τ Φ N l.toArray m 0 (l.take m) (mk fl) = some (mk f1') := mixL_ok (l0 := l) (l.take m) m 0 fl f1' (by simp) hv
  simp only [drawH,Bool.and_eq_true,decide_eq_true_eq] at hB
  obtain ⟨⟨⟨⟨hmsz,hreach⟩,hlex⟩,hnd⟩,hnil⟩ := hB
  have hw8 : ∀ i,i < m → reachB l.toArray l.toArray.size m i = true := fun i hi => List.all_eq_true.1 hreach i (List.mem_range.2 hi)
  intro R B w0 O a w hst
  refine wp_region_any hm ?_
  have hway : Way l.toArray m (Array.replicate l.toArray.size false) (mk fl) := by
   refine ⟨by simp,fun j oj _ hl => ?_,fun j oj hj hjn _ hmk d hd s => ?_⟩
   ·exfalso
    rcases Nat.lt_or_ge j l.length with h1 | h1 <;> simp [h1] at hl
   ·refine mk_on (fun q hq => ?_) s
    have hmem : d ∈ newDs (l.take m) := by
     refine List.mem_filterMap.2 ⟨oj,List.mem_filter.2 ⟨?_,hmk⟩,hd⟩
     have hj' : l[j]? = some oj := by simpa using hj
     exact List.mem_of_getElem? (l := l.take m) (i := j) (by rw [List.getElem?_take_of_lt hjn]; exact hj')
    have := List.all_eq_true.1 hf d hmem
    have := List.all_eq_true.1 this q hq
    simpa using this
  have hml : m < l.length := by simpa using (List.getElem?_eq_some_iff.1 ho).1
  have hlen : (l.take m).length = m := by simp; omega
  have hord := vOrdH_lex (Sf := fun σ => σ = mk f1') hmsz hw8 hnd hnil rfl (l.take m) 0 (Array.replicate l.toArray.size false) (mk fl) (by omega)
   (fun j hj => by rw [List.getElem?_take_of_lt (by omega)]; simp) (by rw [hlen,hmsz]; exact hlex) (fun j hj => absurd hj (Nat.not_lt_zero _)) hway hvm
  rw [hlen,hmsz] at hord
  have hoH : l.toArray[m]? = some o := by simpa using ho
  refine wpAny_of_vOrdH hτ hΦ hnd hnil hoH hg (fun O σ a w hst hσ K hK => ?_) _ _ _ O a _ hst.drew hway hord
  subst hσ
  refine hs R B w0 O a w K _ (st_pick hst h1') fun i O' a' w' hA hst' => hK a' w' ?_
  exact ⟨O',_,st_pick hst' (h2 i hA),h3 i hA⟩
theorem VW.dls (hτ : TyOk P τ) (hΦ : Sound P Φ) (hm : P.follows .mixedOrders = true) (ds : List (Option Nat)) (m : Nat) (f1 : FL) {ι : Type} (F f2 : ι → FL) (A : ι → Prop) {id : Nat} {l : List Oper} {y : Code} {fl : FL} {Q : Exit → Frm → Prop}
  (o : Oper) (hds : l.map (·.dst) = ds) (ho : l[m]? = some o) (hg : o.guard = none) (hB : drawH l.toArray m = true) (hf : freshB (newDs (l.take m)) fl = true)
  (h1 : AfterL (mixL τ Φ N ds m (l.take m) fl) fun f => pickL (f1.map (·.1)) f = f1)
  (hs : OStep P N o (mk f1) (fun i => mk (F i)) A)
  (h2 : ∀ i,A i → pickL ((f2 i).map (·.1)) (F i) = f2 i)
  (h3 : ∀ i,A i → VW P N y (mk (f2 i)) Q) : VW P N (.seq (.region id l.toArray true) y) (mk fl) Q :=
 VW.seq (VW.dlr hτ hΦ hm ds m f1 F f2 A o hds ho hg hB hf h1 hs h2 h3)
end
end Go.Vam
