/- A mixed region of open order whose last two operations wait for all; the first of the two is told by hand. -/
import Derived.Test.YtalfgfpgenlokaaVamAT
namespace Go.Vam
open Go Go.RowKit
set_option linter.unusedSimpArgs false
set_option linter.unusedVariables false

@[simp] theorem vbox_sl_list (e : TypeId) (r : Nat) (xs : List D) : vbox (.sl e) (.ref r [] true (.list xs)) = none := (rfl)
section
variable {P : Program} {τ : TypeId → TK} {Φ : Orc} {N : Lim} {ops : Array Oper} {m : Nat} {Sf : Frm → Prop} {E : Nat → Array Bool → Prop}

def vOrdXG (τ : TypeId → TK) (Φ : Orc) (N : Lim) (ops : Array Oper) (kd ts : List Nat) (m : Nat) (Sf : Frm → Prop) (E : Nat → Array Bool → Prop) : Nat → Array Bool → Frm → Prop
 | 0,_,_ => False
 | fuel + 1,listed,σ => Region.ready .any ops listed ≠ [] ∧
  ∀ i ∈ Region.ready .any ops listed,∃ o,ops[i]? = some o ∧
   ((i ≠ m ∧ knd kd i < 2 ∧ ∃ d x,calm τ Φ N ops o σ = some (d,x) ∧ (knd kd i = 1 → okK τ Φ ts o σ x) ∧ vOrdXG τ Φ N ops kd ts m Sf E fuel (listed.setIfInBounds i true) (upd σ d x)) ∨
    (i ≠ m ∧ 2 ≤ knd kd i ∧ ∃ e,vact τ Φ N ops o σ = some e ∧ (knd kd i = 2 → Within ts e.map) ∧ vOrdXG τ Φ N ops kd ts m Sf E fuel (listed.setIfInBounds i true) (e.run σ)) ∨
    (i = m ∧ Sf σ ∧ E fuel (listed.setIfInBounds m true)))

theorem wpAny_of_vOrdXG (hτ : TyOk P τ) (hΦ : Sound P Φ) {kd ts : List Nat} (hkd : kindB ops kd = true) (hnd : (dsts ops.toList).Nodup) (hnil : nilT ∉ dsts ops.toList) {oH : Oper} (hoH : ops[m]? = some oH) (hg : oH.guard = none)
  {R : Nat → Prop} {B : Nat → Prop} {w0 : W0} {Q : Exit → Act → World → Prop}
  {QQ : Act → World → Prop} (hS : ∀ O σ a w,St R B w0 N O σ a w → Sf σ → ∀ K : Act → World → Prop,(∀ a' w',QQ a' w' → K a' w') → oH.wp P a w K Q)
  (hE : ∀ fuel listed a w,E fuel listed → QQ a w → wpAny P .any ops Q fuel listed a w) : ∀ (fuel : Nat) (listed : Array Bool) (σ : Frm) (O : Own) (a : Act) (w : World),St R B w0 N O σ a w → WayX ops listed → FreX ops kd listed σ →
  vOrdXG τ Φ N ops kd ts m Sf E fuel listed σ → wpAny P .any ops Q fuel listed a w
 | 0,_,_,_,_,_,_,_,_,h => h.elim
 | fuel + 1,listed,σ,O,a,w,hs,hway,hfre,h => by
  refine ⟨fun h0 => absurd h0 h.1,fun i hi => ?_⟩
  obtain ⟨o,ho,hc⟩ := h.2 i hi
  have step : ∀ e σ',vact τ Φ N ops o σ = some e → e.run σ = σ' → FreX ops kd (listed.setIfInBounds i true) σ' → vOrdXG τ Φ N ops kd ts m Sf E fuel (listed.setIfInBounds i true) σ' →
    wpOp P ops Q i (wpAny P .any ops Q fuel (listed.setIfInBounds i true)) a w := by
   intro e σ' hv hrun hf' hn
   subst hrun
   have hK : ∀ O' a' w',St R B w0 N O' (e.run σ) a' w' → wpAny P .any ops Q fuel (listed.setIfInBounds i true) a' w' := fun O' a' w' h' =>
    wpAny_of_vOrdXG hτ hΦ hkd hnd hnil hoH hg hS hE fuel _ _ O' a' w' h' (hway.set hi) hf' hn
   have := vact_sound (Q := Q) hτ hΦ hs hv hK
   unfold wpOp
   rw [ho]
   simp only
   split
   ·rename_i hw; rw [if_pos hw] at this; exact .inl this
   ·rename_i hw; rw [if_neg hw] at this; exact this
  rcases hc with ⟨_,hin,d,x,hcalm,hokk,hn⟩ | ⟨_,hni,e,hv,_,hn⟩ | ⟨rfl,hsf,hr0⟩
  ·obtain ⟨hd,e,hv,hrun⟩ := calm_act' hcalm fun hm d' hd' => by
    by_cases h0 : knd kd i = 0
    ·exact .inl fun s => hfre i o ho h0 (unlisted_of_ready hi) hm d' hd' s
    ·exact .inr ((hokk (by omega)).2.2 hm d' hd')
   refine step e _ hv hrun (fun j oj hj hjk hun hm d' hd' s => ?_) hn
   have hij : i ≠ j := by
    rintro rfl
    have hlt : i < listed.size := by rw [hway.size]; exact (Array.getElem?_eq_some_iff.1 ho).1
    simp [hlt] at hun
   rw [getD_set_ne true hij] at hun
   have hf := hfre j oj hj hjk hun hm d' hd'
   simp only [upd]
   split
   ·cases he : x.on d' with
    | false => rfl
    | true =>
     rcases calm_on hcalm d' he with e | e | ⟨s',hs'⟩
     ·exact absurd (dst_ne hnd ho hj (e ▸ hd) hd') hij
     ·exact absurd (e ▸ List.mem_filterMap.2 ⟨oj,by simpa using Array.mem_of_getElem? hj,hd'⟩) hnil
     ·rw [hf s'] at hs'; cases hs'
   ·exact hf s
  ·refine step e _ hv rfl (fun j oj hj hjk hun hm d' hd' s => ?_) hn
   have hij : i ≠ j := fun e => by subst e; omega
   rw [getD_set_ne true hij] at hun
   have h1 := (kind_spec hkd hj (by omega)).1 hm hjk i (Array.getElem?_eq_some_iff.1 ho).1 hni
   rw [hway.noreach hi hun] at h1
   cases h1
  ·unfold wpOp
   rw [hoH]
   simp only
   have hw : Region.wanted oH (yielded ops a.tmps) = true := by simp [Region.wanted,hg]
   rw [if_pos hw]
   exact .inl (hS O σ a w hs hsf _ fun a' w' hq => hE fuel _ a' w' hr0 hq)

theorem vOrdXG_first {kd ts : List Nat} (hw8 : ∀ i,i < m → reachB ops ops.size m i = true) (hord : ordX ops kd = true) (hkd : kindB ops kd = true) {i : Nat} (him : i < m) {oi : Oper} (hi : ops[i]? = some oi) (hin : knd kd i < 2) :
  ∀ (fuel : Nat) (listed : Array Bool) (σ : Frm) (d : Nat) (x : VV),WayX ops listed →
   (∀ j oj,ops[j]? = some oj → j ≠ i → listed.getD j true = false → (∀ e ∈ oj.after,Region.binds .any e = true → e.on ≠ i) → oi.apart ops oj = true) →
   i ∈ Region.ready .any ops listed → calm τ Φ N ops oi σ = some (d,x) → (knd kd i = 1 → okK τ Φ ts oi σ x) →
   vOrdXG τ Φ N ops kd ts m Sf E fuel (listed.setIfInBounds i true) (upd σ d x) → vOrdXG τ Φ N ops kd ts m Sf E (fuel + 1) listed σ := by
 intro fuel
 induction fuel with
 | zero => intro listed σ d x _ _ _ _ _ H; exact H.elim
 | succ fuel ih =>
  intro listed σ d x hway hfree hr hc hk H
  refine ⟨fun h => (by rw [h] at hr; cases hr),fun j hj => ?_⟩
  by_cases hji : j = i
  ·subst hji; exact ⟨oi,hi,.inl ⟨by omega,hin,d,x,hc,hk,H⟩⟩
  ·obtain ⟨oj,hoj,hcase⟩ := H.2 j (ready_mono hj hji)
   obtain ⟨hjun,oj',hoj',hall⟩ := mem_ready.1 hj
   have : oj' = oj := Option.some.inj (hoj'.symm.trans hoj)
   subst this
   have hlast : j ≠ m := by
    rintro rfl
    have := reach_listed hway.closed ops.size j i oj' hoj' hall (hw8 i him)
    rw [getD_tf (unlisted_of_ready hr)] at this
    cases this
   have hiun := unlisted_of_ready hr
   have hnot : ∀ e ∈ oj'.after,Region.binds .any e = true → e.on ≠ i := fun e he hb heq => by
    have h1 := hall e he hb
    rw [heq,getD_tf hiun] at h1
    cases h1
   obtain ⟨a1,a2,a3⟩ := Oper.apart_spec (hfree j oj' hoj hji hjun hnot)
   have hdi := calm_dst hc
   have hfree' : ∀ k ok,ops[k]? = some ok → k ≠ i → (listed.setIfInBounds j true).getD k true = false →
     (∀ e ∈ ok.after,Region.binds .any e = true → e.on ≠ i) → oi.apart ops ok = true := fun k ok hk hki hun hno => by
    refine hfree k ok hk hki ?_ hno
    by_cases hjk : j = k
    ·subst hjk; exact hjun
    ·rw [getD_set_ne true hjk] at hun; exact hun
   have hri : i ∈ Region.ready .any ops (listed.setIfInBounds j true) := ready_mono hr (Ne.symm hji)
   refine ⟨oj',hoj,?_⟩
   rcases hcase with ⟨_,hjn,d',x',hc',hk',H'⟩ | ⟨_,hjn,e,hv,hw,H'⟩ | ⟨hjm,_,_⟩
   ·left
    have hdj := calm_dst hc'
    have hcj : calm τ Φ N ops oj' σ = some (d',x') := by
     rw [← hc']
     refine calm_congr fun t ht => ?_
     have : t ≠ d := fun e => a1 d hdi (e ▸ ht)
     simp [upd,this]
    refine ⟨hlast,hjn,d',x',hcj,fun h1 => ?_,ih (listed.setIfInBounds j true) (upd σ d' x') d x (hway.set hj) hfree' hri ?_ (fun h1 => ?_) ?_⟩
    ·obtain ⟨k1,k2,k3⟩ := hk' h1
     refine ⟨fun s hs => ?_,k2,quietC_congr (fun s hs => ?_) k3⟩
     ·have := k1 s hs
      have hne : s ≠ d := fun e => a1 d hdi (e ▸ looks_op hs)
      simpa [upd,hne] using this
     ·have hne : s ≠ d := fun e => a1 d hdi (e ▸ looks_op hs)
      simp [upd,hne]
    ·rw [← hc]
     refine calm_congr fun t ht => ?_
     have : t ≠ d' := fun e => a3 d' hdj (e ▸ ht)
     simp [upd,this]
    ·obtain ⟨k1,k2,k3⟩ := hk h1
     refine ⟨fun s hs => ?_,k2,quietC_congr (fun s hs => ?_) k3⟩
     ·have := k1 s hs
      have hne : s ≠ d' := fun e => a3 d' hdj (e ▸ looks_op hs)
      simpa [upd,hne] using this
     ·have hne : s ≠ d' := fun e => a3 d' hdj (e ▸ looks_op hs)
      simp [upd,hne]
    ·have hne : d ≠ d' := fun e => a2 d hdi (e ▸ hdj)
     rw [Array.setIfInBounds_comm _ _ hji,upd_comm (fun e => hne e.symm)]
     exact H'
   ·right; left
    have hvj : vact τ Φ N ops oj' σ = some e := by
     rw [← hv]
     refine vact_congr fun t ht => ?_
     have : t ≠ d := fun e => a1 d hdi (e ▸ ht)
     simp [upd,this]
    obtain ⟨hput,hval⟩ := vact_put hvj
    refine ⟨hlast,hjn,e,hvj,hw,?_⟩
    have hpair := pairX hord hji (Array.getElem?_eq_some_iff.1 hoj).1 (Array.getElem?_eq_some_iff.1 hi).1 (hway.noreach hr hjun) (hway.noreach hj hiun)
    have hp : FitX ops kd i j := by
     rcases hpair with h1 | h1 | h1
     ·omega
     ·omega
     ·exact h1.2.2
    have hrest : ∀ y,calm τ Φ N ops oi (e.run σ) = some (d,y) → y = e.map x → (knd kd i = 1 → okK τ Φ ts oi (e.run σ) y) → vOrdXG τ Φ N ops kd ts m Sf E (fuel + 1) (listed.setIfInBounds j true) (e.run σ) := by
     intro y h1 h2 h3
     refine ih (listed.setIfInBounds j true) (e.run σ) d y (hway.set hj) hfree' hri h1 h3 ?_
     rw [Array.setIfInBounds_comm _ _ hji,h2,← Eff.run_upd (fun d' hd' => by rw [hput] at hd'; exact fun e => a2 d hdi (e ▸ hd'))]
     exact H'
    rcases hp with ⟨h1,hmv⟩ | ⟨h1,h2⟩
    ·obtain ⟨y,_,hxy,hcy,hy⟩ := isMv_calm (hmv oi hi) hc
     have hmap : ev (e.run σ) y = e.map x := by
      rw [hxy]
      rcases hy with ⟨s,rfl,hs⟩ | ⟨v,hv'⟩
      ·exact Eff.run_at fun d' hd' => by
        rw [hput] at hd'
        exact fun e => a3 d' hd' (e ▸ hs)
      ·rw [hv',hv']; exact (hval v).symm
     exact hrest _ (hcy _) hmap fun h2 => by omega
    ·obtain ⟨k1,k2,k3⟩ := hk h1
     obtain ⟨l1,l2⟩ := look_same' (ops := ops) ((kind_spec hkd hi hin).2 h1) (hw h2) (fun d' hd' => by rw [hput] at hd'; exact a3 d' hd') k1
     exact hrest x (by rw [← hc]; exact calm_congr l1) ((hw h2 x).1 k2).symm fun _ => ⟨l2,k2,quietC_congr (fun s hs => (l1 s (looks_op hs)).symm) k3⟩
   ·exact absurd hjm hlast

theorem vOrdXG_firstA {kd ts : List Nat} (hw8 : ∀ i,i < m → reachB ops ops.size m i = true) (hord : ordX ops kd = true) (hkd : kindB ops kd = true) {i : Nat} (him : i < m) {oi : Oper} (hi : ops[i]? = some oi) (hin : 2 ≤ knd kd i) :
  ∀ (fuel : Nat) (listed : Array Bool) (σ : Frm) (e : Eff),WayX ops listed →
   (∀ j oj,ops[j]? = some oj → j ≠ i → listed.getD j true = false → (∀ e ∈ oj.after,Region.binds .any e = true → e.on ≠ i) → oi.apart ops oj = true) →
   i ∈ Region.ready .any ops listed → vact τ Φ N ops oi σ = some e → (knd kd i = 2 → Within ts e.map) →
   vOrdXG τ Φ N ops kd ts m Sf E fuel (listed.setIfInBounds i true) (e.run σ) → vOrdXG τ Φ N ops kd ts m Sf E (fuel + 1) listed σ := by
 intro fuel
 induction fuel with
 | zero => intro listed σ e _ _ _ _ _ H; exact H.elim
 | succ fuel ih =>
  intro listed σ e hway hfree hr hv hw H
  refine ⟨fun h => (by rw [h] at hr; cases hr),fun j hj => ?_⟩
  by_cases hji : j = i
  ·subst hji; exact ⟨oi,hi,.inr (.inl ⟨by omega,hin,e,hv,hw,H⟩)⟩
  ·obtain ⟨oj,hoj,hcase⟩ := H.2 j (ready_mono hj hji)
   obtain ⟨hjun,oj',hoj',hall⟩ := mem_ready.1 hj
   have : oj' = oj := Option.some.inj (hoj'.symm.trans hoj)
   subst this
   have hlast : j ≠ m := by
    rintro rfl
    have := reach_listed hway.closed ops.size j i oj' hoj' hall (hw8 i him)
    rw [getD_tf (unlisted_of_ready hr)] at this
    cases this
   have hiun := unlisted_of_ready hr
   have hnot : ∀ e ∈ oj'.after,Region.binds .any e = true → e.on ≠ i := fun e he hb heq => by
    have h1 := hall e he hb
    rw [heq,getD_tf hiun] at h1
    cases h1
   obtain ⟨a1,a2,a3⟩ := Oper.apart_spec (hfree j oj' hoj hji hjun hnot)
   obtain ⟨hput,hval⟩ := vact_put hv
   have hfree' : ∀ k ok,ops[k]? = some ok → k ≠ i → (listed.setIfInBounds j true).getD k true = false →
     (∀ e ∈ ok.after,Region.binds .any e = true → e.on ≠ i) → oi.apart ops ok = true := fun k ok hk hki hun hno => by
    refine hfree k ok hk hki ?_ hno
    by_cases hjk : j = k
    ·subst hjk; exact hjun
    ·rw [getD_set_ne true hjk] at hun; exact hun
   have hri : i ∈ Region.ready .any ops (listed.setIfInBounds j true) := ready_mono hr (Ne.symm hji)
   have hpair := pairX hord hji (Array.getElem?_eq_some_iff.1 hoj).1 (Array.getElem?_eq_some_iff.1 hi).1 (hway.noreach hr hjun) (hway.noreach hj hiun)
   rcases hcase with ⟨_,hjn,d',x',hc',hk',H'⟩ | ⟨_,hjn,e',_,_,_⟩ | ⟨hjm,_,_⟩
   case inr.inl => omega
   case inr.inr => exact absurd hjm hlast
   have hp : FitX ops kd j i := by
    rcases hpair with h1 | h1 | h1
    ·omega
    ·exact h1.2.2
    ·omega
   have hdj := calm_dst hc'
   have hne : ∀ d,oi.dst = some d → d ≠ d' := fun d hd e => a2 d hd (e ▸ hdj)
   have hlook : ∀ d,e.put.map (·.1) = some d → d ∉ oj'.looksAt ops := fun d hd => by rw [hput] at hd; exact a1 d hd
   have hstep : ∀ y,calm τ Φ N ops oj' σ = some (d',y) → x' = e.map y → vOrdXG τ Φ N ops kd ts m Sf E (fuel + 1) (listed.setIfInBounds j true) (upd σ d' y) := by
    intro y h1 h2
    refine ih (listed.setIfInBounds j true) (upd σ d' y) e (hway.set hj) hfree' hri ?_ hw ?_
    ·rw [← hv]
     refine vact_congr fun t ht => ?_
     have : t ≠ d' := fun e => a3 d' hdj (e ▸ ht)
     simp [upd,this]
    ·rw [Array.setIfInBounds_comm _ _ hji,Eff.run_upd (fun d hd => by rw [hput] at hd; exact hne d hd),← h2]
     exact H'
   refine ⟨oj',hoj,.inl ⟨hlast,hjn,?_⟩⟩
   rcases hp with ⟨h1,hmv⟩ | ⟨h1,h2⟩
   ·obtain ⟨y,_,hxy,hcy,hy⟩ := isMv_calm (hmv oj' hoj) hc'
    have hmap : x' = e.map (ev σ y) := by
     rw [hxy]
     rcases hy with ⟨s,rfl,hs⟩ | ⟨v,hv'⟩
     ·exact Eff.run_at fun d hd => fun e' => hlook d hd (e' ▸ hs)
     ·rw [hv',hv']; exact (hval v).symm
    exact ⟨d',ev σ y,hcy σ,fun h => by omega,hstep _ (hcy σ) hmap⟩
   ·obtain ⟨k1,k2,k3⟩ := hk' h1
    obtain ⟨l1,l2⟩ := look_same (ops := ops) ((kind_spec hkd hoj hjn).2 h1) (hw h2) hlook k1
    have hcj : calm τ Φ N ops oj' σ = some (d',x') := by rw [← hc']; exact (calm_congr l1).symm
    exact ⟨d',x',hcj,fun _ => ⟨l2,k2,quietC_congr (fun s hs => l1 s (looks_op hs)) k3⟩,hstep x' hcj ((hw h2 x').1 k2).symm⟩

theorem vOrdXG_lex {kd ts : List Nat} (hm : m + 2 = ops.size) (hw8 : ∀ i,i < m → reachB ops ops.size m i = true) (hord : ordX ops kd = true) (hkd : kindB ops kd = true) (hw9 : reachB ops ops.size (m + 1) m = true) {σ' : Frm} (hQ : Sf σ') :
  ∀ (l : List Oper) (k : Nat) (listed : Array Bool) (σ : Frm),k + l.length = m → (∀ j,j < l.length → l[j]? = ops[k + j]?) → lexB ops (l.length + 2) k listed = true → (∀ j,j < k → listed.getD j true = true) → WayX ops listed →
   vmixX τ Φ N ops kd ts k l σ = some σ' → vOrdXG τ Φ N ops kd ts m Sf (tail2 ops m) (l.length + 2) listed σ
 | [],k,listed,σ,hk,_,hB,hpre,hway,h => by
  simp only [vmixX,Option.some.injEq] at h
  subst h
  simp only [List.length_nil,Nat.add_zero] at hk
  subst hk
  simp only [List.length_nil,lexB,Bool.and_eq_true] at hB
  obtain ⟨⟨hr,hf⟩,⟨⟨hr2,hf2⟩,hB'⟩⟩ := hB
  have hr' : k ∈ Region.ready .any ops listed := by simpa using hr
  have hr2' : k + 1 ∈ Region.ready .any ops (listed.setIfInBounds k true) := by simpa using hr2
  refine ⟨fun h => (by rw [h] at hr'; cases hr'),fun j hj => ?_⟩
  obtain ⟨hjun,oj,hoj,hall⟩ := mem_ready.1 hj
  have hjk : j = k := by
   have := (Array.getElem?_eq_some_iff.1 hoj).1
   rcases Nat.lt_trichotomy j k with hlt | heq | hgt
   ·rw [hpre j hlt] at hjun; cases hjun
   ·exact heq
   ·have e : j = k + 1 := by omega
    subst e
    have h2 := reach_listed hway.closed ops.size (k + 1) k oj hoj hall hw9
    rw [getD_tf (unlisted_of_ready hr')] at h2
    cases h2
  refine ⟨oj,hoj,.inr (.inr ⟨hjk,hQ,rfl,fun h => (by rw [h] at hr2'; cases hr2'),fun j hj => ?_,by simpa [lexB] using hB'⟩)⟩
  obtain ⟨hjun,oj,hoj,_⟩ := mem_ready.1 hj
  have hsz := (Array.getElem?_eq_some_iff.1 hoj).1
  rcases Nat.lt_trichotomy j k with hlt | heq | hgt
  ·rw [getD_set_ne true (by omega),hpre j hlt] at hjun; cases hjun
  ·subst heq
   have : j < listed.size := by rw [hway.size]; exact hsz
   simp [this] at hjun
  ·omega
 | o :: l,k,listed,σ,hk,hl,hB,hpre,hway,h => by
  have h0 : ops[k]? = some o := by simpa using (hl 0 (by simp)).symm
  have hksz : k < ops.size := (Array.getElem?_eq_some_iff.1 h0).1
  simp only [List.length_cons] at hk
  rw [List.length_cons,lexB] at hB
  simp only [Bool.and_eq_true] at hB
  obtain ⟨⟨hr,hf⟩,hB'⟩ := hB
  have hr' : k ∈ Region.ready .any ops listed := by simpa using hr
  have hpre' : ∀ j,j < k + 1 → (listed.setIfInBounds k true).getD j true = true := by
   intro j hj
   by_cases e : k = j
   ·subst e
    have : k < listed.size := by rw [hway.size]; exact hksz
    simp [this]
   ·rw [getD_set_ne true e]; exact hpre j (by omega)
  have hl' : ∀ j,j < l.length → l[j]? = ops[k + 1 + j]? := fun j hj => by have := hl (j + 1) (by simp; omega); simpa [Nat.add_assoc,Nat.add_comm 1 j] using this
  simp only [vmixX] at h
  split at h
  ·rename_i hkn
   split at h <;> (try cases h)
   rename_i d x hc
   split at h <;> (try cases h)
   rename_i hk'
   exact vOrdXG_first hw8 hord hkd (by omega) h0 hkn (l.length + 2) listed σ d x hway (Region.free_spec h0 hf) hr' hc hk'
    (vOrdXG_lex hm hw8 hord hkd hw9 hQ l (k + 1) _ _ (by omega) hl' hB' hpre' (hway.set hr') h)
  ·rename_i hkn
   split at h <;> (try cases h)
   rename_i e hv
   split at h <;> (try cases h)
   rename_i hw
   exact vOrdXG_firstA hw8 hord hkd (by omega) h0 (by omega) (l.length + 2) listed σ e hway (Region.free_spec h0 hf) hr' hv hw
    (vOrdXG_lex hm hw8 hord hkd hw9 hQ l (k + 1) _ _ (by omega) hl' hB' hpre' (hway.set hr') h)

theorem VW.dxr2 (hτ : TyOk P τ) (hΦ : Sound P Φ) (hm : P.follows .mixedOrders = true) (ds : List (Option Nat)) (m : Nat) (f1 F1 f2 f3 : FL) (kd : List Nat) (sn : List (List Nat)) (ts : List Nat) {id : Nat} {l : List Oper} {fl : FL} {Q : Exit → Frm → Prop}
  (o o2 : Oper) (hds : l.map (·.dst) = ds) (hsn : l.map (fun o => Op.seen o.op) = sn) (ho : l[m]? = some o) (hg : o.guard = none) (ho2 : l[m + 1]? = some o2) (hg2 : o2.guard = none) (hB : drawX l.toArray kd = true) (hH : drawH2 l.toArray m = true) (hfr : freshB (newDsX kd l) fl = true)
  (h1 : AfterL (mixX τ Φ N ds ts (kd.take m) (sn.take m) (l.take m) fl) fun f => pickL (f1.map (·.1)) f = f1)
  (hs : OStep P N o (mk f1) (fun _ : Unit => mk F1) (fun _ => True)) (e1 : pickL (f2.map (·.1)) F1 = f2)
  (h2 : AfterL (opL τ Φ N ds o2 f2) fun f => pickL (f3.map (·.1)) f = f3)
  (h3 : Q .normal (mk f3)) : VW P N (.region id l.toArray true) (mk fl) Q := by
 subst hds
 subst hsn
 cases hv3 : opL τ Φ N (l.map (·.dst)) o2 f2 with
 | none => rw [hv3] at h2; exact h2.elim
 | some f3' =>
 rw [hv3] at h2
 have h2' : pickL (f3.map (·.1)) f3' = f3 := h2
 obtain ⟨e3,hv4,hv5⟩ := opL_ok (l := l) hv3
 cases hv : mixX τ Φ N (l.map (·.dst)) ts (kd.take m) ((l.map (fun o => Op.seen o.op)).take m) (l.take m) fl with
 | none => rw [hv] at h1; exact h1.elim
 | some f1' =>
  rw [hv] at h1
  have h1' : pickL (f1.map (·.1)) f1' = f1 := h1
  have hvm0 := mixX_ok (l0 := l) (kd0 := kd.take m) (l.take m) (kd.take m) _ 0 fl f1' (by simp) (by rw [List.map_take]) hv
  have hml : m < l.length := by simpa using (List.getElem?_eq_some_iff.1 ho).1
  have hvm : vmixX τ Φ N l.toArray kd ts 0 (l.take m) (mk fl) = some (mk f1') := by
   have key : ∀ (r : List Oper) (k : Nat) (σ : Frm),k + r.length ≤ m → vmixX τ Φ N l.toArray (kd.take m) ts k r σ = vmixX τ Φ N l.toArray kd ts k r σ := by
    intro r
    induction r with
    | nil => intro k σ _; rfl
    | cons o r ih =>
     intro k σ hk
     simp only [List.length_cons] at hk
     have e : knd (kd.take m) k = knd kd k := by
      unfold knd
      rw [List.getD_eq_getElem?_getD,List.getD_eq_getElem?_getD,List.getElem?_take_of_lt (by omega)]
     have ih' : ∀ σ,vmixX τ Φ N l.toArray (kd.take m) ts (k + 1) r σ = vmixX τ Φ N l.toArray kd ts (k + 1) r σ := fun σ => ih (k + 1) σ (by omega)
     simp only [vmixX,ih']
     rw [e]
   rw [← key (l.take m) 0 (mk fl) (by simp; omega)]
   exact hvm0
  simp only [drawX,Bool.and_eq_true,decide_eq_true_eq] at hB
  obtain ⟨⟨⟨⟨hord,hkd⟩,hlex⟩,hnd⟩,hnil⟩ := hB
  simp only [drawH2,Bool.and_eq_true,decide_eq_true_eq] at hH
  obtain ⟨⟨⟨⟨⟨hmsz,hreach⟩,hw9⟩,_⟩,_⟩,_⟩ := hH
  have hw8 : ∀ i,i < m → reachB l.toArray l.toArray.size m i = true := fun i hi => List.all_eq_true.1 hreach i (List.mem_range.2 hi)
  intro R B w0 O a w hst
  refine wp_region_any hm ?_
  have hway : WayX l.toArray (Array.replicate l.toArray.size false) := by
   refine ⟨by simp,fun j oj _ hl => ?_⟩
   exfalso
   rcases Nat.lt_or_ge j l.length with h1 | h1 <;> simp [h1] at hl
  have hlen : (l.take m).length = m := by simp; omega
  have hord' := vOrdXG_lex (Sf := fun σ => σ = mk f1') hmsz hw8 hord hkd hw9 rfl (l.take m) 0 (Array.replicate l.toArray.size false) (mk fl) (by omega)
   (fun j hj => by rw [List.getElem?_take_of_lt (by omega)]; simp) (by rw [hlen,hmsz]; exact hlex) (fun j hj => absurd hj (Nat.not_lt_zero _)) hway hvm
  rw [hlen,hmsz] at hord'
  have hfre : FreX l.toArray kd (Array.replicate l.toArray.size false) (mk fl) := by
   intro j oj hj hjk _ hm d hd
   have hjl : l[j]? = some oj := by simpa using hj
   have hmem : d ∈ newDsX kd l := List.mem_filterMap.2 ⟨j,List.mem_range.2 (List.getElem?_eq_some_iff.1 hjl).1,by rw [hjl]; simp only [hjk,hm,and_self,if_true]; exact hd⟩
   have h1 := List.all_eq_true.1 hfr d hmem
   exact mk_on fun q hq => by simpa using List.all_eq_true.1 h1 q hq
  have hoH : l.toArray[m]? = some o := by simpa using ho
  have hoH2 : l.toArray[m + 1]? = some o2 := by simpa using ho2
  refine wpAny_of_vOrdXG (QQ := fun a' w' => ∃ O',St R B w0 N O' (mk F1) a' w') hτ hΦ hkd hnd hnil hoH hg (fun O σ a w hst hσ K hK => ?_) (fun fuel listed a w hT hq => ?_) _ _ _ O a _ hst.drew hway hfre hord'
  ·subst hσ
   exact hs R B w0 O a w K _ (st_pick hst h1') fun _ O' a' w' _ hst' => hK a' w' ⟨O',hst'⟩
  ·obtain ⟨rfl,hne,hall,hlast⟩ := hT
   obtain ⟨O2,hst2⟩ := hq
   refine ⟨fun h0 => absurd h0 hne,fun i hi => ?_⟩
   have := hall i hi
   subst this
   unfold wpOp
   rw [hoH2]
   simp only
   have hw : Region.wanted o2 (yielded l.toArray a.tmps) = true := by simp [Region.wanted,hg2]
   rw [if_pos hw]
   exact .inl (Eq.mp (if_pos hw) (vact_sound (ops := l.toArray) hτ hΦ (st_pick hst2 e1) hv4 fun O' a' w' hst' => ⟨hlast,O',_,st_pick (hv5 ▸ hst') h2',h3⟩))
end
end Go.Vam
