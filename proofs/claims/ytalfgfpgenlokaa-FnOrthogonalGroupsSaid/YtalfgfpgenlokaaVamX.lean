/- Regions of open order in which operations that act stand among others that only look. -/
import Derived.Test.YtalfgfpgenlokaaVamW
namespace Go.Vam
open Go Go.RowKit

def offT (ts : List Nat) (x : VV) : Bool := ts.all fun t => !(x.on t)
def VV.liv : VV → Bool
 | .dead => false
 | _ => true
def Within (ts : List Nat) (f : VV → VV) : Prop := ∀ x,(offT ts x = true → f x = x) ∧ (offT ts x = false → f x = .dead ∨ offT ts (f x) = false)

theorem offT_iff {ts : List Nat} {x : VV} : offT ts x = true ↔ ∀ t ∈ ts,x.on t = false := by
 unfold offT
 rw [List.all_eq_true]
 constructor
 ·intro h t ht; simpa using h t ht
 ·intro h t ht; simp [h t ht]
theorem offT_not {ts : List Nat} {x : VV} : offT ts x = false ↔ ∃ t ∈ ts,x.on t = true := by
 unfold offT
 rw [List.all_eq_false]
 simp
theorem Within.look {ts : List Nat} {f : VV → VV} (h : Within ts f) {x : VV} (h1 : offT ts (f x) = true) (h2 : (f x).liv = true) : offT ts x = true ∧ f x = x := by
 cases hx : offT ts x with
 | true => exact ⟨rfl,(h x).1 hx⟩
 | false =>
  rcases (h x).2 hx with e | e
  ·rw [e] at h2; cases h2
  ·rw [e] at h1; cases h1
theorem within_kmap {ts ks : List Nat} (h : ∀ k ∈ ks,k ∈ ts) : Within ts (kmap ks) := by
 intro x
 refine ⟨fun hx => ?_,fun hx => ?_⟩
 ·unfold kmap
  rw [if_neg]
  intro he
  obtain ⟨t,h1,h2⟩ := List.any_eq_true.1 he
  rw [offT_iff.1 hx t (h t h1)] at h2
  cases h2
 ·unfold kmap
  split
  ·exact .inl rfl
  ·exact .inr hx
theorem within_wk {ts : List Nat} {t : Nat} (ht : t ∈ ts) (ys ys' : List D) : Within ts (wkVV t ys ys') := by
 intro x
 rcases wkVV_cases t ys ys' x with h | ⟨h1,h2⟩ | ⟨h1,h2⟩
 ·refine ⟨fun hx => ?_,fun _ => .inl h⟩
  have hon := offT_iff.1 hx t ht
  rw [h]
  unfold wkVV at h
  split at h
  ·rename_i r zs
   have : r ≠ t := by simpa [VV.on] using hon
   rw [if_neg this] at h
   exact h.symm
  ·rw [if_neg (by rw [hon]; simp)] at h
   exact h.symm
 ·exact ⟨fun _ => h2,fun hx => .inr (by rw [h2]; exact hx)⟩
 ·refine ⟨fun hx => ?_,fun _ => .inr ?_⟩
  ·have := offT_iff.1 hx t ht
   rw [h1] at this
   simp [VV.on] at this
  ·rw [h2]
   exact offT_not.2 ⟨t,ht,by simp [VV.on]⟩
theorem Within.comp {ts : List Nat} {f g : VV → VV} (hf : Within ts f) (hg : Within ts g) (hd : f .dead = .dead) : Within ts fun x => f (g x) := by
 intro x
 refine ⟨fun hx => ?_,fun hx => ?_⟩
 ·simp only [(hg x).1 hx,(hf x).1 hx]
 ·rcases (hg x).2 hx with e | e
  ·left; simp only [e,hd]
  ·exact (hf _).2 e

section
variable {P : Program} {τ : TypeId → TK} {Φ : Orc} {N : Lim} {ops : Array Oper} {Qf : Frm → Prop}

def knd (kd : List Nat) (i : Nat) : Nat := kd.getD i 0

def quietC (τ : TypeId → TK) (Φ : Orc) (o : Oper) (σ : Frm) : Prop := makesB o = true → ∀ d,o.dst = some d → ∃ x,vres τ Φ d o.op σ = some ([],x)
def okK (τ : TypeId → TK) (Φ : Orc) (ts : List Nat) (o : Oper) (σ : Frm) (x : VV) : Prop := (∀ s ∈ Op.seen o.op,offT ts (σ s) = true ∧ (σ s).liv = true) ∧ offT ts x = true ∧ quietC τ Φ o σ
theorem quietC_congr {τ : TypeId → TK} {Φ : Orc} {o : Oper} {σ σ' : Frm} (h : ∀ t ∈ Op.seen o.op,σ t = σ' t) (hq : quietC τ Φ o σ) : quietC τ Φ o σ' := fun hm d hd => by
 obtain ⟨x,hx⟩ := hq hm d hd
 exact ⟨x,by rw [← hx]; exact (vres_congr (seen_congr h)).symm⟩

def mvAt (ops : Array Oper) (i : Nat) : Bool := match ops[i]? with
 | some o => isMv o
 | none => false

def ordX (ops : Array Oper) (kd : List Nat) : Bool :=
 (List.range ops.size).all fun j => (List.range j).all fun i => reachB ops ops.size j i || (decide (knd kd i < 2) && decide (knd kd j < 2)) ||
  (decide (knd kd i < 2) && decide (2 ≤ knd kd j) && ((decide (knd kd i = 0) && mvAt ops i) || (decide (knd kd i = 1) && decide (knd kd j = 2)))) ||
  (decide (knd kd j < 2) && decide (2 ≤ knd kd i) && ((decide (knd kd j = 0) && mvAt ops j) || (decide (knd kd j = 1) && decide (knd kd i = 2))))

def kindB (ops : Array Oper) (kd : List Nat) : Bool :=
 (List.range ops.size).all fun i => match ops[i]? with
  | some o => decide (2 ≤ knd kd i) || ((!makesB o || decide (knd kd i = 1) || (List.range ops.size).all fun j => decide (knd kd j < 2) || reachB ops ops.size j i) && (decide (knd kd i = 0) || o.guard.isNone))
  | none => false

def newDsX (kd : List Nat) (l : List Oper) : List Nat := (List.range l.length).filterMap fun j => match l[j]? with
 | some o => if knd kd j = 0 ∧ makesB o = true then o.dst else none
 | none => none

def drawX (ops : Array Oper) (kd : List Nat) : Bool :=
 ordX ops kd && kindB ops kd && lexB ops ops.size 0 (Array.replicate ops.size false) && decide ((dsts ops.toList).Nodup) && decide (nilT ∉ dsts ops.toList)

def FitX (ops : Array Oper) (kd : List Nat) (i j : Nat) : Prop := (knd kd i = 0 ∧ ∀ o,ops[i]? = some o → isMv o = true) ∨ (knd kd i = 1 ∧ knd kd j = 2)

theorem pairX {kd : List Nat} (hord : ordX ops kd = true) {i j : Nat} (hij : i ≠ j) (hi : i < ops.size) (hj : j < ops.size) (hnr : reachB ops ops.size j i = false) (hnr' : reachB ops ops.size i j = false) :
  (knd kd i < 2 ∧ knd kd j < 2) ∨ (knd kd i < 2 ∧ 2 ≤ knd kd j ∧ FitX ops kd i j) ∨ (knd kd j < 2 ∧ 2 ≤ knd kd i ∧ FitX ops kd j i) := by
 have mv : ∀ k,mvAt ops k = true → ∀ o,ops[k]? = some o → isMv o = true := fun k h o ho => by unfold mvAt at h; rw [ho] at h; exact h
 have key : ∀ a b : Nat,a < b → b < ops.size → reachB ops ops.size b a = false →
   (knd kd a < 2 ∧ knd kd b < 2) ∨ (knd kd a < 2 ∧ 2 ≤ knd kd b ∧ FitX ops kd a b) ∨ (knd kd b < 2 ∧ 2 ≤ knd kd a ∧ FitX ops kd b a) := by
  intro a b hab hb hr
  have h1 := List.all_eq_true.1 (List.all_eq_true.1 hord b (List.mem_range.2 hb)) a (List.mem_range.2 hab)
  simp only [hr,Bool.false_or,Bool.or_eq_true,Bool.and_eq_true,decide_eq_true_eq] at h1
  rcases h1 with (h1 | ⟨⟨h1,h2⟩,h3⟩) | ⟨⟨h1,h2⟩,h3⟩
  ·exact .inl h1
  ·exact .inr (.inl ⟨h1,h2,h3.imp (fun h => ⟨h.1,mv a h.2⟩) id⟩)
  ·exact .inr (.inr ⟨h1,h2,h3.imp (fun h => ⟨h.1,mv b h.2⟩) id⟩)
 rcases Nat.lt_or_gt_of_ne hij with h | h
 ·exact key i j h hj hnr
 ·rcases key j i h hi hnr' with h1 | h1 | h1
  ·exact .inl ⟨h1.2,h1.1⟩
  ·exact .inr (.inr h1)
  ·exact .inr (.inl h1)

structure WayX (ops : Array Oper) (listed : Array Bool) : Prop where
 size : listed.size = ops.size
 closed : ∀ j oj,ops[j]? = some oj → listed.getD j false = true → ∀ e ∈ oj.after,Region.binds .any e = true → listed.getD e.on false = true

theorem WayX.set {listed : Array Bool} (hw : WayX ops listed) {i : Nat} (hi : i ∈ Region.ready .any ops listed) : WayX ops (listed.setIfInBounds i true) :=
 ⟨by simp [hw.size],closed_set hw.closed hi⟩

theorem WayX.noreach {listed : Array Bool} (hw : WayX ops listed) {i j : Nat} (hj : j ∈ Region.ready .any ops listed) (hi : listed.getD i true = false) : reachB ops ops.size j i = false := by
 cases h : reachB ops ops.size j i with
 | false => rfl
 | true =>
  obtain ⟨_,oj,hoj,hall⟩ := mem_ready.1 hj
  have := reach_listed hw.closed ops.size j i oj hoj hall h
  rw [getD_tf hi] at this
  cases this

def vOrdX (τ : TypeId → TK) (Φ : Orc) (N : Lim) (ops : Array Oper) (kd ts : List Nat) (Qf : Frm → Prop) : Nat → Array Bool → Frm → Prop
 | 0,listed,σ => Region.ready .any ops listed = [] ∧ Qf σ
 | fuel + 1,listed,σ => (Region.ready .any ops listed = [] → Qf σ) ∧
  ∀ i ∈ Region.ready .any ops listed,∃ o,ops[i]? = some o ∧
   ((knd kd i < 2 ∧ ∃ d x,calm τ Φ N ops o σ = some (d,x) ∧ (knd kd i = 1 → okK τ Φ ts o σ x) ∧ vOrdX τ Φ N ops kd ts Qf fuel (listed.setIfInBounds i true) (upd σ d x)) ∨
    (2 ≤ knd kd i ∧ ∃ e,vact τ Φ N ops o σ = some e ∧ (knd kd i = 2 → Within ts e.map) ∧ vOrdX τ Φ N ops kd ts Qf fuel (listed.setIfInBounds i true) (e.run σ)))

theorem kind_spec {kd : List Nat} (h : kindB ops kd = true) {i : Nat} {o : Oper} (hi : ops[i]? = some o) (hk : knd kd i < 2) :
  (makesB o = true → knd kd i = 0 → ∀ j,j < ops.size → 2 ≤ knd kd j → reachB ops ops.size j i = true) ∧ (knd kd i = 1 → o.guard = none) := by
 have h1 := List.all_eq_true.1 h i (List.mem_range.2 (Array.getElem?_eq_some_iff.1 hi).1)
 rw [hi] at h1
 simp only [Bool.or_eq_true,decide_eq_true_eq,Bool.and_eq_true,Bool.not_eq_eq_eq_not,Bool.not_true,Option.isNone_iff_eq_none] at h1
 rcases h1 with h1 | ⟨h1,h2⟩
 ·omega
 ·refine ⟨fun hm h0 j hj hkj => ?_,fun e => by rcases h2 with h2 | h2; omega; exact h2⟩
  rcases h1 with (h1 | h1) | h1
  ·rw [hm] at h1; cases h1
  ·omega
  ·have := List.all_eq_true.1 h1 j (List.mem_range.2 hj)
   simp only [Bool.or_eq_true,decide_eq_true_eq] at this
   rcases this with h3 | h3
   ·omega
   ·exact h3

theorem calm_act' {o : Oper} {σ : Frm} {d : Nat} {x : VV} (h : calm τ Φ N ops o σ = some (d,x)) (hf : makesB o = true → ∀ d',o.dst = some d' → (∀ s,(σ s).on d' = false) ∨ ∃ y,vres τ Φ d' o.op σ = some ([],y)) :
  o.dst = some d ∧ ∃ e,vact τ Φ N ops o σ = some e ∧ e.run σ = upd σ d x := by
 by_cases hm : makesB o = true
 ·have hd := calm_dst h
  rcases hf hm d hd with h1 | ⟨y,h1⟩
  ·exact calm_act h fun _ d' hd' => by rw [hd] at hd'; simp only [Option.some.injEq] at hd'; subst hd'; exact h1
  ·unfold calm at h
   rw [hd] at h
   simp only at h
   split at h <;> try cases h
   rename_i hN
   have hdo : ∀ z,calmV τ Φ d o σ = some z → ∃ e,vdo τ Φ N o σ = some e ∧ e.run σ = upd σ d z := by
    intro z hz
    have hz' : z = y := by
     unfold calmV at hz
     rw [h1] at hz
     simp only [true_or,if_true,Option.some.injEq] at hz
     exact hz.symm
    subst hz'
    obtain ⟨c,hc⟩ : ∃ c,vval τ Φ d o.op σ = some ([],z) := ⟨0,by
     cases ho : o.op with
     | call c =>
      rw [ho] at h1
      simp only [vval]
      split
      ·rename_i hc; simp [vres,hc] at h1
      ·exact h1
     | makeSlice T a b => rw [ho] at h1; simpa only [vval] using h1
     | buildSlice T n parts => rw [ho] at h1; simp only [vval,h1]
     | alloc T => rw [ho] at h1; simpa only [vval] using h1
     | _ => unfold makesB at hm; rw [ho] at hm; cases hm⟩
    refine ⟨⟨kmap [],some (d,z)⟩,by unfold vdo; simp only [hd,if_pos hN,vmut_off h1 rfl,hc],?_⟩
    simp only [Eff.run]
    have : (fun s => kmap [] (σ s)) = σ := by funext s; simp [kmap]
    rw [this]
   unfold vact
   cases hg : o.guard with
   | none =>
    rw [hg] at h
    simp only at h ⊢
    obtain ⟨z,h2,h3⟩ := map_some h
    simp only [Prod.mk.injEq] at h3
    obtain ⟨_,rfl⟩ := h3
    exact ⟨hd,hdo z h2⟩
   | some q =>
    obtain ⟨j,want⟩ := q
    rw [hg] at h
    simp only at h ⊢
    cases hj : (ops[j]?).bind (·.dst) with
    | none => rw [hj] at h; cases h
    | some s =>
     rw [hj] at h
     simp only at h ⊢
     split at h
     case h_2 hs =>
      simp only [Option.some.injEq,Prod.mk.injEq] at h
      obtain ⟨_,rfl⟩ := h
      exact ⟨hd,⟨id,some (d,.und)⟩,by simp only [hs,vskip,hd,if_pos hN],rfl⟩
     case h_3 => cases h
     rename_i b hs
     simp only [hs]
     split at h
     ·rename_i hb
      obtain ⟨z,h2,h3⟩ := map_some h
      simp only [Prod.mk.injEq] at h3
      obtain ⟨_,rfl⟩ := h3
      rw [if_pos hb]
      exact ⟨hd,hdo z h2⟩
     ·rename_i hb
      simp only [Option.some.injEq,Prod.mk.injEq] at h
      obtain ⟨_,rfl⟩ := h
      rw [if_neg hb]
      refine ⟨hd,⟨id,some (d,.und)⟩,by unfold vskip; simp only [hd,if_pos hN],rfl⟩
 ·exact calm_act h fun h' => absurd h' hm

def FreX (ops : Array Oper) (kd : List Nat) (listed : Array Bool) (σ : Frm) : Prop :=
 ∀ j oj,ops[j]? = some oj → knd kd j = 0 → listed.getD j true = false → makesB oj = true → ∀ d,oj.dst = some d → ∀ s,(σ s).on d = false

theorem wpAny_of_vOrdX (hτ : TyOk P τ) (hΦ : Sound P Φ) {kd ts : List Nat} (hkd : kindB ops kd = true) (hnd : (dsts ops.toList).Nodup) (hnil : nilT ∉ dsts ops.toList) {R : Nat → Prop} {B : Nat → Prop} {w0 : W0} {Q : Exit → Act → World → Prop}
  (hQ : ∀ O σ a w,St R B w0 N O σ a w → Qf σ → Q .normal a w) : ∀ (fuel : Nat) (listed : Array Bool) (σ : Frm) (O : Own) (a : Act) (w : World),St R B w0 N O σ a w → WayX ops listed → FreX ops kd listed σ →
  vOrdX τ Φ N ops kd ts Qf fuel listed σ → wpAny P .any ops Q fuel listed a w
 | 0,_,_,_,_,_,hs,_,_,h => ⟨h.1,hQ _ _ _ _ hs h.2⟩
 | fuel + 1,listed,σ,O,a,w,hs,hway,hfre,h => by
  refine ⟨fun h0 => hQ _ _ _ _ hs (h.1 h0),fun i hi => ?_⟩
  obtain ⟨o,ho,hc⟩ := h.2 i hi
  have step : ∀ e σ',vact τ Φ N ops o σ = some e → e.run σ = σ' → FreX ops kd (listed.setIfInBounds i true) σ' → vOrdX τ Φ N ops kd ts Qf fuel (listed.setIfInBounds i true) σ' →
    wpOp P ops Q i (wpAny P .any ops Q fuel (listed.setIfInBounds i true)) a w := by
   intro e σ' hv hrun hf' hn
   subst hrun
   have hK : ∀ O' a' w',St R B w0 N O' (e.run σ) a' w' → wpAny P .any ops Q fuel (listed.setIfInBounds i true) a' w' := fun O' a' w' h' =>
    wpAny_of_vOrdX hτ hΦ hkd hnd hnil hQ fuel _ _ O' a' w' h' (hway.set hi) hf' hn
   have := vact_sound (Q := Q) hτ hΦ hs hv hK
   unfold wpOp
   rw [ho]
   simp only
   split
   ·rename_i hw; rw [if_pos hw] at this; exact .inl this
   ·rename_i hw; rw [if_neg hw] at this; exact this
  rcases hc with ⟨hin,d,x,hcalm,hokk,hn⟩ | ⟨hni,e,hv,_,hn⟩
  ·obtain ⟨hd,e,hv,hrun⟩ := calm_act' hcalm fun hm d' hd' => by
    by_cases h0 : knd kd i = 0
    ·exact .inl fun s => hfre i o ho h0 (unlisted_of_ready hi) hm d' hd' s
    ·exact .inr ((hokk (by omega)).2.2 hm d' hd')
   refine step e _ hv hrun (fun j oj hj hjk hun hm d' hd' s => ?_) hn
   have hij : i ≠ j := by
    rintro rfl
    have hlt : i < listed.size := by rw [hway.size]; exact (Array.getElem?_eq_some_iff.1 ho).1
    simp [hlt] at hun
   rw [getD_set_ne true hij] at hun
   have hf := hfre j oj hj hjk hun hm d' hd'
   simp only [upd]
   split
   ·cases he : x.on d' with
    | false => rfl
    | true =>
     rcases calm_on hcalm d' he with e | e | ⟨s',hs'⟩
     ·exact absurd (dst_ne hnd ho hj (e ▸ hd) hd') hij
     ·exact absurd (e ▸ List.mem_filterMap.2 ⟨oj,by simpa using Array.mem_of_getElem? hj,hd'⟩) hnil
     ·rw [hf s'] at hs'; cases hs'
   ·exact hf s
  ·refine step e _ hv rfl (fun j oj hj hjk hun hm d' hd' s => ?_) hn
   have hij : i ≠ j := fun e => by subst e; omega
   rw [getD_set_ne true hij] at hun
   have h1 := (kind_spec hkd hj (by omega)).1 hm hjk i (Array.getElem?_eq_some_iff.1 ho).1 hni
   rw [hway.noreach hi hun] at h1
   cases h1

theorem looks_seen {o : Oper} (hg : o.guard = none) {t : Nat} (h : t ∈ o.looksAt ops) : t ∈ Op.seen o.op := by
 unfold Oper.looksAt at h
 rw [hg] at h
 rcases List.mem_append.1 h with h | h
 ·exact h
 ·simp at h

theorem look_same {ts : List Nat} {o : Oper} (hg : o.guard = none) {σ : Frm} {e : Eff} (hw : Within ts e.map) (hput : ∀ d',e.put.map (·.1) = some d' → d' ∉ o.looksAt ops)
  (h : ∀ s ∈ Op.seen o.op,offT ts (e.run σ s) = true ∧ (e.run σ s).liv = true) : (∀ s ∈ o.looksAt ops,e.run σ s = σ s) ∧ ∀ s ∈ Op.seen o.op,offT ts (σ s) = true ∧ (σ s).liv = true := by
 have key : ∀ s ∈ Op.seen o.op,e.run σ s = σ s := fun s hs => by
  obtain ⟨h1,h2⟩ := h s hs
  have hr : e.run σ s = e.map (σ s) := Eff.run_at fun d' hd' e' => hput d' hd' (e' ▸ looks_op hs)
  rw [hr] at h1 h2 ⊢
  exact (hw.look h1 h2).2
 exact ⟨fun s hs => key s (looks_seen hg hs),fun s hs => by rw [← key s hs]; exact h s hs⟩
theorem look_same' {ts : List Nat} {o : Oper} (hg : o.guard = none) {σ : Frm} {e : Eff} (hw : Within ts e.map) (hput : ∀ d',e.put.map (·.1) = some d' → d' ∉ o.looksAt ops)
  (h : ∀ s ∈ Op.seen o.op,offT ts (σ s) = true ∧ (σ s).liv = true) : (∀ s ∈ o.looksAt ops,e.run σ s = σ s) ∧ ∀ s ∈ Op.seen o.op,offT ts (e.run σ s) = true ∧ (e.run σ s).liv = true := by
 have key : ∀ s ∈ Op.seen o.op,e.run σ s = σ s := fun s hs => by
  have hr : e.run σ s = e.map (σ s) := Eff.run_at fun d' hd' e' => hput d' hd' (e' ▸ looks_op hs)
  rw [hr]
  exact (hw (σ s)).1 (h s hs).1
 exact ⟨fun s hs => key s (looks_seen hg hs),fun s hs => by rw [key s hs]; exact h s hs⟩

theorem vOrdX_first {kd ts : List Nat} (hord : ordX ops kd = true) (hkd : kindB ops kd = true) {i : Nat} {oi : Oper} (hi : ops[i]? = some oi) (hin : knd kd i < 2) :
  ∀ (fuel : Nat) (listed : Array Bool) (σ : Frm) (d : Nat) (x : VV),WayX ops listed →
   (∀ j oj,ops[j]? = some oj → j ≠ i → listed.getD j true = false → (∀ e ∈ oj.after,Region.binds .any e = true → e.on ≠ i) → oi.apart ops oj = true) →
   i ∈ Region.ready .any ops listed → calm τ Φ N ops oi σ = some (d,x) → (knd kd i = 1 → okK τ Φ ts oi σ x) →
   vOrdX τ Φ N ops kd ts Qf fuel (listed.setIfInBounds i true) (upd σ d x) → vOrdX τ Φ N ops kd ts Qf (fuel + 1) listed σ := by
 intro fuel
 induction fuel with
 | zero =>
  intro listed σ d x _ _ hr hc hk H
  refine ⟨fun h => (by rw [h] at hr; cases hr),fun j hj => ?_⟩
  by_cases hji : j = i
  ·subst hji; exact ⟨oi,hi,.inl ⟨hin,d,x,hc,hk,H⟩⟩
  ·have := ready_mono hj hji
   rw [H.1] at this
   cases this
 | succ fuel ih =>
  intro listed σ d x hway hfree hr hc hk H
  refine ⟨fun h => (by rw [h] at hr; cases hr),fun j hj => ?_⟩
  by_cases hji : j = i
  ·subst hji; exact ⟨oi,hi,.inl ⟨hin,d,x,hc,hk,H⟩⟩
  ·obtain ⟨oj,hoj,hcase⟩ := H.2 j (ready_mono hj hji)
   obtain ⟨hjun,oj',hoj',hall⟩ := mem_ready.1 hj
   have : oj' = oj := Option.some.inj (hoj'.symm.trans hoj)
   subst this
   have hiun := unlisted_of_ready hr
   have hnot : ∀ e ∈ oj'.after,Region.binds .any e = true → e.on ≠ i := fun e he hb heq => by
    have h1 := hall e he hb
    rw [heq,getD_tf hiun] at h1
    cases h1
   obtain ⟨a1,a2,a3⟩ := Oper.apart_spec (hfree j oj' hoj hji hjun hnot)
   have hdi := calm_dst hc
   have hfree' : ∀ k ok,ops[k]? = some ok → k ≠ i → (listed.setIfInBounds j true).getD k true = false →
     (∀ e ∈ ok.after,Region.binds .any e = true → e.on ≠ i) → oi.apart ops ok = true := fun k ok hk hki hun hno => by
    refine hfree k ok hk hki ?_ hno
    by_cases hjk : j = k
    ·subst hjk; exact hjun
    ·rw [getD_set_ne true hjk] at hun; exact hun
   have hri : i ∈ Region.ready .any ops (listed.setIfInBounds j true) := ready_mono hr (Ne.symm hji)
   refine ⟨oj',hoj,?_⟩
   rcases hcase with ⟨hjn,d',x',hc',hk',H'⟩ | ⟨hjn,e,hv,hw,H'⟩
   ·left
    have hdj := calm_dst hc'
    have hcj : calm τ Φ N ops oj' σ = some (d',x') := by
     rw [← hc']
     refine calm_congr fun t ht => ?_
     have : t ≠ d := fun e => a1 d hdi (e ▸ ht)
     simp [upd,this]
    refine ⟨hjn,d',x',hcj,fun h1 => ?_,ih (listed.setIfInBounds j true) (upd σ d' x') d x (hway.set hj) hfree' hri ?_ (fun h1 => ?_) ?_⟩
    ·obtain ⟨k1,k2,k3⟩ := hk' h1
     refine ⟨fun s hs => ?_,k2,quietC_congr (fun s hs => ?_) k3⟩
     ·have := k1 s hs
      have hne : s ≠ d := fun e => a1 d hdi (e ▸ looks_op hs)
      simpa [upd,hne] using this
     ·have hne : s ≠ d := fun e => a1 d hdi (e ▸ looks_op hs)
      simp [upd,hne]
    ·rw [← hc]
     refine calm_congr fun t ht => ?_
     have : t ≠ d' := fun e => a3 d' hdj (e ▸ ht)
     simp [upd,this]
    ·obtain ⟨k1,k2,k3⟩ := hk h1
     refine ⟨fun s hs => ?_,k2,quietC_congr (fun s hs => ?_) k3⟩
     ·have := k1 s hs
      have hne : s ≠ d' := fun e => a3 d' hdj (e ▸ looks_op hs)
      simpa [upd,hne] using this
     ·have hne : s ≠ d' := fun e => a3 d' hdj (e ▸ looks_op hs)
      simp [upd,hne]
    ·have hne : d ≠ d' := fun e => a2 d hdi (e ▸ hdj)
     rw [Array.setIfInBounds_comm _ _ hji,upd_comm (fun e => hne e.symm)]
     exact H'
   ·right
    have hvj : vact τ Φ N ops oj' σ = some e := by
     rw [← hv]
     refine vact_congr fun t ht => ?_
     have : t ≠ d := fun e => a1 d hdi (e ▸ ht)
     simp [upd,this]
    obtain ⟨hput,hval⟩ := vact_put hvj
    refine ⟨hjn,e,hvj,hw,?_⟩
    have hpair := pairX hord hji (Array.getElem?_eq_some_iff.1 hoj).1 (Array.getElem?_eq_some_iff.1 hi).1 (hway.noreach hr hjun) (hway.noreach hj hiun)
    have hp : FitX ops kd i j := by
     rcases hpair with h1 | h1 | h1
     ·omega
     ·omega
     ·exact h1.2.2
    have hrest : ∀ y,calm τ Φ N ops oi (e.run σ) = some (d,y) → y = e.map x → (knd kd i = 1 → okK τ Φ ts oi (e.run σ) y) → vOrdX τ Φ N ops kd ts Qf (fuel + 1) (listed.setIfInBounds j true) (e.run σ) := by
     intro y h1 h2 h3
     refine ih (listed.setIfInBounds j true) (e.run σ) d y (hway.set hj) hfree' hri h1 h3 ?_
     rw [Array.setIfInBounds_comm _ _ hji,h2,← Eff.run_upd (fun d' hd' => by rw [hput] at hd'; exact fun e => a2 d hdi (e ▸ hd'))]
     exact H'
    rcases hp with ⟨h1,hmv⟩ | ⟨h1,h2⟩
    ·obtain ⟨y,_,hxy,hcy,hy⟩ := isMv_calm (hmv oi hi) hc
     have hmap : ev (e.run σ) y = e.map x := by
      rw [hxy]
      rcases hy with ⟨s,rfl,hs⟩ | ⟨v,hv'⟩
      ·exact Eff.run_at fun d' hd' => by
        rw [hput] at hd'
        exact fun e => a3 d' hd' (e ▸ hs)
      ·rw [hv',hv']; exact (hval v).symm
     exact hrest _ (hcy _) hmap fun h2 => by omega
    ·obtain ⟨k1,k2,k3⟩ := hk h1
     obtain ⟨l1,l2⟩ := look_same' (ops := ops) ((kind_spec hkd hi hin).2 h1) (hw h2) (fun d' hd' => by rw [hput] at hd'; exact a3 d' hd') k1
     exact hrest x (by rw [← hc]; exact calm_congr l1) ((hw h2 x).1 k2).symm fun _ => ⟨l2,k2,quietC_congr (fun s hs => (l1 s (looks_op hs)).symm) k3⟩

theorem vOrdX_firstA {kd ts : List Nat} (hord : ordX ops kd = true) (hkd : kindB ops kd = true) {i : Nat} {oi : Oper} (hi : ops[i]? = some oi) (hin : 2 ≤ knd kd i) :
  ∀ (fuel : Nat) (listed : Array Bool) (σ : Frm) (e : Eff),WayX ops listed →
   (∀ j oj,ops[j]? = some oj → j ≠ i → listed.getD j true = false → (∀ e ∈ oj.after,Region.binds .any e = true → e.on ≠ i) → oi.apart ops oj = true) →
   i ∈ Region.ready .any ops listed → vact τ Φ N ops oi σ = some e → (knd kd i = 2 → Within ts e.map) →
   vOrdX τ Φ N ops kd ts Qf fuel (listed.setIfInBounds i true) (e.run σ) → vOrdX τ Φ N ops kd ts Qf (fuel + 1) listed σ := by
 intro fuel
 induction fuel with
 | zero =>
  intro listed σ e _ _ hr hv hw H
  refine ⟨fun h => (by rw [h] at hr; cases hr),fun j hj => ?_⟩
  by_cases hji : j = i
  ·subst hji; exact ⟨oi,hi,.inr ⟨hin,e,hv,hw,H⟩⟩
  ·have := ready_mono hj hji
   rw [H.1] at this
   cases this
 | succ fuel ih =>
  intro listed σ e hway hfree hr hv hw H
  refine ⟨fun h => (by rw [h] at hr; cases hr),fun j hj => ?_⟩
  by_cases hji : j = i
  ·subst hji; exact ⟨oi,hi,.inr ⟨hin,e,hv,hw,H⟩⟩
  ·obtain ⟨oj,hoj,hcase⟩ := H.2 j (ready_mono hj hji)
   obtain ⟨hjun,oj',hoj',hall⟩ := mem_ready.1 hj
   have : oj' = oj := Option.some.inj (hoj'.symm.trans hoj)
   subst this
   have hiun := unlisted_of_ready hr
   have hnot : ∀ e ∈ oj'.after,Region.binds .any e = true → e.on ≠ i := fun e he hb heq => by
    have h1 := hall e he hb
    rw [heq,getD_tf hiun] at h1
    cases h1
   obtain ⟨a1,a2,a3⟩ := Oper.apart_spec (hfree j oj' hoj hji hjun hnot)
   obtain ⟨hput,hval⟩ := vact_put hv
   have hfree' : ∀ k ok,ops[k]? = some ok → k ≠ i → (listed.setIfInBounds j true).getD k true = false →
     (∀ e ∈ ok.after,Region.binds .any e = true → e.on ≠ i) → oi.apart ops ok = true := fun k ok hk hki hun hno => by
    refine hfree k ok hk hki ?_ hno
    by_cases hjk : j = k
    ·subst hjk; exact hjun
    ·rw [getD_set_ne true hjk] at hun; exact hun
   have hri : i ∈ Region.ready .any ops (listed.setIfInBounds j true) := ready_mono hr (Ne.symm hji)
   have hpair := pairX hord hji (Array.getElem?_eq_some_iff.1 hoj).1 (Array.getElem?_eq_some_iff.1 hi).1 (hway.noreach hr hjun) (hway.noreach hj hiun)
   rcases hcase with ⟨hjn,d',x',hc',hk',H'⟩ | ⟨hjn,e',_,_,_⟩
   case inr => omega
   have hp : FitX ops kd j i := by
    rcases hpair with h1 | h1 | h1
    ·omega
    ·exact h1.2.2
    ·omega
   have hdj := calm_dst hc'
   have hne : ∀ d,oi.dst = some d → d ≠ d' := fun d hd e => a2 d hd (e ▸ hdj)
   have hlook : ∀ d,e.put.map (·.1) = some d → d ∉ oj'.looksAt ops := fun d hd => by rw [hput] at hd; exact a1 d hd
   have hstep : ∀ y,calm τ Φ N ops oj' σ = some (d',y) → x' = e.map y → vOrdX τ Φ N ops kd ts Qf (fuel + 1) (listed.setIfInBounds j true) (upd σ d' y) := by
    intro y h1 h2
    refine ih (listed.setIfInBounds j true) (upd σ d' y) e (hway.set hj) hfree' hri ?_ hw ?_
    ·rw [← hv]
     refine vact_congr fun t ht => ?_
     have : t ≠ d' := fun e => a3 d' hdj (e ▸ ht)
     simp [upd,this]
    ·rw [Array.setIfInBounds_comm _ _ hji,Eff.run_upd (fun d hd => by rw [hput] at hd; exact hne d hd),← h2]
     exact H'
   refine ⟨oj',hoj,.inl ⟨hjn,?_⟩⟩
   rcases hp with ⟨h1,hmv⟩ | ⟨h1,h2⟩
   ·obtain ⟨y,_,hxy,hcy,hy⟩ := isMv_calm (hmv oj' hoj) hc'
    have hmap : x' = e.map (ev σ y) := by
     rw [hxy]
     rcases hy with ⟨s,rfl,hs⟩ | ⟨v,hv'⟩
     ·exact Eff.run_at fun d hd => fun e' => hlook d hd (e' ▸ hs)
     ·rw [hv',hv']; exact (hval v).symm
    exact ⟨d',ev σ y,hcy σ,fun h => by omega,hstep _ (hcy σ) hmap⟩
   ·obtain ⟨k1,k2,k3⟩ := hk' h1
    obtain ⟨l1,l2⟩ := look_same (ops := ops) ((kind_spec hkd hoj hjn).2 h1) (hw h2) hlook k1
    have hcj : calm τ Φ N ops oj' σ = some (d',x') := by rw [← hc']; exact (calm_congr l1).symm
    exact ⟨d',x',hcj,fun _ => ⟨l2,k2,quietC_congr (fun s hs => l1 s (looks_op hs)) k3⟩,hstep x' hcj ((hw h2 x').1 k2).symm⟩

open Classical in
noncomputable def vmixX (τ : TypeId → TK) (Φ : Orc) (N : Lim) (ops : Array Oper) (kd ts : List Nat) : Nat → List Oper → Frm → Option Frm
 | _,[],σ => some σ
 | k,o :: r,σ =>
  if knd kd k < 2 then
   match calm τ Φ N ops o σ with
   | some (d,x) => if knd kd k = 1 → okK τ Φ ts o σ x then vmixX τ Φ N ops kd ts (k + 1) r (upd σ d x) else none
   | none => none
  else
   match vact τ Φ N ops o σ with
   | some e => if knd kd k = 2 → Within ts e.map then vmixX τ Φ N ops kd ts (k + 1) r (e.run σ) else none
   | none => none

theorem vOrdX_lex {kd ts : List Nat} (hord : ordX ops kd = true) (hkd : kindB ops kd = true) {σ' : Frm} (hQ : Qf σ') :
  ∀ (l : List Oper) (k : Nat) (listed : Array Bool) (σ : Frm),(∀ j,l[j]? = ops[k + j]?) → lexB ops l.length k listed = true → WayX ops listed →
   vmixX τ Φ N ops kd ts k l σ = some σ' → vOrdX τ Φ N ops kd ts Qf l.length listed σ
 | [],k,listed,σ,_,hB,_,h => by
  simp only [vmixX,Option.some.injEq] at h
  subst h
  exact ⟨by simpa [lexB] using hB,hQ⟩
 | o :: l,k,listed,σ,hl,hB,hway,h => by
  have h0 : ops[k]? = some o := by simpa using (hl 0).symm
  simp only [List.length_cons,lexB,Bool.and_eq_true] at hB
  obtain ⟨⟨hr,hf⟩,hB'⟩ := hB
  have hr' : k ∈ Region.ready .any ops listed := by simpa using hr
  have hl' : ∀ j,l[j]? = ops[k + 1 + j]? := fun j => by have := hl (j + 1); simpa [Nat.add_assoc,Nat.add_comm 1 j] using this
  simp only [vmixX] at h
  split at h
  ·rename_i hkn
   split at h <;> (try cases h)
   rename_i d x hc
   split at h <;> (try cases h)
   rename_i hk
   exact vOrdX_first hord hkd h0 hkn l.length listed σ d x hway (Region.free_spec h0 hf) hr' hc hk
    (vOrdX_lex hord hkd hQ l (k + 1) _ _ hl' hB' (hway.set hr') h)
  ·rename_i hkn
   split at h <;> (try cases h)
   rename_i e hv
   split at h <;> (try cases h)
   rename_i hw
   exact vOrdX_firstA hord hkd h0 (by omega) l.length listed σ e hway (Region.free_spec h0 hf) hr' hv hw
    (vOrdX_lex hord hkd hQ l (k + 1) _ _ hl' hB' (hway.set hr') h)

theorem VW.regX (hτ : TyOk P τ) (hΦ : Sound P Φ) (hm : P.follows .mixedOrders = true) (ks kd ts : List Nat) {id : Nat} {l : List Oper} {fl : List (Nat × VV)} {Q : Exit → Frm → Prop}
  (hB : drawX l.toArray kd = true) (hfr : freshB (newDsX kd l) fl = true) (h : After (vmixX τ Φ N l.toArray kd ts 0 l (mk fl)) fun σ' => Q .normal (keep ks σ')) : VW P N (.region id l.toArray true) (mk fl) Q := by
 cases hv : vmixX τ Φ N l.toArray kd ts 0 l (mk fl) with
 | none => rw [hv] at h; exact h.elim
 | some σ' =>
  rw [hv] at h
  simp only [drawX,Bool.and_eq_true,decide_eq_true_eq] at hB
  obtain ⟨⟨⟨⟨hord,hkd⟩,hlex⟩,hnd⟩,hnil⟩ := hB
  intro R B w0 O a w hs
  refine wp_region_any hm ?_
  have hway : WayX l.toArray (Array.replicate l.toArray.size false) := by
   refine ⟨by simp,fun j oj _ hl => ?_⟩
   exfalso
   rcases Nat.lt_or_ge j l.length with h1 | h1 <;> simp [h1] at hl
  have hord' := vOrdX_lex (Qf := fun σ => σ = σ') hord hkd rfl l 0 (Array.replicate l.toArray.size false) (mk fl) (by simp) (by simpa using hlex) hway hv
  have hsz : l.length = l.toArray.size := by simp
  rw [hsz] at hord'
  have hfre : FreX l.toArray kd (Array.replicate l.toArray.size false) (mk fl) := by
   intro j oj hj hjk _ hm d hd
   have hjl : l[j]? = some oj := by simpa using hj
   have hmem : d ∈ newDsX kd l := List.mem_filterMap.2 ⟨j,List.mem_range.2 (List.getElem?_eq_some_iff.1 hjl).1,by rw [hjl]; simp only [hjk,hm,and_self,if_true]; exact hd⟩
   have h1 := List.all_eq_true.1 hfr d hmem
   exact mk_on fun q hq => by simpa using List.all_eq_true.1 h1 q hq
  exact wpAny_of_vOrdX hτ hΦ hkd hnd hnil (fun O σ a w hst hq => ⟨O,_,hst.forget (fun s => by rw [← hq]; exact keep_spec ks σ s),h⟩) _ _ _ O a _ hs.drew hway hfre hord'
end
end Go.Vam
