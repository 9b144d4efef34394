/- Regions of open order, where a part of a frozen tuple is taken beside operations that act. -/
import Derived.Test.YtijmfifejmgeaaaVamZ
namespace Go.Vam
open Go Go.RowKit
set_option linter.unusedSimpArgs false

def isEx (o : Oper) : Bool :=
 match o.guard,o.op,o.dst with
 | none,.extract (.tmp _) _,some _ => true
 | none,.load _ (.tmp _),some _ => true
 | _,_,_ => false
def exS (o : Oper) : Nat := match o.op with
 | .extract (.tmp s) _ => s
 | .load _ (.tmp s) => s
 | _ => 0

def isMk (o : Oper) : Bool :=
 match o.guard,o.op,o.dst with
 | none,.makeSlice _ (.tmp _) (.tmp _),some _ => true
 | _,_,_ => false
def isAs (o : Oper) : Bool :=
 match o.guard,o.op,o.dst with
 | none,.assign (.tmp _),some _ => true
 | _,_,_ => false

def ordE (ops : Array Oper) (ex : List Nat) (n : Nat) : Bool :=
 (List.range ops.size).all fun j => decide (j < n) || (List.range j).all fun i => reachB ops ops.size j i || (decide (i < n) && match ops[i]? with
  | some oi => isMv oi || (ex.contains i && (isEx oi || isMk oi))
  | none => true)

def drawE (ops : Array Oper) (ex : List Nat) (n : Nat) : Bool :=
 decide (n ≤ ops.size) && ordE ops ex n && lexB ops ops.size 0 (Array.replicate ops.size false) && decide ((dsts ops.toList).Nodup) && decide (nilT ∉ dsts ops.toList)

section
variable {P : Program} {τ : TypeId → TK} {Φ : Orc} {N : Lim} {ops : Array Oper} {Qf : Frm → Prop} {ex : List Nat}

theorem isMk_notEx {o : Oper} (h1 : isMk o = true) (h2 : isEx o = true) : False := by
 unfold isMk at h1
 unfold isEx at h2
 split at h1
 ·rename_i ho _
  rw [ho] at h2
  simp at h2
 ·cases h1

theorem ord_specE {n : Nat} (h : ordE ops ex n = true) {i j : Nat} (hij : i < j) (hj : j < ops.size) (hjn : n ≤ j) : reachB ops ops.size j i = true ∨ (i < n ∧ ∀ oi,ops[i]? = some oi → isMv oi = true ∨ (i ∈ ex ∧ (isEx oi = true ∨ isMk oi = true))) := by
 have h1 := List.all_eq_true.1 h j (List.mem_range.2 hj)
 simp only [Bool.or_eq_true,decide_eq_true_eq] at h1
 rcases h1 with h1 | h1
 ·omega
 ·have h2 := List.all_eq_true.1 h1 i (List.mem_range.2 hij)
  simp only [Bool.or_eq_true,Bool.and_eq_true,decide_eq_true_eq] at h2
  rcases h2 with h2 | ⟨h2,h3⟩
  ·exact .inl h2
  ·refine .inr ⟨h2,fun oi hoi => ?_⟩
   rw [hoi] at h3
   simp only [Bool.or_eq_true,Bool.and_eq_true] at h3
   rcases h3 with h3 | ⟨h3,h4⟩
   ·exact .inl h3
   ·exact .inr ⟨by simpa using h3,by simpa using h4⟩

theorem tail_afterE {n : Nat} (hord : ordE ops ex n = true) {listed : Array Bool} {σ : Frm} (hw : Way ops n listed σ) {i j : Nat} (hij : i < j) (hjn : n ≤ j) (hj : j ∈ Region.ready .any ops listed)
  (hi : listed.getD i true = false) : i < n ∧ ∀ oi,ops[i]? = some oi → isMv oi = true ∨ (i ∈ ex ∧ (isEx oi = true ∨ isMk oi = true)) := by
 obtain ⟨_,oj,hoj,hall⟩ := mem_ready.1 hj
 have hlt := (Array.getElem?_eq_some_iff.1 hoj).1
 rcases ord_specE hord hij hlt hjn with h | h
 ·have := reach_listed hw.closed ops.size j i oj hoj hall h
  rw [getD_tf hi] at this
  cases this
 ·exact h

def storesB (ops : Array Oper) (ex : List Nat) (n : Nat) : Bool :=
 (List.range ops.size).all fun j => decide (j < n) || match ops[j]? with
  | some oj => ex.all fun i => reachB ops ops.size j i || decide (j ≤ i) || match ops[i]? with
   | some oi => isMv oi || (isEx oi && decide (oj.dst = none)) || (isMk oi && isAs oj)
   | none => true
  | none => true

theorem stores_spec {n : Nat} (hst : storesB ops ex n = true) {i j : Nat} {oi oj : Oper} (hi : ops[i]? = some oi) (hj : ops[j]? = some oj) (hie : i ∈ ex) (hij : i < j) (hjn : n ≤ j) (hr : reachB ops ops.size j i = false) :
  isMv oi = true ∨ (isEx oi = true ∧ oj.dst = none) ∨ (isMk oi = true ∧ isAs oj = true) := by
 have h4 := List.all_eq_true.1 hst j (List.mem_range.2 (Array.getElem?_eq_some_iff.1 hj).1)
 rw [hj] at h4
 simp only [Bool.or_eq_true,decide_eq_true_eq] at h4
 rcases h4 with h4 | h4
 ·omega
 ·have h5 := List.all_eq_true.1 h4 i hie
  rw [hi] at h5
  simp only [hr,Bool.or_eq_true,Bool.and_eq_true,decide_eq_true_eq,Bool.false_eq_true,false_or] at h5
  rcases h5 with h5 | (h5 | h5) | h5
  ·omega
  ·exact .inl h5
  ·exact .inr (.inl h5)
  ·exact .inr (.inr h5)

theorem isAs_act {o : Oper} {σ : Frm} {e : Eff} (hm : isAs o = true) (h : vact τ Φ N ops o σ = some e) :
  ∃ ks y d',o.dst = some d' ∧ e = ⟨kmap ks,some (d',y)⟩ ∧ ∀ r,(∀ s,(σ s).on r = false) → r ≠ d' → r ∉ ks ∧ y.on r = false := by
 unfold isAs at hm
 split at hm
 ·rename_i s d' hg ho hd
  unfold vact at h
  rw [hg] at h
  simp only at h
  unfold vdo at h
  rw [hd] at h
  simp only at h
  split at h <;> try cases h
  have hmu : vmut Φ d' o.op σ = none := by rw [ho]; rfl
  have hva : vval τ Φ d' o.op σ = some (vassign d' (σ s)) := by rw [ho]; rfl
  rw [hmu,hva] at h
  simp only [Option.some.injEq] at h
  refine ⟨(vassign d' (σ s)).1,(vassign d' (σ s)).2,d',hd,h.symm,fun r hr hne => ?_⟩
  have h1 := hr s
  unfold vassign
  split
  ·rename_i t u y hσ
   rw [hσ] at h1
   have htr : ¬ t = r := by simpa [VV.on] using h1
   split
   ·exact ⟨by simp,by show (σ s).on r = false; rw [hσ]; exact h1⟩
   ·refine ⟨?_,?_⟩
    ·simp only [List.mem_cons,List.not_mem_nil,or_false,not_or]
     exact ⟨hne,fun e => htr e.symm⟩
    ·simp only [VV.on,beq_eq_false_iff_ne,ne_eq]
     exact fun e => hne e.symm
  ·exact ⟨by simp,h1⟩
 ·cases hm

theorem int_val {x : VV} {n : Int} (h : x.int? = some n) : ∃ k,x = .val (.int k n) := by
 unfold VV.int? at h
 split at h <;> simp only [Option.some.injEq,reduceCtorEq] at h
 subst h
 exact ⟨_,rfl⟩

theorem isMk_calm {o : Oper} {σ : Frm} (hm : isMk o = true) {d : Nat} {x : VV} (h : calm τ Φ N ops o σ = some (d,x)) :
  (∃ zs,x = .ref d [] true zs) ∧ ∃ sl sc dl dc,sl ∈ o.looksAt ops ∧ sc ∈ o.looksAt ops ∧ σ sl = .val dl ∧ σ sc = .val dc ∧ ∀ σ' : Frm,σ' sl = .val dl → σ' sc = .val dc → calm τ Φ N ops o σ' = some (d,x) := by
 unfold isMk at hm
 split at hm
 ·rename_i T sl sc d' hg ho hd
  have h0 := h
  simp only [calm,hd] at h
  split at h <;> try cases h
  rename_i hN
  rw [hg] at h
  simp only at h
  obtain ⟨y,h1,h2⟩ := map_some h
  simp only [Prod.mk.injEq] at h2
  obtain ⟨rfl,rfl⟩ := h2
  unfold calmV at h1
  split at h1 <;> try cases h1
  rename_i ks z hv
  split at h1 <;> simp only [Option.some.injEq,reduceCtorEq] at h1
  subst h1
  rw [ho] at hv
  have hv0 := hv
  simp only [vres] at hv
  split at hv <;> try cases hv
  rename_i e n m hT hl hc
  split at hv <;> try cases hv
  obtain ⟨zd,g1,g2⟩ := map_some hv
  simp only [Prod.mk.injEq] at g2
  obtain ⟨kl,hl'⟩ := int_val hl
  obtain ⟨kc,hc'⟩ := int_val hc
  refine ⟨⟨_,g2.2.symm⟩,sl,sc,_,_,looks_op (by simp [Op.seen,ho,Op.operands]),looks_op (by simp [Op.seen,ho,Op.operands]),hl',hc',fun σ' q1 q2 => ?_⟩
  rw [← h0]
  refine calm_congr fun t ht => ?_
  have : t = sl ∨ t = sc := by
   simp only [Oper.looksAt,ho,hg,Op.operands] at ht
   simpa using ht
  rcases this with rfl | rfl
  ·exact q1.trans hl'.symm
  ·exact q2.trans hc'.symm
 ·cases hm

theorem Way.tailE {n : Nat} (hord : ordE ops ex n = true) (hst : storesB ops ex n = true) (hnd : (dsts ops.toList).Nodup) {listed : Array Bool} {σ : Frm} (hw : Way ops n listed σ) {j : Nat} (hjn : n ≤ j) (hj : j ∈ Region.ready .any ops listed) {oj : Oper} (hoj : ops[j]? = some oj) {e : Eff}
  (hv : vact τ Φ N ops oj σ = some e) : Way ops n (listed.setIfInBounds j true) (e.run σ) := by
 refine ⟨by simp [hw.size],closed_set hw.closed hj,fun k ok hk hkn hun hm d hd s => ?_⟩
 have hkj : j ≠ k := by omega
 rw [getD_set_ne true hkj] at hun
 have hlate := (tail_afterE hord hw (by omega) hjn hj hun).2 ok hk
 have hnmv : isMv ok = true → False := fun this => by
  unfold makesB at hm
  unfold isMv at this
  split at this <;> simp_all
 have hnex : isEx ok = true → False := fun this => by
  unfold makesB at hm
  unfold isEx at this
  split at this <;> simp_all
 rcases hlate with h1 | ⟨hke,_⟩
 ·exact (hnmv h1).elim
 ·have hr : reachB ops ops.size j k = false := by
   cases hr : reachB ops ops.size j k with
   | false => rfl
   | true =>
    obtain ⟨_,oj',hoj',hall⟩ := mem_ready.1 hj
    have : oj' = oj := Option.some.inj (hoj'.symm.trans hoj)
    subst this
    have := reach_listed hw.closed ops.size j k oj' hoj hall hr
    rw [getD_tf hun] at this
    cases this
  rcases stores_spec hst hk hoj hke (by omega) hjn hr with h1 | ⟨h1,_⟩ | ⟨_,has⟩
  ·exact (hnmv h1).elim
  ·exact (hnex h1).elim
  ·obtain ⟨ks,y,d',hd',rfl,hfr⟩ := isAs_act has hv
   have hfresh := hw.fresh k ok hk hkn hun hm d hd
   have hne : d ≠ d' := fun e => hkj (dst_ne hnd hoj hk hd' (e ▸ hd))
   obtain ⟨f1,f2⟩ := hfr d hfresh hne
   simp only [Eff.run,upd]
   split
   ·exact f2
   ·unfold kmap
    split
    ·rfl
    ·exact hfresh s

theorem wpAny_of_vOrdE (hτ : TyOk P τ) (hΦ : Sound P Φ) {n : Nat} (hord : ordE ops ex n = true) (hst : storesB ops ex n = true) (hnd : (dsts ops.toList).Nodup) (hnil : nilT ∉ dsts ops.toList) {R : Nat → Prop} {B : Nat → Prop} {w0 : W0} {Q : Exit → Act → World → Prop}
  (hQ : ∀ O σ a w,St R B w0 N O σ a w → Qf σ → Q .normal a w) : ∀ (fuel : Nat) (listed : Array Bool) (σ : Frm) (O : Own) (a : Act) (w : World),St R B w0 N O σ a w → Way ops n listed σ →
  vOrd τ Φ N ops n Qf fuel listed σ → wpAny P .any ops Q fuel listed a w
 | 0,_,_,_,_,_,hs,_,h => ⟨h.1,hQ _ _ _ _ hs h.2⟩
 | fuel + 1,listed,σ,O,a,w,hs,hway,h => by
  refine ⟨fun h0 => hQ _ _ _ _ hs (h.1 h0),fun i hi => ?_⟩
  obtain ⟨o,ho,hc⟩ := h.2 i hi
  have step : ∀ e σ',vact τ Φ N ops o σ = some e → e.run σ = σ' → Way ops n (listed.setIfInBounds i true) σ' → vOrd τ Φ N ops n Qf fuel (listed.setIfInBounds i true) σ' →
    wpOp P ops Q i (wpAny P .any ops Q fuel (listed.setIfInBounds i true)) a w := by
   intro e σ' hv hrun hway' hn
   subst hrun
   have hK : ∀ O' a' w',St R B w0 N O' (e.run σ) a' w' → wpAny P .any ops Q fuel (listed.setIfInBounds i true) a' w' := fun O' a' w' h' =>
    wpAny_of_vOrdE hτ hΦ hord hst hnd hnil hQ fuel _ _ O' a' w' h' hway' hn
   have := vact_sound (Q := Q) hτ hΦ hs hv hK
   unfold wpOp
   rw [ho]
   simp only
   split
   ·rename_i hw; rw [if_pos hw] at this; exact .inl this
   ·rename_i hw; rw [if_neg hw] at this; exact this
  rcases hc with ⟨hin,d,x,hcalm,hn⟩ | ⟨hni,e,hv,hn⟩
  ·obtain ⟨hd,e,hv,hrun⟩ := calm_act hcalm fun hm d' hd' => hway.fresh i o ho hin (unlisted_of_ready hi) hm d' hd'
   exact step e _ hv hrun (hway.calm hnd hnil ho hi hcalm hd) hn
  ·exact step e _ hv rfl (hway.tailE hord hst hnd hni hi ho hv) hn

theorem storeVV_tups (t : Nat) (p : List Nat) (i : Nat) (u : Bool) (e : D) (tv : Option Nat) (d : List D) : storeVV t p i u e tv (.tups d) = .tups d := by
 unfold storeVV
 simp [VV.on]
 cases tv <;> rfl
theorem vstoreE_tups {T : TypeId} {ad x : VV} {f : VV → VV} (h1 : vstoreE τ T ad x = some f) (d : List D) : f (.tups d) = .tups d := by
 unfold vstoreE at h1
 have key : ∀ (q : Option (Nat × List Nat × Nat × Bool)),(match q with
   | some (t,p,i,u) => if u = false ∧ p ≠ [] then none else
    match x.given u with
    | some (e,tv) => if tv = some t then none else some (storeVV t p i u e tv)
    | none => none
   | none => (none : Option (VV → VV))) = some f → f (.tups d) = .tups d := by
  intro q h1
  cases q with
  | none => cases h1
  | some q =>
   obtain ⟨t,p,i,u⟩ := q
   simp only at h1
   split at h1
   ·cases h1
   ·cases hg : x.given u with
    | none => rw [hg] at h1; cases h1
    | some r =>
     obtain ⟨e,tv⟩ := r
     rw [hg] at h1
     simp only at h1
     split at h1
     ·cases h1
     ·simp only [Option.some.injEq] at h1
      rw [← h1]
      exact storeVV_tups t p i u e tv d
 cases hT : τ T with
 | st zs => rw [hT] at h1; cases h1
 | other => rw [hT] at h1; cases h1
 | ar zs => rw [hT] at h1; cases h1
 | ss e m => rw [hT] at h1; cases h1
 | fn => rw [hT] at h1; cases h1
 | _ => rw [hT] at h1; apply key ad.place; cases hp : ad.place <;> rw [hp] at h1 <;> exact h1

theorem store_tups {o : Oper} {σ : Frm} {e : Eff} (hd : o.dst = none) (h : vact τ Φ N ops o σ = some e) (ds : List D) : e.map (.tups ds) = .tups ds := by
 have hdo : ∀ e,vdo τ Φ N o σ = some e → e.map (.tups ds) = .tups ds := by
  intro e h
  unfold vdo at h
  rw [hd] at h
  simp only at h
  split at h <;> (try cases h)
  obtain ⟨f,h1,h2⟩ := map_some h
  subst h2
  split at h1
  ·rename_i h1'
   simp only [Option.some.injEq] at h1
   subst h1
   exact vstoreE_tups h1' ds
  ·unfold vstoreS at h1
   split at h1 <;> try cases h1
   all_goals
    split at h1 <;> simp only [Option.some.injEq,reduceCtorEq] at h1
    subst h1
    simp [stoSVV,detVV,attVV,stfVV,VV.on]
 have hsk : ∀ e,vskip N o = some e → e.map (.tups ds) = .tups ds := by
  intro e h
  unfold vskip at h
  rw [hd] at h
  simp only [Option.some.injEq] at h
  subst h
  rfl
 unfold vact at h
 split at h
 ·exact hdo e h
 ·split at h <;> (try cases h)
  split at h
  case h_2 => exact hsk e h
  case h_3 => cases h
  split at h
  ·exact hdo e h
  ·exact hsk e h

def fz (x : VV) : Prop := (∃ ds,x = .tups ds) ∨ ∃ d,x = .val d
@[simp] theorem fz_tups (ds : List D) : fz (.tups ds) = True := by simp [fz]
@[simp] theorem fz_val (d : D) : fz (.val d) = True := by simp [fz]

theorem load_fz {T : TypeId} {x : VV} {r : List Nat × VV} {σ : Frm} {s d' : Nat} (hs : σ s = x) (hx : fz x) (h : vres τ Φ d' (.load T (.tmp s)) σ = some r) : r.1 = [] ∧ ∃ dx,r.2 = .val dx := by
 have hz : loadVV x = none ∨ ∃ dx,loadVV x = some (.val dx) := by
  rcases hx with ⟨ds,rfl⟩ | ⟨d,rfl⟩
  ·exact .inl rfl
  ·unfold loadVV
   split <;> first | exact .inl rfl | exact .inr ⟨_,rfl⟩ | (rename_i h; cases h)
 have hp : ∀ n,orO (loadSt n x) (loadR n x) = none ∨ ∃ dx,orO (loadSt n x) (loadR n x) = some (.val dx) := by
  intro n
  have h2 : loadR n x = none := by rcases hx with ⟨ds,rfl⟩ | ⟨d,rfl⟩ <;> rfl
  have h1 : loadSt n x = none ∨ ∃ dx,loadSt n x = some (.val dx) := by
   rcases hx with ⟨ds,rfl⟩ | ⟨d,rfl⟩
   ·exact .inl rfl
   ·unfold loadSt
    split
    ·split
     ·exact .inr ⟨_,rfl⟩
     ·exact .inl rfl
    all_goals first | exact .inl rfl | (rename_i h; cases h)
  rw [h2]
  rcases h1 with h1 | ⟨dx,h1⟩ <;> rw [h1]
  ·exact .inl rfl
  ·exact .inr ⟨_,rfl⟩
 have key : ∀ q : Option VV,(q = none ∨ ∃ dx,q = some (.val dx)) → q.map (fun r => (([] : List Nat),r)) = some r → r.1 = [] ∧ ∃ dx,r.2 = .val dx := by
  intro q hq h
  rcases hq with rfl | ⟨dx,rfl⟩
  ·cases h
  ·simp only [Option.map_some,Option.some.injEq] at h
   subst h
   exact ⟨rfl,_,rfl⟩
 simp only [vres,ev,hs] at h
 split at h
 all_goals first | exact key _ (hp _) h | exact key _ hz h | cases h

theorem isEx_calm {o : Oper} {σ : Frm} (hm : isEx o = true) {d : Nat} {x : VV} (h : calm τ Φ N ops o σ = some (d,x)) (hs : fz (σ (exS o))) :
  exS o ∈ o.looksAt ops ∧ (∃ dx,x = .val dx) ∧ ∀ σ',σ' (exS o) = σ (exS o) → calm τ Φ N ops o σ' = some (d,x) := by
 unfold isEx at hm
 split at hm
 ·rename_i s i d' hg ho hd
  have e1 : exS o = s := by simp [exS,ho]
  rw [e1] at hs ⊢
  have hlook : s ∈ o.looksAt ops := looks_op (by simp [Op.seen,ho,Op.operands])
  have hN : d' ∈ N := by
   unfold calm at h
   rw [hd] at h
   simp only at h
   split at h
   ·assumption
   ·cases h
  rcases hs with ⟨ds,hs⟩ | ⟨dv,hs⟩
  ·have hk : ∀ σ' : Frm,σ' s = .tups ds → calm τ Φ N ops o σ' = if i < ds.length then some (d',.val (ds.getD i default)) else none := by
    intro σ' h'
    by_cases hi : i < ds.length
    ·simp [calm,hd,hN,hg,calmV,ho,vres,ev,h',tupVV,hi]
    ·simp [calm,hd,hN,hg,calmV,ho,vres,ev,h',tupVV,hi]
   have h0 := hk σ hs
   rw [h] at h0
   split at h0
   ·rename_i hi
    simp only [Option.some.injEq,Prod.mk.injEq] at h0
    obtain ⟨rfl,rfl⟩ := h0
    exact ⟨hlook,⟨_,rfl⟩,fun σ' h' => by rw [hk σ' (h'.trans hs),if_pos hi]⟩
   ·cases h0
  ·have : calm τ Φ N ops o σ = none := by simp [calm,hd,hN,hg,calmV,ho,vres,ev,hs,tupVV]
   rw [this] at h; cases h
 ·rename_i T s d' hg ho hd
  have e1 : exS o = s := by simp [exS,ho]
  rw [e1] at hs ⊢
  have hlook : s ∈ o.looksAt ops := looks_op (by simp [Op.seen,ho,Op.operands])
  have hcg : ∀ σ' : Frm,σ' s = σ s → calm τ Φ N ops o σ' = calm τ Φ N ops o σ := by
   intro σ' h'
   simp only [calm,hd,hg,calmV,ho,vres,ev,h']
  refine ⟨hlook,?_,fun σ' h' => by rw [hcg σ' h',h]⟩
  simp only [calm,hd,hg,calmV,ho] at h
  split at h <;> try cases h
  cases hv : vres τ Φ d' (.load T (.tmp s)) σ with
  | none => rw [hv] at h; simp at h
  | some r =>
   obtain ⟨q1,dx,q2⟩ := load_fz rfl hs hv
   rw [hv] at h
   obtain ⟨r1,r2⟩ := r
   simp only at q1 q2
   subst q1 q2
   simp at h
   exact ⟨dx,h.2.symm⟩
 ·cases hm

theorem vOrd_firstE {n : Nat} (hord : ordE ops ex n = true) (hst : storesB ops ex n = true) (hnd : (dsts ops.toList).Nodup) (hnil : nilT ∉ dsts ops.toList) {i : Nat} {oi : Oper} (hi : ops[i]? = some oi) (hin : i < n) :
  ∀ (fuel : Nat) (listed : Array Bool) (σ : Frm) (d : Nat) (x : VV),Way ops n listed σ →
   (∀ j oj,ops[j]? = some oj → j ≠ i → listed.getD j true = false → (∀ e ∈ oj.after,Region.binds .any e = true → e.on ≠ i) → oi.apart ops oj = true) →
   i ∈ Region.ready .any ops listed → calm τ Φ N ops oi σ = some (d,x) → (i ∈ ex → isEx oi = true → fz (σ (exS oi))) →
   vOrd τ Φ N ops n Qf fuel (listed.setIfInBounds i true) (upd σ d x) → vOrd τ Φ N ops n Qf (fuel + 1) listed σ := by
 intro fuel
 induction fuel with
 | zero =>
  intro listed σ d x _ _ hr hc _ H
  refine ⟨fun h => (by rw [h] at hr; cases hr),fun j hj => ?_⟩
  by_cases hji : j = i
  ·subst hji; exact ⟨oi,hi,.inl ⟨hin,d,x,hc,H⟩⟩
  ·have := ready_mono hj hji
   rw [H.1] at this
   cases this
 | succ fuel ih =>
  intro listed σ d x hway hfree hr hc hex H
  refine ⟨fun h => (by rw [h] at hr; cases hr),fun j hj => ?_⟩
  by_cases hji : j = i
  ·subst hji; exact ⟨oi,hi,.inl ⟨hin,d,x,hc,H⟩⟩
  ·obtain ⟨oj,hoj,hcase⟩ := H.2 j (ready_mono hj hji)
   obtain ⟨hjun,oj',hoj',hall⟩ := mem_ready.1 hj
   have : oj' = oj := Option.some.inj (hoj'.symm.trans hoj)
   subst this
   have hiun := unlisted_of_ready hr
   have hnot : ∀ e ∈ oj'.after,Region.binds .any e = true → e.on ≠ i := fun e he hb heq => by
    have h1 := hall e he hb
    rw [heq,getD_tf hiun] at h1
    cases h1
   obtain ⟨a1,a2,a3⟩ := Oper.apart_spec (hfree j oj' hoj hji hjun hnot)
   have hdi := calm_dst hc
   have hfree' : ∀ k ok,ops[k]? = some ok → k ≠ i → (listed.setIfInBounds j true).getD k true = false →
     (∀ e ∈ ok.after,Region.binds .any e = true → e.on ≠ i) → oi.apart ops ok = true := fun k ok hk hki hun hno => by
    refine hfree k ok hk hki ?_ hno
    by_cases hjk : j = k
    ·subst hjk; exact hjun
    ·rw [getD_set_ne true hjk] at hun; exact hun
   have hri : i ∈ Region.ready .any ops (listed.setIfInBounds j true) := ready_mono hr (Ne.symm hji)
   refine ⟨oj',hoj,?_⟩
   rcases hcase with ⟨hjn,d',x',hc',H'⟩ | ⟨hjn,e,hv,H'⟩
   ·left
    have hdj := calm_dst hc'
    have hcj : calm τ Φ N ops oj' σ = some (d',x') := by
     rw [← hc']
     refine calm_congr fun t ht => ?_
     have : t ≠ d := fun e => a1 d hdi (e ▸ ht)
     simp [upd,this]
    refine ⟨hjn,d',x',hcj,ih (listed.setIfInBounds j true) (upd σ d' x') d x (hway.calm hnd hnil hoj hj hcj hdj) hfree' hri ?_ ?_ ?_⟩
    ·rw [← hc]
     refine calm_congr fun t ht => ?_
     have : t ≠ d' := fun e => a3 d' hdj (e ▸ ht)
     simp [upd,this]
    ·intro h1 h2
     have h3 := hex h1 h2
     have hlook := (isEx_calm h2 hc h3).1
     have : exS oi ≠ d' := fun e => a3 d' hdj (e ▸ hlook)
     simpa [upd,this] using h3
    ·have hne : d ≠ d' := fun e => a2 d hdi (e ▸ hdj)
     rw [Array.setIfInBounds_comm _ _ hji,upd_comm (fun e => hne e.symm)]
     exact H'
   ·right
    have hvj : vact τ Φ N ops oj' σ = some e := by
     rw [← hv]
     refine vact_congr fun t ht => ?_
     have : t ≠ d := fun e => a1 d hdi (e ▸ ht)
     simp [upd,this]
    obtain ⟨hput,hval⟩ := vact_put hvj
    have hpast := (tail_afterE hord hway (by omega) hjn hj hiun).2 oi hi
    have hstep : ∀ y,calm τ Φ N ops oi (e.run σ) = some (d,y) → y = e.map x → (i ∈ ex → isEx oi = true → fz (e.run σ (exS oi))) →
      vOrd τ Φ N ops n Qf (fuel + 1) (listed.setIfInBounds j true) (e.run σ) := by
     intro y h1 h2 h3
     refine ih (listed.setIfInBounds j true) (e.run σ) d y (hway.tailE hord hst hnd hjn hj hoj hvj) hfree' hri h1 h3 ?_
     rw [Array.setIfInBounds_comm _ _ hji,h2,← Eff.run_upd (fun d' hd' => by rw [hput] at hd'; exact fun e => a2 d hdi (e ▸ hd'))]
     exact H'
    have hnoreach : reachB ops ops.size j i = false := by
     cases hr' : reachB ops ops.size j i with
     | false => rfl
     | true =>
      have := reach_listed hway.closed ops.size j i oj' hoj hall hr'
      rw [getD_tf hiun] at this
      cases this
    have hsp : isMv oi = true ∨ (i ∈ ex ∧ isEx oi = true ∧ oj'.dst = none) ∨ (isMk oi = true ∧ isAs oj' = true) := by
     rcases hpast with h1 | ⟨h1,_⟩
     ·exact .inl h1
     ·rcases stores_spec hst hi hoj h1 (by omega) hjn hnoreach with h2 | h2 | h2
      ·exact .inl h2
      ·exact .inr (.inl ⟨h1,h2⟩)
      ·exact .inr (.inr h2)
    rcases hsp with hmv | ⟨hie,hx,hjnone⟩ | ⟨hmk,has⟩
    ·obtain ⟨y,_,hxy,hcy,hy⟩ := isMv_calm hmv hc
     have hmap : ev (e.run σ) y = e.map x := by
      rw [hxy]
      rcases hy with ⟨s,rfl,hs⟩ | ⟨v,hv'⟩
      ·exact Eff.run_at fun d' hd' => by
        rw [hput] at hd'
        exact fun e => a3 d' hd' (e ▸ hs)
      ·rw [hv',hv']; exact (hval v).symm
     refine ⟨hjn,e,hvj,hstep _ (hcy _) hmap fun h1 h2 => ?_⟩
     exfalso
     unfold isMv at hmv
     unfold isEx at h2
     split at hmv <;> simp_all
    ·have h3 := hex hie hx
     obtain ⟨hlook,⟨dx,hdx⟩,hcl⟩ := isEx_calm hx hc h3
     have hat : e.run σ (exS oi) = σ (exS oi) := by
      rw [Eff.run_at (fun d' hd' => by rw [hput] at hd'; exact fun e => a3 d' hd' (e ▸ hlook))]
      rcases h3 with ⟨ds,h3⟩ | ⟨dv,h3⟩ <;> rw [h3]
      ·exact store_tups hjnone hvj ds
      ·exact hval dv
     refine ⟨hjn,e,hvj,hstep x (hcl _ hat) ?_ fun _ _ => hat ▸ h3⟩
     rw [hdx]; exact (hval dx).symm
    ·obtain ⟨⟨zs,hx⟩,sl,sc,dl,dc,l1,l2,v1,v2,hcl⟩ := isMk_calm hmk hc
     have hmakes : makesB oi = true := by
      unfold isMk at hmk
      split at hmk
      ·rename_i ho _; simp [makesB,ho]
      ·cases hmk
     have hfresh := hway.fresh i oi hi hin hiun hmakes d hdi
     obtain ⟨ks,y,d',hd',he,hfr⟩ := isAs_act has hvj
     have hne : d ≠ d' := fun e => a2 d hdi (e ▸ hd')
     have at1 : e.run σ sl = .val dl := by
      rw [Eff.run_at (fun d' hd' => by rw [hput] at hd'; exact fun e => a3 d' hd' (e ▸ l1)),v1]
      exact hval dl
     have at2 : e.run σ sc = .val dc := by
      rw [Eff.run_at (fun d' hd' => by rw [hput] at hd'; exact fun e => a3 d' hd' (e ▸ l2)),v2]
      exact hval dc
     have hmapx : x = e.map x := by
      rw [he,hx]
      show _ = kmap ks _
      unfold kmap
      rw [if_neg]
      intro h1
      obtain ⟨r,r1,r2⟩ := List.any_eq_true.1 h1
      have : d = r := by simpa [VV.on] using r2
      subst this
      exact (hfr d hfresh hne).1 r1
     refine ⟨hjn,e,hvj,hstep x (hcl _ at1 at2) hmapx fun h1 h2 => ?_⟩
     exact (isMk_notEx hmk h2).elim

def exOk (σ : Frm) (o : Oper) : Prop := fz (σ (exS o))

theorem vOrd_lexE {n : Nat} (hord : ordE ops ex n = true) (hst : storesB ops ex n = true) (hnd : (dsts ops.toList).Nodup) (hnil : nilT ∉ dsts ops.toList) {σ' : Frm} (hQ : Qf σ') :
  ∀ (l : List Oper) (k : Nat) (listed : Array Bool) (σ : Frm),(∀ j,l[j]? = ops[k + j]?) → lexB ops l.length k listed = true → (∀ j,j < k → listed.getD j true = true) → Way ops n listed σ →
   (∀ m o,l[m]? = some o → isEx o = true → k + m ∈ ex → k + m < n → ∀ σ1,vmix τ Φ N ops n k (l.take m) σ = some σ1 → exOk σ1 o) →
   vmix τ Φ N ops n k l σ = some σ' → vOrd τ Φ N ops n Qf l.length listed σ
 | [],k,listed,σ,_,hB,_,_,_,h => by
  simp only [vmix,Option.some.injEq] at h
  subst h
  exact ⟨by simpa [lexB] using hB,hQ⟩
 | o :: l,k,listed,σ,hl,hB,hpre,hway,hex,h => by
  have h0 : ops[k]? = some o := by simpa using (hl 0).symm
  have hksz : k < ops.size := (Array.getElem?_eq_some_iff.1 h0).1
  simp only [List.length_cons,lexB,Bool.and_eq_true] at hB
  obtain ⟨⟨hr,hf⟩,hB'⟩ := hB
  have hr' : k ∈ Region.ready .any ops listed := by simpa using hr
  have hpre' : ∀ j,j < k + 1 → (listed.setIfInBounds k true).getD j true = true := by
   intro j hj
   by_cases e : k = j
   ·subst e
    have : k < listed.size := by rw [hway.size]; exact hksz
    simp [this]
   ·rw [getD_set_ne true e]; exact hpre j (by omega)
  have hl' : ∀ j,l[j]? = ops[k + 1 + j]? := fun j => by have := hl (j + 1); simpa [Nat.add_assoc,Nat.add_comm 1 j] using this
  simp only [vmix] at h
  split at h
  ·rename_i hkn
   split at h <;> (try cases h)
   rename_i d x hc
   have hd := calm_dst hc
   refine vOrd_firstE hord hst hnd hnil h0 hkn l.length listed σ d x hway (Region.free_spec h0 hf) hr' hc (fun h1 h2 => hex 0 o (by simp) h2 h1 hkn σ (by simp [vmix])) ?_
   refine vOrd_lexE hord hst hnd hnil hQ l (k + 1) _ _ hl' hB' hpre' (hway.calm hnd hnil h0 hr' hc hd) (fun m o' h1 hE h2 h3 σ1 h4 => ?_) h
   refine hex (m + 1) o' (by simpa using h1) hE (by rw [show k + (m + 1) = k + 1 + m by omega]; exact h2) (by omega) σ1 ?_
   rw [List.take_succ_cons]
   simp only [vmix,if_pos hkn,hc]
   exact h4
  ·rename_i hkn
   split at h <;> (try cases h)
   rename_i e hv
   have rest := vOrd_lexE hord hst hnd hnil hQ l (k + 1) _ _ hl' hB' hpre' (hway.tailE hord hst hnd (by omega) hr' h0 hv) (fun m o' h1 hE h2 h3 σ1 h4 => by omega) h
   refine ⟨fun h1 => (by rw [h1] at hr'; cases hr'),fun j hj => ?_⟩
   have hjk : j = k := by
    rcases Nat.lt_trichotomy j k with hlt | heq | hgt
    ·have h1 := unlisted_of_ready hj
     rw [hpre j hlt] at h1
     cases h1
    ·exact heq
    ·have := (tail_afterE hord hway hgt (by omega) hj (unlisted_of_ready hr')).1
     omega
   subst hjk
   exact ⟨o,h0,.inr ⟨by omega,e,hv,rest⟩⟩

def exAll (τ : TypeId → TK) (Φ : Orc) (N : Lim) (ds : List (Option Nat)) (n : Nat) (l : List Oper) (fl : FL) (ex : List Nat) : Prop :=
 ∀ i ∈ ex,isEx (l.getD i default) = true → AfterL (mixL τ Φ N ds n (l.take i) fl) fun f => fz (mk f (exS (l.getD i default)))

theorem mixL_pre {l0 : List Oper} {n0 : Nat} {i : Nat} {fl : FL} {K : FL → Prop} (h : AfterL (mixL τ Φ N (l0.map (·.dst)) n0 (l0.take i) fl) K) :
  ∃ f,vmix τ Φ N l0.toArray n0 0 (l0.take i) (mk fl) = some (mk f) ∧ K f := by
 cases hv : mixL τ Φ N (l0.map (·.dst)) n0 (l0.take i) fl with
 | none => rw [hv] at h; exact h.elim
 | some f =>
  rw [hv] at h
  exact ⟨f,mixL_ok (n0 := n0) (l0.take i) n0 0 fl f (by simp) hv,h⟩

theorem VW.regE (hτ : TyOk P τ) (hΦ : Sound P Φ) (hm : P.follows .mixedOrders = true) {id : Nat} {l : List Oper} (n : Nat) (ex : List Nat) {fl : FL} {Q : Exit → Frm → Prop}
  (hB : drawE l.toArray ex n = true) (hst : storesB l.toArray ex n = true) (hf : freshB (newDs (l.take n)) fl = true) (hex : exAll τ Φ N (l.map (·.dst)) n l fl ex)
  {f' : FL} (h : mixL τ Φ N (l.map (·.dst)) n l fl = some f') (hQ : Q .normal (mk f')) : VW P N (.region id l.toArray true) (mk fl) Q := by
 have hv := mixL_ok (n0 := n) l n 0 fl f' (by simp) h
 simp only [drawE,Bool.and_eq_true,decide_eq_true_eq] at hB
 obtain ⟨⟨⟨⟨hnsz,hord⟩,hlex⟩,hnd⟩,hnil⟩ := hB
 intro R B w0 O a w hs
 refine wp_region_any hm ?_
 have hway : Way l.toArray n (Array.replicate l.toArray.size false) (mk fl) := by
  refine ⟨by simp,fun j oj _ hl => ?_,fun j oj hj hjn _ hmk d hd s => ?_⟩
  ·exfalso
   rcases Nat.lt_or_ge j l.length with h1 | h1 <;> simp [h1] at hl
  ·refine mk_on (fun q hq => ?_) s
   have hmem : d ∈ newDs (l.take n) := by
    refine List.mem_filterMap.2 ⟨oj,List.mem_filter.2 ⟨?_,hmk⟩,hd⟩
    have hj' : l[j]? = some oj := by simpa using hj
    exact List.mem_of_getElem? (l := l.take n) (i := j) (by rw [List.getElem?_take_of_lt hjn]; exact hj')
   have := List.all_eq_true.1 hf d hmem
   have := List.all_eq_true.1 this q hq
   simpa using this
 have hexx : ∀ m o,l[m]? = some o → isEx o = true → 0 + m ∈ ex → 0 + m < n → ∀ σ1,vmix τ Φ N l.toArray n 0 (l.take m) (mk fl) = some σ1 → exOk σ1 o := by
  intro m o h1 hE h2 h3 σ1 h4
  have : l.getD m default = o := by rw [List.getD_eq_getElem?_getD,h1]; rfl
  obtain ⟨f,g1,g2⟩ := mixL_pre (hex m (by simpa using h2) (by rw [this]; exact hE))
  rw [g1] at h4
  simp only [Option.some.injEq] at h4
  subst h4
  rw [this] at g2
  exact g2
 have key := vOrd_lexE (τ := τ) (Φ := Φ) (N := N) (Qf := fun σ => Q .normal σ) hord hst hnd hnil hQ l 0 (Array.replicate l.toArray.size false) (mk fl) (fun j => by simp) (by simpa using hlex) (fun j hj => absurd hj (Nat.not_lt_zero _)) hway hexx hv
 have hsz : l.length = l.toArray.size := by simp
 rw [hsz] at key
 exact wpAny_of_vOrdE hτ hΦ hord hst hnd hnil (fun O σ a w hst hq => ⟨O,σ,hst,hq⟩) _ _ _ O a _ hs.drew hway key

theorem VW.wdsE (hτ : TyOk P τ) (hΦ : Sound P Φ) (hm : P.follows .mixedOrders = true) (ds : List (Option Nat)) (fl' : FL) {id : Nat} {l : List Oper} {fl : FL} {Q : Exit → Frm → Prop} (n : Nat) (ex : List Nat) {y : Code} (hds : l.map (·.dst) = ds)
  (hB : drawE l.toArray ex n = true) (hst : storesB l.toArray ex n = true) (hf : freshB (newDs (l.take n)) fl = true) (hex : exAll τ Φ N ds n l fl ex)
  (h1 : AfterL (mixL τ Φ N ds n l fl) fun f => pickL (fl'.map (·.1)) f = fl') (h2 : VW P N y (mk fl') Q) : VW P N (.seq (.region id l.toArray true) y) (mk fl) Q := by
 subst hds
 cases ho : mixL τ Φ N (l.map (·.dst)) n l fl with
 | none => rw [ho] at h1; exact h1.elim
 | some f =>
  rw [ho] at h1
  have h1' : pickL (fl'.map (·.1)) f = fl' := h1
  refine VW.seq (VW.regE hτ hΦ hm n ex hB hst hf hex ho ?_)
  show VW P N y (mk f) Q
  refine VW.forget (σ' := keep (fl'.map (·.1)) (mk f)) (fun s => keep_spec _ _ s) ?_
  have : keep (fl'.map (·.1)) (mk f) = mk (pickL (fl'.map (·.1)) f) := rfl
  rw [this,h1']
  exact h2

end
end Go.Vam
