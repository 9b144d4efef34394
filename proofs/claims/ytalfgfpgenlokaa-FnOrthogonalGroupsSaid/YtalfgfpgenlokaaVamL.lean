/- A region whose order is open: one run in the order of the text serves every order. -/
import Derived.Test.YtalfgfpgenlokaaVamK
namespace Go.Vam
open Go Go.RowKit

def isMv (o : Oper) : Bool :=
 match o.guard,o.op,o.dst with
 | none,.move (.tmp _),some _ => true
 | none,.move (.const (.int _ _)),some _ => true
 | none,.move (.const (.bool _)),some _ => true
 | _,_,_ => false

def makesB (o : Oper) : Bool :=
 match o.op with
 | .call ⟨.builtin .len,_,_⟩ => false
 | .call ⟨.builtin .min,_,_⟩ => false
 | .call ⟨.builtin .max,_,_⟩ => false
 | .call _ | .makeSlice _ _ _ | .buildSlice _ _ _ | .alloc _ => true
 | _ => false

def calmV (τ : TypeId → TK) (Φ : Orc) (d : Nat) (o : Oper) (σ : Frm) : Option VV :=
 match vres τ Φ d o.op σ with
 | some (ks,x) => if ks = [] ∨ (ks = [d] ∧ makesB o = true) then some x else none
 | none => none

def calm (τ : TypeId → TK) (Φ : Orc) (N : Lim) (ops : Array Oper) (o : Oper) (σ : Frm) : Option (Nat × VV) :=
 match o.dst with
 | none => none
 | some d =>
  if d ∈ N then
   match o.guard with
   | none => (calmV τ Φ d o σ).map fun x => (d,x)
   | some (j,want) => match (ops[j]?).bind (·.dst) with
    | none => none
    | some s => match σ s with
     | .val (.bool b) => if b = want then (calmV τ Φ d o σ).map fun x => (d,x) else some (d,.und)
     | .und => some (d,.und)
     | _ => none
  else none

def reachB (ops : Array Oper) : Nat → Nat → Nat → Bool
 | 0,_,_ => false
 | f + 1,j,i => match ops[j]? with
  | none => false
  | some o => o.after.any fun e => Region.binds .any e && (e.on == i || reachB ops f e.on i)

theorem reach_listed {ops : Array Oper} {listed : Array Bool} (hcl : ∀ j oj,ops[j]? = some oj → listed.getD j false = true → ∀ e ∈ oj.after,Region.binds .any e = true → listed.getD e.on false = true) :
  ∀ (f j i : Nat) (oj : Oper),ops[j]? = some oj → (∀ e ∈ oj.after,Region.binds .any e = true → listed.getD e.on false = true) → reachB ops f j i = true → listed.getD i false = true
 | 0,_,_,_,_,_,h => by simp [reachB] at h
 | f + 1,j,i,oj,hj,hall,h => by
  simp only [reachB,hj] at h
  obtain ⟨e,he,hb⟩ := Array.any_eq_true'.1 h
  simp only [Bool.and_eq_true,Bool.or_eq_true,beq_iff_eq] at hb
  have h1 := hall e he hb.1
  rcases hb.2 with h2 | h2
  ·rw [← h2]; exact h1
  ·cases hk : ops[e.on]? with
   | none =>
    cases f with
    | zero => simp [reachB] at h2
    | succ f => simp [reachB,hk] at h2
   | some ok => exact reach_listed hcl f e.on i ok hk (fun e' he' hb' => hcl e.on ok hk h1 e' he' hb') h2

def ordB (ops : Array Oper) (n : Nat) : Bool :=
 (List.range ops.size).all fun j => decide (j < n) || (List.range j).all fun i => reachB ops ops.size j i || (decide (i < n) && match ops[i]? with
  | some oi => isMv oi
  | none => true)

def lexB (ops : Array Oper) : Nat → Nat → Array Bool → Bool
 | 0,_,listed => (Region.ready .any ops listed).isEmpty
 | fuel + 1,k,listed => (Region.ready .any ops listed).contains k && Region.free .any ops listed k && lexB ops fuel (k + 1) (listed.setIfInBounds k true)

def dsts (ops : List Oper) : List Nat := ops.filterMap (·.dst)

def drawB (ops : Array Oper) (n : Nat) : Bool :=
 decide (n ≤ ops.size) && ordB ops n && lexB ops ops.size 0 (Array.replicate ops.size false) && decide ((dsts ops.toList).Nodup) && decide (nilT ∉ dsts ops.toList)

section
variable {P : Program} {τ : TypeId → TK} {Φ : Orc} {N : Lim} {ops : Array Oper} {Qf : Frm → Prop}

/-! ### What an operation looks at -/

def Op.seen (op : Op) : List Tmp := op.operands.toList.filterMap fun | .tmp t => some t | _ => none

theorem looks_op {o : Oper} {t : Nat} (h : t ∈ Op.seen o.op) : t ∈ o.looksAt ops := by
 unfold Oper.looksAt; exact List.mem_append.2 (.inl h)

theorem ev_congr {σ σ' : Frm} {x : Operand} {l : List Operand} (hx : x ∈ l) (h : ∀ t ∈ l.filterMap (fun | .tmp t => some t | _ => none : Operand → Option Tmp),σ t = σ' t) : ev σ x = ev σ' x := by
 cases x with
 | tmp t => exact h t (List.mem_filterMap.2 ⟨.tmp t,hx,rfl⟩)
 | _ => rfl

theorem data_congr {σ σ' : Frm} : ∀ {l : List Operand},(∀ x ∈ l,ev σ x = ev σ' x) → data σ l = data σ' l
 | [],_ => rfl
 | x :: r,h => by simp only [data,h x (by simp),data_congr (l := r) fun y hy => h y (by simp [hy])]

theorem vals_congr {σ σ' : Frm} : ∀ {l : List Operand},(∀ x ∈ l,ev σ x = ev σ' x) → vals σ l = vals σ' l
 | [],_ => rfl
 | x :: r,h => by simp only [vals,h x (by simp),vals_congr (l := r) fun y hy => h y (by simp [hy])]

theorem partsV_congr {σ σ' : Frm} : ∀ {l : List Operand},(∀ x ∈ l,ev σ x = ev σ' x) → partsV σ l = partsV σ' l
 | [],_ => rfl
 | x :: r,h => by simp only [partsV,h x (by simp),partsV_congr (l := r) fun y hy => h y (by simp [hy])]

theorem toks_congr {σ σ' : Frm} : ∀ {l : List Operand},(∀ x ∈ l,ev σ x = ev σ' x) → toks σ l = toks σ' l
 | [],_ => rfl
 | x :: r,h => by
  have := toks_congr (l := r) fun y hy => h y (by simp [hy])
  simp only [toks,List.flatMap_cons,h x (by simp)] at this ⊢
  rw [this]

theorem vres_congr {d : Nat} {op : Op} {σ σ' : Frm} (h : ∀ x ∈ op.operands,ev σ x = ev σ' x) : vres τ Φ d op σ = vres τ Φ d op σ' := by
 cases op with
 | slice T x lo hi mx =>
  cases mx with
  | some m => rfl
  | none =>
   have hx := h x (by simp [Op.operands])
   have hlo : ∀ l,lo = some l → ev σ l = ev σ' l := fun l hl => h l (by simp [Op.operands,hl])
   have hhi : ∀ l,hi = some l → ev σ l = ev σ' l := fun l hl => h l (by simp [Op.operands,hl])
   cases lo with
   | none => cases hi with
    | none => simp only [vres,hx]
    | some m => simp only [vres,hx,hhi m rfl]
   | some l => cases hi with
    | none => simp only [vres,hx,hlo l rfl]
    | some m => simp only [vres,hx,hlo l rfl,hhi m rfl]
 | build T parts =>
  have := vals_congr (σ := σ) (σ' := σ') (l := parts.toList.map (·.2)) fun x hx => h x (by simpa [Op.operands] using hx)
  simp only [vres,this]
 | buildSlice T n parts =>
  have := vals_congr (σ := σ) (σ' := σ') (l := parts.toList.map (·.2)) fun x hx => h x (by simpa [Op.operands] using hx)
  simp only [vres,this]
 | makeFunc fn first caps =>
  have := vals_congr (σ := σ) (σ' := σ') (l := caps.toList) fun x hx => h x (by simp [Op.operands]; exact .inr (by simpa using hx))
  cases fn <;> first | rfl | simp only [vres,this]
 | call c =>
  simp only [vres]
  cases hc : c.callee with
  | builtin b =>
   have ha : ∀ x ∈ c.args.toList,ev σ x = ev σ' x := fun x hx => h x (by simp [Op.operands,Call.operands,hc]; simpa using hx)
   cases b <;> simp only
   case len =>
    split
    ·rename_i x T e1 e2
     rw [ha x (by rw [e1]; simp)]
    ·rfl
   case min =>
    split
    ·rename_i x y e1
     rw [ha x (by rw [e1]; simp),ha y (by rw [e1]; simp)]
    ·rfl
   case max =>
    split
    ·rename_i x y e1
     rw [ha x (by rw [e1]; simp),ha y (by rw [e1]; simp)]
    ·rfl
  | value f =>
   have hf := h f (by simp [Op.operands,Call.operands,hc])
   have ha : ∀ x ∈ c.args.toList,ev σ x = ev σ' x := fun x hx => h x (by simp [Op.operands,Call.operands,hc]; exact .inr (by simpa using hx))
   simp only [hf,data_congr ha,toks_congr ha]
  | invoke r m => rfl
 | _ => simp [Op.operands] at h; simp only [vres]; try simp_all

theorem seen_congr {o : Oper} {σ σ' : Frm} (h : ∀ t ∈ Op.seen o.op,σ t = σ' t) : ∀ x ∈ o.op.operands,ev σ x = ev σ' x := by
 intro x hx
 exact ev_congr (l := o.op.operands.toList) (by simpa using hx) h

theorem calm_congr {o : Oper} {σ σ' : Frm} (h : ∀ t ∈ o.looksAt ops,σ t = σ' t) : calm τ Φ N ops o σ = calm τ Φ N ops o σ' := by
 have hv : ∀ d,calmV τ Φ d o σ = calmV τ Φ d o σ' := fun d => by
  unfold calmV; rw [vres_congr (seen_congr fun t ht => h t (looks_op ht))]
 unfold calm
 cases o.dst with
 | none => rfl
 | some d =>
  simp only [hv]
  cases hg : o.guard with
  | none => rfl
  | some q =>
   obtain ⟨j,want⟩ := q
   simp only
   cases hj : (ops[j]?).bind (·.dst) with
   | none => rfl
   | some s =>
    have : σ s = σ' s := h s (by unfold Oper.looksAt; rw [hg]; simp [hj])
    simp only [this]

theorem vals_data {σ : Frm} : ∀ {l : List Operand} {ds : List D},vals σ l = some ds → data σ l = some ds
 | [],ds,h => by simpa [vals,data] using h
 | x :: r,ds,h => by
  simp only [vals] at h
  split at h
  ·rename_i d ds' h1 h2
   simp only [Option.some.injEq] at h
   subst h
   simp only [data,h1,VV.dat,vals_data h2]
  ·cases h

theorem vmut_off {d d2 : Nat} {op : Op} {σ : Frm} {z : List Nat × VV} (h : vres τ Φ d2 op σ = some z) (hd : d2 = d) : vmut Φ d op σ = none := by
 subst hd
 cases hm : vmut Φ d2 op σ with
 | none => rfl
 | some e =>
  exfalso
  unfold vmut at hm
  split at hm <;> try cases hm
  rename_i c
  split at hm <;> try cases hm
  rename_i f x xs hc hargs
  set_option maxHeartbeats 4000000 in
  split at hm <;> try cases hm
  case h_2 o' g t ys ds hf hx hds =>
   split at hm <;> try cases hm
   rename_i hrs
   have hdata : data σ c.args.toList = some (.ptr ys :: ds) := by rw [hargs]; simp only [data,hx,VV.dat,hds]
   simp only [vres,hc,hf,hdata,List.append_nil,hrs,retVV] at h
   cases h
  rename_i g t p d0 ds hf hx hds
  split at hm <;> try cases hm
  all_goals
   rename_i hrs
   have hdata : data σ c.args.toList = some (d0 :: ds) := by rw [hargs]; simp only [data,hx,VV.dat,vals_data hds]
   simp only [vres,hc,hf,hdata,List.append_nil,hrs,retVV] at h
   cases h

theorem vmut_congr {d : Nat} {op : Op} {σ σ' : Frm} (h : ∀ x ∈ op.operands,ev σ x = ev σ' x) : vmut Φ d op σ = vmut Φ d op σ' := by
 cases op with
 | call c =>
  simp only [vmut]
  cases hc : c.callee with
  | value f =>
   have hf := h f (by simp [Op.operands,Call.operands,hc])
   have ha : ∀ x ∈ c.args.toList,ev σ x = ev σ' x := fun x hx => h x (by simp [Op.operands,Call.operands,hc]; exact .inr (by simpa using hx))
   cases hargs : c.args.toList with
   | nil => rfl
   | cons x xs =>
    rw [hargs] at ha
    simp only [hf,ha x (by simp),vals_congr (l := xs) fun y hy => ha y (by simp [hy]),data_congr (l := xs) fun y hy => ha y (by simp [hy]),toks_congr (l := xs) fun y hy => ha y (by simp [hy])]
  | _ => rfl
 | _ => rfl

theorem vmut_put {d : Nat} {op : Op} {σ : Frm} {e : Eff} (h : vmut Φ d op σ = some e) : (e.put.map (·.1)) = some d ∧ ∀ x,e.map (.val x) = .val x := by
 unfold vmut at h
 split at h <;> try cases h
 split at h <;> try cases h
 split at h <;> try cases h
 ·split at h <;> try cases h
  ·split at h <;> simp only [Option.some.injEq,reduceCtorEq] at h
   subst h
   exact ⟨rfl,fun x => by simp [mutVV,VV.on]⟩
  ·split at h <;> simp only [Option.some.injEq,reduceCtorEq] at h
   subst h
   exact ⟨rfl,fun x => by simp [kmap,VV.on]⟩
 ·split at h <;> try cases h
  split at h <;> try cases h
  split at h <;> simp only [Option.some.injEq,reduceCtorEq] at h
  subst h
  exact ⟨rfl,fun x => by simp [kmap,wkVV,VV.on]⟩

theorem calmV_do {o : Oper} {σ : Frm} {d : Nat} {x : VV} (hd : o.dst = some d) (hN : d ∈ N) (h : calmV τ Φ d o σ = some x) (hf : makesB o = true → ∀ s,(σ s).on d = false) :
  ∃ e,vdo τ Φ N o σ = some e ∧ e.run σ = upd σ d x := by
 unfold calmV at h
 split at h <;> try cases h
 rename_i ks y hr
 split at h <;> simp only [Option.some.injEq,reduceCtorEq] at h
 rename_i hks
 subst h
 have hvv : vval τ Φ d o.op σ = some (ks,y) := by
  cases ho : o.op with
  | assign z =>
   rw [ho] at hr
   simp only [vres] at hr
   split at hr
   ·cases hr
   ·rename_i hz
    simp only [Option.some.injEq,Prod.mk.injEq] at hr
    obtain ⟨rfl,rfl⟩ := hr
    simp only [vval,vassign]
  | buildSlice T n parts => rw [ho] at hr; simp only [vval,hr]
  | build T parts => rw [ho] at hr; simp only [vval,hr]
  | box T y => rw [ho] at hr; simp only [vval,hr]
  | call c =>
   rw [ho] at hr
   simp only [vval]
   split
   ·rename_i hc; simp [vres,hc] at hr
   ·exact hr
  | _ => rw [ho] at hr; simpa only [vval] using hr
 refine ⟨⟨kmap ks,some (d,y)⟩,by unfold vdo; simp only [hd,if_pos hN,vmut_off hr rfl,hvv],?_⟩
 simp only [Eff.run]
 rcases hks with rfl | ⟨rfl,hm⟩
 ·have : (fun s => kmap [] (σ s)) = σ := by funext s; simp [kmap]
  rw [this]
 ·have : (fun s => kmap [d] (σ s)) = σ := by
   funext s
   simp [kmap,hf hm s]
  rw [this]

theorem calm_act {o : Oper} {σ : Frm} {d : Nat} {x : VV} (h : calm τ Φ N ops o σ = some (d,x)) (hf : makesB o = true → ∀ d',o.dst = some d' → ∀ s,(σ s).on d' = false) :
  o.dst = some d ∧ ∃ e,vact τ Φ N ops o σ = some e ∧ e.run σ = upd σ d x := by
 unfold calm at h
 cases hd : o.dst with
 | none => rw [hd] at h; cases h
 | some d' =>
  rw [hd] at h
  simp only at h
  split at h <;> try cases h
  rename_i hN
  unfold vact
  cases hg : o.guard with
  | none =>
   rw [hg] at h
   simp only at h ⊢
   obtain ⟨y,h1,h2⟩ := map_some h
   simp only [Prod.mk.injEq] at h2
   obtain ⟨rfl,rfl⟩ := h2
   exact ⟨rfl,calmV_do hd hN h1 fun hm => hf hm _ hd⟩
  | some q =>
   obtain ⟨j,want⟩ := q
   rw [hg] at h
   simp only at h ⊢
   cases hj : (ops[j]?).bind (·.dst) with
   | none => rw [hj] at h; cases h
   | some s =>
    rw [hj] at h
    simp only at h ⊢
    split at h
    case h_2 hs =>
     simp only [Option.some.injEq,Prod.mk.injEq] at h
     obtain ⟨rfl,rfl⟩ := h
     exact ⟨rfl,⟨id,some (d',.und)⟩,by simp only [hs,vskip,hd,if_pos hN],rfl⟩
    case h_3 => cases h
    rename_i b hs
    simp only [hs]
    split at h
    ·rename_i hb
     obtain ⟨y,h1,h2⟩ := map_some h
     simp only [Prod.mk.injEq] at h2
     obtain ⟨rfl,rfl⟩ := h2
     rw [if_pos hb]
     exact ⟨rfl,calmV_do hd hN h1 fun hm => hf hm _ hd⟩
    ·rename_i hb
     simp only [Option.some.injEq,Prod.mk.injEq] at h
     obtain ⟨rfl,rfl⟩ := h
     rw [if_neg hb]
     refine ⟨rfl,⟨id,some (d',.und)⟩,by unfold vskip; simp only [hd,if_pos hN],rfl⟩

theorem placeVV_on {x : VV} {i : Nat} {y : VV} (h : placeVV x i = some y) (t : Nat) (ht : y.on t = true) : x.on t = true := by
 unfold placeVV at h
 split at h <;> (try cases h) <;> split at h <;> simp only [Option.some.injEq,reduceCtorEq] at h <;> subst h <;> simp_all [VV.on]

theorem boxVV_on {x : VV} {i : Nat} {y : VV} (h : boxVV x i = some y) (t : Nat) (ht : y.on t = true) : x.on t = true := by
 unfold boxVV at h
 split at h <;> (try cases h) <;> split at h <;> simp only [Option.some.injEq,reduceCtorEq] at h <;> subst h <;> simp_all [VV.on]

theorem cellVV_on {t : Nat} {p : List Nat} {i : Nat} {u : Bool} {d : D} {r : Nat} (h : (cellVV t p i u d).on r = true) : t = r := by
 unfold cellVV at h
 split at h <;> simp_all [VV.on]

theorem borVV_on {t : Nat} {d : D} {r : Nat} (h : (borVV t d).on r = true) : t = r := by
 unfold borVV at h
 split at h <;> simp_all [VV.on]

theorem loadVV_on {x y : VV} (h : loadVV x = some y) (t : Nat) (ht : y.on t = true) : x.on t = true := by
 unfold loadVV at h
 split at h <;> simp only [Option.some.injEq,reduceCtorEq] at h <;> subst h
 ·have := cellVV_on ht; simp [VV.on,this]
 ·have := cellVV_on ht; simp [VV.on,this]
 ·simp [VV.on] at ht
 ·have := borVV_on ht; simp [VV.on,this]
 ·simp [VV.on] at ht
 ·have := cellVV_on ht; simp [VV.on,this]
 ·have := borVV_on ht; simp [VV.on,this]
 ·simp only [VV.on] at ht ⊢; rw [ht]; simp

theorem loadSt_on {n : Nat} {x y : VV} (h : loadSt n x = some y) (t : Nat) (ht : y.on t = true) : x.on t = true := by
 unfold loadSt at h
 split at h <;> (try cases h) <;> split at h <;> simp only [Option.some.injEq,reduceCtorEq] at h <;> subst h <;> simp_all [VV.on]

theorem fieldVV_on {i : Nat} {x y : VV} (h : fieldVV i x = some y) (t : Nat) (ht : y.on t = true) : x.on t = true := by
 unfold fieldVV at h
 split at h <;> (try cases h) <;> split at h <;> simp only [Option.some.injEq,reduceCtorEq] at h <;> subst h
 ·simp [VV.on] at ht
 ·have := cellVV_on ht; simp [VV.on,this]
 ·have := borVV_on ht; simp [VV.on,this]

theorem sliceVV_on {lo hi : Int} {x y : VV} (h : sliceVV lo hi x = some y) (t : Nat) (ht : y.on t = true) : x.on t = true := by
 unfold sliceVV at h
 split at h
 ·split at h
  ·simp only [Option.some.injEq] at h; subst h; simp [VV.on] at ht
  ·cases h
 ·split at h
  ·split at h
   ·simp only [Option.some.injEq] at h; subst h; simpa [VV.on] using ht
   ·simp only [Option.some.injEq] at h; subst h; simpa [VV.on] using ht
  ·cases h
 ·split at h
  ·simp only [Option.some.injEq] at h; subst h; simpa [VV.on] using ht
  ·cases h
 ·cases h

theorem tupVV_on {i : Nat} {x y : VV} (h : tupVV i x = some y) (t : Nat) (ht : y.on t = true) : x.on t = true := by
 unfold tupVV at h
 split at h <;> (try cases h)
 ·split at h <;> simp only [Option.some.injEq,reduceCtorEq] at h <;> subst h <;> simp [VV.on,ht]
 ·split at h <;> simp only [Option.some.injEq,reduceCtorEq] at h
  subst h
  simp [VV.on] at ht

theorem constVV_on (v : Value) (t : Nat) (h : (constVV v).on t = true) : t = nilT := by
 unfold constVV at h
 split at h <;> simp [VV.on] at h
 exact h.symm

theorem ev_on {σ : Frm} {x : Operand} {t : Nat} (h : (ev σ x).on t = true) : t = nilT ∨ ∃ s,(σ s).on t = true := by
 cases x with
 | tmp s => exact .inr ⟨s,h⟩
 | const v => exact .inl (constVV_on v t h)
 | func f => simp [ev,VV.on] at h
 | global g => simp [ev,VV.on] at h

theorem retVV_on {d : Nat} {ts : List Nat} {rs : List Ret} {ks : List Nat} {x : VV} (h : retVV d ts rs = some (ks,x)) (t : Nat) (ht : x.on t = true) : t = d := by
 unfold retVV at h
 split at h <;> simp only [Option.some.injEq,Prod.mk.injEq,reduceCtorEq] at h <;> obtain ⟨_,rfl⟩ := h <;> simp [VV.on] at ht <;> exact ht.symm

theorem placeS_on {m : Nat} {x : VV} {i : Nat} {y : VV} (h : placeS m x i = some y) (t : Nat) : y.on t = false := by
 unfold placeS at h
 split at h <;> try cases h
 split at h <;> simp only [Option.some.injEq,reduceCtorEq] at h
 subst h; rfl
theorem loadR_on {n : Nat} {x y : VV} (h : loadR n x = some y) (t : Nat) : y.on t = false := by
 unfold loadR at h
 split at h <;> try cases h
 split at h <;> simp only [Option.some.injEq,reduceCtorEq] at h
 subst h; rfl
theorem boxR_on {i : Nat} {x y : VV} (h : boxR i x = some y) (t : Nat) : y.on t = false := by
 unfold boxR at h
 split at h <;> try cases h
 split at h <;> simp only [Option.some.injEq,reduceCtorEq] at h
 subst h; rfl

theorem vres_on {d : Nat} {op : Op} {σ : Frm} {ks : List Nat} {x : VV} (h : vres τ Φ d op σ = some (ks,x)) (t : Nat) (ht : x.on t = true) :
  t = d ∨ t = nilT ∨ ∃ s,(σ s).on t = true := by
 cases op with
 | move y =>
  simp only [vres,Option.some.injEq,Prod.mk.injEq] at h
  obtain ⟨_,rfl⟩ := h
  exact .inr (ev_on ht)
 | assign y =>
  simp only [vres] at h
  split at h
  ·cases h
  ·simp only [Option.some.injEq,Prod.mk.injEq] at h
   obtain ⟨_,rfl⟩ := h
   exact .inr (ev_on ht)
 | pick c a b =>
  simp only [vres] at h
  split at h <;> simp only [Option.some.injEq,Prod.mk.injEq,reduceCtorEq] at h <;> obtain ⟨_,rfl⟩ := h <;> exact .inr (ev_on ht)
 | binOp o T y z T' =>
  simp only [vres] at h
  split at h <;> (try cases h)
  obtain ⟨r,_,h2⟩ := map_some h
  simp only [Prod.mk.injEq] at h2
  obtain ⟨_,rfl⟩ := h2
  simp [VV.on] at ht
 | unOp o T y =>
  simp only [vres] at h
  split at h <;> (try cases h)
  obtain ⟨r,_,h2⟩ := map_some h
  simp only [Prod.mk.injEq] at h2
  obtain ⟨_,rfl⟩ := h2
  simp [VV.on] at ht
 | convert S T y =>
  simp only [vres] at h
  split at h <;> simp only [Option.some.injEq,Prod.mk.injEq,reduceCtorEq] at h
  obtain ⟨_,rfl⟩ := h
  simp [VV.on] at ht
 | indexAddr T y i =>
  simp only [vres] at h
  split at h <;> (try cases h)
  ·split at h <;> (try cases h)
   obtain ⟨r,h1,h2⟩ := map_some h
   simp only [Prod.mk.injEq] at h2
   obtain ⟨_,rfl⟩ := h2
   exact .inr (ev_on (placeVV_on h1 t ht))
  ·split at h <;> (try cases h)
   obtain ⟨r,h1,h2⟩ := map_some h
   simp only [Prod.mk.injEq] at h2
   obtain ⟨_,rfl⟩ := h2
   rw [placeS_on h1 t] at ht; cases ht
 | load T y =>
  simp only [vres] at h
  split at h <;> (try cases h) <;> obtain ⟨r,h1,h2⟩ := map_some h <;> simp only [Prod.mk.injEq] at h2 <;> obtain ⟨_,rfl⟩ := h2
  ·exact .inr (ev_on (loadVV_on h1 t ht))
  ·exact .inr (ev_on (loadVV_on h1 t ht))
  ·exact .inr (ev_on (loadVV_on h1 t ht))
  ·exact .inr (ev_on (loadVV_on h1 t ht))
  ·rcases orO_or h1 with h1 | h1
   ·exact .inr (ev_on (loadSt_on h1 t ht))
   ·rw [loadR_on h1 t] at ht; cases ht
 | fieldAddr T y f =>
  simp only [vres] at h
  split at h <;> (try cases h)
  split at h <;> (try cases h)
  obtain ⟨r,h1,h2⟩ := map_some h
  simp only [Prod.mk.injEq] at h2
  obtain ⟨_,rfl⟩ := h2
  rcases orO_or h1 with h1 | h1
  ·exact .inr (ev_on (boxVV_on h1 t ht))
  ·rw [boxR_on h1 t] at ht; cases ht
 | field T y f =>
  simp only [vres] at h
  split at h <;> (try cases h)
  split at h <;> (try cases h)
  obtain ⟨r,h1,h2⟩ := map_some h
  simp only [Prod.mk.injEq] at h2
  obtain ⟨_,rfl⟩ := h2
  exact .inr (ev_on (fieldVV_on h1 t ht))
 | slice T y lo hi mx =>
  cases mx with
  | some m => simp [vres] at h
  | none =>
   simp only [vres] at h
   split at h <;> (try cases h)
   split at h <;> (try cases h)
   obtain ⟨r,h1,h2⟩ := map_some h
   simp only [Prod.mk.injEq] at h2
   obtain ⟨_,rfl⟩ := h2
   exact .inr (ev_on (sliceVV_on h1 t ht))
 | extract y i =>
  simp only [vres] at h
  obtain ⟨r,h1,h2⟩ := map_some h
  simp only [Prod.mk.injEq] at h2
  obtain ⟨_,rfl⟩ := h2
  exact .inr (ev_on (tupVV_on h1 t ht))
 | makeFunc f first caps =>
  cases f <;> (try simp [vres] at h)
  obtain ⟨_,r,_,_,rfl⟩ := h
  simp [VV.on] at ht
 | makeSlice T l c =>
  simp only [vres] at h
  split at h <;> (try cases h)
  split at h <;> (try cases h)
  obtain ⟨r,h1,h2⟩ := map_some h
  simp only [Prod.mk.injEq] at h2
  obtain ⟨_,rfl⟩ := h2
  simp [VV.on] at ht
  exact .inl ht.symm
 | buildSlice T n parts =>
  simp only [vres] at h
  split at h <;> (try cases h)
  ·split at h <;> (try cases h)
   split at h <;> (try cases h)
   split at h <;> simp only [Option.some.injEq,Prod.mk.injEq,reduceCtorEq] at h
   obtain ⟨_,rfl⟩ := h
   simp [VV.on] at ht
   exact .inl ht.symm
  ·split at h <;> (try cases h)
   split at h <;> (try cases h)
   split at h <;> (try cases h)
   split at h <;> simp only [Option.some.injEq,Prod.mk.injEq,reduceCtorEq] at h
   obtain ⟨_,rfl⟩ := h
   simp [VV.on] at ht
 | build T parts =>
  simp only [vres] at h
  split at h <;> (try cases h)
  ·split at h <;> (try cases h)
   split at h <;> simp only [Option.some.injEq,Prod.mk.injEq,reduceCtorEq] at h
   obtain ⟨_,rfl⟩ := h
   simp [VV.on] at ht
  ·split at h <;> (try cases h)
   split at h <;> simp only [Option.some.injEq,Prod.mk.injEq,reduceCtorEq] at h
   obtain ⟨_,rfl⟩ := h
   simp [VV.on] at ht
 | nilCheck y =>
  simp only [vres] at h
  obtain ⟨r,h1,h2⟩ := map_some h
  simp only [Prod.mk.injEq] at h2
  obtain ⟨_,rfl⟩ := h2
  refine .inr (ev_on (x := y) ?_)
  unfold nilVV at h1
  split at h1 <;> simp only [Option.some.injEq,reduceCtorEq] at h1 <;> rw [h1] <;> exact ht
 | box T y =>
  simp only [vres] at h
  split at h <;> (try cases h)
  ·split at h <;> simp only [Option.some.injEq,Prod.mk.injEq,reduceCtorEq] at h
   obtain ⟨_,rfl⟩ := h
   simp [VV.on] at ht
  ·rename_i zs xs hz hy
   split at h <;> simp only [Option.some.injEq,Prod.mk.injEq,reduceCtorEq] at h
   obtain ⟨_,rfl⟩ := h
   refine .inr (ev_on (x := y) ?_)
   rw [hy]
   exact ht
  ·split at h <;> simp only [Option.some.injEq,Prod.mk.injEq,reduceCtorEq] at h
   obtain ⟨_,rfl⟩ := h
   simp [VV.on] at ht
 | alloc T =>
  simp only [vres] at h
  split at h <;> simp only [Option.some.injEq,Prod.mk.injEq,reduceCtorEq] at h <;> obtain ⟨_,rfl⟩ := h <;> simp [VV.on] at ht <;> exact .inl ht.symm
 | call c =>
  simp only [vres] at h
  split at h <;> (try cases h)
  ·split at h <;> (try cases h)
   split at h <;> (try cases h) <;> obtain ⟨r,h1,h2⟩ := map_some h <;> simp only [Prod.mk.injEq] at h2 <;> obtain ⟨_,rfl⟩ := h2 <;> simp [VV.on] at ht
  ·split at h <;> (try cases h)
   obtain ⟨k,p,q,_,_,_,rfl⟩ := vmm_some h
   simp [VV.on] at ht
  ·split at h <;> (try cases h)
   obtain ⟨k,p,q,_,_,_,rfl⟩ := vmm_some h
   simp [VV.on] at ht
  ·split at h <;> (try cases h)
   split at h <;> (try cases h)
   exact .inl (retVV_on h t ht)
 | _ => simp [vres] at h

theorem calm_on {o : Oper} {σ : Frm} {d : Nat} {x : VV} (h : calm τ Φ N ops o σ = some (d,x)) (t : Nat) (ht : x.on t = true) : t = d ∨ t = nilT ∨ ∃ s,(σ s).on t = true := by
 have key : ∀ d' y,(calmV τ Φ d' o σ).map (fun x => (d',x)) = some (d,y) → y = x → t = d ∨ t = nilT ∨ ∃ s,(σ s).on t = true := by
  intro d' y h1 hy
  obtain ⟨z,h2,h3⟩ := map_some h1
  simp only [Prod.mk.injEq] at h3
  obtain ⟨rfl,rfl⟩ := h3
  subst hy
  unfold calmV at h2
  split at h2 <;> (try cases h2)
  rename_i ks y hr
  split at h2 <;> simp only [Option.some.injEq,reduceCtorEq] at h2
  subst h2
  exact vres_on hr t ht
 unfold calm at h
 split at h <;> (try cases h)
 split at h <;> (try cases h)
 split at h
 ·exact key _ _ h rfl
 ·split at h <;> (try cases h)
  split at h
  case h_2 =>
   simp only [Option.some.injEq,Prod.mk.injEq] at h
   obtain ⟨_,rfl⟩ := h
   simp [VV.on] at ht
  case h_3 => cases h
  split at h
  ·exact key _ _ h rfl
  ·simp only [Option.some.injEq,Prod.mk.injEq] at h
   obtain ⟨_,rfl⟩ := h
   simp [VV.on] at ht


/-! ### An effect, and a slot set before it -/

def VV.still (x : VV) : Prop := (∃ d,x = .val d)

theorem kmap_val (ks : List Nat) (d : D) : kmap ks (.val d) = .val d := by simp [kmap,VV.on]

theorem storeVV_val (t : Nat) (p : List Nat) (i : Nat) (u : Bool) (e : D) (tv : Option Nat) (d : D) : storeVV t p i u e tv (.val d) = .val d := by
 unfold storeVV
 simp [VV.on]
 cases tv <;> rfl

theorem vstoreE_val {T : TypeId} {ad x : VV} {f : VV → VV} (h1 : vstoreE τ T ad x = some f) (d : D) : f (.val d) = .val d := by
 unfold vstoreE at h1
 have key : ∀ (q : Option (Nat × List Nat × Nat × Bool)),(match q with
   | some (t,p,i,u) => if u = false ∧ p ≠ [] then none else
    match x.given u with
    | some (e,tv) => if tv = some t then none else some (storeVV t p i u e tv)
    | none => none
   | none => (none : Option (VV → VV))) = some f → f (.val d) = .val d := by
  intro q h1
  cases q with
  | none => cases h1
  | some q =>
   obtain ⟨t,p,i,u⟩ := q
   simp only at h1
   split at h1
   ·cases h1
   ·cases hg : x.given u with
    | none => rw [hg] at h1; cases h1
    | some r =>
     obtain ⟨e,tv⟩ := r
     rw [hg] at h1
     simp only at h1
     split at h1
     ·cases h1
     ·simp only [Option.some.injEq] at h1
      rw [← h1]
      exact storeVV_val t p i u e tv d
 cases hT : τ T with
 | st zs => rw [hT] at h1; cases h1
 | other => rw [hT] at h1; cases h1
 | ar zs => rw [hT] at h1; cases h1
 | ss e m => rw [hT] at h1; cases h1
 | fn => rw [hT] at h1; cases h1
 | _ => rw [hT] at h1; apply key ad.place; cases hp : ad.place <;> rw [hp] at h1 <;> exact h1

theorem vval_congr {d : Nat} {op : Op} {σ σ' : Frm} (h : ∀ x ∈ op.operands,ev σ x = ev σ' x) : vval τ Φ d op σ = vval τ Φ d op σ' := by
 have hv := vres_congr (τ := τ) (Φ := Φ) (d := d) h
 cases op with
 | assign x => simp only [vval,h x (by simp [Op.operands])]
 | buildSlice T n parts =>
  have := partsV_congr (σ := σ) (σ' := σ') (l := parts.toList.map (·.2)) fun x hx => h x (by simpa [Op.operands] using hx)
  simp only [vval,hv,vbuildS,this]
 | build T parts =>
  have := partsV_congr (σ := σ) (σ' := σ') (l := parts.toList.map (·.2)) fun x hx => h x (by simpa [Op.operands] using hx)
  have this2 := vals_congr (σ := σ) (σ' := σ') (l := parts.toList.map (·.2)) fun x hx => h x (by simpa [Op.operands] using hx)
  simp only [vval,hv,vbuildT,this,this2]
 | box T x => simp only [vval,hv,h x (by simp [Op.operands])]
 | call c =>
  simp only [vval]
  split
  ·rename_i hc
   have ha : ∀ x ∈ c.args.toList,ev σ x = ev σ' x := fun x hx => h x (by simp [Op.operands,Call.operands,hc]; simpa using hx)
   split
   ·rename_i s x T T' e1 e2
    rw [ha s (by rw [e1]; simp),ha x (by rw [e1]; simp)]
   ·rfl
  ·exact hv
 | _ => simp only [vval]; exact hv

theorem vcut_congr {d : Nat} {op : Op} {σ σ' : Frm} (h : ∀ x ∈ op.operands,ev σ x = ev σ' x) : vcut τ d op σ = vcut τ d op σ' := by
 cases op with
 | call c =>
  simp only [vcut]
  split
  ·rename_i s x T T' hc hargs hT
   have ha : ∀ y ∈ c.args.toList,ev σ y = ev σ' y := fun y hy => h y (by simp [Op.operands,Call.operands,hc]; simpa using hy)
   rw [hargs] at ha
   have h1 : σ s = σ' s := ha (.tmp s) (by simp)
   rw [h1,ha x (by simp)]
  ·rfl
 | _ => rfl

theorem vcut_put {d : Nat} {op : Op} {σ : Frm} {e : Eff} (h : vcut τ d op σ = some e) : (e.put.map (·.1)) = some d ∧ ∀ x,e.map (.val x) = .val x := by
 unfold vcut at h
 split at h <;> try cases h
 split at h <;> try cases h
 split at h <;> try cases h
 unfold cutB at h
 split at h <;> try cases h
 split at h <;> try cases h
 unfold cutR at h
 split at h <;> try cases h
 split at h <;> simp only [Option.some.injEq,reduceCtorEq] at h
 subst h
 exact ⟨rfl,fun x => by simp [kmap,dtcVV,VV.on]⟩

theorem vact_congr {o : Oper} {σ σ' : Frm} (h : ∀ t ∈ o.looksAt ops,σ t = σ' t) : vact τ Φ N ops o σ = vact τ Φ N ops o σ' := by
 have hs := seen_congr (o := o) (σ := σ) (σ' := σ') fun t ht => h t (looks_op ht)
 have hd : vdo τ Φ N o σ = vdo τ Φ N o σ' := by
  unfold vdo
  cases o.dst with
  | some d => simp only [vval_congr hs,vmut_congr hs,vcut_congr hs]
  | none =>
   simp only
   cases ho : o.op <;> (try rfl)
   rename_i T ad x
   rw [ho] at hs
   simp only [hs ad (by simp [Op.operands]),hs x (by simp [Op.operands])]
 unfold vact
 cases hg : o.guard with
 | none => exact hd
 | some q =>
  obtain ⟨j,want⟩ := q
  simp only
  cases hj : (ops[j]?).bind (·.dst) with
  | none => rfl
  | some s =>
   have : σ s = σ' s := h s (by unfold Oper.looksAt; rw [hg]; simp [hj])
   simp only [this,hd]

theorem vact_put {o : Oper} {σ : Frm} {e : Eff} (h : vact τ Φ N ops o σ = some e) : (e.put.map (·.1)) = o.dst ∧ ∀ d,e.map (.val d) = .val d := by
 have hdo : ∀ e,vdo τ Φ N o σ = some e → (e.put.map (·.1)) = o.dst ∧ ∀ d,e.map (.val d) = .val d := by
  intro e h
  unfold vdo at h
  cases hd : o.dst with
  | some d =>
   rw [hd] at h
   simp only at h
   split at h <;> (try cases h)
   split at h
   ·rename_i hm
    simp only [Option.some.injEq] at h
    subst h
    exact vmut_put hm
   split at h
   ·simp only [Option.some.injEq] at h
    subst h
    exact ⟨rfl,fun d => kmap_val _ _⟩
   ·exact vcut_put h
  | none =>
   rw [hd] at h
   simp only at h
   split at h <;> (try cases h)
   obtain ⟨f,h1,h2⟩ := map_some h
   subst h2
   split at h1
   ·rename_i h1'
    simp only [Option.some.injEq] at h1
    subst h1
    exact ⟨rfl,fun d => vstoreE_val h1' d⟩
   ·refine ⟨rfl,fun d => ?_⟩
    unfold vstoreS at h1
    split at h1 <;> try cases h1
    all_goals
     split at h1 <;> simp only [Option.some.injEq,reduceCtorEq] at h1
     subst h1
     simp [stoSVV,detVV,attVV,stfVV,VV.on]
 have hsk : ∀ e,vskip N o = some e → (e.put.map (·.1)) = o.dst ∧ ∀ d,e.map (.val d) = .val d := by
  intro e h
  unfold vskip at h
  cases hd : o.dst with
  | some d =>
   rw [hd] at h
   simp only at h
   split at h <;> simp only [Option.some.injEq,reduceCtorEq] at h
   subst h
   exact ⟨rfl,fun _ => rfl⟩
  | none =>
   rw [hd] at h
   simp only [Option.some.injEq] at h
   subst h
   exact ⟨rfl,fun _ => rfl⟩
 unfold vact at h
 split at h
 ·exact hdo e h
 ·split at h <;> (try cases h)
  split at h
  case h_2 => exact hsk e h
  case h_3 => cases h
  split at h
  ·exact hdo e h
  ·exact hsk e h

theorem upd_comm {σ : Frm} {d d' : Nat} {x y : VV} (h : d ≠ d') : upd (upd σ d x) d' y = upd (upd σ d' y) d x := by
 funext s
 simp only [upd]
 by_cases h1 : s = d <;> by_cases h2 : s = d' <;> simp_all

theorem Eff.run_upd {e : Eff} {σ : Frm} {d : Nat} {x : VV} (h : ∀ d',e.put.map (·.1) = some d' → d' ≠ d) : e.run (upd σ d x) = upd (e.run σ) d (e.map x) := by
 unfold Eff.run
 cases hp : e.put with
 | none =>
  funext s
  simp only [upd]
  split <;> rfl
 | some q =>
  obtain ⟨d',y⟩ := q
  have hne := h d' (by simp [hp])
  have : (fun s => e.map (upd σ d x s)) = upd (fun s => e.map (σ s)) d (e.map x) := by
   funext s
   simp only [upd]
   split <;> rfl
  simp only [this]
  exact upd_comm (fun e => hne e.symm)

theorem Eff.run_at {e : Eff} {σ : Frm} {s : Nat} (h : ∀ d',e.put.map (·.1) = some d' → d' ≠ s) : e.run σ s = e.map (σ s) := by
 unfold Eff.run
 cases hp : e.put with
 | none => rfl
 | some q =>
  obtain ⟨d',y⟩ := q
  have hne := h d' (by simp [hp])
  simp only [upd]
  rw [if_neg (fun e => hne e.symm)]

theorem isMv_calm {o : Oper} {σ : Frm} (hm : isMv o = true) {d : Nat} {x : VV} (h : calm τ Φ N ops o σ = some (d,x)) :
  ∃ y,o.dst = some d ∧ x = ev σ y ∧ (∀ σ',calm τ Φ N ops o σ' = some (d,ev σ' y)) ∧ ((∃ s,y = .tmp s ∧ s ∈ o.looksAt ops) ∨ ∃ v,∀ σ',ev σ' y = .val v) := by
 have key : ∀ y,o.op = .move y → o.guard = none → ∀ d',o.dst = some d' → d' ∈ N → ∀ σ',calm τ Φ N ops o σ' = some (d',ev σ' y) := by
  intro y ho hg d' hd hN σ'
  simp [calm,hd,hN,hg,calmV,ho,vres]
 have hN : ∀ d',o.dst = some d' → d' ∈ N := by
  intro d' hd
  unfold calm at h
  rw [hd] at h
  simp only at h
  split at h
  ·assumption
  ·cases h
 unfold isMv at hm
 split at hm
 ·rename_i t d' hg ho hd
  have hk := key _ ho hg d' hd (hN d' hd)
  have := hk σ
  rw [h] at this
  simp only [Option.some.injEq,Prod.mk.injEq] at this
  obtain ⟨rfl,rfl⟩ := this
  exact ⟨.tmp t,hd,rfl,hk,.inl ⟨t,rfl,looks_op (by simp [Op.seen,ho,Op.operands])⟩⟩
 ·rename_i k n d' hg ho hd
  have hk := key _ ho hg d' hd (hN d' hd)
  have := hk σ
  rw [h] at this
  simp only [Option.some.injEq,Prod.mk.injEq] at this
  obtain ⟨rfl,rfl⟩ := this
  exact ⟨_,hd,rfl,hk,.inr ⟨.int k n,fun _ => rfl⟩⟩
 ·rename_i b d' hg ho hd
  have hk := key _ ho hg d' hd (hN d' hd)
  have := hk σ
  rw [h] at this
  simp only [Option.some.injEq,Prod.mk.injEq] at this
  obtain ⟨rfl,rfl⟩ := this
  exact ⟨_,hd,rfl,hk,.inr ⟨.bool b,fun _ => rfl⟩⟩
 ·cases hm

structure Way (ops : Array Oper) (n : Nat) (listed : Array Bool) (σ : Frm) : Prop where
 size : listed.size = ops.size
 closed : ∀ j oj,ops[j]? = some oj → listed.getD j false = true → ∀ e ∈ oj.after,Region.binds .any e = true → listed.getD e.on false = true
 fresh : ∀ j oj,ops[j]? = some oj → j < n → listed.getD j true = false → makesB oj = true → ∀ d,oj.dst = some d → ∀ s,(σ s).on d = false

theorem closed_set {listed : Array Bool} {i : Nat} (hc : ∀ j oj,ops[j]? = some oj → listed.getD j false = true → ∀ e ∈ oj.after,Region.binds .any e = true → listed.getD e.on false = true)
  (hi : i ∈ Region.ready .any ops listed) : ∀ j oj,ops[j]? = some oj → (listed.setIfInBounds i true).getD j false = true → ∀ e ∈ oj.after,Region.binds .any e = true → (listed.setIfInBounds i true).getD e.on false = true := by
 obtain ⟨_,oi,hoi,hall⟩ := mem_ready.1 hi
 intro j oj hj hl e he hb
 by_cases hij : i = j
 ·subst hij
  have : oj = oi := Option.some.inj (hj.symm.trans hoi)
  subst this
  exact getD_set_true (hall e he hb)
 ·rw [getD_set_ne false hij] at hl
  exact getD_set_true (hc j oj hj hl e he hb)

theorem dst_ne (hnd : (dsts ops.toList).Nodup) {i j : Nat} {oi oj : Oper} {d : Nat} (hi : ops[i]? = some oi) (hj : ops[j]? = some oj) (hdi : oi.dst = some d) (hdj : oj.dst = some d) : i = j := by
 have key : ∀ (l : List Oper),(dsts l).Nodup → ∀ (i j : Nat) (oi oj : Oper),l[i]? = some oi → l[j]? = some oj → oi.dst = some d → oj.dst = some d → i = j := by
  intro l
  induction l with
  | nil => intro _ i j oi oj hi; simp at hi
  | cons o l ih =>
   intro hn i j oi oj hi hj h1 h2
   have hmem : ∀ (k : Nat) (ok : Oper),l[k]? = some ok → ok.dst = some d → d ∈ dsts l := fun k ok hk hd => List.mem_filterMap.2 ⟨ok,List.mem_of_getElem? hk,hd⟩
   cases i with
   | zero =>
    simp only [List.getElem?_cons_zero,Option.some.injEq] at hi
    subst hi
    cases j with
    | zero => rfl
    | succ j =>
     simp only [List.getElem?_cons_succ] at hj
     simp only [dsts,List.filterMap_cons,h1] at hn
     exact absurd (hmem j oj hj h2) (List.nodup_cons.1 hn).1
   | succ i =>
    simp only [List.getElem?_cons_succ] at hi
    cases j with
    | zero =>
     simp only [List.getElem?_cons_zero,Option.some.injEq] at hj
     subst hj
     simp only [dsts,List.filterMap_cons,h2] at hn
     exact absurd (hmem i oi hi h1) (List.nodup_cons.1 hn).1
    | succ j =>
     simp only [List.getElem?_cons_succ] at hj
     have hn' : (dsts l).Nodup := by
      simp only [dsts,List.filterMap_cons] at hn
      split at hn
      ·exact hn
      ·exact (List.nodup_cons.1 hn).2
     rw [ih hn' i j oi oj hi hj h1 h2]
 exact key ops.toList hnd i j oi oj (by simpa using hi) (by simpa using hj) hdi hdj

theorem ord_spec {n : Nat} (h : ordB ops n = true) {i j : Nat} (hij : i < j) (hj : j < ops.size) (hjn : n ≤ j) : reachB ops ops.size j i = true ∨ (i < n ∧ ∀ oi,ops[i]? = some oi → isMv oi = true) := by
 have h1 := List.all_eq_true.1 h j (List.mem_range.2 hj)
 simp only [Bool.or_eq_true,decide_eq_true_eq] at h1
 rcases h1 with h1 | h1
 ·omega
 ·have h2 := List.all_eq_true.1 h1 i (List.mem_range.2 hij)
  simp only [Bool.or_eq_true,Bool.and_eq_true,decide_eq_true_eq] at h2
  rcases h2 with h2 | ⟨h2,h3⟩
  ·exact .inl h2
  ·refine .inr ⟨h2,fun oi hoi => ?_⟩
   rw [hoi] at h3
   exact h3

theorem Way.calm {n : Nat} {listed : Array Bool} {σ : Frm} (hw : Way ops n listed σ) (hnd : (dsts ops.toList).Nodup) (hnil : nilT ∉ dsts ops.toList) {i : Nat} {oi : Oper} (hi : ops[i]? = some oi) (hr : i ∈ Region.ready .any ops listed)
  {d : Nat} {x : VV} (h : calm τ Φ N ops oi σ = some (d,x)) (hd : oi.dst = some d) : Way ops n (listed.setIfInBounds i true) (upd σ d x) := by
 refine ⟨by simp [hw.size],closed_set hw.closed hr,fun j oj hj hjn hun hm d' hd' s => ?_⟩
 have hij : i ≠ j := by
  rintro rfl
  have hlt : i < listed.size := by rw [hw.size]; exact (Array.getElem?_eq_some_iff.1 hi).1
  simp [hlt] at hun
 rw [getD_set_ne true hij] at hun
 have hf := hw.fresh j oj hj hjn hun hm d' hd'
 simp only [upd]
 split
 ·cases he : x.on d' with
  | false => rfl
  | true =>
   rcases calm_on h d' he with e | e | ⟨s',hs'⟩
   ·exact absurd (dst_ne hnd hi hj (e ▸ hd) hd') hij
   ·exact absurd (e ▸ List.mem_filterMap.2 ⟨oj,by simpa using Array.mem_of_getElem? hj,hd'⟩) hnil
   ·rw [hf s'] at hs'; cases hs'
 ·exact hf s


theorem unlisted_of_ready {listed : Array Bool} {i : Nat} (h : i ∈ Region.ready .any ops listed) : listed.getD i true = false := (mem_ready.1 h).1

theorem getD_tf {listed : Array Bool} {i : Nat} (h : listed.getD i true = false) : listed.getD i false = false := by
 rcases Nat.lt_or_ge i listed.size with h' | h'
 ·simp [h'] at h ⊢; exact h
 ·simp [Array.getElem?_eq_none h'] at h

theorem tail_after {n : Nat} (hord : ordB ops n = true) {listed : Array Bool} {σ : Frm} (hw : Way ops n listed σ) {i j : Nat} (hij : i < j) (hjn : n ≤ j) (hj : j ∈ Region.ready .any ops listed)
  (hi : listed.getD i true = false) : i < n ∧ ∀ oi,ops[i]? = some oi → isMv oi = true := by
 obtain ⟨_,oj,hoj,hall⟩ := mem_ready.1 hj
 have hlt := (Array.getElem?_eq_some_iff.1 hoj).1
 rcases ord_spec hord hij hlt hjn with h | h
 ·have := reach_listed hw.closed ops.size j i oj hoj hall h
  rw [getD_tf hi] at this
  cases this
 ·exact h

theorem Way.tail {n : Nat} (hord : ordB ops n = true) {listed : Array Bool} {σ : Frm} (hw : Way ops n listed σ) {j : Nat} (hjn : n ≤ j) (hj : j ∈ Region.ready .any ops listed) (σ' : Frm) :
  Way ops n (listed.setIfInBounds j true) σ' := by
 refine ⟨by simp [hw.size],closed_set hw.closed hj,fun k ok hk hkn hun hm d hd s => ?_⟩
 exfalso
 have hkj : j ≠ k := by omega
 rw [getD_set_ne true hkj] at hun
 have := (tail_after hord hw (by omega) hjn hj hun).2 ok hk
 unfold isMv at this
 unfold makesB at hm
 split at this <;> simp_all


def vOrd (τ : TypeId → TK) (Φ : Orc) (N : Lim) (ops : Array Oper) (n : Nat) (Qf : Frm → Prop) : Nat → Array Bool → Frm → Prop
 | 0,listed,σ => Region.ready .any ops listed = [] ∧ Qf σ
 | fuel + 1,listed,σ => (Region.ready .any ops listed = [] → Qf σ) ∧
  ∀ i ∈ Region.ready .any ops listed,∃ o,ops[i]? = some o ∧
   ((i < n ∧ ∃ d x,calm τ Φ N ops o σ = some (d,x) ∧ vOrd τ Φ N ops n Qf fuel (listed.setIfInBounds i true) (upd σ d x)) ∨
    (n ≤ i ∧ ∃ e,vact τ Φ N ops o σ = some e ∧ vOrd τ Φ N ops n Qf fuel (listed.setIfInBounds i true) (e.run σ)))

theorem calm_dst {o : Oper} {σ : Frm} {d : Nat} {x : VV} (h : calm τ Φ N ops o σ = some (d,x)) : o.dst = some d := by
 unfold calm at h
 cases hd : o.dst with
 | none => rw [hd] at h; cases h
 | some d' =>
  rw [hd] at h
  simp only at h
  split at h <;> (try cases h)
  split at h
  ·obtain ⟨y,_,h2⟩ := map_some h
   simp only [Prod.mk.injEq] at h2
   rw [h2.1]
  ·split at h <;> (try cases h)
   split at h
   case h_2 =>
    simp only [Option.some.injEq,Prod.mk.injEq] at h
    rw [h.1]
   case h_3 => cases h
   split at h
   ·obtain ⟨y,_,h2⟩ := map_some h
    simp only [Prod.mk.injEq] at h2
    rw [h2.1]
   ·simp only [Option.some.injEq,Prod.mk.injEq] at h
    rw [h.1]

theorem wpAny_of_vOrd (hτ : TyOk P τ) (hΦ : Sound P Φ) {n : Nat} (hord : ordB ops n = true) (hnd : (dsts ops.toList).Nodup) (hnil : nilT ∉ dsts ops.toList) {R : Nat → Prop} {B : Nat → Prop} {w0 : W0} {Q : Exit → Act → World → Prop}
  (hQ : ∀ O σ a w,St R B w0 N O σ a w → Qf σ → Q .normal a w) : ∀ (fuel : Nat) (listed : Array Bool) (σ : Frm) (O : Own) (a : Act) (w : World),St R B w0 N O σ a w → Way ops n listed σ →
  vOrd τ Φ N ops n Qf fuel listed σ → wpAny P .any ops Q fuel listed a w
 | 0,_,_,_,_,_,hs,_,h => ⟨h.1,hQ _ _ _ _ hs h.2⟩
 | fuel + 1,listed,σ,O,a,w,hs,hway,h => by
  refine ⟨fun h0 => hQ _ _ _ _ hs (h.1 h0),fun i hi => ?_⟩
  obtain ⟨o,ho,hc⟩ := h.2 i hi
  have step : ∀ e σ',vact τ Φ N ops o σ = some e → e.run σ = σ' → Way ops n (listed.setIfInBounds i true) σ' → vOrd τ Φ N ops n Qf fuel (listed.setIfInBounds i true) σ' →
    wpOp P ops Q i (wpAny P .any ops Q fuel (listed.setIfInBounds i true)) a w := by
   intro e σ' hv hrun hway' hn
   subst hrun
   have hK : ∀ O' a' w',St R B w0 N O' (e.run σ) a' w' → wpAny P .any ops Q fuel (listed.setIfInBounds i true) a' w' := fun O' a' w' h' =>
    wpAny_of_vOrd hτ hΦ hord hnd hnil hQ fuel _ _ O' a' w' h' hway' hn
   have := vact_sound (Q := Q) hτ hΦ hs hv hK
   unfold wpOp
   rw [ho]
   simp only
   split
   ·rename_i hw; rw [if_pos hw] at this; exact .inl this
   ·rename_i hw; rw [if_neg hw] at this; exact this
  rcases hc with ⟨hin,d,x,hcalm,hn⟩ | ⟨hni,e,hv,hn⟩
  ·obtain ⟨hd,e,hv,hrun⟩ := calm_act hcalm fun hm d' hd' => hway.fresh i o ho hin (unlisted_of_ready hi) hm d' hd'
   exact step e _ hv hrun (hway.calm hnd hnil ho hi hcalm hd) hn
  ·exact step e _ hv rfl (hway.tail hord hni hi _) hn

theorem vOrd_first {n : Nat} (hord : ordB ops n = true) (hnd : (dsts ops.toList).Nodup) (hnil : nilT ∉ dsts ops.toList) {i : Nat} {oi : Oper} (hi : ops[i]? = some oi) (hin : i < n) :
  ∀ (fuel : Nat) (listed : Array Bool) (σ : Frm) (d : Nat) (x : VV),Way ops n listed σ →
   (∀ j oj,ops[j]? = some oj → j ≠ i → listed.getD j true = false → (∀ e ∈ oj.after,Region.binds .any e = true → e.on ≠ i) → oi.apart ops oj = true) →
   i ∈ Region.ready .any ops listed → calm τ Φ N ops oi σ = some (d,x) →
   vOrd τ Φ N ops n Qf fuel (listed.setIfInBounds i true) (upd σ d x) → vOrd τ Φ N ops n Qf (fuel + 1) listed σ := by
 intro fuel
 induction fuel with
 | zero =>
  intro listed σ d x _ _ hr hc H
  refine ⟨fun h => (by rw [h] at hr; cases hr),fun j hj => ?_⟩
  by_cases hji : j = i
  ·subst hji; exact ⟨oi,hi,.inl ⟨hin,d,x,hc,H⟩⟩
  ·have := ready_mono hj hji
   rw [H.1] at this
   cases this
 | succ fuel ih =>
  intro listed σ d x hway hfree hr hc H
  refine ⟨fun h => (by rw [h] at hr; cases hr),fun j hj => ?_⟩
  by_cases hji : j = i
  ·subst hji; exact ⟨oi,hi,.inl ⟨hin,d,x,hc,H⟩⟩
  ·obtain ⟨oj,hoj,hcase⟩ := H.2 j (ready_mono hj hji)
   obtain ⟨hjun,oj',hoj',hall⟩ := mem_ready.1 hj
   have : oj' = oj := Option.some.inj (hoj'.symm.trans hoj)
   subst this
   have hiun := unlisted_of_ready hr
   have hnot : ∀ e ∈ oj'.after,Region.binds .any e = true → e.on ≠ i := fun e he hb heq => by
    have h1 := hall e he hb
    rw [heq,getD_tf hiun] at h1
    cases h1
   obtain ⟨a1,a2,a3⟩ := Oper.apart_spec (hfree j oj' hoj hji hjun hnot)
   have hdi := calm_dst hc
   have hfree' : ∀ k ok,ops[k]? = some ok → k ≠ i → (listed.setIfInBounds j true).getD k true = false →
     (∀ e ∈ ok.after,Region.binds .any e = true → e.on ≠ i) → oi.apart ops ok = true := fun k ok hk hki hun hno => by
    refine hfree k ok hk hki ?_ hno
    by_cases hjk : j = k
    ·subst hjk; exact hjun
    ·rw [getD_set_ne true hjk] at hun; exact hun
   have hri : i ∈ Region.ready .any ops (listed.setIfInBounds j true) := ready_mono hr (Ne.symm hji)
   refine ⟨oj',hoj,?_⟩
   rcases hcase with ⟨hjn,d',x',hc',H'⟩ | ⟨hjn,e,hv,H'⟩
   ·left
    have hdj := calm_dst hc'
    have hcj : calm τ Φ N ops oj' σ = some (d',x') := by
     rw [← hc']
     refine calm_congr fun t ht => ?_
     have : t ≠ d := fun e => a1 d hdi (e ▸ ht)
     simp [upd,this]
    refine ⟨hjn,d',x',hcj,ih (listed.setIfInBounds j true) (upd σ d' x') d x (hway.calm hnd hnil hoj hj hcj hdj) hfree' hri ?_ ?_⟩
    ·rw [← hc]
     refine calm_congr fun t ht => ?_
     have : t ≠ d' := fun e => a3 d' hdj (e ▸ ht)
     simp [upd,this]
    ·have hne : d ≠ d' := fun e => a2 d hdi (e ▸ hdj)
     rw [Array.setIfInBounds_comm _ _ hji,upd_comm (fun e => hne e.symm)]
     exact H'
   ·right
    have hvj : vact τ Φ N ops oj' σ = some e := by
     rw [← hv]
     refine vact_congr fun t ht => ?_
     have : t ≠ d := fun e => a1 d hdi (e ▸ ht)
     simp [upd,this]
    obtain ⟨hput,hval⟩ := vact_put hvj
    have hmv := (tail_after hord hway (by omega) hjn hj hiun).2 oi hi
    obtain ⟨y,_,hxy,hcy,hy⟩ := isMv_calm hmv hc
    have hmap : ev (e.run σ) y = e.map x := by
     rw [hxy]
     rcases hy with ⟨s,rfl,hs⟩ | ⟨v,hv'⟩
     ·exact Eff.run_at fun d' hd' => by
       rw [hput] at hd'
       exact fun e => a3 d' hd' (e ▸ hs)
     ·rw [hv',hv']; exact (hval v).symm
    refine ⟨hjn,e,hvj,ih (listed.setIfInBounds j true) (e.run σ) d (e.map x) (hway.tail hord hjn hj _) hfree' hri (by rw [hcy,hmap]) ?_⟩
    rw [Array.setIfInBounds_comm _ _ hji,← Eff.run_upd (fun d' hd' => by rw [hput] at hd'; exact fun e => a2 d hdi (e ▸ hd'))]
    exact H'

noncomputable def vmix (τ : TypeId → TK) (Φ : Orc) (N : Lim) (ops : Array Oper) (n : Nat) : Nat → List Oper → Frm → Option Frm
 | _,[],σ => some σ
 | k,o :: r,σ =>
  if k < n then
   match calm τ Φ N ops o σ with
   | some (d,x) => vmix τ Φ N ops n (k + 1) r (upd σ d x)
   | none => none
  else
   match vact τ Φ N ops o σ with
   | some e => vmix τ Φ N ops n (k + 1) r (e.run σ)
   | none => none

theorem vOrd_lex {n : Nat} (hord : ordB ops n = true) (hnd : (dsts ops.toList).Nodup) (hnil : nilT ∉ dsts ops.toList) {σ' : Frm} (hQ : Qf σ') :
  ∀ (l : List Oper) (k : Nat) (listed : Array Bool) (σ : Frm),(∀ j,l[j]? = ops[k + j]?) → lexB ops l.length k listed = true → (∀ j,j < k → listed.getD j true = true) → Way ops n listed σ →
   vmix τ Φ N ops n k l σ = some σ' → vOrd τ Φ N ops n Qf l.length listed σ
 | [],k,listed,σ,_,hB,_,_,h => by
  simp only [vmix,Option.some.injEq] at h
  subst h
  exact ⟨by simpa [lexB] using hB,hQ⟩
 | o :: l,k,listed,σ,hl,hB,hpre,hway,h => by
  have h0 : ops[k]? = some o := by simpa using (hl 0).symm
  have hksz : k < ops.size := (Array.getElem?_eq_some_iff.1 h0).1
  simp only [List.length_cons,lexB,Bool.and_eq_true] at hB
  obtain ⟨⟨hr,hf⟩,hB'⟩ := hB
  have hr' : k ∈ Region.ready .any ops listed := by simpa using hr
  have hpre' : ∀ j,j < k + 1 → (listed.setIfInBounds k true).getD j true = true := by
   intro j hj
   by_cases e : k = j
   ·subst e
    have : k < listed.size := by rw [hway.size]; exact hksz
    simp [this]
   ·rw [getD_set_ne true e]; exact hpre j (by omega)
  have hl' : ∀ j,l[j]? = ops[k + 1 + j]? := fun j => by have := hl (j + 1); simpa [Nat.add_assoc,Nat.add_comm 1 j] using this
  simp only [vmix] at h
  split at h
  ·rename_i hkn
   split at h <;> (try cases h)
   rename_i d x hc
   have hd := calm_dst hc
   exact vOrd_first hord hnd hnil h0 hkn l.length listed σ d x hway (Region.free_spec h0 hf) hr' hc
    (vOrd_lex hord hnd hnil hQ l (k + 1) _ _ hl' hB' hpre' (hway.calm hnd hnil h0 hr' hc hd) h)
  ·rename_i hkn
   split at h <;> (try cases h)
   rename_i e hv
   have rest := vOrd_lex hord hnd hnil hQ l (k + 1) _ _ hl' hB' hpre' (hway.tail hord (by omega) hr' (e.run σ)) h
   refine ⟨fun h1 => (by rw [h1] at hr'; cases hr'),fun j hj => ?_⟩
   have hjk : j = k := by
    rcases Nat.lt_trichotomy j k with hlt | heq | hgt
    ·have h1 := unlisted_of_ready hj
     rw [hpre j hlt] at h1
     cases h1
    ·exact heq
    ·have := (tail_after hord hway hgt (by omega) hj (unlisted_of_ready hr')).1
     omega
   subst hjk
   exact ⟨o,h0,.inr ⟨by omega,e,hv,rest⟩⟩

def newDs (l : List Oper) : List Nat := (l.filter makesB).filterMap (·.dst)

def freshB (ds : List Nat) (l : List (Nat × VV)) : Bool := ds.all fun d => l.all fun q => !(q.2.on d)

theorem mk_on {l : List (Nat × VV)} {d : Nat} (h : ∀ q ∈ l,q.2.on d = false) (s : Nat) : (mk l s).on d = false := by
 induction l with
 | nil => rfl
 | cons q r ih =>
  obtain ⟨k,v⟩ := q
  simp only [mk_cons]
  split
  ·exact h (k,v) (by simp)
  ·exact ih fun q hq => h q (by simp [hq])

theorem VW.regD (hτ : TyOk P τ) (hΦ : Sound P Φ) (hm : P.follows .mixedOrders = true) (ks : List Nat) {id : Nat} {l : List Oper} (n : Nat) {fl : List (Nat × VV)} {Q : Exit → Frm → Prop}
  (hB : drawB l.toArray n = true) (hf : freshB (newDs (l.take n)) fl = true)
  (h : After (vmix τ Φ N l.toArray n 0 l (mk fl)) fun σ' => Q .normal (keep ks σ')) : VW P N (.region id l.toArray true) (mk fl) Q := by
 cases hv : vmix τ Φ N l.toArray n 0 l (mk fl) with
 | none => rw [hv] at h; exact h.elim
 | some σ' =>
  rw [hv] at h
  simp only [drawB,Bool.and_eq_true,decide_eq_true_eq] at hB
  obtain ⟨⟨⟨⟨hnsz,hord⟩,hlex⟩,hnd⟩,hnil⟩ := hB
  intro R B w0 O a w hs
  refine wp_region_any hm ?_
  have hway : Way l.toArray n (Array.replicate l.toArray.size false) (mk fl) := by
   refine ⟨by simp,fun j oj _ hl => ?_,fun j oj hj hjn _ hmk d hd s => ?_⟩
   ·exfalso
    rcases Nat.lt_or_ge j l.length with h1 | h1 <;> simp [h1] at hl
   ·refine mk_on (fun q hq => ?_) s
    have hmem : d ∈ newDs (l.take n) := by
     refine List.mem_filterMap.2 ⟨oj,List.mem_filter.2 ⟨?_,hmk⟩,hd⟩
     have hj' : l[j]? = some oj := by simpa using hj
     exact List.mem_of_getElem? (l := l.take n) (i := j) (by rw [List.getElem?_take_of_lt hjn]; exact hj')
    have := List.all_eq_true.1 hf d hmem
    have := List.all_eq_true.1 this q hq
    simpa using this
  have hord' := vOrd_lex (Qf := fun σ => σ = σ') hord hnd hnil rfl l 0 (Array.replicate l.toArray.size false) (mk fl) (by simp) (by simpa using hlex) (fun j hj => absurd hj (Nat.not_lt_zero _)) hway hv
  have hsz : l.length = l.toArray.size := by simp
  rw [hsz] at hord'
  exact wpAny_of_vOrd hτ hΦ hord hnd hnil (fun O σ a w hst hq => ⟨O,_,hst.forget (fun s => by rw [← hq]; exact keep_spec ks σ s),h⟩) _ _ _ O a _ hs.drew hway hord'

theorem VW.sd (hτ : TyOk P τ) (hΦ : Sound P Φ) (hm : P.follows .mixedOrders = true) (ks : List Nat) {id : Nat} {l : List Oper} (n : Nat) {fl : List (Nat × VV)} {y : Code} {Q : Exit → Frm → Prop}
  (hB : drawB l.toArray n = true) (hf : freshB (newDs (l.take n)) fl = true)
  (h : ∀ K : Frm → Prop,(∀ σ,VW P N y σ Q → K σ) → After (vmix τ Φ N l.toArray n 0 l (mk fl)) fun σ' => K (keep ks σ')) :
  VW P N (.seq (.region id l.toArray true) y) (mk fl) Q :=
 VW.seq (VW.regD hτ hΦ hm ks n hB hf (h _ fun _ hh => hh))

end
end Go.Vam
