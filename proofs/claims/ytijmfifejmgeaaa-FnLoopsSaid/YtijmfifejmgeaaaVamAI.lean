/- Closures: how they are made, and called. -/
import Derived.Test.YtijmfifejmgeaaaVamAH
namespace Go.Vam
open Go Go.RowKit
set_option linter.unusedSimpArgs false
set_option linter.unusedVariables false

def VV.cap : VV → Option Cap
 | .ref t [] true (.ptr _) => some (Cap.tok t)
 | .cel t _ _ => some (Cap.tok t)
 | .val d => some (Cap.dat d)
 | _ => none
def capsOf (σ : Frm) : List Operand → Option (List Cap)
 | [] => some []
 | x :: r => match (ev σ x).cap,capsOf σ r with
  | some c,some cs => some (c :: cs)
  | _,_ => none
def Cap.tk : Cap → Option Nat
 | .tok t => some t
 | .dat _ => none
def capTs (cc : List Cap) : List Nat := cc.filterMap Cap.tk
def capIx (t : Nat) : List Cap → Nat → Option Nat
 | [],_ => none
 | c :: r,k => if c.tk = some t then some k else capIx t r (k + 1)
theorem capIx_some {t : Nat} : ∀ {cc : List Cap} {k j : Nat},capIx t cc k = some j → k ≤ j ∧ cc[j - k]? = some (Cap.tok t)
 | [],_,_,h => by cases h
 | c :: r,k,j,h => by
  unfold capIx at h
  split at h
  ·rename_i hc
   simp only [Option.some.injEq] at h
   subst h
   cases c with
   | tok r => simp only [Cap.tk,Option.some.injEq] at hc; subst hc; simp
   | dat d => cases hc
  ·obtain ⟨h1,h2⟩ := capIx_some h
   refine ⟨by omega,?_⟩
   have : j - k = (j - (k + 1)) + 1 := by omega
   rw [this]; simpa using h2
theorem capIx_none {t : Nat} : ∀ {cc : List Cap} {k : Nat},capIx t cc k = none → ∀ i : Nat,cc[i]? ≠ some (Cap.tok t)
 | [],_,_,i => by simp
 | c :: r,k,h,i => by
  unfold capIx at h
  split at h
  ·cases h
  ·rename_i hc
   cases i with
   | zero => intro e; simp only [List.getElem?_cons_zero,Option.some.injEq] at e; subst e; exact hc rfl
   | succ i => simpa using capIx_none h i
theorem mem_capTs {cc : List Cap} {t : Nat} : t ∈ capTs cc ↔ ∃ k : Nat,cc[k]? = some (Cap.tok t) := by
 constructor
 ·intro h
  obtain ⟨c,h1,h2⟩ := List.mem_filterMap.1 h
  obtain ⟨k,hk⟩ := List.mem_iff_getElem?.1 h1
  cases c with
  | tok r => simp only [Cap.tk,Option.some.injEq] at h2; subst h2; exact ⟨k,hk⟩
  | dat d => cases h2
 ·rintro ⟨k,hk⟩
  exact List.mem_filterMap.2 ⟨_,List.mem_of_getElem? hk,rfl⟩
theorem cap_uniq : ∀ {cc : List Cap},(capTs cc).Nodup → ∀ {i j t : Nat},cc[i]? = some (Cap.tok t) → cc[j]? = some (Cap.tok t) → i = j
 | [],_,i,j,t,h,_ => by simp at h
 | c :: r,hn,i,j,t,h1,h2 => by
  have hr : (capTs r).Nodup := by
   unfold capTs at hn ⊢
   rw [List.filterMap_cons] at hn
   split at hn
   ·exact hn
   ·exact (List.nodup_cons.1 hn).2
  have hno : ∀ m : Nat,c = .tok t → r[m]? ≠ some (Cap.tok t) := by
   intro m hc hm
   subst hc
   unfold capTs at hn
   rw [List.filterMap_cons] at hn
   simp only [Cap.tk] at hn
   exact (List.nodup_cons.1 hn).1 (mem_capTs.2 ⟨m,hm⟩)
  cases i with
  | zero => cases j with
   | zero => rfl
   | succ j => simp only [List.getElem?_cons_zero,Option.some.injEq,List.getElem?_cons_succ] at h1 h2; exact absurd h2 (hno j h1)
  | succ i => cases j with
   | zero => simp only [List.getElem?_cons_zero,Option.some.injEq,List.getElem?_cons_succ] at h1 h2; exact absurd h1 (hno i h2)
   | succ j => simp only [List.getElem?_cons_succ] at h1 h2; rw [cap_uniq hr h1 h2]

def CapOk (fl : FL) (f : FuncId) (cc : List Cap) : Cap → CapK → Prop
 | .tok t,.own xs => ∃ s,mk fl s = .ref t [] true (.ptr xs)
 | .tok t,.self => ∃ s,mk fl s = .cel t f cc
 | .dat d,.fro d' => d = d'
 | _,_ => False
def CapAs : Cap → CapK → Prop
 | .tok _,.own _ => True
 | .tok _,.self => True
 | .dat _,.fro _ => True
 | _,_ => False
inductive All2 {α β : Type} (r : α → β → Prop) : List α → List β → Prop
 | nil : All2 r [] []
 | cons {a : α} {b : β} {as : List α} {bs : List β} (h : r a b) (t : All2 r as bs) : All2 r (a :: as) (b :: bs)
theorem All2.len {α β : Type} {r : α → β → Prop} {as : List α} {bs : List β} (h : All2 r as bs) : as.length = bs.length := by
 induction h with
 | nil => rfl
 | cons _ _ ih => simp [ih]
theorem All2.at {α β : Type} {r : α → β → Prop} {as : List α} {bs : List β} (h : All2 r as bs) : ∀ {k : Nat} {a : α} {b : β},as[k]? = some a → bs[k]? = some b → r a b := by
 induction h with
 | nil => intro k a b h1; simp at h1
 | cons h _ ih =>
  intro k a b h1 h2
  cases k with
  | zero => simp only [List.getElem?_cons_zero,Option.some.injEq] at h1 h2; subst h1; subst h2; exact h
  | succ k => exact ih (by simpa using h1) (by simpa using h2)

theorem mk_fix {us : List (Nat × Nat × Nat × CapK)} {f : FuncId} {cc : List Cap} {r : FL} (s : Nat) : (∃ q ∈ us,q.1 = s ∧ mk (us.map (fun q => (q.1,capV f cc q.2.1 q.2.2.2)) ++ r) s = capV f cc q.2.1 q.2.2.2) ∨
  mk (us.map (fun q => (q.1,capV f cc q.2.1 q.2.2.2)) ++ r) s = mk r s := by
 induction us with
 | nil => exact .inr rfl
 | cons q us ih =>
  simp only [List.map_cons,List.cons_append,mk_cons]
  by_cases h : s = q.1
  ·exact .inl ⟨q,by simp,h.symm,by rw [if_pos h]⟩
  ·rw [if_neg h]
   rcases ih with ⟨q',h1,h2,h3⟩ | h1
   ·exact .inl ⟨q',by simp [h1],h2,h3⟩
   ·exact .inr h1

theorem mk_same {sl : List Nat} {x : VV} {r : FL} (s : Nat) : mk (sl.map (fun s => (s,x)) ++ r) s = if s ∈ sl then x else mk r s := by
 induction sl with
 | nil => simp
 | cons t sl ih =>
  simp only [List.map_cons,List.cons_append,mk_cons,List.mem_cons,ih]
  by_cases h : s = t
  ·simp [h]
  ·simp [h]

section
variable {P : Program} {N : Lim} {τ : TypeId → TK}

theorem caps_rd {R B : Nat → Prop} {w0 : W0} {O : Own} {σ : Frm} {a : Act} {w : World} (h : St R B w0 N O σ a w) : ∀ (xs : List Operand) (cs : List Cap),capsOf σ xs = some cs →
  xs.length = cs.length ∧ ∀ i (hi : i < cs.length),∃ u,(xs.map a.eval)[i]? = some u ∧ CapR R w O cs[i] u
 | [],cs,hx => by
  simp only [capsOf,Option.some.injEq] at hx
  subst hx
  exact ⟨rfl,fun i hi => absurd hi (by simp)⟩
 | x :: r,cs,hx => by
  unfold capsOf at hx
  split at hx <;> simp only [Option.some.injEq,reduceCtorEq] at hx
  rename_i c cs' hc hcs
  subst hx
  obtain ⟨h1,h2⟩ := caps_rd h r cs' hcs
  refine ⟨by simp [h1],fun i hi => ?_⟩
  cases i with
  | zero =>
   refine ⟨a.eval x,by simp,?_⟩
   have hr := rel_ev h x
   generalize ev σ x = y at hc hr
   generalize a.eval x = u at hr ⊢
   unfold VV.cap at hc
   split at hc <;> simp only [Option.some.injEq,reduceCtorEq] at hc
   ·subst hc
    rename_i t xs
    cases (hr : OwnU w O t [] u (.ptr xs)) with
    | ptr _ g cur E _ vs q1 q2 q3 q4 q5 => exact ⟨g,rfl,q1⟩
   ·subst hc
    obtain ⟨g,cur,E,cv,q1,q2,_⟩ := hr
    exact ⟨g,q1,q2⟩
   ·subst hc
    exact hr
  | succ i =>
   obtain ⟨u,h3,h4⟩ := h2 i (by simpa using hi)
   exact ⟨u,by simpa using h3,by simpa using h4⟩

theorem step_mkf {o : Oper} {f : FuncId} {caps : Array Operand} {d : Nat} {fl : FL} {cs : List Cap} (ho : o.op = .makeFunc (.func f) #[] caps) (hd : o.dst = some d) (hN : d ∈ N) (hc : capsOf (mk fl) caps.toList = some cs) :
  OStep P N o (mk fl) (fun _ : Unit => mk ((d,.clo f cs) :: fl)) (fun _ => True) := by
 intro R B w0 O a w K Q h hK
 obtain ⟨h1,h2⟩ := caps_rd h caps.toList cs hc
 have hrun : (execOp a.eval o).run P w = .ok (.value (.func (.func f) #[] (caps.map a.eval))) w := by
  simp [execOp,ho,Instr.makeFunc]
 unfold Oper.wp
 rw [hrun]
 simp only [Oper.upon]
 rw [hd]
 have hm : Made R B w w O O [] (.clo f cs) (.func (.func f) #[] (caps.map a.eval)) := by
  refine ⟨Keeps.refl _ _ _,.refl _ _,h.own,h.inj,⟨caps.map a.eval,rfl,by rw [← Array.length_toList,Array.toList_map,List.length_map]; exact h1,fun i hi => ?_⟩⟩
  obtain ⟨u,h3,h4⟩ := h2 i hi
  exact ⟨u,by rw [← Array.getElem?_toList,Array.toList_map]; exact h3,h4⟩
 have h' := h.made hm hN
 rw [killl_nil] at h'
 have e : upd (mk fl) d (.clo f cs) = mk ((d,.clo f cs) :: fl) := (mk_upd d _ fl).symm
 rw [e] at h'
 exact hK () O _ w trivial h'

def vals0 (σ : Frm) : List Operand → Option (List D)
 | [] => some []
 | .const (.slice none 0 0) :: r => (vals0 σ r).map fun ds => .list [] :: ds
 | x :: r => match ev σ x,vals0 σ r with
  | .val d,some ds => some (d :: ds)
  | _,_ => none
theorem vals0_rd {R B : Nat → Prop} {w0 : W0} {O : Own} {σ : Frm} {a : Act} {w : World} (h : St R B w0 N O σ a w) : ∀ (xs : List Operand) (ds : List D),vals0 σ xs = some ds →
  xs.length = ds.length ∧ ∀ i (hi : i < ds.length),∃ v,(xs.map a.eval)[i]? = some v ∧ Rd w (Fro R O w) v ds[i]
 | [],ds,hd => by
  simp only [vals0,Option.some.injEq] at hd; subst hd
  exact ⟨rfl,fun i hi => absurd hi (by simp)⟩
 | x :: r,ds,hd => by
  unfold vals0 at hd
  split at hd
  ·cases ‹_ :: _ = []›
  ·rename_i heq
   simp only [List.cons.injEq] at heq
   obtain ⟨rfl,rfl⟩ := heq
   obtain ⟨ds',h2,rfl⟩ := Option.map_eq_some_iff.1 hd
   obtain ⟨e,ih⟩ := vals0_rd h r ds' h2
   refine ⟨by simp [e],fun i hi => ?_⟩
   cases i with
   | zero => exact ⟨.slice none 0 0,rfl,.empty none 0⟩
   | succ i => exact ih i (by simpa using hi)
  ·rename_i heq
   simp only [List.cons.injEq] at heq
   obtain ⟨rfl,rfl⟩ := heq
   split at hd
   ·rename_i d ds' h1 h2
    simp only [Option.some.injEq] at hd; subst hd
    obtain ⟨e,ih⟩ := vals0_rd h r ds' h2
    refine ⟨by simp [e],fun i hi => ?_⟩
    cases i with
    | zero => exact ⟨a.eval x,rfl,rel_tmp h x h1⟩
    | succ i => exact ih i (by simpa using hi)
   ·cases hd

theorem step_clo {o : Oper} {f : FuncId} {as : Array Operand} {tt : Array TypeId} {sc d : Nat} {fl : FL} {cc : List Cap} {ds : List D} {cs cs' : List CapK} (us : List (Nat × Nat × Nat × CapK)) (sl : List Nat)
  (ho : o.op = .call ⟨.value (.tmp sc),as,tt⟩) (hd : o.dst = some d) (hN : d ∈ N) (hc : mk fl sc = .clo f cc) (hds : vals0 (mk fl) as.toList = some ds) (hv : VClo P f ds cs cs')
  (hcap : All2 (CapOk fl f cc) cc cs) (hout : All2 CapAs cc cs') (hnod : (capTs cc).Nodup)
  (hus : ∀ q ∈ us,cc[q.2.2.1]? = some (Cap.tok q.2.1) ∧ cs'[q.2.2.1]? = some q.2.2.2 ∧ q.2.2.2.mutB = true ∧ ((∃ xs,mk fl q.1 = .ref q.2.1 [] true (.ptr xs)) ∨ mk fl q.1 = .cel q.2.1 f cc)) (hsl : ∀ s ∈ sl,mk fl s = .clo f cc) :
  OStep P N o (mk fl) (fun _ : Unit => mk ((d,.dead) :: (sl.map (fun s => (s,VV.clo f cc)) ++ (us.map (fun q => (q.1,capV f cc q.2.1 q.2.2.2)) ++ fl.map fun q => (q.1,kmap (capTs cc) q.2))))) (fun _ => True) := by
 intro R B w0 O a w K Q h hK
 obtain ⟨hcall,hv⟩ := hv
 have hclo : CloR R w O f cc (a.eval (.tmp sc)) := by
  have := rel_ev h (.tmp sc)
  have hev : ev (mk fl) (.tmp sc) = .clo f cc := hc
  rw [hev] at this
  exact this
 obtain ⟨cvs,hce,hcsz,hcv⟩ := hclo
 obtain ⟨hlen,hvals⟩ := vals0_rd h as.toList ds hds
 have hrun : (execOp a.eval o).run P w = .ok (.enter f (as.map a.eval ++ cvs)) w := by
  simp only [execOp,ho,resolve,hce,Deferred.ofValue]
  simp [invoke,hcall]
 unfold Oper.wp
 rw [hrun]
 simp only [Oper.upon]
 have hasz : (as.map a.eval).size = ds.length := by rw [← Array.length_toList,Array.toList_map,List.length_map]; exact hlen
 have hl1 := hcap.len
 have hl2 := hout.len
 let C : Own := fun g => match O g with
  | some (t,q) => (capIx t cc 0).map fun k => (ds.length + k,q)
  | none => none
 have hCs : ∀ g y,C g = some y → ∃ t k q,O g = some (t,q) ∧ cc[k]? = some (Cap.tok t) ∧ y = (ds.length + k,q) := by
  intro g y hg
  simp only [C] at hg
  split at hg
  ·rename_i t q hO
   obtain ⟨k,h1,h2⟩ := Option.map_eq_some_iff.1 hg
   exact ⟨t,k,q,hO,by simpa using (capIx_some h1).2,h2.symm⟩
  ·cases hg
 have hCo : ∀ (g t : Nat) (q : List Nat) (k : Nat),O g = some (t,q) → cc[k]? = some (Cap.tok t) → C g = some (ds.length + k,q) := by
  intro g t q k hO hk
  simp only [C,hO]
  cases hx : capIx t cc 0 with
  | none => exact absurd hk (capIx_none hx k)
  | some j =>
   have := cap_uniq hnod (by simpa using (capIx_some hx).2) hk
   subst this; rfl
 have hCn : ∀ g t q,O g = some (t,q) → t ∉ capTs cc → C g = none := by
  intro g t q hO ht
  cases hx : C g with
  | none => rfl
  | some y =>
   obtain ⟨t',k,q',h1,h2,_⟩ := hCs g y hx
   rw [hO] at h1
   simp only [Option.some.injEq,Prod.mk.injEq] at h1
   exact absurd (mem_capTs.2 ⟨k,h1.1 ▸ h2⟩) ht
 have hC0 : ∀ g,O g = none → C g = none := fun g hg => by simp only [C,hg]
 have hptr : ∀ {s t : Nat} {xs : List D} {u : Value},mk fl s = .ref t [] true (.ptr xs) → CapR R w O (.tok t) u → a.tmps.getD s undef = u ∧ OwnU w O t [] u (.ptr xs) := by
  intro s t xs u hs hu
  have hr := h.slots s
  rw [hs] at hr
  obtain ⟨g,rfl,hO⟩ := hu
  generalize a.tmps.getD s undef = v at hr ⊢
  have hr0 : OwnU w O t [] v (.ptr xs) := hr
  cases hr0 with
  | ptr _ g' cur E _ vs q1 q2 q3 q4 q5 =>
   have := h.inj g' g _ q1 hO
   subst this
   exact ⟨rfl,hr⟩
 have hcel : ∀ {s t : Nat} {u : Value},mk fl s = .cel t f cc → CapR R w O (.tok t) u → a.tmps.getD s undef = u ∧ Rel R w O (.cel t f cc) u := by
  intro s t u hs hu
  have hr := h.slots s
  rw [hs] at hr
  obtain ⟨g,rfl,hO⟩ := hu
  obtain ⟨g',cur,E,cv,q1,q2,q3⟩ := hr
  have := h.inj g' g _ q2 hO
  subst this
  exact ⟨q1,g',cur,E,cv,rfl,q2,q3⟩
 have hccat : ∀ (i : Nat) (hi : i < cs.length) (hi' : i < (capsAs ds.length cs).length),(capsAs ds.length cs)[i] = capAs (ds.length + i) cs[i] := fun i hi hi' => capsAs_at cs ds.length i hi hi'
 have hcclen : (capsAs ds.length cs).length = cs.length := capsAs_len cs ds.length
 have hinC : ∀ {cv : Value},CloR R w O f cc cv → CloR (Fro R O w) w C f (capsAs ds.length cs) cv := by
  rintro cv ⟨vs',q1,q2,q3⟩
  refine ⟨vs',q1,by omega,fun i hi => ?_⟩
  have hi1 : i < cc.length := by omega
  have hi2 : i < cs.length := by omega
  obtain ⟨u',q4,q5⟩ := q3 i hi1
  refine ⟨u',q4,?_⟩
  rw [hccat i hi2 hi]
  have hok := hcap.at (List.getElem?_eq_getElem hi1) (List.getElem?_eq_getElem hi2)
  have e1 : cc[i]? = some cc[i] := List.getElem?_eq_getElem hi1
  generalize cc[i] = c at q5 hok e1
  generalize cs[i] = c' at hok ⊢
  cases c <;> cases c' <;> simp only [CapOk] at hok
  ·obtain ⟨g,q6,q7⟩ := q5
   exact ⟨g,q6,hCo g _ _ i q7 e1⟩
  ·obtain ⟨g,q6,q7⟩ := q5
   exact ⟨g,q6,hCo g _ _ i q7 e1⟩
  ·subst hok
   exact (q5 : Rd w (Fro R O w) u' _).keep (fun g hg => ⟨hC0 g hg.1,hg.2.1,hg⟩) fun _ _ => rfl
 have key := hv w (Fro R O w) C (as.map a.eval) cvs (fun g hg => ⟨hg.2.1,hC0 g hg.1⟩)
  (fun g y hg => by obtain ⟨t,k,q,h1,_⟩ := hCs g y hg; exact (h.own g _ h1).2)
  (fun g g' y h1 h2 => by
   obtain ⟨t,k,q,a1,a2,rfl⟩ := hCs g y h1
   obtain ⟨t',k',q',b1,b2,b3⟩ := hCs g' _ h2
   simp only [Prod.mk.injEq] at b3
   obtain ⟨b3,rfl⟩ := b3
   have : k = k' := by omega
   subst this
   rw [a2] at b2
   simp only [Option.some.injEq,Cap.tok.injEq] at b2
   subst b2
   exact h.inj g g' _ a1 b1)
  hasz (by rw [hcsz,hl1])
  (fun i hi => by
   obtain ⟨u,h1,h2⟩ := hvals i hi
   refine ⟨u,?_,h2⟩
   rw [← Array.getElem?_toList,Array.toList_map]; exact h1)
  (fun k hk => by
   have hkc : k < cc.length := by omega
   obtain ⟨u,h1,h2⟩ := hcv k hkc
   refine ⟨u,h1,?_⟩
   have hok := hcap.at (List.getElem?_eq_getElem hkc) (List.getElem?_eq_getElem hk)
   have e1 : cc[k]? = some cc[k] := List.getElem?_eq_getElem hkc
   generalize cc[k] = c at h2 hok e1
   generalize cs[k] = c' at hok ⊢
   cases c <;> cases c' <;> simp only [CapOk] at hok
   ·obtain ⟨s,hs⟩ := hok
    rename_i t xs
    exact OwnU.keep (hptr hs h2).2 [] fun g q hg => ⟨hCo g t _ k hg e1,rfl⟩
   ·obtain ⟨s,hs⟩ := hok
    rename_i t
    obtain ⟨g,cur,E,cv,q1,q2,q3,q4,q5,q6⟩ := (hcel hs h2).2
    exact ⟨g,cur,E,cv,q1,hCo g t _ k q2 e1,q3,q4,q5,hinC q6⟩
   ·subst hok
    exact (h2 : Rd w (Fro R O w) u _).keep (fun g hg => ⟨hC0 g hg.1,hg.2.1,hg⟩) fun _ _ => rfl)
 refine key.mono ?_
 rintro e w' ⟨y,C',rfl,hb,hC1,hC2,hlc,hres⟩
 simp only
 rw [hd]
 let bk : Nat → Option Nat := fun r => if ds.length ≤ r then (match cc[r - ds.length]? with
  | some (.tok t) => some t
  | _ => none) else none
 have hbk : ∀ (k t : Nat),cc[k]? = some (Cap.tok t) → bk (ds.length + k) = some t := by
  intro k t hk
  simp only [bk,if_pos (Nat.le_add_right _ _),Nat.add_sub_cancel_left,hk]
 have hbk' : ∀ r t,bk r = some t → ∃ k : Nat,r = ds.length + k ∧ cc[k]? = some (Cap.tok t) := by
  intro r t hr
  simp only [bk] at hr
  split at hr
  ·split at hr <;> simp only [Option.some.injEq,reduceCtorEq] at hr
   subst hr
   rename_i h1 _ h2
   exact ⟨r - ds.length,by omega,h2⟩
  ·cases hr
 let O' : Own := fun g => if g < w.heap.size ∧ C g = none then O g else (match C' g with
  | some (r,q) => (bk r).map fun t => (t,q)
  | none => none)
 have hold : ∀ g,g < w.heap.size → C g = none → O' g = O g := fun g h1 h2 => by simp only [O',if_pos (⟨h1,h2⟩ : g < w.heap.size ∧ C g = none)]
 have hneu : ∀ g r q t,C' g = some (r,q) → bk r = some t → O' g = some (t,q) := by
  intro g r q t hg ht
  have h1 : ¬ (g < w.heap.size ∧ C g = none) := fun hc => by rcases (hC1 g _ hg).1 with h2 | h2; exact h2 hc.2; omega
  simp only [O',if_neg h1,hg,ht]; rfl
 have hinv : ∀ g z,O' g = some z → (g < w.heap.size ∧ C g = none ∧ O g = some z) ∨ (∃ k : Nat,C' g = some (ds.length + k,z.2) ∧ cc[k]? = some (Cap.tok z.1)) := by
  intro g z hz
  by_cases hc : g < w.heap.size ∧ C g = none
  ·rw [hold g hc.1 hc.2] at hz; exact .inl ⟨hc.1,hc.2,hz⟩
  ·simp only [O',if_neg hc] at hz
   split at hz
   ·rename_i r q hr
    obtain ⟨t,h1,h2⟩ := Option.map_eq_some_iff.1 hz
    obtain ⟨k,rfl,h3⟩ := hbk' r t h1
    subst h2
    exact .inr ⟨k,hr,h3⟩
   ·cases hz
 have hke : Keeps w w' O O' (fun r => r ∈ capTs cc) := ⟨hb.size,fun g hg hO => ⟨by rw [hold g hg (hC0 g hO)]; exact hO,hb.block g ⟨hg,hC0 g hO⟩⟩,fun g r q hO hr => by
  have h1 := (h.own g _ hO).2
  have h2 := hCn g r q hO hr
  exact ⟨by rw [hold g h1 h2]; exact hO,hb.block g ⟨h1,h2⟩⟩⟩
 have hBC : ∀ g,B g → g < w.heap.size ∧ C g = none := fun g hg => ⟨h.base g hg,by
  cases hx : C g with
  | none => rfl
  | some y => obtain ⟨t,k,q,h1,_⟩ := hCs g y hx; exact absurd hg (h.own g _ h1).1⟩
 have hfro' : ∀ b,Fro (fun g => Fro R O w g ∨ ¬ (g < w.heap.size ∧ C g = none)) C' w' b → Fro R O' w' b := by
  intro b hg
  refine ⟨?_,hg.2.1,?_⟩
  ·by_cases hc : b < w.heap.size ∧ C b = none
   ·rw [hold b hc.1 hc.2]
    rcases hg.2.2 with h1 | h1
    ·exact h1.1
    ·exact absurd hc h1
   ·simp only [O',if_neg hc,hg.1]
  ·rcases hg.2.2 with h1 | h1
   ·exact h1.2.2
   ·by_cases hbs : b < w.heap.size
    ·cases hcb : C b with
     | none => exact absurd ⟨hbs,hcb⟩ h1
     | some z => obtain ⟨t,k,q,h2,_⟩ := hCs b z hcb; exact h.fresh b (h.own b _ h2).1
    ·exact h.fresh b (h.newB (by omega))
 have houtC : ∀ {cv : Value},CloR (fun g => Fro R O w g ∨ ¬ (g < w.heap.size ∧ C g = none)) w' C' f (capsAs ds.length cs) cv → CloR R w' O' f cc cv := by
  rintro cv ⟨vs',q1,q2,q3⟩
  refine ⟨vs',q1,by omega,fun i hi => ?_⟩
  have hi1 : i < (capsAs ds.length cs).length := by omega
  have hi2 : i < cs.length := by omega
  obtain ⟨u',q4,q5⟩ := q3 i hi1
  refine ⟨u',q4,?_⟩
  rw [hccat i hi2 hi1] at q5
  have hok := hcap.at (List.getElem?_eq_getElem hi) (List.getElem?_eq_getElem hi2)
  have e1 : cc[i]? = some cc[i] := List.getElem?_eq_getElem hi
  generalize cc[i] = c at hok e1 ⊢
  generalize cs[i] = c' at hok q5
  cases c <;> cases c' <;> simp only [CapOk] at hok
  ·obtain ⟨g,q6,q7⟩ := q5
   exact ⟨g,q6,hneu g _ _ _ q7 (hbk i _ e1)⟩
  ·obtain ⟨g,q6,q7⟩ := q5
   exact ⟨g,q6,hneu g _ _ _ q7 (hbk i _ e1)⟩
  ·subst hok
   exact (q5 : Rd w' (Fro _ C' w') u' _).keep hfro' fun _ _ => rfl
 have hnew : ∀ (k t : Nat) (c : CapK) (u : Value),cc[k]? = some (Cap.tok t) → cs'[k]? = some c → c.mutB = true → cvs[k]? = some u → Rel R w' O' (capV f cc t c) u := by
  intro k t c u h1 h2 hm h3
  obtain ⟨hk,h4⟩ := List.getElem?_eq_some_iff.1 h2
  have := hres k hk u h3 (by rw [h4]; exact hm)
  rw [h4] at this
  cases c with
  | own xs => exact OwnU.keep (this : OwnU w' C' (ds.length + k) [] u (.ptr xs)) [] fun g q hg => ⟨hneu g _ _ t hg (hbk k t h1),rfl⟩
  | fro d => cases hm
  | self =>
   obtain ⟨g,cur,E,cv,q1,q2,q3,q4,q5,q6⟩ := this
   exact ⟨g,cur,E,cv,q1,hneu g _ _ t q2 (hbk k t h1),q3,q4,q5,houtC q6⟩
 have hdN : d < a.tmps.size := by rw [h.size]; exact hN.2
 refine hK () O' _ w' trivial ⟨h.below.trans ⟨hb.os,hb.tape,hb.output,hb.size,fun g hg => hb.block g (hBC g hg)⟩,fun g hg => Nat.lt_of_lt_of_le (h.base g hg) hb.size,h.fresh,?_,?_,by simp [Act.put,h.size],h.defers,
  fun s hs => by rw [getD_put hdN,if_neg (fun e => by have := hN.1; omega)]; exact h.pin s hs,fun s => ?_⟩
 ·intro g z hz
  rcases hinv g z hz with ⟨h1,_,h3⟩ | ⟨k,h1,_⟩
  ·exact ⟨(h.own g _ h3).1,Nat.lt_of_lt_of_le h1 hb.size⟩
  ·refine ⟨fun hBb => ?_,(hC1 g _ h1).2⟩
   have h2 := hBC g hBb
   rcases (hC1 g _ h1).1 with h3 | h3
   ·exact h3 h2.2
   ·omega
 ·rintro g g' ⟨t,q⟩ h1 h2
  rcases hinv g _ h1 with ⟨a1,a2,a3⟩ | ⟨k,a1,a2⟩ <;> rcases hinv g' _ h2 with ⟨b1,b2,b3⟩ | ⟨k',b1,b2⟩
  ·exact h.inj g g' _ a3 b3
  ·rw [hCo g t q k' a3 b2] at a2; cases a2
  ·rw [hCo g' t q k b3 a2] at b2; cases b2
  ·have := cap_uniq hnod a2 b2
   subst this
   exact hC2 g g' _ a1 b1
 ·rw [getD_put hdN]
  simp only [mk_cons]
  by_cases hsd : s = d
  ·rw [if_pos hsd]; exact trivial
  rw [if_neg hsd,if_neg hsd,mk_same]
  by_cases hsc : s ∈ sl
  ·rw [if_pos hsc]
   have hcl : CloR R w O f cc (a.tmps.getD s undef) := by
    have := h.slots s
    rw [hsl s hsc] at this
    exact this
   show CloR R w' O' f cc (a.tmps.getD s undef)
   obtain ⟨cvs2,hce2,hcsz2,hcv2⟩ := hcl
   refine ⟨cvs2,hce2,hcsz2,fun k hk => ?_⟩
   obtain ⟨u,h1,h2⟩ := hcv2 k hk
   obtain ⟨u0,h10,h20⟩ := hcv k hk
   refine ⟨u,h1,?_⟩
   have hk' : k < cs'.length := by omega
   have hok := hout.at (List.getElem?_eq_getElem hk) (List.getElem?_eq_getElem hk')
   have e1 : cc[k]? = some cc[k] := List.getElem?_eq_getElem hk
   have e2 : cs'[k]? = some cs'[k] := List.getElem?_eq_getElem hk'
   generalize cc[k] = c at h2 h20 hok e1
   generalize cs'[k] = c' at hok e2
   have root : ∀ t,c = .tok t → c'.mutB = true → CapR R w' O' (.tok t) u := by
    intro t ht hm
    subst ht
    have h3 := hnew k t c' u0 e1 e2 hm h10
    obtain ⟨g,rfl,hg⟩ := h2
    obtain ⟨g0,rfl,hg0⟩ := h20
    have := h.inj g g0 _ hg hg0
    subst this
    cases c' with
    | own xs =>
     cases (h3 : OwnU w' O' t [] _ (.ptr xs)) with
     | ptr _ g' cur E _ vs q1 q2 q3 q4 q5 => exact ⟨g,rfl,q1⟩
    | fro d => cases hm
    | self =>
     obtain ⟨g',cur,E,cv,q1,q2,_⟩ := h3
     simp only [Value.pointer.injEq,Option.some.injEq,Addr.mk.injEq,and_true] at q1
     subst q1
     exact ⟨g,rfl,q2⟩
   cases c <;> cases c' <;> simp only [CapAs] at hok
   ·exact root _ rfl rfl
   ·exact root _ rfl rfl
   ·exact Rd.fro hke h2
  ·rw [if_neg hsc]
   rcases mk_fix (us := us) (f := f) (cc := cc) (r := fl.map fun q => (q.1,kmap (capTs cc) q.2)) s with ⟨q,hq,rfl,e1⟩ | e1
   ·rw [e1]
    obtain ⟨h1,h2,hm,h3⟩ := hus q hq
    obtain ⟨hk,h4⟩ := List.getElem?_eq_some_iff.1 h1
    obtain ⟨u,h5,h6⟩ := hcv _ hk
    rw [h4] at h6
    have h7 : a.tmps.getD q.1 undef = u := by
     rcases h3 with ⟨xs,h3⟩ | h3
     ·exact (hptr h3 h6).1
     ·exact (hcel h3 h6).1
    rw [h7]
    exact hnew _ _ _ u h1 h2 hm h5
   ·rw [e1,mk_map (kmap (capTs cc)) (kmap_dead (capTs cc))]
    exact (h.slots s).killl hke

end
@[simp] theorem vasn_clo (f : FuncId) (cs : List Cap) : vasn (.clo f cs) = some ([],.clo f cs) := (rfl)
@[simp] theorem vassign_clo (d : Nat) (f : FuncId) (cs : List Cap) : vassign d (.clo f cs) = ([],.clo f cs) := (rfl)
attribute [simp] Cap.on
theorem CapOk.tok' {fl : FL} {f : FuncId} {cc : List Cap} {t : Nat} {xs : List D} (s : Nat) (h : mk fl s = .ref t [] true (.ptr xs)) : CapOk fl f cc (.tok t) (.own xs) := ⟨s,h⟩
theorem CapOk.dat' {fl : FL} {f : FuncId} {cc : List Cap} {d : D} : CapOk fl f cc (.dat d) (.fro d) := rfl
theorem CapAs.tok' {t : Nat} {xs : List D} : CapAs (.tok t) (.own xs) := trivial
theorem CapAs.dat' {d e : D} : CapAs (.dat d) (.fro e) := trivial
@[simp] theorem capV_own (f : FuncId) (cc : List Cap) (t : Nat) (xs : List D) : capV f cc t (.own xs) = .ref t [] true (.ptr xs) := (rfl)
@[simp] theorem capV_self (f : FuncId) (cc : List Cap) (t : Nat) : capV f cc t .self = .cel t f cc := (rfl)
def postOk (fl : FL) (f : FuncId) (cc : List Cap) : Nat → List CapK → Prop
 | _,[] => True
 | n,.fro _ :: r => postOk fl f cc (n + 1) r
 | n,c :: r => mk fl n = capV f cc n c ∧ postOk fl f cc (n + 1) r
theorem postOk.spec {fl : FL} {f : FuncId} {cc : List Cap} : ∀ {cs : List CapK} {n : Nat},postOk fl f cc n cs → ∀ k c,cs[k]? = some c → c.mutB = true → mk fl (n + k) = capV f cc (n + k) c
 | [],_,_,k,c,h,_ => by simp at h
 | c :: r,n,h,k,c',hk,hm => by
  cases k with
  | zero =>
   simp only [List.getElem?_cons_zero,Option.some.injEq] at hk
   subst hk
   cases c with
   | own ys => exact h.1
   | fro d => cases hm
   | self => exact h.1
  | succ k =>
   have h' : postOk fl f cc (n + 1) r := by
    cases c with
    | own ys => exact h.2
    | fro d => exact h
    | self => exact h.2
   have := h'.spec k c' (by simpa using hk) hm
   rw [show n + 1 + k = n + (k + 1) by omega] at this
   exact this
theorem PostClo.n {fl : FL} {f : FuncId} {cc : List Cap} {n : Nat} {cs : List CapK} (h : postOk fl f cc n cs) : PostClo f cc n cs .normal (mk fl) := h.spec
theorem PostClx.n {N : Lim} {fl : FL} {f : FuncId} {cc : List Cap} {n : Nat} {cs : List CapK} (h : postOk fl f cc n cs) : PostClx N f cc n cs .normal (mk fl) := ⟨_,fun _ _ _ O _ _ h => ⟨O,h⟩,PostClo.n h⟩
theorem PostClo.r {fl : FL} {f : FuncId} {cc : List Cap} {n : Nat} {cs : List CapK} (h : postOk fl f cc n cs) : PostClo f cc n cs .ret (mk fl) := h.spec
theorem PostClx.r {N : Lim} {fl : FL} {f : FuncId} {cc : List Cap} {n : Nat} {cs : List CapK} (h : postOk fl f cc n cs) : PostClx N f cc n cs .ret (mk fl) := ⟨_,fun _ _ _ O _ _ h => ⟨O,h⟩,PostClo.r h⟩
end Go.Vam
