/- Closures: how they are made, and called. -/
import Derived.Test.YtalfgfpgenlokaaVamAH
namespace Go.Vam
open Go Go.RowKit
set_option linter.unusedSimpArgs false
set_option linter.unusedVariables false

def VV.cap : VV → Option Cap
 | .ref t [] true (.ptr _) => some (Cap.tok t)
 | .cel t _ _ => some (Cap.tok t)
 | .val d => some (Cap.dat d)
 | _ => none
def capsOf (σ : Frm) : List Operand → Option (List Cap)
 | [] => some []
 | x :: r => match (ev σ x).cap,capsOf σ r with
  | some c,some cs => some (c :: cs)
  | _,_ => none
def Cap.tk : Cap → Option Nat
 | .tok t => some t
 | .dat _ => none
def capTs (cc : List Cap) : List Nat := cc.filterMap Cap.tk
def capIx (t : Nat) : List Cap → Nat → Option Nat
 | [],_ => none
 | c :: r,k => if c.tk = some t then some k else capIx t r (k + 1)
theorem capIx_some {t : Nat} : ∀ {cc : List Cap} {k j : Nat},capIx t cc k = some j → k ≤ j ∧ cc[j - k]? = some (Cap.tok t)
 | [],_,_,h => by cases h
 | c :: r,k,j,h => by
  unfold capIx at h
  split at h
  ·rename_i hc
   simp only [Option.some.injEq] at h
   subst h
   cases c with
   | tok r => simp only [Cap.tk,Option.some.injEq] at hc; subst hc; simp
   | dat d => cases hc
  ·obtain ⟨h1,h2⟩ := capIx_some h
   refine ⟨by omega,?_⟩
   have : j - k = (j - (k + 1)) + 1 := by omega
   rw [this]; simpa using h2
theorem capIx_none {t : Nat} : ∀ {cc : List Cap} {k : Nat},capIx t cc k = none → ∀ i : Nat,cc[i]? ≠ some (Cap.tok t)
 | [],_,_,i => by simp
 | c :: r,k,h,i => by
  unfold capIx at h
  split at h
  ·cases h
  ·rename_i hc
   cases i with
   | zero => intro e; simp only [List.getElem?_cons_zero,Option.some.injEq] at e; subst e; exact hc rfl
   | succ i => simpa using capIx_none h i
theorem mem_capTs {cc : List Cap} {t : Nat} : t ∈ capTs cc ↔ ∃ k : Nat,cc[k]? = some (Cap.tok t) := by
 constructor
 ·intro h
  obtain ⟨c,h1,h2⟩ := List.mem_filterMap.1 h
  obtain ⟨k,hk⟩ := List.mem_iff_getElem?.1 h1
  cases c with
  | tok r => simp only [Cap.tk,Option.some.injEq] at h2; subst h2; exact ⟨k,hk⟩
  | dat d => cases h2
 ·rintro ⟨k,hk⟩
  exact List.mem_filterMap.2 ⟨_,List.mem_of_getElem? hk,rfl⟩
theorem cap_uniq : ∀ {cc : List Cap},(capTs cc).Nodup → ∀ {i j t : Nat},cc[i]? = some (Cap.tok t) → cc[j]? = some (Cap.tok t) → i = j
 | [],_,i,j,t,h,_ => by simp at h
 | c :: r,hn,i,j,t,h1,h2 => by
  have hr : (capTs r).Nodup := by
   unfold capTs at hn ⊢
   rw [List.filterMap_cons] at hn
   split at hn
   ·exact hn
   ·exact (List.nodup_cons.1 hn).2
  have hno : ∀ m : Nat,c = .tok t → r[m]? ≠ some (Cap.tok t) := by
   intro m hc hm
   subst hc
   unfold capTs at hn
   rw [List.filterMap_cons] at hn
   simp only [Cap.tk] at hn
   exact (List.nodup_cons.1 hn).1 (mem_capTs.2 ⟨m,hm⟩)
  cases i with
  | zero => cases j with
   | zero => rfl
   | succ j => simp only [List.getElem?_cons_zero,Option.some.injEq,List.getElem?_cons_succ] at h1 h2; exact absurd h2 (hno j h1)
  | succ i => cases j with
   | zero => simp only [List.getElem?_cons_zero,Option.some.injEq,List.getElem?_cons_succ] at h1 h2; exact absurd h1 (hno i h2)
   | succ j => simp only [List.getElem?_cons_succ] at h1 h2; rw [cap_uniq hr h1 h2]

inductive All2 {α β : Type} (r : α → β → Prop) : List α → List β → Prop
 | nil : All2 r [] []
 | cons {a : α} {b : β} {as : List α} {bs : List β} (h : r a b) (t : All2 r as bs) : All2 r (a :: as) (b :: bs)
theorem All2.len {α β : Type} {r : α → β → Prop} {as : List α} {bs : List β} (h : All2 r as bs) : as.length = bs.length := by
 induction h with
 | nil => rfl
 | cons _ _ ih => simp [ih]
theorem All2.at {α β : Type} {r : α → β → Prop} {as : List α} {bs : List β} (h : All2 r as bs) : ∀ {k : Nat} {a : α} {b : β},as[k]? = some a → bs[k]? = some b → r a b := by
 induction h with
 | nil => intro k a b h1; simp at h1
 | cons h _ ih =>
  intro k a b h1 h2
  cases k with
  | zero => simp only [List.getElem?_cons_zero,Option.some.injEq] at h1 h2; subst h1; subst h2; exact h
  | succ k => exact ih (by simpa using h1) (by simpa using h2)

theorem mk_same {sl : List Nat} {x : VV} {r : FL} (s : Nat) : mk (sl.map (fun s => (s,x)) ++ r) s = if s ∈ sl then x else mk r s := by
 induction sl with
 | nil => simp
 | cons t sl ih =>
  simp only [List.map_cons,List.cons_append,mk_cons,List.mem_cons,ih]
  by_cases h : s = t
  ·simp [h]
  ·simp [h]

section
variable {P : Program} {N : Lim} {τ : TypeId → TK}

theorem caps_rd {R B : Nat → Prop} {w0 : W0} {O : Own} {σ : Frm} {a : Act} {w : World} (h : St R B w0 N O σ a w) : ∀ (xs : List Operand) (cs : List Cap),capsOf σ xs = some cs →
  xs.length = cs.length ∧ ∀ i (hi : i < cs.length),∃ u,(xs.map a.eval)[i]? = some u ∧ CapR R w O cs[i] u
 | [],cs,hx => by
  simp only [capsOf,Option.some.injEq] at hx
  subst hx
  exact ⟨rfl,fun i hi => absurd hi (by simp)⟩
 | x :: r,cs,hx => by
  unfold capsOf at hx
  split at hx <;> simp only [Option.some.injEq,reduceCtorEq] at hx
  rename_i c cs' hc hcs
  subst hx
  obtain ⟨h1,h2⟩ := caps_rd h r cs' hcs
  refine ⟨by simp [h1],fun i hi => ?_⟩
  cases i with
  | zero =>
   refine ⟨a.eval x,by simp,?_⟩
   have hr := rel_ev h x
   generalize ev σ x = y at hc hr
   generalize a.eval x = u at hr ⊢
   unfold VV.cap at hc
   split at hc <;> simp only [Option.some.injEq,reduceCtorEq] at hc
   ·subst hc
    rename_i t xs
    cases (hr : OwnU w O t [] u (.ptr xs)) with
    | ptr _ g cur E _ vs q1 q2 q3 q4 q5 => exact ⟨g,rfl,q1⟩
   ·subst hc
    obtain ⟨g,cur,E,cv,q1,q2,_⟩ := hr
    exact ⟨g,q1,q2⟩
   ·subst hc
    exact hr
  | succ i =>
   obtain ⟨u,h3,h4⟩ := h2 i (by simpa using hi)
   exact ⟨u,by simpa using h3,by simpa using h4⟩

theorem step_mkf {o : Oper} {f : FuncId} {caps : Array Operand} {d : Nat} {fl : FL} {cs : List Cap} (ho : o.op = .makeFunc (.func f) #[] caps) (hd : o.dst = some d) (hN : d ∈ N) (hc : capsOf (mk fl) caps.toList = some cs) :
  OStep P N o (mk fl) (fun _ : Unit => mk ((d,.clo f cs) :: fl)) (fun _ => True) := by
 intro R B w0 O a w K Q h hK
 obtain ⟨h1,h2⟩ := caps_rd h caps.toList cs hc
 have hrun : (execOp a.eval o).run P w = .ok (.value (.func (.func f) #[] (caps.map a.eval))) w := by
  simp [execOp,ho,Instr.makeFunc]
 unfold Oper.wp
 rw [hrun]
 simp only [Oper.upon]
 rw [hd]
 have hm : Made R B w w O O [] (.clo f cs) (.func (.func f) #[] (caps.map a.eval)) := by
  refine ⟨Keeps.refl _ _ _,.refl _ _,h.own,h.inj,⟨caps.map a.eval,rfl,by rw [← Array.length_toList,Array.toList_map,List.length_map]; exact h1,fun i hi => ?_⟩⟩
  obtain ⟨u,h3,h4⟩ := h2 i hi
  exact ⟨u,by rw [← Array.getElem?_toList,Array.toList_map]; exact h3,h4⟩
 have h' := h.made hm hN
 rw [killl_nil] at h'
 have e : upd (mk fl) d (.clo f cs) = mk ((d,.clo f cs) :: fl) := (mk_upd d _ fl).symm
 rw [e] at h'
 exact hK () O _ w trivial h'

def vals0 (σ : Frm) : List Operand → Option (List D)
 | [] => some []
 | .const (.slice none 0 0) :: r => (vals0 σ r).map fun ds => .list [] :: ds
 | x :: r => match ev σ x,vals0 σ r with
  | .val d,some ds => some (d :: ds)
  | _,_ => none
theorem vals0_rd {R B : Nat → Prop} {w0 : W0} {O : Own} {σ : Frm} {a : Act} {w : World} (h : St R B w0 N O σ a w) : ∀ (xs : List Operand) (ds : List D),vals0 σ xs = some ds →
  xs.length = ds.length ∧ ∀ i (hi : i < ds.length),∃ v,(xs.map a.eval)[i]? = some v ∧ Rd w (Fro R O w) v ds[i]
 | [],ds,hd => by
  simp only [vals0,Option.some.injEq] at hd; subst hd
  exact ⟨rfl,fun i hi => absurd hi (by simp)⟩
 | x :: r,ds,hd => by
  unfold vals0 at hd
  split at hd
  ·cases ‹_ :: _ = []›
  ·rename_i heq
   simp only [List.cons.injEq] at heq
   obtain ⟨rfl,rfl⟩ := heq
   obtain ⟨ds',h2,rfl⟩ := Option.map_eq_some_iff.1 hd
   obtain ⟨e,ih⟩ := vals0_rd h r ds' h2
   refine ⟨by simp [e],fun i hi => ?_⟩
   cases i with
   | zero => exact ⟨.slice none 0 0,rfl,.empty none 0⟩
   | succ i => exact ih i (by simpa using hi)
  ·rename_i heq
   simp only [List.cons.injEq] at heq
   obtain ⟨rfl,rfl⟩ := heq
   split at hd
   ·rename_i d ds' h1 h2
    simp only [Option.some.injEq] at hd; subst hd
    obtain ⟨e,ih⟩ := vals0_rd h r ds' h2
    refine ⟨by simp [e],fun i hi => ?_⟩
    cases i with
    | zero => exact ⟨a.eval x,rfl,rel_tmp h x h1⟩
    | succ i => exact ih i (by simpa using hi)
   ·cases hd

end
@[simp] theorem vasn_clo (f : FuncId) (cs : List Cap) : vasn (.clo f cs) = some ([],.clo f cs) := (rfl)
@[simp] theorem vassign_clo (d : Nat) (f : FuncId) (cs : List Cap) : vassign d (.clo f cs) = ([],.clo f cs) := (rfl)
attribute [simp] Cap.on
@[simp] theorem capV_own (f : FuncId) (cc : List Cap) (t : Nat) (xs : List D) : capV f cc t (.own xs) = .ref t [] true (.ptr xs) := (rfl)
@[simp] theorem capV_self (f : FuncId) (cc : List Cap) (t : Nat) : capV f cc t .self = .cel t f cc := (rfl)
def postOk (fl : FL) (f : FuncId) (cc : List Cap) : Nat → List CapK → Prop
 | _,[] => True
 | n,.fro _ :: r => postOk fl f cc (n + 1) r
 | n,c :: r => mk fl n = capV f cc n c ∧ postOk fl f cc (n + 1) r
theorem postOk.spec {fl : FL} {f : FuncId} {cc : List Cap} : ∀ {cs : List CapK} {n : Nat},postOk fl f cc n cs → ∀ k c,cs[k]? = some c → c.mutB = true → mk fl (n + k) = capV f cc (n + k) c
 | [],_,_,k,c,h,_ => by simp at h
 | c :: r,n,h,k,c',hk,hm => by
  cases k with
  | zero =>
   simp only [List.getElem?_cons_zero,Option.some.injEq] at hk
   subst hk
   cases c with
   | own ys => exact h.1
   | fro d => cases hm
   | self => exact h.1
  | succ k =>
   have h' : postOk fl f cc (n + 1) r := by
    cases c with
    | own ys => exact h.2
    | fro d => exact h
    | self => exact h.2
   have := h'.spec k c' (by simpa using hk) hm
   rw [show n + 1 + k = n + (k + 1) by omega] at this
   exact this
theorem PostClo.n {fl : FL} {f : FuncId} {cc : List Cap} {n : Nat} {cs : List CapK} (h : postOk fl f cc n cs) : PostClo f cc n cs .normal (mk fl) := h.spec
theorem PostClx.n {N : Lim} {fl : FL} {f : FuncId} {cc : List Cap} {n : Nat} {cs : List CapK} (h : postOk fl f cc n cs) : PostClx N f cc n cs .normal (mk fl) := ⟨_,fun _ _ _ O _ _ h => ⟨O,h⟩,PostClo.n h⟩
theorem PostClo.r {fl : FL} {f : FuncId} {cc : List Cap} {n : Nat} {cs : List CapK} (h : postOk fl f cc n cs) : PostClo f cc n cs .ret (mk fl) := h.spec
theorem PostClx.r {N : Lim} {fl : FL} {f : FuncId} {cc : List Cap} {n : Nat} {cs : List CapK} (h : postOk fl f cc n cs) : PostClx N f cc n cs .ret (mk fl) := ⟨_,fun _ _ _ O _ _ h => ⟨O,h⟩,PostClo.r h⟩
end Go.Vam
