/- Calls that write behind cells that a closure has caught, where the closure is called or handed on; what they return. -/
import Derived.Test.YtalfgfpgenlokaaVamAP
namespace Go.Vam
open Go Go.RowKit
set_option linter.unusedSimpArgs false
set_option linter.unusedVariables false

def capR (A : Nat → Prop) (w : World) (C : Own) (t : Nat) : CapK → Value → Prop
 | .own xs,u => OwnU w C t [] u (.ptr xs)
 | .fro d,u => Rd w A u d
 | .self,_ => False
def VSta (P : Program) (h : FuncId) (mka : Array Value → Array Value → Array Value) (T : Nat) (ds : List D) (cs cs' : List CapK) (rs : List D) : Prop :=
 (∀ args w,(callFunc h args).run P w = .ok (.enter h args) w) ∧
 ∀ (w : World) (A : Nat → Prop) (C : Own) (as us : Array Value),
  (∀ g,A g → g < w.heap.size ∧ C g = none) → (∀ g y,C g = some y → g < w.heap.size) → (∀ g g' y,C g = some y → C g' = some y → g = g') →
  as.size = ds.length → us.size = cs.length → (∀ i (h : i < ds.length),∃ u,as[i]? = some u ∧ Rd w A u ds[i]) →
  (∀ k (h : k < cs.length),∃ u,us[k]? = some u ∧ capR A w C (T + k) cs[k] u) →
  Calls P h (mka as us) w fun e w' => ∃ x C',e = .returned x ∧ RsR w' rs x ∧ Blw (fun g => g < w.heap.size ∧ C g = none) w w' ∧ (∀ g y,C' g = some y → (C g ≠ none ∨ w.heap.size ≤ g) ∧ g < w'.heap.size) ∧
   (∀ g g' y,C' g = some y → C' g' = some y → g = g') ∧
   ∀ (k : Nat) (xs : List D) (u : Value),cs'[k]? = some (CapK.own xs) → us[k]? = some u → OwnU w' C' (T + k) [] u (.ptr xs)
def mkClo (as us : Array Value) : Array Value := as ++ us
def mkH (f : FuncId) (as us : Array Value) : Array Value := as ++ #[Value.func (.func f) #[] us]
def VCloR (P : Program) (f : FuncId) (ds : List D) (cs cs' : List CapK) (rs : List D) : Prop := VSta P f mkClo ds.length ds cs cs' rs
def VHof (P : Program) (g f : FuncId) (T : Nat) (ds : List D) (cs cs' : List CapK) (rs : List D) : Prop := VSta P g (mkH f) T ds cs cs' rs

def cellV (gh : Bool) (t : Nat) (xs : List D) : VV := match gh with
 | true => .gst t xs
 | false => .ref t [] true (.ptr xs)
def CapOkS (fl : FL) : Cap → CapK → Prop
 | .tok t,.own xs => ∃ s gh,mk fl s = cellV gh t xs
 | .dat d,.fro d' => d = d'
 | _,_ => False
theorem cellV_some {R B : Nat → Prop} {w0 : W0} {N : Lim} {O : Own} {σ : Frm} {a : Act} {w : World} (h : St R B w0 N O σ a w) {s t : Nat} {gh : Bool} {xs : List D} (hs : σ s = cellV gh t xs) : ∃ u,OwnU w O t [] u (.ptr xs) := by
 have hr := h.slots s
 rw [hs] at hr
 cases gh with
 | true => exact hr
 | false => exact ⟨_,hr⟩
theorem ptr_at {w : World} {O : Own} (hinj : ∀ g g' y,O g = some y → O g' = some y → g = g') {t : Nat} {u : Value} {xs : List D} {g : Nat} (h : OwnU w O t [] u (.ptr xs)) (hg : O g = some (t,[])) : u = .pointer (some ⟨g,0,none⟩) := by
 cases h with
 | ptr _ g' cur E _ vs q1 q2 q3 q4 q5 => rw [hinj g' g _ q1 hg]

def PostR (res : List ResultVar) (rs : List D) (n : Nat) (own : List (Nat × List D)) : Exit → Frm → Prop
 | .normal,σ => resT res σ rs ∧ ∀ q ∈ own,σ (n + q.1) = .ref (n + q.1) [] true (.ptr q.2)
 | .ret,σ => resT res σ rs ∧ ∀ q ∈ own,σ (n + q.1) = .ref (n + q.1) [] true (.ptr q.2)
 | _,_ => False
def PostRx (N : Lim) (res : List ResultVar) (rs : List D) (n : Nat) (own : List (Nat × List D)) (e : Exit) (σ : Frm) : Prop := ∃ σ',Le N σ' σ ∧ PostR res rs n own e σ'
theorem PostRx.n {N : Lim} {fl : FL} {res : List ResultVar} {rs : List D} {n : Nat} {own : List (Nat × List D)} (h : PostR res rs n own .normal (mk fl)) : PostRx N res rs n own .normal (mk fl) := ⟨_,fun _ _ _ O _ _ h => ⟨O,h⟩,h⟩
theorem PostRx.r {N : Lim} {fl : FL} {res : List ResultVar} {rs : List D} {n : Nat} {own : List (Nat × List D)} (h : PostR res rs n own .ret (mk fl)) : PostRx N res rs n own .ret (mk fl) := ⟨_,fun _ _ _ O _ _ h => ⟨O,h⟩,h⟩
def PostH (res : List ResultVar) (rs : List D) (c : Nat) (f : FuncId) (cc : List Cap) (T : Nat) (own : List (Nat × List D)) : Exit → Frm → Prop
 | .normal,σ => resT res σ rs ∧ σ c = .clo f cc ∧ ∀ q ∈ own,σ (T + q.1) = .gst (T + q.1) q.2
 | .ret,σ => resT res σ rs ∧ σ c = .clo f cc ∧ ∀ q ∈ own,σ (T + q.1) = .gst (T + q.1) q.2
 | _,_ => False
def PostHx (N : Lim) (res : List ResultVar) (rs : List D) (c : Nat) (f : FuncId) (cc : List Cap) (T : Nat) (own : List (Nat × List D)) (e : Exit) (σ : Frm) : Prop := ∃ σ',Le N σ' σ ∧ PostH res rs c f cc T own e σ'
theorem Cl.postH {N : Lim} (res : List ResultVar) {rs : List D} {c : Nat} {f : FuncId} {cc : List Cap} {T : Nat} {own : List (Nat × List D)} : Cl N (PostHx N res rs c f cc T own .normal) := fun _ _ h ⟨σ2,h1,h2⟩ => ⟨σ2,Le.trans h1 h,h2⟩
theorem PostHx.n {N : Lim} {fl : FL} {res : List ResultVar} {rs : List D} {c : Nat} {f : FuncId} {cc : List Cap} {T : Nat} {own : List (Nat × List D)} (h : PostH res rs c f cc T own .normal (mk fl)) : PostHx N res rs c f cc T own .normal (mk fl) := ⟨_,fun _ _ _ O _ _ h => ⟨O,h⟩,h⟩
theorem PostHx.r {N : Lim} {fl : FL} {res : List ResultVar} {rs : List D} {c : Nat} {f : FuncId} {cc : List Cap} {T : Nat} {own : List (Nat × List D)} (h : PostH res rs c f cc T own .ret (mk fl)) : PostHx N res rs c f cc T own .ret (mk fl) := ⟨_,fun _ _ _ O _ _ h => ⟨O,h⟩,h⟩

def ownsOf : Nat → List CapK → List (Nat × List D)
 | _,[] => []
 | k,.own xs :: r => (k,xs) :: ownsOf (k + 1) r
 | k,_ :: r => ownsOf (k + 1) r
theorem mem_ownsOf : ∀ (cs : List CapK) (k : Nat) {j : Nat} {xs : List D},cs[j]? = some (CapK.own xs) → (k + j,xs) ∈ ownsOf k cs
 | [],_,j,xs,h => by simp at h
 | c :: r,k,j,xs,h => by
  cases j with
  | zero =>
   simp only [List.getElem?_cons_zero,Option.some.injEq] at h
   subst h
   simp [ownsOf]
  | succ j =>
   have := mem_ownsOf r (k + 1) (j := j) (xs := xs) (by simpa using h)
   have e : k + (j + 1) = k + 1 + j := by omega
   rw [e]
   cases c <;> simp only [ownsOf,List.mem_cons] <;> first | exact .inr this | exact this

def ownB : List CapK → List CapK → Bool
 | [],[] => true
 | .own _ :: r,.own _ :: r' => ownB r r'
 | .fro _ :: r,.fro _ :: r' => ownB r r'
 | _,_ => false
theorem ownB_at : ∀ (cs cs' : List CapK),ownB cs cs' = true → ∀ {k : Nat} {xs : List D},cs'[k]? = some (CapK.own xs) → ∃ ys,cs[k]? = some (CapK.own ys)
 | [],[],_,k,xs,h => by simp at h
 | c :: r,c' :: r',hb,k,xs,h => by
  cases k with
  | zero =>
   simp only [List.getElem?_cons_zero,Option.some.injEq] at h
   subst h
   cases c <;> simp [ownB] at hb
   exact ⟨_,rfl⟩
  | succ k =>
   have hb' : ownB r r' = true := by cases c <;> cases c' <;> simp [ownB] at hb <;> exact hb
   obtain ⟨ys,hy⟩ := ownB_at r r' hb' (k := k) (xs := xs) (by simpa using h)
   exact ⟨ys,by simpa using hy⟩
 | [],_ :: _,hb,_,_,_ => by simp [ownB] at hb
 | _ :: _,[],hb,_,_,_ => by simp [ownB] at hb
theorem ownB_to : ∀ (cs cs' : List CapK),ownB cs cs' = true → ∀ {k : Nat} {xs : List D},cs[k]? = some (CapK.own xs) → ∃ ys,cs'[k]? = some (CapK.own ys)
 | [],[],_,k,xs,h => by simp at h
 | c :: r,c' :: r',hb,k,xs,h => by
  cases k with
  | zero =>
   simp only [List.getElem?_cons_zero,Option.some.injEq] at h
   subst h
   cases c' <;> simp [ownB] at hb
   exact ⟨_,rfl⟩
  | succ k =>
   have hb' : ownB r r' = true := by cases c <;> cases c' <;> simp [ownB] at hb <;> exact hb
   obtain ⟨ys,hy⟩ := ownB_to r r' hb' (k := k) (xs := xs) (by simpa using h)
   exact ⟨ys,by simpa using hy⟩
 | [],_ :: _,hb,_,_,_ => by simp [ownB] at hb
 | _ :: _,[],hb,_,_,_ => by simp [ownB] at hb

section
variable {P : Program}
theorem resT_run {fn : Func} {rs : List D} {σ : Frm} {R B : Nat → Prop} {w0 : W0} {N : Lim} {O : Own} {a : Act} {w : World} (hs : St R B w0 N O σ a w) (h : resT fn.results.toList σ rs) : ∃ x,(results fn a.tmps).run P w = .ok x w ∧ RsR w rs x := by
 match rs,h with
 | [],h =>
  have : fn.results = #[] := by rw [← Array.toArray_toList (xs := fn.results),h]
  exact ⟨_,by simp [results,this]; rfl,trivial⟩
 | [x],⟨t,h1,h2,h3⟩ =>
  have r1 := hs.slots t
  rw [h2] at r1
  exact ⟨_,results_tmp1 h1 _ _,sc_rd h3 (sc_own h3 r1 (fun _ => none) w 0 []) _ _⟩
 | [x,y],⟨t,s,h1,h2,h3,h5,h6⟩ =>
  have r1 := hs.slots t
  rw [h2] at r1
  have r3 := hs.slots s
  rw [h3] at r3
  refine ⟨_,results_tmp2 h1 _ _,_,rfl,rfl,fun i hi => ?_⟩
  match i,hi with
  | 0,_ => exact ⟨_,rfl,sc_rd h5 (sc_own h5 r1 (fun _ => none) w 0 []) _ _⟩
  | 1,_ => exact ⟨_,rfl,sc_rd h6 (sc_own h6 r3 (fun _ => none) w 0 []) _ _⟩

def capFrS (t : Nat) : List CapK → FL
 | [] => []
 | .own xs :: r => (t,.ref t [] true (.ptr xs)) :: capFrS (t + 1) r
 | .fro d :: r => (t,.val d) :: capFrS (t + 1) r
 | .self :: r => capFrS (t + 1) r
def capVS (s : Nat) : CapK → VV
 | .own xs => .ref s [] true (.ptr xs)
 | .fro d => .val d
 | .self => .dead
theorem capFrS_at : ∀ (cs : List CapK) (t s : Nat),mk (capFrS t cs) s = if t ≤ s then (match cs[s - t]? with | some c => capVS s c | none => .dead) else .dead
 | [],t,s => by simp [capFrS,mk]
 | c :: r,t,s => by
  have ih := capFrS_at r (t + 1) s
  have hh : mk (capFrS t (c :: r)) s = if s = t then capVS s c else mk (capFrS (t + 1) r) s := by
   cases c with
   | own xs => simp only [capFrS,mk_cons]; by_cases h : s = t <;> simp [h,capVS]
   | fro d => simp only [capFrS,mk_cons]; by_cases h : s = t <;> simp [h,capVS]
   | self =>
    simp only [capFrS]
    by_cases h : s = t
    ·rw [if_pos h,ih,if_neg (by omega)]; rfl
    ·rw [if_neg h]
  rw [hh,ih]
  by_cases h1 : s = t
  ·subst h1; simp
  ·rw [if_neg h1]
   by_cases h2 : t + 1 ≤ s
   ·rw [if_pos h2,if_pos (by omega)]
    have : s - t = (s - (t + 1)) + 1 := by omega
    rw [this]; simp
   ·rw [if_neg h2]
    by_cases h3 : t ≤ s
    ·omega
    ·rw [if_neg h3]
theorem dl_app (ds : List D) (r : FL) : ∀ (k s : Nat),mk (dl k ds ++ r) s = if k ≤ s ∧ s < k + ds.length then (match ds[s - k]? with | some d => .val d | none => .dead) else mk r s := by
 induction ds with
 | nil => intro k s; simp [dl]; omega
 | cons d ds ih =>
  intro k s
  simp only [dl,List.cons_append,mk_cons,ih,List.length_cons]
  by_cases h1 : s = k
  ·subst h1
   rw [if_pos rfl,if_pos (by omega),Nat.sub_self]; rfl
  ·rw [if_neg h1]
   by_cases h2 : k + 1 ≤ s ∧ s < k + 1 + ds.length
   ·have e2 : s - k = (s - (k + 1)) + 1 := by omega
    have e3 : (d :: ds)[s - k]? = ds[s - (k + 1)]? := by rw [e2]; simp
    rw [if_pos h2,if_pos (by omega),e3]
   ·rw [if_neg h2,if_neg (by omega)]

theorem VCloR.enter {f : FuncId} {fn : Func} {c : Code} {ds : List D} {cs cs' : List CapK} {rs : List D} (hcall : ∀ args w,(callFunc f args).run P w = .ok (.enter f args) w)
  (hf : P.funcs[f]? = some fn) (hb : fn.body = some c) (n lo : Nat) (hn' : fn.ntmps = n) (hlo : lo = ds.length + cs.length) (hn : lo ≤ n) (res : List ResultVar) (hres : fn.results.toList = res)
  (hw : VW P ⟨n,lo⟩ c (mk (dl 0 ds ++ capFrS ds.length cs)) (PostRx ⟨n,lo⟩ res rs ds.length (ownsOf 0 cs'))) : VCloR P f ds cs cs' rs := by
 subst hn'
 subst hlo
 subst hres
 refine ⟨hcall,fun w A C as us hA hC hinj hsa hsu hvs hcs => calls_of_wp hf hb ?_⟩
 have hsz : (mkClo as us).size = ds.length + cs.length := by unfold mkClo; rw [Array.size_append,hsa,hsu]
 have hget : ∀ s,s < (mkClo as us).size → ((mkClo as us) ++ Array.replicate (fn.ntmps - (mkClo as us).size) undef).getD s undef = (mkClo as us).getD s undef := fun s hs => by
  rw [Array.getD_eq_getD_getElem?,Array.getElem?_append_left hs,Array.getD_eq_getD_getElem?]
 have hgA : ∀ i,i < ds.length → (mkClo as us)[i]? = as[i]? := fun i hi => Array.getElem?_append_left (by omega)
 have hgC : ∀ k,(mkClo as us)[ds.length + k]? = us[k]? := fun k => by unfold mkClo; rw [Array.getElem?_append_right (by omega),hsa,Nat.add_sub_cancel_left]
 have hst : St (fun g => A g ∨ ¬ (g < w.heap.size ∧ C g = none)) (fun g => g < w.heap.size ∧ C g = none) ⟨w,fun s => (mkClo as us).getD s undef⟩ ⟨fn.ntmps,ds.length + cs.length⟩ C (mk (dl 0 ds ++ capFrS ds.length cs))
   { tmps := (mkClo as us) ++ Array.replicate (fn.ntmps - (mkClo as us).size) undef,defers := [] } w := by
  refine ⟨.refl _ _,fun g hg => hg.1,fun g hg => .inr hg,fun g y hy => ⟨fun h => (by rw [h.2] at hy; cases hy),hC g y hy⟩,hinj,by simp; omega,rfl,fun s hs => hget s (by simp only [] at hs; omega),fun s => ?_⟩
  have hfro : ∀ g,A g → Fro (fun g => A g ∨ ¬ (g < w.heap.size ∧ C g = none)) C w g := fun g hg => ⟨(hA g hg).2,(hA g hg).1,.inl hg⟩
  rw [dl_app,Nat.zero_add]
  by_cases hs : s < ds.length
  ·rw [if_pos ⟨Nat.zero_le _,hs⟩,Nat.sub_zero]
   obtain ⟨u,h2,h3⟩ := hvs s hs
   rw [List.getElem?_eq_getElem hs]
   simp only
   have hg : ((mkClo as us) ++ Array.replicate (fn.ntmps - (mkClo as us).size) undef).getD s undef = u := by
    rw [hget s (by omega),Array.getD_eq_getD_getElem?,hgA s hs,h2]; rfl
   rw [hg]
   exact h3.keep hfro fun _ _ => rfl
  ·rw [if_neg (fun h => hs h.2),capFrS_at,if_pos (by omega)]
   cases hd : cs[s - ds.length]? with
   | none => exact trivial
   | some c =>
    have hs1 : s - ds.length < cs.length := (List.getElem?_eq_some_iff.1 hd).1
    have hd' : cs[s - ds.length] = c := by rw [List.getElem?_eq_getElem hs1] at hd; exact Option.some.inj hd
    obtain ⟨u,h2,h3⟩ := hcs (s - ds.length) hs1
    rw [hd',show ds.length + (s - ds.length) = s by omega] at h3
    have hg : ((mkClo as us) ++ Array.replicate (fn.ntmps - (mkClo as us).size) undef).getD s undef = u := by
     rw [hget s (by omega),Array.getD_eq_getD_getElem?,show s = ds.length + (s - ds.length) by omega,hgC,h2]; rfl
    simp only
    rw [hg]
    cases c with
    | own xs => exact h3
    | fro d => exact (h3 : Rd w A u d).keep hfro fun _ _ => rfl
    | self => exact h3.elim
 refine wp_mono (hw _ _ _ _ _ _ hst) ?_
 rintro e a' w' ⟨O0,σ0,hs0,σ,hle,hq⟩
 obtain ⟨O,hs⟩ := hle _ _ _ _ _ _ hs0
 have fin : (resT fn.results.toList σ rs ∧ ∀ q ∈ ownsOf 0 cs',σ (ds.length + q.1) = .ref (ds.length + q.1) [] true (.ptr q.2)) → ∃ v,(results fn a'.tmps).run P w' = .ok v w' ∧ ∃ x C',Ending.returned v = .returned x ∧ RsR w' rs x ∧ Blw (fun g => g < w.heap.size ∧ C g = none) w w' ∧
   (∀ g y,C' g = some y → (C g ≠ none ∨ w.heap.size ≤ g) ∧ g < w'.heap.size) ∧ (∀ g g' y,C' g = some y → C' g' = some y → g = g') ∧
   ∀ (k : Nat) (xs : List D) (u : Value),cs'[k]? = some (CapK.own xs) → us[k]? = some u → OwnU w' C' (ds.length + k) [] u (.ptr xs) := by
  rintro ⟨hres,hq⟩
  obtain ⟨x,hx1,hx2⟩ := resT_run (P := P) hs hres
  refine ⟨x,hx1,x,O,rfl,hx2,hs.below,fun g y hg => ⟨?_,(hs.own g _ hg).2⟩,hs.inj,fun k xs u hk hu => ?_⟩
  ·have := (hs.own g _ hg).1
   by_cases hgs : g < w.heap.size
   ·left; intro hc; exact this ⟨hgs,hc⟩
   ·right; omega
  ·have h1 := hq _ (mem_ownsOf cs' 0 hk)
   simp only [Nat.zero_add] at h1
   have hku : k < us.size := (Array.getElem?_eq_some_iff.1 hu).1
   have h2 := hs.slots (ds.length + k)
   rw [h1,hs.pin (ds.length + k) (show ds.length + k < ds.length + cs.length by omega)] at h2
   have h3 : (mkClo as us).getD (ds.length + k) undef = u := by rw [Array.getD_eq_getD_getElem?,hgC,hu]; rfl
   simp only [h3] at h2
   exact h2
 cases e with
 | normal => obtain ⟨v,h1,h2⟩ := fin hq; exact ⟨hs.defers,v,h1,h2⟩
 | ret => obtain ⟨v,h1,h2⟩ := fin hq; exact ⟨hs.defers,v,h1,h2⟩
 | _ => exact hq.elim

def capFrG (t : Nat) : List CapK → FL
 | [] => []
 | .own xs :: r => (t,.gst t xs) :: capFrG (t + 1) r
 | _ :: r => capFrG (t + 1) r
theorem capFrG_at : ∀ (cs : List CapK) (t s : Nat),mk (capFrG t cs) s = .dead ∨ t ≤ s ∧ ∃ xs,cs[s - t]? = some (.own xs) ∧ mk (capFrG t cs) s = .gst s xs
 | [],t,s => .inl rfl
 | c :: r,t,s => by
  have ih := capFrG_at r (t + 1) s
  have up : (mk (capFrG (t + 1) r) s = .dead ∨ t + 1 ≤ s ∧ ∃ xs,r[s - (t + 1)]? = some (.own xs) ∧ mk (capFrG (t + 1) r) s = .gst s xs) → (mk (capFrG (t + 1) r) s = .dead ∨ t ≤ s ∧ ∃ xs,(c :: r)[s - t]? = some (.own xs) ∧ mk (capFrG (t + 1) r) s = .gst s xs) := by
   rintro (h | ⟨h1,xs,h2,h3⟩)
   ·exact .inl h
   ·refine .inr ⟨by omega,xs,?_,h3⟩
    have : s - t = (s - (t + 1)) + 1 := by omega
    rw [this]; simpa using h2
  cases c with
  | own xs =>
   simp only [capFrG,mk_cons]
   by_cases h : s = t
   ·subst h
    rw [if_pos rfl]
    exact .inr ⟨Nat.le_refl _,xs,by simp,rfl⟩
   ·rw [if_neg h]; exact up ih
  | fro d => exact up ih
  | self => exact up ih

theorem VHof.enter {g f : FuncId} {fn : Func} {c : Code} {ds : List D} {cs cs' : List CapK} {rs : List D} (hcall : ∀ args w,(callFunc g args).run P w = .ok (.enter g args) w)
  (hf : P.funcs[g]? = some fn) (hb : fn.body = some c) (n lo : Nat) (hn' : fn.ntmps = n) (hlo : lo = ds.length + 1) (hn : lo ≤ n) (res : List ResultVar) (hres : fn.results.toList = res) (hall : ownB cs cs' = true)
  (hw : VW P ⟨n,lo⟩ c (mk (dl 0 ds ++ (ds.length,.clo f (capsAs n cs)) :: capFrG n cs)) (PostHx ⟨n,lo⟩ res rs ds.length f (capsAs n cs) n (ownsOf 0 cs'))) : VHof P g f n ds cs cs' rs := by
 subst hn'
 subst hlo
 subst hres
 refine ⟨hcall,fun w A C as us hA hC hinj hsa hsu hvs hcs => calls_of_wp hf hb ?_⟩
 have hsz : (mkH f as us).size = ds.length + 1 := by unfold mkH; rw [Array.size_append,hsa]; rfl
 have hget : ∀ s,s < (mkH f as us).size → ((mkH f as us) ++ Array.replicate (fn.ntmps - (mkH f as us).size) undef).getD s undef = (mkH f as us).getD s undef := fun s hs => by
  rw [Array.getD_eq_getD_getElem?,Array.getElem?_append_left hs,Array.getD_eq_getD_getElem?]
 have hgA : ∀ i,i < ds.length → (mkH f as us)[i]? = as[i]? := fun i hi => Array.getElem?_append_left (by omega)
 have hgC : (mkH f as us).getD ds.length undef = .func (.func f) #[] us := by unfold mkH; rw [Array.getD_eq_getD_getElem?,Array.getElem?_append_right (by omega),hsa,Nat.sub_self]; rfl
 have hfro : ∀ g,A g → Fro (fun g => A g ∨ ¬ (g < w.heap.size ∧ C g = none)) C w g := fun g hg => ⟨(hA g hg).2,(hA g hg).1,.inl hg⟩
 have hst : St (fun g => A g ∨ ¬ (g < w.heap.size ∧ C g = none)) (fun g => g < w.heap.size ∧ C g = none) ⟨w,fun s => (mkH f as us).getD s undef⟩ ⟨fn.ntmps,ds.length + 1⟩ C (mk (dl 0 ds ++ (ds.length,.clo f (capsAs fn.ntmps cs)) :: capFrG fn.ntmps cs))
   { tmps := (mkH f as us) ++ Array.replicate (fn.ntmps - (mkH f as us).size) undef,defers := [] } w := by
  refine ⟨.refl _ _,fun g hg => hg.1,fun g hg => .inr hg,fun g y hy => ⟨fun h => (by rw [h.2] at hy; cases hy),hC g y hy⟩,hinj,by simp; omega,rfl,fun s hs => hget s (by simp only [] at hs; omega),fun s => ?_⟩
  rw [dl_app,Nat.zero_add]
  by_cases hs : s < ds.length
  ·rw [if_pos ⟨Nat.zero_le _,hs⟩,Nat.sub_zero]
   obtain ⟨u,h2,h3⟩ := hvs s hs
   rw [List.getElem?_eq_getElem hs]
   simp only
   have hg : ((mkH f as us) ++ Array.replicate (fn.ntmps - (mkH f as us).size) undef).getD s undef = u := by
    rw [hget s (by omega),Array.getD_eq_getD_getElem?,hgA s hs,h2]; rfl
   rw [hg]
   exact h3.keep hfro fun _ _ => rfl
  ·rw [if_neg (fun h => hs h.2),mk_cons]
   by_cases hs2 : s = ds.length
   ·rw [if_pos hs2]
    have hg : ((mkH f as us) ++ Array.replicate (fn.ntmps - (mkH f as us).size) undef).getD s undef = .func (.func f) #[] us := by
     rw [hget s (by omega),hs2,hgC]
    rw [hg]
    refine ⟨us,rfl,by rw [capsAs_len,hsu],fun k hk => ?_⟩
    have hk' : k < cs.length := by rw [capsAs_len] at hk; exact hk
    obtain ⟨u,h2,h3⟩ := hcs k hk'
    refine ⟨u,h2,?_⟩
    rw [capsAs_at cs fn.ntmps k hk' hk]
    generalize cs[k] = c at h3 ⊢
    cases c with
    | own xs =>
     cases (h3 : OwnU w C (fn.ntmps + k) [] u (.ptr xs)) with
     | ptr _ g' cur E _ vs q1 q2 q3 q4 q5 => exact ⟨g',rfl,q1⟩
    | fro d => exact (h3 : Rd w A u d).keep hfro fun _ _ => rfl
    | self => exact h3.elim
   ·rw [if_neg hs2]
    rcases capFrG_at cs fn.ntmps s with e | ⟨e0,xs,e1,e2⟩
    ·rw [e]; exact trivial
    ·rw [e2]
     have hs1 : s - fn.ntmps < cs.length := (List.getElem?_eq_some_iff.1 e1).1
     have hd' : cs[s - fn.ntmps] = .own xs := by rw [List.getElem?_eq_getElem hs1] at e1; exact Option.some.inj e1
     obtain ⟨u,h2,h3⟩ := hcs (s - fn.ntmps) hs1
     rw [hd',show fn.ntmps + (s - fn.ntmps) = s by omega] at h3
     exact ⟨u,h3⟩
 refine wp_mono (hw _ _ _ _ _ _ hst) ?_
 rintro e a' w' ⟨O0,σ0,hs0,σ,hle,hq⟩
 obtain ⟨O,hs⟩ := hle _ _ _ _ _ _ hs0
 have fin : (resT fn.results.toList σ rs ∧ σ ds.length = .clo f (capsAs fn.ntmps cs) ∧ ∀ q ∈ ownsOf 0 cs',σ (fn.ntmps + q.1) = .gst (fn.ntmps + q.1) q.2) → ∃ v,(results fn a'.tmps).run P w' = .ok v w' ∧ ∃ x C',Ending.returned v = .returned x ∧ RsR w' rs x ∧ Blw (fun g => g < w.heap.size ∧ C g = none) w w' ∧
   (∀ g y,C' g = some y → (C g ≠ none ∨ w.heap.size ≤ g) ∧ g < w'.heap.size) ∧ (∀ g g' y,C' g = some y → C' g' = some y → g = g') ∧
   ∀ (k : Nat) (xs : List D) (u : Value),cs'[k]? = some (CapK.own xs) → us[k]? = some u → OwnU w' C' (fn.ntmps + k) [] u (.ptr xs) := by
  rintro ⟨hres,hcl,hq⟩
  obtain ⟨x,hx1,hx2⟩ := resT_run (P := P) hs hres
  refine ⟨x,hx1,x,O,rfl,hx2,hs.below,fun g y hg => ⟨?_,(hs.own g _ hg).2⟩,hs.inj,fun k xs u hk hu => ?_⟩
  ·have := (hs.own g _ hg).1
   by_cases hgs : g < w.heap.size
   ·left; intro hc; exact this ⟨hgs,hc⟩
   ·right; omega
  ·have h1 := hq _ (mem_ownsOf cs' 0 hk)
   simp only [Nat.zero_add] at h1
   have hku : k < us.size := (Array.getElem?_eq_some_iff.1 hu).1
   have h2 := hs.slots (fn.ntmps + k)
   rw [h1] at h2
   obtain ⟨u',h2⟩ := (h2 : ∃ u',OwnU w' O (fn.ntmps + k) [] u' (.ptr xs))
   have h3 := hs.slots ds.length
   rw [hcl,hs.pin ds.length (show ds.length < ds.length + 1 by omega)] at h3
   simp only [hgC] at h3
   obtain ⟨vs,q1,q2,q3⟩ := h3
   simp only [Value.func.injEq,true_and] at q1
   subst q1
   have hk1 : k < (capsAs fn.ntmps cs).length := by omega
   have hk2 : k < cs.length := by omega
   obtain ⟨u2,q4,q5⟩ := q3 k hk1
   rw [hu] at q4
   simp only [Option.some.injEq] at q4
   subst q4
   rw [capsAs_at cs fn.ntmps k hk2 hk1] at q5
   have : ∃ g,u = .pointer (some ⟨g,0,none⟩) ∧ O g = some (fn.ntmps + k,[]) := by
    cases hck : cs[k] with
    | own ys => rw [hck] at q5; exact q5
    | self => rw [hck] at q5; exact q5
    | fro d =>
     exfalso
     obtain ⟨ys,hy⟩ := ownB_at cs cs' hall hk
     rw [List.getElem?_eq_getElem hk2,hck] at hy
     cases hy
   obtain ⟨g',rfl,hg'⟩ := this
   rw [← ptr_at hs.inj h2 hg']
   exact h2
 cases e with
 | normal => obtain ⟨v,h1,h2⟩ := fin hq; exact ⟨hs.defers,v,h1,h2⟩
 | ret => obtain ⟨v,h1,h2⟩ := fin hq; exact ⟨hs.defers,v,h1,h2⟩
 | _ => exact hq.elim

theorem mk_fixS {us : List (Nat × Nat × Nat × Bool × List D)} {r : FL} (s : Nat) : (∃ q ∈ us,q.1 = s ∧ mk (us.map (fun q => (q.1,cellV q.2.2.2.1 q.2.1 q.2.2.2.2)) ++ r) s = cellV q.2.2.2.1 q.2.1 q.2.2.2.2) ∨
  mk (us.map (fun q => (q.1,cellV q.2.2.2.1 q.2.1 q.2.2.2.2)) ++ r) s = mk r s := by
 induction us with
 | nil => exact .inr rfl
 | cons q us ih =>
  simp only [List.map_cons,List.cons_append,mk_cons]
  by_cases h : s = q.1
  ·exact .inl ⟨q,by simp,h.symm,by rw [if_pos h]⟩
  ·rw [if_neg h]
   rcases ih with ⟨q',h1,h2,h3⟩ | h1
   ·exact .inl ⟨q',by simp [h1],h2,h3⟩
   ·exact .inr h1
theorem wp_sta {R B : Nat → Prop} {w0 : W0} {N : Lim} {O : Own} {fl : FL} {a : Act} {w : World} {h f : FuncId} {mka : Array Value → Array Value → Array Value} {T : Nat} {ds : List D} {cs cs' : List CapK} {rs : List D} {cc : List Cap}
  (hs : St R B w0 N O (mk fl) a w) {o : Oper} {xs : List Operand} {sc d : Nat} (hd : o.dst = some d) (hN : d ∈ N) (hc : mk fl sc = .clo f cc)
  (hrun : ∀ cvs,a.eval (.tmp sc) = .func (.func f) #[] cvs → (execOp a.eval o).run P w = .ok (.enter h (mka (xs.map a.eval).toArray cvs)) w)
  (hds : data (mk fl) xs = some ds) (hts : ∀ t ∈ toks (mk fl) xs,t ∉ capTs cc) (hv : VSta P h mka T ds cs cs' rs)
  (hcap : All2 (CapOkS fl) cc cs) (hnod : (capTs cc).Nodup) (hcs : ownB cs cs' = true) (us : List (Nat × Nat × Nat × Bool × List D)) (sl : List Nat)
  (hus : ∀ q ∈ us,cc[q.2.2.1]? = some (Cap.tok q.2.1) ∧ cs'[q.2.2.1]? = some (.own q.2.2.2.2) ∧ ∃ ys,mk fl q.1 = cellV q.2.2.2.1 q.2.1 ys) (hsl : ∀ s ∈ sl,mk fl s = .clo f cc)
  {K : Act → World → Prop} {Q : Exit → Act → World → Prop}
  (hK : ∀ O' a' w',St R B w0 N O' (mk ((d,slotT rs) :: (sl.map (fun s => (s,VV.clo f cc)) ++ (us.map (fun q => (q.1,cellV q.2.2.2.1 q.2.1 q.2.2.2.2)) ++ fl.map fun q => (q.1,kmap (capTs cc) q.2))))) a' w' → K a' w') : o.wp P a w K Q := by
 obtain ⟨hcall,hv⟩ := hv
 have hclo : CloR R w O f cc (a.eval (.tmp sc)) := by
  have := rel_ev hs (.tmp sc)
  have hev : ev (mk fl) (.tmp sc) = .clo f cc := hc
  rw [hev] at this
  exact this
 obtain ⟨cvs,hce,hcsz,hcv⟩ := hclo
 obtain ⟨hlen,hvals⟩ := data_rd hs xs ds hds (ts := toks (mk fl) xs) (fun t ht => ht)
 unfold Oper.wp
 rw [hrun cvs hce]
 simp only [Oper.upon]
 have hasz : ((xs.map a.eval).toArray).size = ds.length := by simp [hlen]
 have hl1 := hcap.len
 let C : Own := fun g => match O g with
  | some (t,q) => (capIx t cc 0).map fun k => (T + k,q)
  | none => none
 have hCs : ∀ g y,C g = some y → ∃ t k q,O g = some (t,q) ∧ cc[k]? = some (Cap.tok t) ∧ y = (T + k,q) := by
  intro g y hg
  simp only [C] at hg
  split at hg
  ·rename_i t q hO
   obtain ⟨k,h1,h2⟩ := Option.map_eq_some_iff.1 hg
   exact ⟨t,k,q,hO,by simpa using (capIx_some h1).2,h2.symm⟩
  ·cases hg
 have hCo : ∀ (g t : Nat) (q : List Nat) (k : Nat),O g = some (t,q) → cc[k]? = some (Cap.tok t) → C g = some (T + k,q) := by
  intro g t q k hO hk
  simp only [C,hO]
  cases hx : capIx t cc 0 with
  | none => exact absurd hk (capIx_none hx k)
  | some j =>
   have := cap_uniq hnod (by simpa using (capIx_some hx).2) hk
   subst this; rfl
 have hCn : ∀ g t q,O g = some (t,q) → t ∉ capTs cc → C g = none := by
  intro g t q hO ht
  cases hx : C g with
  | none => rfl
  | some y =>
   obtain ⟨t',k,q',h1,h2,_⟩ := hCs g y hx
   rw [hO] at h1
   simp only [Option.some.injEq,Prod.mk.injEq] at h1
   exact absurd (mem_capTs.2 ⟨k,h1.1 ▸ h2⟩) ht
 have hC0 : ∀ g,O g = none → C g = none := fun g hg => by simp only [C,hg]
 have hAf : ∀ g,Foot R O w (toks (mk fl) xs) g → g < w.heap.size ∧ C g = none := fun g hg => ⟨hg.1,by
  rcases hg.2.2 with h1 | ⟨t,q,h1,h2⟩
  ·exact hC0 g h1
  ·exact hCn g t q h2 (hts t h1)⟩
 have hptr : ∀ {s t : Nat} {gh : Bool} {ys : List D} {u : Value},mk fl s = cellV gh t ys → CapR R w O (.tok t) u → OwnU w O t [] u (.ptr ys) := by
  intro s t gh ys u hsl hu
  obtain ⟨u',h1⟩ := cellV_some hs hsl
  obtain ⟨g,rfl,hO⟩ := hu
  rwa [ptr_at hs.inj h1 hO] at h1
 have key := hv w (Foot R O w (toks (mk fl) xs)) C (xs.map a.eval).toArray cvs hAf
  (fun g y hg => by obtain ⟨t,k,q,h1,_⟩ := hCs g y hg; exact (hs.own g _ h1).2)
  (fun g g' y h1 h2 => by
   obtain ⟨t,k,q,a1,a2,rfl⟩ := hCs g y h1
   obtain ⟨t',k',q',b1,b2,b3⟩ := hCs g' _ h2
   simp only [Prod.mk.injEq] at b3
   obtain ⟨b3,rfl⟩ := b3
   have : k = k' := by omega
   subst this
   rw [a2] at b2
   simp only [Option.some.injEq,Cap.tok.injEq] at b2
   subst b2
   exact hs.inj g g' _ a1 b1)
  hasz (by rw [hcsz,hl1])
  (fun i hi => by
   obtain ⟨u,h1,h2⟩ := hvals i hi
   refine ⟨u,?_,h2⟩
   rw [List.getElem?_toArray]; exact h1)
  (fun k hk => by
   have hkc : k < cc.length := by omega
   obtain ⟨u,h1,h2⟩ := hcv k hkc
   refine ⟨u,h1,?_⟩
   have hok := hcap.at (List.getElem?_eq_getElem hkc) (List.getElem?_eq_getElem hk)
   have e1 : cc[k]? = some cc[k] := List.getElem?_eq_getElem hkc
   generalize cc[k] = c at h2 hok e1
   generalize cs[k] = c' at hok ⊢
   cases c <;> cases c' <;> simp only [CapOkS] at hok
   ·obtain ⟨s,gh,hs'⟩ := hok
    rename_i t xs'
    exact OwnU.keep (hptr hs' h2) [] fun g q hg => ⟨hCo g t _ k hg e1,rfl⟩
   ·subst hok
    exact (h2 : Rd w (Fro R O w) u _).keep (fun g hg => ⟨hg.2.1,hg.2.2,.inl hg.1⟩) fun _ _ => rfl)
 refine key.mono ?_
 rintro e w' ⟨y,C',rfl,hy,hb,hC1,hC2,hres⟩
 simp only
 rw [hd]
 let bk : Nat → Option Nat := fun r => if T ≤ r then (match cc[r - T]? with
  | some (.tok t) => some t
  | _ => none) else none
 have hbk : ∀ (k t : Nat),cc[k]? = some (Cap.tok t) → bk (T + k) = some t := by
  intro k t hk
  simp only [bk,if_pos (Nat.le_add_right _ _),Nat.add_sub_cancel_left,hk]
 have hbk' : ∀ r t,bk r = some t → ∃ k : Nat,r = T + k ∧ cc[k]? = some (Cap.tok t) := by
  intro r t hr
  simp only [bk] at hr
  split at hr
  ·split at hr <;> simp only [Option.some.injEq,reduceCtorEq] at hr
   subst hr
   rename_i h1 _ h2
   exact ⟨r - T,by omega,h2⟩
  ·cases hr
 let O' : Own := fun g => if g < w.heap.size ∧ C g = none then O g else (match C' g with
  | some (r,q) => (bk r).map fun t => (t,q)
  | none => none)
 have hold : ∀ g,g < w.heap.size → C g = none → O' g = O g := fun g h1 h2 => by simp only [O',if_pos (⟨h1,h2⟩ : g < w.heap.size ∧ C g = none)]
 have hneu : ∀ g r q t,C' g = some (r,q) → bk r = some t → O' g = some (t,q) := by
  intro g r q t hg ht
  have h1 : ¬ (g < w.heap.size ∧ C g = none) := fun hc => by rcases (hC1 g _ hg).1 with h2 | h2; exact h2 hc.2; omega
  simp only [O',if_neg h1,hg,ht]; rfl
 have hinv : ∀ g z,O' g = some z → (g < w.heap.size ∧ C g = none ∧ O g = some z) ∨ (∃ k : Nat,C' g = some (T + k,z.2) ∧ cc[k]? = some (Cap.tok z.1)) := by
  intro g z hz
  by_cases hc : g < w.heap.size ∧ C g = none
  ·rw [hold g hc.1 hc.2] at hz; exact .inl ⟨hc.1,hc.2,hz⟩
  ·simp only [O',if_neg hc] at hz
   split at hz
   ·rename_i r q hr
    obtain ⟨t,h1,h2⟩ := Option.map_eq_some_iff.1 hz
    obtain ⟨k,rfl,h3⟩ := hbk' r t h1
    subst h2
    exact .inr ⟨k,hr,h3⟩
   ·cases hz
 have hke : Keeps w w' O O' (fun r => r ∈ capTs cc) := ⟨hb.size,fun g hg hO => ⟨by rw [hold g hg (hC0 g hO)]; exact hO,hb.block g ⟨hg,hC0 g hO⟩⟩,fun g r q hO hr => by
  have h1 := (hs.own g _ hO).2
  have h2 := hCn g r q hO hr
  exact ⟨by rw [hold g h1 h2]; exact hO,hb.block g ⟨h1,h2⟩⟩⟩
 have hBC : ∀ g,B g → g < w.heap.size ∧ C g = none := fun g hg => ⟨hs.base g hg,by
  cases hx : C g with
  | none => rfl
  | some y => obtain ⟨t,k,q,h1,_⟩ := hCs g y hx; exact absurd hg (hs.own g _ h1).1⟩
 have hnew : ∀ (k t : Nat) (ys : List D) (u : Value),cc[k]? = some (Cap.tok t) → cs'[k]? = some (.own ys) → cvs[k]? = some u → OwnU w' O' t [] u (.ptr ys) := by
  intro k t ys u h1 h2 h3
  exact OwnU.keep (hres k ys u h2 h3) [] fun g q hg => ⟨hneu g _ _ t hg (hbk k t h1),rfl⟩
 have hdN : d < a.tmps.size := by rw [hs.size]; exact hN.2
 refine hK O' _ w' ⟨hs.below.trans ⟨hb.os,hb.tape,hb.output,hb.size,fun g hg => hb.block g (hBC g hg)⟩,fun g hg => Nat.lt_of_lt_of_le (hs.base g hg) hb.size,hs.fresh,?_,?_,by simp [Act.put,hs.size],hs.defers,
  fun s hs' => by rw [getD_put hdN,if_neg (fun e => by have := hN.1; omega)]; exact hs.pin s hs',fun s => ?_⟩
 ·intro g z hz
  rcases hinv g z hz with ⟨h1,_,h3⟩ | ⟨k,h1,_⟩
  ·exact ⟨(hs.own g _ h3).1,Nat.lt_of_lt_of_le h1 hb.size⟩
  ·refine ⟨fun hBb => ?_,(hC1 g _ h1).2⟩
   have h2 := hBC g hBb
   rcases (hC1 g _ h1).1 with h3 | h3
   ·exact h3 h2.2
   ·omega
 ·rintro g g' ⟨t,q⟩ h1 h2
  rcases hinv g _ h1 with ⟨a1,a2,a3⟩ | ⟨k,a1,a2⟩ <;> rcases hinv g' _ h2 with ⟨b1,b2,b3⟩ | ⟨k',b1,b2⟩
  ·exact hs.inj g g' _ a3 b3
  ·rw [hCo g t q k' a3 b2] at a2; cases a2
  ·rw [hCo g' t q k b3 a2] at b2; cases b2
  ·have := cap_uniq hnod a2 b2
   subst this
   exact hC2 g g' _ a1 b1
 ·rw [getD_put hdN]
  simp only [mk_cons]
  by_cases hsd : s = d
  ·rw [if_pos hsd,if_pos hsd]; exact hy.rel
  rw [if_neg hsd,if_neg hsd,mk_same]
  by_cases hsc : s ∈ sl
  ·rw [if_pos hsc]
   have hcl : CloR R w O f cc (a.tmps.getD s undef) := by
    have := hs.slots s
    rw [hsl s hsc] at this
    exact this
   show CloR R w' O' f cc (a.tmps.getD s undef)
   obtain ⟨cvs2,hce2,hcsz2,hcv2⟩ := hcl
   refine ⟨cvs2,hce2,hcsz2,fun k hk => ?_⟩
   obtain ⟨u,h1,h2⟩ := hcv2 k hk
   obtain ⟨u0,h10,h20⟩ := hcv k hk
   refine ⟨u,h1,?_⟩
   have hk' : k < cs.length := by omega
   have hok := hcap.at (List.getElem?_eq_getElem hk) (List.getElem?_eq_getElem hk')
   have e1 : cc[k]? = some cc[k] := List.getElem?_eq_getElem hk
   have e2 : cs[k]? = some cs[k] := List.getElem?_eq_getElem hk'
   generalize cc[k] = c at h2 h20 hok e1 ⊢
   generalize cs[k] = c' at hok e2
   cases c <;> cases c' <;> simp only [CapOkS] at hok
   ·rename_i t xs'
    obtain ⟨ys,hys⟩ := ownB_to cs cs' hcs e2
    have h3 := hnew k t ys u0 e1 hys h10
    obtain ⟨g,rfl,hg⟩ := h2
    obtain ⟨g0,rfl,hg0⟩ := h20
    have := hs.inj g g0 _ hg hg0
    subst this
    cases h3 with
    | ptr _ g' cur E _ vs q1 q2 q3 q4 q5 => exact ⟨g,rfl,q1⟩
   ·exact Rd.fro hke h2
  ·rw [if_neg hsc]
   rcases mk_fixS (us := us) (r := fl.map fun q => (q.1,kmap (capTs cc) q.2)) s with ⟨q,hq,rfl,e1⟩ | e1
   ·rw [e1]
    obtain ⟨h1,h2,ys,h3⟩ := hus q hq
    obtain ⟨hk,h4⟩ := List.getElem?_eq_some_iff.1 h1
    obtain ⟨u,h5,h6⟩ := hcv _ hk
    rw [h4] at h6
    have h7 := hnew _ _ _ u h1 h2 h5
    have h8 := hs.slots q.1
    rw [h3] at h8
    generalize q.2.2.2.1 = gh at h8 ⊢
    cases gh with
    | true => exact ⟨u,h7⟩
    | false =>
     obtain ⟨g,rfl,hg⟩ := h6
     have h9 := ptr_at hs.inj (h8 : OwnU w O q.2.1 [] _ (.ptr ys)) hg
     rw [h9]
     exact h7
   ·rw [e1,mk_map (kmap (capTs cc)) (kmap_dead (capTs cc))]
    exact (hs.slots s).killl hke

variable {N : Lim}
theorem step_cloR {o : Oper} {f : FuncId} {as : Array Operand} {tt : Array TypeId} {sc d : Nat} {fl : FL} {cc : List Cap} {ds rs : List D} {cs cs' : List CapK} (us : List (Nat × Nat × Nat × Bool × List D)) (sl : List Nat)
  (ho : o.op = .call ⟨.value (.tmp sc),as,tt⟩) (hd : o.dst = some d) (hN : d ∈ N) (hc : mk fl sc = .clo f cc) (hds : data (mk fl) as.toList = some ds) (hv : VCloR P f ds cs cs' rs)
  (hcap : All2 (CapOkS fl) cc cs) (hout : ownB cs cs' = true) (hnod : (capTs cc).Nodup) (hts : ∀ t ∈ toks (mk fl) as.toList,t ∉ capTs cc)
  (hus : ∀ q ∈ us,cc[q.2.2.1]? = some (Cap.tok q.2.1) ∧ cs'[q.2.2.1]? = some (.own q.2.2.2.2) ∧ ∃ ys,mk fl q.1 = cellV q.2.2.2.1 q.2.1 ys) (hsl : ∀ s ∈ sl,mk fl s = .clo f cc) :
  OStep P N o (mk fl) (fun _ : Unit => mk ((d,slotT rs) :: (sl.map (fun s => (s,VV.clo f cc)) ++ (us.map (fun q => (q.1,cellV q.2.2.2.1 q.2.1 q.2.2.2.2)) ++ fl.map fun q => (q.1,kmap (capTs cc) q.2))))) (fun _ => True) := by
 intro R B w0 O a w K Q h hK
 refine wp_sta h hd hN hc (fun cvs hce => ?_) hds hts hv hcap hnod hout us sl hus hsl fun O' a' w' h' => hK () O' a' w' trivial h'
 simp only [execOp,ho,resolve,hce,Deferred.ofValue]
 have e : (as.toList.map a.eval).toArray = as.map a.eval := by rw [← Array.toList_map]
 simp [invoke,hv.1,mkClo,e]
theorem step_hof {o : Oper} {g f : FuncId} {as : Array Operand} {tt : Array TypeId} {sc d T : Nat} {fl : FL} {cc : List Cap} {ds rs : List D} {cs cs' : List CapK} (us : List (Nat × Nat × Nat × Bool × List D)) (sl : List Nat)
  (ho : o.op = .call ⟨.value (.func g),as,tt⟩) (hasl : as.toList.getLast? = some (.tmp sc)) (hd : o.dst = some d) (hN : d ∈ N) (hc : mk fl sc = .clo f cc) (hds : data (mk fl) as.toList.dropLast = some ds) (hv : VHof P g f T ds cs cs' rs)
  (hcap : All2 (CapOkS fl) cc cs) (hout : ownB cs cs' = true) (hnod : (capTs cc).Nodup) (hts : ∀ t ∈ toks (mk fl) as.toList.dropLast,t ∉ capTs cc)
  (hus : ∀ q ∈ us,cc[q.2.2.1]? = some (Cap.tok q.2.1) ∧ cs'[q.2.2.1]? = some (.own q.2.2.2.2) ∧ ∃ ys,mk fl q.1 = cellV q.2.2.2.1 q.2.1 ys) (hsl : ∀ s ∈ sl,mk fl s = .clo f cc) :
  OStep P N o (mk fl) (fun _ : Unit => mk ((d,slotT rs) :: (sl.map (fun s => (s,VV.clo f cc)) ++ (us.map (fun q => (q.1,cellV q.2.2.2.1 q.2.1 q.2.2.2.2)) ++ fl.map fun q => (q.1,kmap (capTs cc) q.2))))) (fun _ => True) := by
 intro R B w0 O a w K Q h hK
 have has : as.toList = as.toList.dropLast ++ [.tmp sc] := by
  have hne : as.toList ≠ [] := fun e => by rw [e] at hasl; cases hasl
  have := List.dropLast_concat_getLast hne
  rw [List.getLast?_eq_some_getLast hne] at hasl
  rw [← Option.some.inj hasl]; exact this.symm
 refine wp_sta h hd hN hc (fun cvs hce => ?_) hds hts hv hcap hnod hout us sl hus hsl fun O' a' w' h' => hK () O' a' w' trivial h'
 have hfd := rel_ev h (.func g)
 have e : as.map a.eval = mkH f (as.toList.dropLast.map a.eval).toArray cvs := by
  apply Array.ext'
  rw [Array.toList_map]
  conv => lhs; rw [has]
  unfold mkH
  simp [hce]
 have hrun : (execOp a.eval o).run P w = .ok (.enter g (as.map a.eval)) w := by
  simp only [execOp,ho,resolve,Deferred.ofValue]
  generalize hfv : a.eval (.func g) = fv at hfd
  cases (hfd : Rd w (Fro R O w) fv _) with
  | fn _ cs _ cvs hl hcv hcr =>
   have hcs : cs = #[] := by simpa using hl
   subst hcs
   simp [invoke,hv.1]
 rw [hrun,e]

end
@[simp] theorem cellV_true (t : Nat) (xs : List D) : cellV true t xs = .gst t xs := (rfl)
@[simp] theorem cellV_false (t : Nat) (xs : List D) : cellV false t xs = .ref t [] true (.ptr xs) := (rfl)
@[simp] theorem slotT_nil : slotT [] = .dead := (rfl)
@[simp] theorem slotT_one (r : D) : slotT [r] = .val r := (rfl)
@[simp] theorem capTs_nil : capTs [] = [] := (rfl)
@[simp] theorem capTs_tok (t : Nat) (r : List Cap) : capTs (.tok t :: r) = t :: capTs r := (rfl)
@[simp] theorem capTs_dat (d : D) (r : List Cap) : capTs (.dat d :: r) = capTs r := (rfl)
theorem CapOkS.tok' {fl : FL} {t : Nat} {xs : List D} (s : Nat) (gh : Bool) (h : mk fl s = cellV gh t xs) : CapOkS fl (.tok t) (.own xs) := ⟨s,gh,h⟩
theorem CapOkS.dat' {fl : FL} {d : D} : CapOkS fl (.dat d) (.fro d) := rfl
end Go.Vam
