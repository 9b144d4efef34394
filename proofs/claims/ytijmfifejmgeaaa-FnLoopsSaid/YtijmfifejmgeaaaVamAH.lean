/- Closures that catch the addresses of trees: what they do to these. -/
import Derived.Test.YtijmfifejmgeaaaVamAG
namespace Go.Vam
open Go Go.RowKit
set_option linter.unusedSimpArgs false
set_option linter.unusedVariables false

inductive CapK where
 | own (xs : List D)
 | fro (d : D)
 | self
 deriving Inhabited
def CapK.mutB : CapK → Bool
 | .fro _ => false
 | _ => true
def capAs (t : Nat) : CapK → Cap
 | .own _ => .tok t
 | .fro d => .dat d
 | .self => .tok t
def capsAs : Nat → List CapK → List Cap
 | _,[] => []
 | t,c :: r => capAs t c :: capsAs (t + 1) r
theorem capsAs_len : ∀ (cs : List CapK) (t : Nat),(capsAs t cs).length = cs.length
 | [],_ => rfl
 | c :: r,t => by simp [capsAs,capsAs_len r]
theorem capsAs_at : ∀ (cs : List CapK) (t i : Nat) (h : i < cs.length) (h' : i < (capsAs t cs).length),(capsAs t cs)[i] = capAs (t + i) cs[i]
 | [],_,i,h,_ => absurd h (by simp)
 | c :: r,t,i,h,h' => by
  cases i with
  | zero => rfl
  | succ i =>
   simp only [capsAs,List.getElem_cons_succ]
   rw [capsAs_at r (t + 1) i (by simpa using h) (by rw [capsAs_len]; simpa using h)]
   congr 1
   omega
def capV (f : FuncId) (cc : List Cap) (t : Nat) : CapK → VV
 | .own xs => .ref t [] true (.ptr xs)
 | .fro d => .val d
 | .self => .cel t f cc
theorem CloR.more {R R' : Nat → Prop} {w : World} {O : Own} {f : FuncId} {cs : List Cap} {v : Value} (h : ∀ g,R g → R' g) (hc : CloR R w O f cs v) : CloR R' w O f cs v := by
 obtain ⟨vs,h1,h2,h3⟩ := hc
 refine ⟨vs,h1,h2,fun i hi => ?_⟩
 obtain ⟨u,h4,h5⟩ := h3 i hi
 refine ⟨u,h4,?_⟩
 cases hci : cs[i] with
 | tok t => rw [hci] at h5; exact h5
 | dat d => rw [hci] at h5; exact (h5 : Rd w (Fro R O w) u d).keep (fun g hg => ⟨hg.1,hg.2.1,h g hg.2.2⟩) fun _ _ => rfl
theorem capV_more {R R' : Nat → Prop} {w : World} {O : Own} {f : FuncId} {cc : List Cap} {t : Nat} {c : CapK} {v : Value} (h : ∀ g,R g → R' g) (hr : Rel R w O (capV f cc t c) v) : Rel R' w O (capV f cc t c) v := by
 cases c with
 | own xs => exact hr
 | fro d => exact (hr : Rd w (Fro R O w) v d).keep (fun g hg => ⟨hg.1,hg.2.1,h g hg.2.2⟩) fun _ _ => rfl
 | self =>
  obtain ⟨g,cur,E,cv,h1,h2,h3,h4,h5,h6⟩ := hr
  exact ⟨g,cur,E,cv,h1,h2,h3,h4,h5,h6.more h⟩

def VClo (P : Program) (f : FuncId) (ds : List D) (cs cs' : List CapK) : Prop :=
 (∀ args w,(callFunc f args).run P w = .ok (.enter f args) w) ∧
 ∀ (w : World) (A : Nat → Prop) (C : Own) (as us : Array Value),
  (∀ g,A g → g < w.heap.size ∧ C g = none) → (∀ g y,C g = some y → g < w.heap.size) → (∀ g g' y,C g = some y → C g' = some y → g = g') →
  as.size = ds.length → us.size = cs.length → (∀ i (h : i < ds.length),∃ u,as[i]? = some u ∧ Rd w A u ds[i]) →
  (∀ k (h : k < cs.length),∃ u,us[k]? = some u ∧ Rel A w C (capV f (capsAs ds.length cs) (ds.length + k) cs[k]) u) →
  Calls P f (as ++ us) w fun e w' => ∃ v C',e = .returned v ∧ Blw (fun g => g < w.heap.size ∧ C g = none) w w' ∧ (∀ g y,C' g = some y → (C g ≠ none ∨ w.heap.size ≤ g) ∧ g < w'.heap.size) ∧
   (∀ g g' y,C' g = some y → C' g' = some y → g = g') ∧ cs'.length = cs.length ∧
   ∀ k (h : k < cs'.length) u,us[k]? = some u → cs'[k].mutB = true → Rel (fun g => A g ∨ ¬ (g < w.heap.size ∧ C g = none)) w' C' (capV f (capsAs ds.length cs) (ds.length + k) cs'[k]) u

def capFr (f : FuncId) (cc : List Cap) : Nat → List CapK → FL
 | _,[] => []
 | t,c :: r => (t,capV f cc t c) :: capFr f cc (t + 1) r
theorem capFr_at (f : FuncId) (cc : List Cap) : ∀ (cs : List CapK) (t s : Nat),mk (capFr f cc t cs) s = if t ≤ s then (match cs[s - t]? with | some c => capV f cc s c | none => .dead) else .dead
 | [],t,s => by simp [capFr,mk]
 | c :: r,t,s => by
  simp only [capFr,mk_cons,capFr_at f cc r]
  by_cases h1 : s = t
  ·subst h1; simp
  ·rw [if_neg h1]
   by_cases h2 : t + 1 ≤ s
   ·rw [if_pos h2,if_pos (by omega)]
    have : s - t = (s - (t + 1)) + 1 := by omega
    rw [this]; simp
   ·rw [if_neg h2]
    by_cases h3 : t ≤ s
    ·omega
    ·rw [if_neg h3]

def doorC (f : FuncId) (cc : List Cap) (ds : List D) (cs : List CapK) : Frm := fun s => if s < ds.length then (match ds[s]? with | some d => .val d | none => .dead) else (match cs[s - ds.length]? with | some c => capV f cc s c | none => .dead)
theorem doorC_mk (f : FuncId) (cc : List Cap) (ds : List D) (cs : List CapK) : doorC f cc ds cs = mk (dl 0 ds ++ capFr f cc ds.length cs) := by
 have key : ∀ (ds : List D) (k s : Nat),mk (dl k ds ++ capFr f cc (k + ds.length) cs) s = if k ≤ s then (if s < k + ds.length then (match ds[s - k]? with | some d => .val d | none => .dead) else (match cs[s - (k + ds.length)]? with | some c => capV f cc s c | none => .dead)) else .dead := by
  intro ds
  induction ds with
  | nil =>
   intro k s
   simp only [dl,List.nil_append,List.length_nil,Nat.add_zero,capFr_at]
   by_cases h : k ≤ s
   ·rw [if_pos h,if_pos h,if_neg (by omega)]
   ·rw [if_neg h,if_neg h]
  | cons d r ih =>
   intro k s
   have e1 : k + (d :: r).length = (k + 1) + r.length := by simp; omega
   simp only [dl,List.cons_append,mk_cons]
   rw [e1,ih]
   by_cases h1 : s = k
   ·subst h1
    rw [if_pos rfl,if_pos (Nat.le_refl _),if_pos (by omega),Nat.sub_self]
    rfl
   ·rw [if_neg h1]
    by_cases h2 : k + 1 ≤ s
    ·have e2 : s - k = (s - (k + 1)) + 1 := by omega
     have e3 : (d :: r)[s - k]? = r[s - (k + 1)]? := by rw [e2]; simp
     rw [if_pos h2,if_pos (show k ≤ s by omega),e3]
    ·rw [if_neg h2,if_neg (show ¬ k ≤ s by omega)]
 funext s
 have := key ds 0 s
 simp only [Nat.zero_add,Nat.zero_le,if_true,Nat.sub_zero] at this
 rw [this]
 rfl

def PostClo (f : FuncId) (cc : List Cap) (n : Nat) (cs' : List CapK) : Exit → Frm → Prop
 | .normal,σ => ∀ k c,cs'[k]? = some c → c.mutB = true → σ (n + k) = capV f cc (n + k) c
 | .ret,σ => ∀ k c,cs'[k]? = some c → c.mutB = true → σ (n + k) = capV f cc (n + k) c
 | _,_ => False
def PostClx (N : Lim) (f : FuncId) (cc : List Cap) (n : Nat) (cs' : List CapK) (e : Exit) (σ : Frm) : Prop := ∃ σ',Le N σ' σ ∧ PostClo f cc n cs' e σ'
theorem Cl.post {N : Lim} (f : FuncId) (cc : List Cap) {n : Nat} {cs' : List CapK} : Cl N (PostClx N f cc n cs' .normal) := fun _ _ h ⟨σ2,h1,h2⟩ => ⟨σ2,Le.trans h1 h,h2⟩

section
variable {P : Program} {N : Lim}

theorem VClo.enter {f : FuncId} {fn : Func} {c : Code} {ds : List D} {cs cs' : List CapK} (hcall : ∀ args w,(callFunc f args).run P w = .ok (.enter f args) w)
  (hf : P.funcs[f]? = some fn) (hb : fn.body = some c) (n lo : Nat) (hn' : fn.ntmps = n) (hlo : lo = ds.length + cs.length) (hn : lo ≤ n) (hres : fn.results = #[]) (hlen : cs'.length = cs.length)
  (hw : VW P ⟨n,lo⟩ c (mk (dl 0 ds ++ capFr f (capsAs ds.length cs) ds.length cs)) (PostClx ⟨n,lo⟩ f (capsAs ds.length cs) ds.length cs')) : VClo P f ds cs cs' := by
 subst hn'
 subst hlo
 rw [← doorC_mk] at hw
 generalize hcc : capsAs ds.length cs = cc at hw
 refine ⟨hcall,fun w A C as us hA hC hinj hsa hsu hvs hcs => calls_of_wp hf hb ?_⟩
 rw [hcc] at hcs ⊢
 have hsz : (as ++ us).size = ds.length + cs.length := by rw [Array.size_append,hsa,hsu]
 have hget : ∀ s,s < (as ++ us).size → ((as ++ us) ++ Array.replicate (fn.ntmps - (as ++ us).size) undef).getD s undef = (as ++ us).getD s undef := fun s hs => by
  rw [Array.getD_eq_getD_getElem?,Array.getElem?_append_left hs,Array.getD_eq_getD_getElem?]
 have hgA : ∀ i,i < ds.length → (as ++ us)[i]? = as[i]? := fun i hi => Array.getElem?_append_left (by omega)
 have hgC : ∀ k,(as ++ us)[ds.length + k]? = us[k]? := fun k => by rw [Array.getElem?_append_right (by omega),hsa,Nat.add_sub_cancel_left]
 have hst : St (fun g => A g ∨ ¬ (g < w.heap.size ∧ C g = none)) (fun g => g < w.heap.size ∧ C g = none) ⟨w,fun s => (as ++ us).getD s undef⟩ ⟨fn.ntmps,ds.length + cs.length⟩ C (doorC f cc ds cs)
   { tmps := (as ++ us) ++ Array.replicate (fn.ntmps - (as ++ us).size) undef,defers := [] } w := by
  refine ⟨.refl _ _,fun g hg => hg.1,fun g hg => .inr hg,fun g y hy => ⟨fun h => (by rw [h.2] at hy; cases hy),hC g y hy⟩,hinj,by simp; omega,rfl,fun s hs => hget s (by simp only [] at hs; omega),fun s => ?_⟩
  have hfro : ∀ g,A g → Fro (fun g => A g ∨ ¬ (g < w.heap.size ∧ C g = none)) C w g := fun g hg => ⟨(hA g hg).2,(hA g hg).1,.inl hg⟩
  unfold doorC
  by_cases hs : s < ds.length
  ·rw [if_pos hs]
   obtain ⟨u,h2,h3⟩ := hvs s hs
   rw [List.getElem?_eq_getElem hs]
   simp only
   have hg : ((as ++ us) ++ Array.replicate (fn.ntmps - (as ++ us).size) undef).getD s undef = u := by
    rw [hget s (by omega),Array.getD_eq_getD_getElem?,hgA s hs,h2]; rfl
   rw [hg]
   exact h3.keep hfro fun _ _ => rfl
  ·rw [if_neg hs]
   cases hd : cs[s - ds.length]? with
   | none => exact trivial
   | some c =>
    have hs1 : s - ds.length < cs.length := (List.getElem?_eq_some_iff.1 hd).1
    have hd' : cs[s - ds.length] = c := by rw [List.getElem?_eq_getElem hs1] at hd; exact Option.some.inj hd
    obtain ⟨u,h2,h3⟩ := hcs (s - ds.length) hs1
    rw [hd',show ds.length + (s - ds.length) = s by omega] at h3
    have hg : ((as ++ us) ++ Array.replicate (fn.ntmps - (as ++ us).size) undef).getD s undef = u := by
     rw [hget s (by omega),Array.getD_eq_getD_getElem?,show s = ds.length + (s - ds.length) by omega,hgC,h2]; rfl
    simp only
    rw [hg]
    exact capV_more (fun g hg => .inl hg) h3
 refine wp_mono (hw _ _ _ _ _ _ hst) ?_
 rintro e a' w' ⟨O0,σ0,hs0,σ,hle,hq⟩
 obtain ⟨O,hs⟩ := hle _ _ _ _ _ _ hs0
 have fin : (∀ k c,cs'[k]? = some c → c.mutB = true → σ (ds.length + k) = capV f cc (ds.length + k) c) → ∃ v,(results fn a'.tmps).run P w' = .ok v w' ∧ ∃ x C',Ending.returned v = .returned x ∧ Blw (fun g => g < w.heap.size ∧ C g = none) w w' ∧
   (∀ g y,C' g = some y → (C g ≠ none ∨ w.heap.size ≤ g) ∧ g < w'.heap.size) ∧ (∀ g g' y,C' g = some y → C' g' = some y → g = g') ∧ cs'.length = cs.length ∧
   ∀ k (h : k < cs'.length) u,us[k]? = some u → cs'[k].mutB = true → Rel (fun g => A g ∨ ¬ (g < w.heap.size ∧ C g = none)) w' C' (capV f cc (ds.length + k) cs'[k]) u := by
  intro hq
  have hr : ∃ v,(results fn a'.tmps).run P w' = .ok v w' := by
   simp [results,hres]
  obtain ⟨v,hv⟩ := hr
  refine ⟨v,hv,v,O,rfl,hs.below,fun g y hg => ⟨?_,(hs.own g _ hg).2⟩,hs.inj,hlen,fun k hk u hu hm => ?_⟩
  ·have := (hs.own g _ hg).1
   by_cases hgs : g < w.heap.size
   ·left; intro hc; exact this ⟨hgs,hc⟩
   ·right; omega
  ·have h1 := hq k cs'[k] (List.getElem?_eq_getElem hk) hm
   have h2 := hs.slots (ds.length + k)
   rw [h1,hs.pin (ds.length + k) (show ds.length + k < ds.length + cs.length by omega)] at h2
   have h3 : (as ++ us).getD (ds.length + k) undef = u := by rw [Array.getD_eq_getD_getElem?,hgC,hu]; rfl
   simp only [h3] at h2
   exact h2
 cases e with
 | normal => obtain ⟨v,h1,h2⟩ := fin hq; exact ⟨hs.defers,v,h1,h2⟩
 | ret => obtain ⟨v,h1,h2⟩ := fin hq; exact ⟨hs.defers,v,h1,h2⟩
 | _ => exact hq.elim
end
end Go.Vam
