/- Calls that write into the list that is their first argument, with any number of numbers as results. -/
import Derived.Test.YtalfgfpgenlokaaVamAM
namespace Go.Vam
open Go Go.RowKit
set_option linter.unusedSimpArgs false
set_option linter.unusedVariables false

def RsR (w : World) : List D → Value → Prop
 | [],_ => True
 | [r],x => Rd w (fun _ => False) x r
 | rs,x => ∃ vs : Array Value,x = .tuple vs ∧ vs.size = rs.length ∧ ∀ i (h : i < rs.length),∃ u,vs[i]? = some u ∧ Rd w (fun _ => False) u rs[i]
def slotT : List D → VV
 | [] => .dead
 | [r] => .val r
 | rs => .tups rs
theorem RsR.rel {R : Nat → Prop} {w : World} {O : Own} : ∀ {rs : List D} {x : Value},RsR w rs x → Rel R w O (slotT rs) x
 | [],_,_ => trivial
 | [_],_,h => (h : Rd w (fun _ => False) _ _).keep (fun _ hg => hg.elim) fun _ _ => rfl
 | _ :: _ :: _,_,⟨vs,h1,h2,h3⟩ => ⟨vs,h1,h2,fun i hi => by
  obtain ⟨u,h4,h5⟩ := h3 i hi
  exact ⟨u,h4,h5.keep (fun _ hg => hg.elim) fun _ _ => rfl⟩⟩

def VMutT (P : Program) (f : FuncId) (d : D) (ds rs : List D) (d' : D) : Prop :=
 (∀ args w,(callFunc f args).run P w = .ok (.enter f args) w) ∧
 ∀ (w : World) (A : Nat → Prop) (C : Nat → Option (List Nat)) (vs : Array Value) (v : Value),
  (∀ g,A g → g < w.heap.size ∧ C g = none) → (∀ g q,C g = some q → g < w.heap.size) → (∀ g g' q,C g = some q → C g' = some q → g = g') →
  OwnU w (asO C) 0 [] v d → vs.size = ds.length + 1 → vs[0]? = some v → (∀ i (h : i < ds.length),∃ u,vs[i + 1]? = some u ∧ Rd w A u ds[i]) →
  Calls P f vs w fun e w' => ∃ (x : Value) (C' : Nat → Option (List Nat)),e = .returned x ∧ RsR w' rs x ∧
   Blw (fun g => g < w.heap.size ∧ C g = none) w w' ∧ (∀ g q,C' g = some q → (C g ≠ none ∨ w.heap.size ≤ g) ∧ g < w'.heap.size) ∧
   (∀ g g' q,C' g = some q → C' g' = some q → g = g') ∧ ∀ v2,OwnU w (asO C) 0 [] v2 d → OwnU w' (asO C') 0 [] v2 d'

def resT (res : List ResultVar) (σ : Frm) : List D → Prop
 | [] => res = []
 | [x] => ∃ t,res = [.tmp t] ∧ σ t = .val x ∧ x.sc = true
 | [x,y] => ∃ t s,res = [.tmp t,.tmp s] ∧ σ t = .val x ∧ σ s = .val y ∧ x.sc = true ∧ y.sc = true
 | _ => False
def PostTT (res : List ResultVar) (rs : List D) (d' : D) : Exit → Frm → Prop
 | .normal,σ => resT res σ rs ∧ ∃ k p,σ 0 = .ref k p true d'
 | .ret,σ => resT res σ rs ∧ ∃ k p,σ 0 = .ref k p true d'
 | _,_ => False
def PostTTx (N : Lim) (res : List ResultVar) (rs : List D) (d' : D) (e : Exit) (σ : Frm) : Prop := ∃ σ',Le N σ' σ ∧ PostTT res rs d' e σ'
theorem PostTTx.n {N : Lim} {fl : FL} {res : List ResultVar} {rs : List D} {d' : D} (h : PostTT res rs d' .normal (mk fl)) : PostTTx N res rs d' .normal (mk fl) := ⟨_,fun _ _ _ O _ _ h => ⟨O,h⟩,h⟩
theorem PostTTx.r {N : Lim} {fl : FL} {res : List ResultVar} {rs : List D} {d' : D} (h : PostTT res rs d' .ret (mk fl)) : PostTTx N res rs d' .ret (mk fl) := ⟨_,fun _ _ _ O _ _ h => ⟨O,h⟩,h⟩

section
variable {P : Program}
theorem VMutT.intro {f : FuncId} {fn : Func} {c : Code} {xs : List D} {ds rs : List D} {d' : D} (hcall : ∀ args w,(callFunc f args).run P w = .ok (.enter f args) w)
  (hf : P.funcs[f]? = some fn) (hb : fn.body = some c) (hn : ds.length + 1 ≤ fn.ntmps) (hlo : 1 ≤ fn.ntmps)
  (hw : VW P ⟨fn.ntmps,1⟩ c (mk (doorM (.list xs) ds)) (PostTTx ⟨fn.ntmps,1⟩ fn.results.toList rs d')) : VMutT P f (.list xs) ds rs d' := by
 classical
 refine ⟨hcall,fun w A C0 vs v hA hC hinj hown hsz hv0 hvs => ?_⟩
 let C : Nat → Option (List Nat) := fun g => if v = .slice none 0 0 then none else C0 g
 have hCC : ∀ g q,C g = some q → C0 g = some q := fun g q h => by
  simp only [C] at h; split at h; cases h; exact h
 have hCn : ∀ g,C0 g = none → C g = none := fun g h => by simp only [C]; split <;> first | rfl | exact h
 have hown' : OwnU w (asO C) 0 [] v (.list xs) := by
  by_cases hvn : v = .slice none 0 0
  ·subst hvn
   have : D.list xs = .list [] := (own_nil hown).resolve_right (by simp)
   rw [this]; exact .nil []
  ·have e : C = C0 := by funext g; simp only [C,if_neg hvn]
   rw [e]; exact hown
 refine Calls.mono (calls_of_wp hf hb ?_ : Calls P f vs w fun e w' => ∃ (x : Value) (O : Own) (k : Nat) (p : List Nat),e = .returned x ∧ RsR w' rs x ∧
  Blw (fun g => g < w.heap.size ∧ C g = none) w w' ∧ (∀ g y,O g = some y → (C g ≠ none ∨ w.heap.size ≤ g) ∧ g < w'.heap.size) ∧ (∀ g g' y,O g = some y → O g' = some y → g = g') ∧ OwnU w' O k p v d') ?_
 ·have hst : St (fun g => A g ∨ ¬ (g < w.heap.size ∧ C g = none)) (fun g => g < w.heap.size ∧ C g = none) ⟨w,fun s => vs.getD s undef⟩ ⟨fn.ntmps,1⟩ (asO C) (mk (doorM (.list xs) ds)) { tmps := vs ++ Array.replicate (fn.ntmps - vs.size) undef,defers := [] } w := by
   have hget : ∀ s,s < vs.size → (vs ++ Array.replicate (fn.ntmps - vs.size) undef).getD s undef = vs.getD s undef := fun s hs => by
    rw [Array.getD_eq_getD_getElem?,Array.getElem?_append_left hs,Array.getD_eq_getD_getElem?]
   refine ⟨.refl _ _,fun g hg => hg.1,fun g hg => .inr hg,fun g y hy => ?_,fun g g' y h1 h2 => ?_,by simp; omega,rfl,fun s hs => hget s (by simp only at hs; omega),fun s => ?_⟩
   ·obtain ⟨q,h1,h2⟩ := Option.map_eq_some_iff.1 hy
    exact ⟨fun h => (by rw [h.2] at h1; cases h1),hC g q (hCC g q h1)⟩
   ·obtain ⟨q,a1,a2⟩ := Option.map_eq_some_iff.1 h1
    obtain ⟨q',b1,b2⟩ := Option.map_eq_some_iff.1 h2
    rw [← a2] at b2
    simp only [Prod.mk.injEq,true_and] at b2
    subst b2
    exact hinj g g' _ (hCC g _ a1) (hCC g' _ b1)
   ·by_cases hs : s = 0
    ·subst hs
     simp only [doorM,mk_cons,if_true]
     have h1 : (vs ++ Array.replicate (fn.ntmps - vs.size) undef).getD 0 undef = v := by
      rw [hget 0 (by omega),Array.getD_eq_getD_getElem?,hv0]; rfl
     simp only [h1]
     exact hown'
    ·simp only [doorM,mk_cons,if_neg hs,dl_at]
     by_cases h1 : 1 ≤ s
     ·rw [if_pos h1]
      cases hd : ds[s - 1]? with
      | none => exact trivial
      | some d =>
       have hs1 : s - 1 < ds.length := (List.getElem?_eq_some_iff.1 hd).1
       obtain ⟨u,h2,h3⟩ := hvs (s - 1) hs1
       have hd' : ds[s - 1] = d := by rw [List.getElem?_eq_getElem hs1] at hd; exact Option.some.inj hd
       rw [hd'] at h3
       have e : s - 1 + 1 = s := by omega
       rw [e] at h2
       have hg : (vs ++ Array.replicate (fn.ntmps - vs.size) undef).getD s undef = u := by
        rw [hget s (by omega),Array.getD_eq_getD_getElem?,h2]; rfl
       simp only
       rw [hg]
       exact h3.keep (fun g hg => ⟨by simp only [asO]; rw [hCn g (hA g hg).2]; rfl,(hA g hg).1,.inl hg⟩) fun _ _ => rfl
     ·omega
  refine wp_mono (hw _ _ _ _ _ _ hst) ?_
  rintro e a' w' ⟨O0,σ0,hs0,σ,hle,hq⟩
  obtain ⟨O,hs⟩ := hle _ _ _ _ _ _ hs0
  have fin : (resT fn.results.toList σ rs ∧ ∃ k p,σ 0 = .ref k p true d') → ∃ x,(results fn a'.tmps).run P w' = .ok x w' ∧ ∃ (x' : Value) (O : Own) (k : Nat) (p : List Nat),Ending.returned x = .returned x' ∧ RsR w' rs x' ∧
    Blw (fun g => g < w.heap.size ∧ C g = none) w w' ∧ (∀ g y,O g = some y → (C g ≠ none ∨ w.heap.size ≤ g) ∧ g < w'.heap.size) ∧ (∀ g g' y,O g = some y → O g' = some y → g = g') ∧ OwnU w' O k p v d' := by
   rintro ⟨hres,k,p,h4⟩
   have r2 := hs.slots 0
   rw [h4,hs.pin 0 (by simp)] at r2
   have ev : vs.getD 0 undef = v := by rw [Array.getD_eq_getD_getElem?,hv0]; rfl
   simp only [ev] at r2
   have hx : ∃ x,(results fn a'.tmps).run P w' = .ok x w' ∧ RsR w' rs x := by
    match rs,hres with
    | [],h =>
     have : fn.results = #[] := by rw [← Array.toArray_toList (xs := fn.results),h]
     refine ⟨_,by simp [results,this]; rfl,trivial⟩
    | [x],⟨t,h1,h2,h3⟩ =>
     have r1 := hs.slots t
     rw [h2] at r1
     exact ⟨_,results_tmp1 h1 _ _,sc_rd h3 (sc_own h3 r1 (fun _ => none) w' 0 []) _ _⟩
    | [x,y],⟨t,s,h1,h2,h3,h5,h6⟩ =>
     have r1 := hs.slots t
     rw [h2] at r1
     have r3 := hs.slots s
     rw [h3] at r3
     refine ⟨_,results_tmp2 h1 _ _,_,rfl,rfl,fun i hi => ?_⟩
     match i,hi with
     | 0,_ => exact ⟨_,rfl,sc_rd h5 (sc_own h5 r1 (fun _ => none) w' 0 []) _ _⟩
     | 1,_ => exact ⟨_,rfl,sc_rd h6 (sc_own h6 r3 (fun _ => none) w' 0 []) _ _⟩
   obtain ⟨x,hx1,hx2⟩ := hx
   refine ⟨x,hx1,x,O,k,p,rfl,hx2,hs.below,fun g y hy => ⟨?_,(hs.own g y hy).2⟩,hs.inj,r2⟩
   have := (hs.own g y hy).1
   by_cases hg : g < w.heap.size
   ·left; intro hc; exact this ⟨hg,hc⟩
   ·right; omega
  cases e with
  | normal => obtain ⟨x,h1,h2⟩ := fin hq; exact ⟨hs.defers,x,h1,h2⟩
  | ret => obtain ⟨x,h1,h2⟩ := fin hq; exact ⟨hs.defers,x,h1,h2⟩
  | _ => exact hq.elim
 ·rintro e w' ⟨x,O,k,p,rfl,hx,hb',hO,hOi,hfin⟩
  by_cases hvn : v = .slice none 0 0
  ·-- nothing to write
   have hd' : d' = .list [] ∨ d' = .gone := by rw [hvn] at hfin; exact own_nil hfin
   have hxs : xs = [] := by rw [hvn] at hown; have := (own_nil hown).resolve_right (by simp); simpa using this
   have hb0 : Blw (fun g => g < w.heap.size) w w' := ⟨hb'.os,hb'.tape,hb'.output,hb'.size,fun g hg => hb'.block g ⟨hg,by simp only [C,if_pos hvn]⟩⟩
   refine ⟨x,C0,rfl,hx,⟨hb'.os,hb'.tape,hb'.output,hb'.size,fun g hg => hb0.block g hg.1⟩,fun g q hq => ⟨.inl (by rw [hq]; simp),Nat.lt_of_lt_of_le (hC g q hq) hb'.size⟩,hinj,fun v2 h2 => ?_⟩
   subst hxs
   rcases hd' with rfl | rfl
   case inr => exact .gone _ _
   refine h2.keep [] fun g q hq => ⟨hq,hb0.block g ?_⟩
   obtain ⟨q',h3,_⟩ := Option.map_eq_some_iff.1 hq
   exact hC g q' h3
  ·have e : C = C0 := by funext g; simp only [C,if_neg hvn]
   rw [e] at hb' hO
   let C' : Nat → Option (List Nat) := subT O k p
   have hC' : ∀ g q,C' g = some q ↔ O g = some (k,p ++ q) := fun g q => subT_some
   have hv1 : OwnU w' (asO C') 0 [] v d' := hfin.keep [] fun g q hq => ⟨by simp [asO,(hC' g q).2 hq],rfl⟩
   refine ⟨x,C',rfl,hx,hb',fun g q hq => hO g _ ((hC' g q).1 hq),fun g g' q h1 h2 => hOi g g' _ ((hC' g q).1 h1) ((hC' g' q).1 h2),fun v2 h2 => ?_⟩
   cases h2 with
   | nil =>
    cases hown with
    | nil => exact absurd rfl hvn
    | list _ g cap cur E xs' vs' h1 h2 h3 h4 h5 h6 h7 =>
     rcases own_nil hv1 with e | e
     ·rw [e]; exact .nil []
     ·rw [e]; exact .gone _ _
   | list _ g2 cap2 cur2 E2 _ vs2 g1 g2' g3 g4 g5 g6 g7 =>
    have : v = .slice (some ⟨g2,0,none⟩) xs.length cap2 := by
     cases hown with
     | nil => exact absurd rfl hvn
     | list _ g cap cur E _ vs' h1 h2 h3 h4 h5 h6 h7 =>
      obtain ⟨q,e1,e2⟩ := Option.map_eq_some_iff.1 h1
      obtain ⟨q',e3,e4⟩ := Option.map_eq_some_iff.1 g1
      simp only [Prod.mk.injEq,true_and] at e2 e4
      subst e2; subst e4
      have := hinj g g2 [] e1 e3
      subst this
      rw [h2] at g2'
      simp only [Option.some.injEq,Obj.cells.injEq,and_true] at g2'
      obtain ⟨rfl,_⟩ := g2'
      rw [← h5,← g5]
    rw [← this]
    exact hv1

theorem VMutT.enter {f : FuncId} {fn : Func} {c : Code} {xs : List D} {ds rs : List D} {d' : D} (hcall : ∀ args w,(callFunc f args).run P w = .ok (.enter f args) w)
  (hf : P.funcs[f]? = some fn) (hb : fn.body = some c) (n : Nat) (hn' : fn.ntmps = n) (hn : ds.length + 1 ≤ n) (res : List ResultVar) (hres : fn.results.toList = res)
  (hw : VW P ⟨n,1⟩ c (mk (doorM (.list xs) ds)) (PostTTx ⟨n,1⟩ res rs d')) : VMutT P f (.list xs) ds rs d' := by
 subst hn'; subst hres
 exact VMutT.intro hcall hf hb hn (by omega) hw
end
section
variable {P : Program} {τ : TypeId → TK} {Φ : Orc} {R : Nat → Prop} {B : Nat → Prop} {w0 : W0} {N : Lim} {O : Own} {σ : Frm} {a : Act} {w : World}
end
def srt (xs : List Int) : List Int := xs.mergeSort fun x y => decide (x ≤ y)
end Go.Vam
