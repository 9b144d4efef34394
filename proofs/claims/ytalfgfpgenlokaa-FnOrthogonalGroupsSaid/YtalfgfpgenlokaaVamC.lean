/- The calm operations do what 'vres' tells. -/
import Derived.Test.YtalfgfpgenlokaaVamB
namespace Go.Vam
open Go Go.RowKit

section
variable {P : Program} {τ : TypeId → TK} {Φ : Orc} {R : Nat → Prop} {B : Nat → Prop} {w0 : W0} {N : Lim} {O : Own} {σ : Frm} {a : Act} {w : World}

theorem rel_ev (h : St R B w0 N O σ a w) (x : Operand) : Rel R w O (ev σ x) (a.eval x) := by
 cases x with
 | tmp t => exact h.slots t
 | const v =>
  simp only [ev,Act.eval]
  unfold constVV
  split
  ·exact Rd.int _ _
  ·exact Rd.bool _
  ·exact OwnU.nil _
  ·exact trivial
 | func f => exact Rd.fn f #[] [] (fun _ => undef) rfl (fun i hi => absurd hi (by simp)) (fun i hi => absurd hi (by simp))
 | global g => exact trivial

theorem rel_tmp (h : St R B w0 N O σ a w) (x : Operand) {y : VV} (hy : ev σ x = y) : Rel R w O y (a.eval x) := hy ▸ rel_ev h x

theorem Made.quiet (h : St R B w0 N O σ a w) {x : VV} {v : Value} (hr : Rel R w O x v) : Made R B w w O O [] x v :=
 ⟨Keeps.refl _ _ _,.refl _ _,h.own,h.inj,hr⟩

theorem wp_val {o : Oper} {K : Act → World → Prop} {Q : Exit → Act → World → Prop} {v : Value} {w' : World}
  (hr : (execOp a.eval o).run P w = .ok (.value v) w') (hk : K (a.put o.dst v) w') : o.wp P a w K Q := by
 unfold Oper.wp; rw [hr]; exact hk

theorem OwnF.rd {t : Nat} {p : List Nat} {v : Value} {d : D} (h : OwnF R w O t p v d) {S : Nat → Prop}
  (hS : ∀ g,O g = some (t,p) → S g) (hF : ∀ g,Fro R O w g → S g) : Rd w S v d := by
 cases h with
 | nil => exact .empty none 0
 | list g cap cur E xs vs h1 h2 h3 h4 h5 h6 h7 =>
  exact .list g 0 cap cur E (0,0) xs vs (hS g h1) h2 h3 (fun i hi => by rw [Nat.zero_add]; exact h6 i hi) fun i hi => (h7 i hi).keep hF fun _ _ => rfl
 | ptr g cur E xs vs h1 h2 h3 h4 h5 =>
  exact .ptr g cur E (0,0) xs vs (hS g h1) h2 h3 h4 fun i hi => (h5 i hi).keep hF fun _ _ => rfl

theorem Tree.rd {t : Nat} {p : List Nat} {u : Bool} {v : Value} {d : D} (h : Tree R w O t p u v d) {S : Nat → Prop}
  (hS : ∀ g q,O g = some (t,p ++ q) → S g) (hF : ∀ g,Fro R O w g → S g) : Rd w S v d := by
 cases u with
 | true => exact OwnU.rd h hS
 | false => exact OwnF.rd h (fun g hg => hS g [] (by simpa using hg)) hF

def Foot (R : Nat → Prop) (O : Own) (w : World) (ts : List Nat) (g : Nat) : Prop :=
 g < w.heap.size ∧ R g ∧ (O g = none ∨ ∃ t p,t ∈ ts ∧ O g = some (t,p))

theorem rd_dat (h : St R B w0 N O σ a w) {x : VV} {v : Value} {d : D} (hr : Rel R w O x v) (hd : x.dat = some d) {ts : List Nat} (ht : ∀ t ∈ x.toks,t ∈ ts) :
  Rd w (Foot R O w ts) v d := by
 have hF : ∀ g,Fro R O w g → Foot R O w ts g := fun g hg => ⟨hg.2.1,hg.2.2,.inl hg.1⟩
 cases x with
 | val e => simp only [VV.dat,Option.some.injEq] at hd; subst hd; exact Rd.keep hF (fun _ _ => rfl) hr
 | ref t p u e =>
  simp only [VV.dat,Option.some.injEq] at hd; subst hd
  exact Tree.rd hr (fun g q hg => ⟨(h.own g _ hg).2,h.fresh g (h.own g _ hg).1,.inr ⟨t,_,ht t (by simp [VV.toks]),hg⟩⟩) hF
 | bor t e =>
  simp only [VV.dat,Option.some.injEq] at hd; subst hd
  refine Rd.keep (fun g hg => ⟨hg.2.1,hg.2.2,?_⟩) (fun _ _ => rfl) hr
  rcases hg.1 with h1 | ⟨q,h1⟩
  ·exact .inl h1
  ·exact .inr ⟨t,q,ht t (by simp [VV.toks]),h1⟩
 | _ => simp [VV.dat] at hd

theorem data_rd (h : St R B w0 N O σ a w) {ts : List Nat} : ∀ (xs : List Operand) (ds : List D),data σ xs = some ds → (∀ t ∈ toks σ xs,t ∈ ts) →
  xs.length = ds.length ∧ ∀ i (hi : i < ds.length),∃ v,(xs.map a.eval)[i]? = some v ∧ Rd w (Foot R O w ts) v ds[i]
 | [],ds,hd,_ => by
  simp only [data,Option.some.injEq] at hd; subst hd
  exact ⟨rfl,fun i hi => absurd hi (by simp)⟩
 | x :: r,ds,hd,ht => by
  simp only [data] at hd
  split at hd
  ·rename_i d ds' h1 h2
   simp only [Option.some.injEq] at hd; subst hd
   obtain ⟨e,ih⟩ := data_rd h r ds' h2 (fun t hh => ht t (by simp only [toks,List.flatMap_cons,List.mem_append]; exact .inr hh))
   refine ⟨by simp [e],fun i hi => ?_⟩
   cases i with
   | zero => exact ⟨a.eval x,rfl,rd_dat h (rel_ev h x) h1 (fun t hh => ht t (by simp only [toks,List.flatMap_cons,List.mem_append]; exact .inl hh))⟩
   | succ i => exact ih i (by simpa using hi)
  ·cases hd

theorem vals_rd (h : St R B w0 N O σ a w) : ∀ (xs : List Operand) (ds : List D),vals σ xs = some ds →
  xs.length = ds.length ∧ ∀ i (hi : i < ds.length),∃ v,(xs.map a.eval)[i]? = some v ∧ Rd w (Fro R O w) v ds[i]
 | [],ds,hd => by
  simp only [vals,Option.some.injEq] at hd; subst hd
  exact ⟨rfl,fun i hi => absurd hi (by simp)⟩
 | x :: r,ds,hd => by
  simp only [vals] at hd
  split at hd
  ·rename_i d ds' h1 h2
   simp only [Option.some.injEq] at hd; subst hd
   obtain ⟨e,ih⟩ := vals_rd h r ds' h2
   refine ⟨by simp [e],fun i hi => ?_⟩
   cases i with
   | zero => exact ⟨a.eval x,rfl,rel_tmp h x h1⟩
   | succ i => exact ih i (by simpa using hi)
  ·cases hd

theorem wp_call (h : St R B w0 N O σ a w) {o : Oper} {c : Call} (ho : o.op = .call c) {f : Operand} (hc : c.callee = .value f) {g : FuncId} {caps ds : List D}
  (hf : (ev σ f).dat = some (.fn g caps)) (hds : data σ c.args.toList = some ds) {rs : List Ret} (hv : VCall P g (ds ++ caps) rs)
  {d : Nat} {ks : List Nat} {x : VV} (hx : retVV d (toks σ c.args.toList) rs = some (ks,x))
  (hft : (ev σ f).toks = [])
  {K : Act → World → Prop} {Q : Exit → Act → World → Prop} (hK : ∀ O' w' v,Made R B w w' O O' ks x v → K (a.put o.dst v) w') : o.wp P a w K Q := by
 obtain ⟨hcall,hv⟩ := hv
 have hfd := rd_dat h (rel_ev h f) hf (ts := toks σ c.args.toList) (by rw [hft]; simp)
 generalize hfv : a.eval f = fv at hfd
 cases hfd with
 | fn _ cs _ cvs hl hcv hcr =>
 obtain ⟨hlen,hargs⟩ := data_rd h c.args.toList ds hds (ts := toks σ c.args.toList) (fun t ht => ht)
 have hrun : (execOp a.eval o).run P w = .ok (.enter g (c.args.map a.eval ++ cs)) w := by
  simp only [execOp,ho,resolve,hc,hfv,Deferred.ofValue]
  simp [invoke,hcall]
 unfold Oper.wp
 rw [hrun]
 simp only [Oper.upon]
 have hA := hv w (Foot R O w (toks σ c.args.toList)) (c.args.map a.eval ++ cs) (fun g hg => hg.1) (by simp [← hl,← hlen]) (fun i hi => by
  by_cases hi' : i < ds.length
  ·obtain ⟨v,h1,h2⟩ := hargs i hi'
   refine ⟨v,?_,by rw [List.getElem_append_left hi']; exact h2⟩
   have hi2 : i < c.args.size := by rw [← Array.length_toList,hlen]; exact hi'
   rw [Array.getElem?_append_left (by simpa using hi2)]
   simpa using h1
  ·have hi2 : i - ds.length < caps.length := by simp at hi; omega
   have hs : (c.args.map a.eval).size = ds.length := by simp [← hlen]
   refine ⟨cvs (i - ds.length),?_,by rw [List.getElem_append_right (by omega)]; exact hcr _ hi2⟩
   rw [Array.getElem?_append_right (by omega),hs]
   exact hcv _ hi2)
 refine hA.mono fun e w' he => ?_
 obtain ⟨v,Oc,rfl,hb,hown,hinj,hret⟩ := he
 let O' : Own := fun b => if b < w.heap.size then (match O b with | some (t,p) => if t ∈ ks then none else some (t,p) | none => none) else
  (if d ∈ ks then (match Oc b with | some (0,p) => some (d,p) | _ => none) else none)
 have hlt : ∀ b,b < w.heap.size → O' b = (match O b with | some (t,p) => if t ∈ ks then none else some (t,p) | none => none) := fun b hb => by simp only [O',if_pos hb]
 have hge : ∀ b,¬ b < w.heap.size → O' b = (if d ∈ ks then (match Oc b with | some (0,p) => some (d,p) | _ => none) else none) := fun b hb => by simp only [O',if_neg hb]
 have k : Keeps w w' O O' (fun t => t ∈ ks) := by
  refine ⟨hb.size,fun b hbs hbn => ⟨by rw [hlt b hbs,hbn],hb.block b hbs⟩,fun b t p hbt htk => ?_⟩
  have hbs := (h.own b _ hbt).2
  exact ⟨by rw [hlt b hbs,hbt]; simp only [if_neg htk],hb.block b hbs⟩
 have hown' : ∀ b y,O' b = some y → ¬ B b ∧ b < w'.heap.size := by
  intro b y hy
  by_cases hbs : b < w.heap.size
  ·rw [hlt b hbs] at hy
   split at hy
   ·rename_i t p hO
    exact ⟨(h.own b _ hO).1,Nat.lt_of_lt_of_le hbs hb.size⟩
   ·cases hy
  ·rw [hge b hbs] at hy
   split at hy
   ·split at hy
    ·rename_i p hO
     exact ⟨h.newB (hown b _ hO).1,(hown b _ hO).2⟩
    ·cases hy
   ·cases hy
 have tok_lt : ∀ b t p,b < w.heap.size → O' b = some (t,p) → O b = some (t,p) ∧ t ∉ ks := by
  intro b t p hbs hy
  rw [hlt b hbs] at hy
  split at hy
  ·rename_i t' p' hO
   split at hy
   ·cases hy
   ·rename_i hk
    simp only [Option.some.injEq,Prod.mk.injEq] at hy
    obtain ⟨rfl,rfl⟩ := hy
    exact ⟨hO,hk⟩
  ·cases hy
 have tok_ge : ∀ b t p,¬ b < w.heap.size → O' b = some (t,p) → t = d ∧ d ∈ ks ∧ Oc b = some (0,p) := by
  intro b t p hbs hy
  rw [hge b hbs] at hy
  split at hy
  ·rename_i hk
   split at hy
   ·rename_i p' hO
    simp only [Option.some.injEq,Prod.mk.injEq] at hy
    obtain ⟨rfl,rfl⟩ := hy
    exact ⟨rfl,hk,hO⟩
   ·cases hy
  ·cases hy
 have hinj' : ∀ b b' y,O' b = some y → O' b' = some y → b = b' := by
  rintro b b' ⟨t,p⟩ h1 h2
  by_cases hb1 : b < w.heap.size <;> by_cases hb2 : b' < w.heap.size
  ·exact h.inj b b' _ (tok_lt b t p hb1 h1).1 (tok_lt b' t p hb2 h2).1
  ·have e1 := tok_lt b t p hb1 h1
   have e2 := tok_ge b' t p hb2 h2
   exact absurd e2.2.1 (e2.1 ▸ e1.2)
  ·have e1 := tok_lt b' t p hb2 h2
   have e2 := tok_ge b t p hb1 h1
   exact absurd e2.2.1 (e2.1 ▸ e1.2)
  ·exact hinj b b' _ (tok_ge b t p hb1 h1).2.2 (tok_ge b' t p hb2 h2).2.2
 have tree : ∀ u y v,d ∈ ks → (u = false → ∀ t ∈ toks σ c.args.toList,t ∈ ks) →
   Tree (fun g => Foot R O w (toks σ c.args.toList) g ∨ w.heap.size ≤ g) w' Oc 0 [] u v y → Tree R w' O' d [] u v y := by
  intro u y v hd hts ht
  have hroot : ∀ b q,Oc b = some (0,q) → O' b = some (d,q) := fun b q hq => by
   rw [hge b (by have := (hown b _ hq).1; omega),if_pos hd,hq]; rfl
  have hfro : u = false → ∀ b,Fro (fun g => Foot R O w (toks σ c.args.toList) g ∨ w.heap.size ≤ g) Oc w' b → Fro R O' w' b := by
   intro hu b hfr
   refine ⟨?_,hfr.2.1,?_⟩
   ·by_cases hbs : b < w.heap.size
    ·rw [hlt b hbs]
     rcases hfr.2.2 with h1 | h1
     ·rcases h1.2.2 with h2 | ⟨t,p,h2,h3⟩
      ·rw [h2]
      ·rw [h3]; simp only [if_pos (hts hu t h2)]
     ·omega
    ·rw [hge b hbs,if_pos hd,hfr.1]
   ·rcases hfr.2.2 with h1 | h1
    ·exact h1.2.1
    ·exact h.fresh b (h.newB h1)
  cases u with
  | true => exact OwnU.keep ht [] fun b q hq => ⟨hroot b _ (by simpa using hq),rfl⟩
  | false =>
   cases (ht : OwnF _ w' Oc 0 [] v y) with
   | nil => exact OwnF.nil
   | list g cap cur E xs vs h1 h2 h3 h4 h5 h6 h7 =>
    exact OwnF.list g cap cur E xs vs (hroot _ _ h1) h2 h3 h4 h5 h6 fun i hi => (h7 i hi).keep (hfro rfl) fun _ _ => rfl
   | ptr g cur E xs vs h1 h2 h3 h4 h5 =>
    exact OwnF.ptr g cur E xs vs (hroot _ _ h1) h2 h3 h4 fun i hi => (h5 i hi).keep (hfro rfl) fun _ _ => rfl
 have scal : ∀ {y v},Rd w' (fun _ => False) v y → Rd w' (Fro R O' w') v y := fun hh => hh.keep (fun _ f => f.elim) (fun _ f => f.elim)
 have shared : ∀ {y v},(∀ g,Oc g = none) → (∀ t ∈ toks σ c.args.toList,t ∈ ks) →
   Rd w' (fun g => (Foot R O w (toks σ c.args.toList) g ∨ w.heap.size ≤ g) ∧ g < w'.heap.size) v y → Rd w' (Fro R O' w') v y := by
  intro y v hn hts hr
  refine hr.keep (fun b hb => ?_) fun _ _ => rfl
  obtain ⟨h0,hlt'⟩ := hb
  refine ⟨?_,hlt',?_⟩
  ·by_cases hbs : b < w.heap.size
   ·rw [hlt b hbs]
    rcases h0 with h1 | h1
    ·rcases h1.2.2 with h2 | ⟨t,p,h2,h3⟩
     ·rw [h2]
     ·rw [h3]; simp only [if_pos (hts t h2)]
    ·omega
   ·rw [hge b hbs,hn b]; simp
  ·rcases h0 with h1 | h1
   ·exact h1.2.1
   ·exact h.fresh b (h.newB h1)
 refine hK O' w' v ⟨k,Blw.of hb h.base,hown',hinj',?_⟩
 have hts : ∀ t ∈ toks σ c.args.toList,t ∈ d :: toks σ c.args.toList := fun t ht => List.mem_cons_of_mem _ ht
 unfold retVV at hx
 split at hx
 ·simp only [Option.some.injEq,Prod.mk.injEq] at hx; obtain ⟨rfl,rfl⟩ := hx
  exact scal hret
 ·simp only [Option.some.injEq,Prod.mk.injEq] at hx; obtain ⟨rfl,rfl⟩ := hx
  exact tree true _ _ (by simp) (fun hh => by cases hh) hret
 ·simp only [Option.some.injEq,Prod.mk.injEq] at hx; obtain ⟨rfl,rfl⟩ := hx
  exact tree false _ _ (by simp) (fun _ => hts) hret
 ·simp only [Option.some.injEq,Prod.mk.injEq] at hx; obtain ⟨rfl,rfl⟩ := hx
  obtain ⟨p,q,h1,h2,h3⟩ := hret
  exact ⟨p,q,h1,scal h2,scal h3⟩
 ·simp only [Option.some.injEq,Prod.mk.injEq] at hx; obtain ⟨rfl,rfl⟩ := hx
  obtain ⟨p,q,h1,h2,h3⟩ := hret
  exact ⟨p,q,h1,tree true _ _ (by simp) (fun hh => by cases hh) h2,scal h3⟩
 ·simp only [Option.some.injEq,Prod.mk.injEq] at hx; obtain ⟨rfl,rfl⟩ := hx
  obtain ⟨p,q,h1,h2,h3⟩ := hret
  exact ⟨p,q,h1,tree false _ _ (by simp) (fun _ => hts) h2,scal h3⟩
 ·simp only [Option.some.injEq,Prod.mk.injEq] at hx; obtain ⟨rfl,rfl⟩ := hx
  exact shared hret.1 (fun _ h => h) hret.2
 ·simp only [Option.some.injEq,Prod.mk.injEq] at hx; obtain ⟨rfl,rfl⟩ := hx
  obtain ⟨hn,p,q,h1,h2,h3⟩ := hret
  exact ⟨p,q,h1,shared hn (fun _ h => h) h2,scal h3⟩
 ·simp only [Option.some.injEq,Prod.mk.injEq] at hx; obtain ⟨rfl,rfl⟩ := hx
  obtain ⟨hn,vs,h1,h2,h3⟩ := hret
  exact ⟨vs,h1,h2,fun i hi => by obtain ⟨u,h4,h5⟩ := h3 i hi; exact ⟨u,h4,shared hn (fun _ h => h) h5⟩⟩
 ·cases hx

/-! ### Operations without a call -/

theorem zv_own (d : D) (h : d.zero = true) (O : Own) (w : World) (t : Nat) (p : List Nat) : OwnU w O t p (zv d) d := by
 unfold D.zero at h
 split at h
 ·exact .int _ _ _
 ·exact .bool _ _
 ·exact .nil _
 ·cases h

theorem sc_own {S : Nat → Prop} {v : Value} {d : D} (hs : d.sc = true) (h : Rd w S v d) (O : Own) (w' : World) (t : Nat) (p : List Nat) : OwnU w' O t p v d := by
 cases h <;> simp [D.sc] at hs
 ·exact .int _ _ _
 ·exact .bool _ _

theorem sc_rd {v : Value} {d : D} (hs : d.sc = true) {t : Nat} {p : List Nat} (h : OwnU w O t p v d) (S : Nat → Prop) (w' : World) : Rd w' S v d := by
 cases h <;> simp [D.sc] at hs
 ·exact .int _ _
 ·exact .bool _

theorem Made.new (h : St R B w0 N O σ a w) (d : Nat) (cs : Array Value) (E : TypeId) (u : Bool) (x : D) (v : Value) (w' : World)
  (hh : w'.heap = w.heap.push (.cells cs E)) (ho : w'.os = w.os) (ht : w'.tape = w.tape) (hp : w'.output = w.output)
  (hr : ∀ O' : Own,O' w.heap.size = some (d,[]) → (∀ g,g < w.heap.size → O g = none → O' g = none) → Tree R w' O' d [] u v x) :
  ∃ O',Made R B w w' O O' [d] (.ref d [] u x) v := by
 let O' : Own := fun g => if g = w.heap.size then some (d,[]) else match O g with | some (t,p) => if t = d then none else some (t,p) | none => none
 have h1 : O' w.heap.size = some (d,[]) := by simp [O']
 have h2 : ∀ g,g ≠ w.heap.size → O' g = (match O g with | some (t,p) => if t = d then none else some (t,p) | none => none) := fun g hg => by simp only [O',if_neg hg]
 have h3 : ∀ g t p,O' g = some (t,p) → g = w.heap.size ∧ t = d ∧ p = [] ∨ g ≠ w.heap.size ∧ O g = some (t,p) ∧ t ≠ d := by
  intro g t p hg
  by_cases e : g = w.heap.size
  ·subst e; rw [h1] at hg; simp only [Option.some.injEq,Prod.mk.injEq] at hg; exact .inl ⟨rfl,hg.1.symm,hg.2.symm⟩
  ·rw [h2 g e] at hg
   split at hg
   ·rename_i t' p' hO
    split at hg
    ·cases hg
    ·rename_i hne
     simp only [Option.some.injEq,Prod.mk.injEq] at hg
     obtain ⟨rfl,rfl⟩ := hg
     exact .inr ⟨e,hO,hne⟩
   ·cases hg
 have hget : ∀ g,g < w.heap.size → w'.heap[g]? = w.heap[g]? := fun g hg => by rw [hh,Array.getElem?_push,if_neg (by omega)]
 have hsz : w'.heap.size = w.heap.size + 1 := by rw [hh]; simp
 refine ⟨O',⟨by omega,fun g hg hn => ⟨by rw [h2 g (by omega),hn],hget g hg⟩,fun g t p hg htk => ?_⟩,⟨ho,ht,hp,by omega,fun g hg => hget g (h.base g hg)⟩,?_,?_,?_⟩
 ·have hgs := (h.own g _ hg).2
  refine ⟨?_,hget g hgs⟩
  rw [h2 g (by omega),hg]
  simp only [List.mem_singleton] at htk
  simp only [if_neg htk]
 ·rintro g ⟨t,p⟩ hg
  rcases h3 g t p hg with ⟨rfl,_,_⟩ | ⟨_,e,_⟩
  ·exact ⟨h.newB (Nat.le_refl _),by omega⟩
  ·exact ⟨(h.own g _ e).1,by have := (h.own g _ e).2; omega⟩
 ·rintro g g' ⟨t,p⟩ e1 e2
  rcases h3 g t p e1 with ⟨a1,a2,a3⟩ | ⟨a1,a2,a3⟩ <;> rcases h3 g' t p e2 with ⟨b1,b2,b3⟩ | ⟨b1,b2,b3⟩
  ·rw [a1,b1]
  ·exact absurd a2 b3
  ·exact absurd b2 a3
  ·exact h.inj g g' _ a2 b2
 ·exact hr O' h1 fun g hg hn => by rw [h2 g (by omega),hn]

theorem wf_get (xs : List D) (i : Nat) (h : i < xs.length) : xs.getD i default = xs[i] := by simp [h]

theorem place_rel (x : VV) (v : Value) (hr : Rel R w O x v) (i : Nat) (y : VV) (hy : placeVV x i = some y) :
  ∃ g o n c,v = .slice (some ⟨g,o,none⟩) n c ∧ i < n ∧ Rel R w O y (.pointer (some ⟨g,o + i,none⟩)) := by
 unfold placeVV at hy
 split at hy
 ·rename_i xs
  split at hy
  ·rename_i hi
   simp only [Option.some.injEq] at hy; subst hy
   cases (hr : Rd w (Fro R O w) v (.list xs)) with
   | empty => simp at hi
   | list g o cap cur E fr _ vs h1 h2 h3 h4 h5 =>
    exact ⟨g,o,_,cap,rfl,hi,g,o + i,cur,E,fr,vs i,rfl,h1,h2,h4 i hi,by rw [wf_get _ _ hi]; exact h5 i hi⟩
  ·cases hy
 ·rename_i t p u xs
  split at hy
  ·rename_i hi
   simp only [Option.some.injEq] at hy; subst hy
   cases u with
   | true =>
    cases (hr : OwnU w O t p v (.list xs)) with
    | nil => simp at hi
    | list _ g cap cur E _ vs h1 h2 h3 h4 h5 h6 h7 =>
     exact ⟨g,0,_,cap,rfl,hi,g,cur,E,vs i,by simp,h1,h2,h6 i hi,by rw [wf_get _ _ hi]; exact h7 i hi⟩
   | false =>
    cases (hr : OwnF R w O t p v (.list xs)) with
    | nil => simp at hi
    | list g cap cur E _ vs h1 h2 h3 h4 h5 h6 h7 =>
     exact ⟨g,0,_,cap,rfl,hi,g,cur,E,vs i,by simp,h1,h2,h6 i hi,by rw [wf_get _ _ hi]; exact h7 i hi⟩
  ·cases hy
 ·rename_i t xs
  split at hy
  ·rename_i hi
   simp only [Option.some.injEq] at hy; subst hy
   cases (hr : Rd w (Bor R O w t) v (.list xs)) with
   | empty => simp at hi
   | list g o cap cur E fr _ vs h1 h2 h3 h4 h5 =>
    exact ⟨g,o,_,cap,rfl,hi,g,o + i,cur,E,fr,vs i,rfl,h1,h2,h4 i hi,by rw [wf_get _ _ hi]; exact h5 i hi⟩
  ·cases hy
 ·cases hy

theorem box_rel (x : VV) (v : Value) (hr : Rel R w O x v) (i : Nat) (y : VV) (hy : boxVV x i = some y) :
  ∃ g,v = .pointer (some ⟨g,0,none⟩) ∧ Rel R w O y (.pointer (some ⟨g,i,none⟩)) := by
 unfold boxVV at hy
 split at hy
 ·rename_i xs
  split at hy
  ·rename_i hi
   simp only [Option.some.injEq] at hy; subst hy
   cases (hr : Rd w (Fro R O w) v (.ptr xs)) with
   | ptr g cur E fr _ vs h1 h2 h3 h4 h5 =>
    exact ⟨g,rfl,g,i,cur,E,fr,vs i,rfl,h1,h2,h4 i hi,by rw [wf_get _ _ hi]; exact h5 i hi⟩
  ·cases hy
 ·rename_i t p u xs
  split at hy
  ·rename_i hi
   simp only [Option.some.injEq] at hy; subst hy
   cases u with
   | true =>
    cases (hr : OwnU w O t p v (.ptr xs)) with
    | ptr _ g cur E _ vs h1 h2 h3 h4 h5 =>
     exact ⟨g,rfl,g,cur,E,vs i,rfl,h1,h2,h4 i hi,by rw [wf_get _ _ hi]; exact h5 i hi⟩
   | false =>
    cases (hr : OwnF R w O t p v (.ptr xs)) with
    | ptr g cur E _ vs h1 h2 h3 h4 h5 =>
     exact ⟨g,rfl,g,cur,E,vs i,rfl,h1,h2,h4 i hi,by rw [wf_get _ _ hi]; exact h5 i hi⟩
  ·cases hy
 ·rename_i t xs
  split at hy
  ·rename_i hi
   simp only [Option.some.injEq] at hy; subst hy
   cases (hr : Rd w (Bor R O w t) v (.ptr xs)) with
   | ptr g cur E fr _ vs h1 h2 h3 h4 h5 =>
    exact ⟨g,rfl,g,i,cur,E,fr,vs i,rfl,h1,h2,h4 i hi,by rw [wf_get _ _ hi]; exact h5 i hi⟩
  ·cases hy
 ·rename_i t xs
  split at hy
  ·rename_i hi
   simp only [Option.some.injEq] at hy; subst hy
   obtain ⟨g,cur,E,fr,e1,e2,e3,e4⟩ := hr
   cases e4 with
   | agg _ _ _ vs h1 h2 h3 =>
    exact ⟨g,e1,g,cur,E,fr,vs i,rfl,e2,e3,h2 i hi,by rw [wf_get _ _ hi]; simpa using h3 i hi⟩
  ·cases hy
 ·cases hy

theorem part_cell {t : Nat} {p : List Nat} {i : Nat} {u : Bool} {v : Value} {d : D} (h : Part R w O t (p ++ [i]) u v d) : Rel R w O (cellVV t p i u d) v := by
 unfold cellVV
 cases hs : d.sc <;> cases u
 ·exact h
 ·exact h
 ·exact h
 ·exact sc_rd hs h _ _

theorem bor_cell {t : Nat} {v : Value} {d : D} (h : Rd w (Bor R O w t) v d) : Rel R w O (borVV t d) v := by
 unfold borVV
 split
 ·rename_i hs
  exact (sc_rd hs (sc_own hs h O w 0 []) _ _ : Rd w (Fro R O w) v d)
 ·exact h

theorem load_rel (x : VV) (v : Value) (hr : Rel R w O x v) (y : VV) (hy : loadVV x = some y) :
  ∃ g o cur E fr cv,v = .pointer (some ⟨g,o,none⟩) ∧ w.heap[g]? = some (.cells cur E fr) ∧ cur[o]? = some cv ∧ Rel R w O y cv := by
 unfold loadVV at hy
 split at hy <;> simp only [Option.some.injEq,reduceCtorEq] at hy <;> subst hy
 ·obtain ⟨g,cur,E,cv,h1,h2,h3,h4,h5⟩ := hr
  exact ⟨g,_,cur,E,(0,0),cv,h1,h3,h4,part_cell h5⟩
 ·obtain ⟨g,cur,E,fr,cv,h1,h2,h3,h4,h5⟩ := hr
  exact ⟨g,_,cur,E,fr,cv,h1,h3,h4,part_cell (p := []) (u := true) h5⟩
 ·obtain ⟨g,o,cur,E,fr,cv,h1,h2,h3,h4,h5⟩ := hr
  exact ⟨g,o,cur,E,fr,cv,h1,h3,h4,h5⟩
 ·obtain ⟨g,o,cur,E,fr,cv,h1,h2,h3,h4,h5⟩ := hr
  exact ⟨g,o,cur,E,fr,cv,h1,h3,h4,bor_cell h5⟩
 ·rename_i d
  cases (hr : Rd w (Fro R O w) v (.ptr [d])) with
  | ptr g cur E fr _ vs h1 h2 h3 h4 h5 => exact ⟨g,0,cur,E,fr,vs 0,rfl,h2,h4 0 (by simp),h5 0 (by simp)⟩
 ·rename_i t p u d
  cases u with
  | true =>
   cases (hr : OwnU w O t p v (.ptr [d])) with
   | ptr _ g cur E _ vs h1 h2 h3 h4 h5 => exact ⟨g,0,cur,E,(0,0),vs 0,rfl,h2,h4 0 (by simp),part_cell (u := true) (h5 0 (by simp))⟩
  | false =>
   cases (hr : OwnF R w O t p v (.ptr [d])) with
   | ptr g cur E _ vs h1 h2 h3 h4 h5 => exact ⟨g,0,cur,E,(0,0),vs 0,rfl,h2,h4 0 (by simp),part_cell (p := p) (u := false) (h5 0 (by simp))⟩
 ·rename_i t d
  cases (hr : Rd w (Bor R O w t) v (.ptr [d])) with
  | ptr g cur E fr _ vs h1 h2 h3 h4 h5 => exact ⟨g,0,cur,E,fr,vs 0,rfl,h2,h4 0 (by simp),bor_cell (h5 0 (by simp))⟩
 ·obtain ⟨g,cur,E,cv,h1,h2,h3,h4,h5,h6⟩ := hr
  exact ⟨g,0,cur,E,(0,0),cv,h1,h3,h5,h6⟩

theorem loadSt_rel (n : Nat) (x : VV) (v : Value) (hr : Rel R w O x v) (y : VV) (hy : loadSt n x = some y) :
  ∃ g cur E fr,v = .pointer (some ⟨g,0,none⟩) ∧ w.heap[g]? = some (.cells cur E fr) ∧ cur.size = n ∧ Rel R w O y (.agg cur) := by
 unfold loadSt at hy
 split at hy
 ·rename_i xs
  split at hy <;> simp only [Option.some.injEq,reduceCtorEq] at hy
  rename_i hn; subst hy
  cases (hr : Rd w (Fro R O w) v (.ptr xs)) with
  | ptr g cur E fr _ vs h1 h2 h3 h4 h5 => exact ⟨g,cur,E,fr,rfl,h2,by omega,Rd.agg cur xs vs h3 h4 h5⟩
 ·rename_i t p xs
  split at hy <;> simp only [Option.some.injEq,reduceCtorEq] at hy
  rename_i hn; subst hy
  cases (hr : OwnU w O t p v (.ptr xs)) with
  | ptr _ g cur E _ vs h1 h2 h3 h4 h5 => exact ⟨g,cur,E,(0,0),rfl,h2,by omega,OwnU.agg p cur xs vs h3 h4 h5⟩
 ·rename_i t p xs
  split at hy <;> simp only [Option.some.injEq,reduceCtorEq] at hy
  rename_i hn; subst hy
  cases (hr : OwnF R w O t p v (.ptr xs)) with
  | ptr g cur E _ vs h1 h2 h3 h4 h5 =>
   exact ⟨g,cur,E,(0,0),rfl,h2,by omega,Rd.agg cur xs vs h3 h4 fun i hi => (h5 i hi).keep (fun g hg => ⟨.inl hg.1,hg.2⟩) fun _ _ => rfl⟩
 ·rename_i t xs
  split at hy <;> simp only [Option.some.injEq,reduceCtorEq] at hy
  rename_i hn; subst hy
  cases (hr : Rd w (Bor R O w t) v (.ptr xs)) with
  | ptr g cur E fr _ vs h1 h2 h3 h4 h5 => exact ⟨g,cur,E,fr,rfl,h2,by omega,Rd.agg cur xs vs h3 h4 h5⟩
 ·cases hy

theorem field_rel (i : Nat) (x : VV) (v : Value) (hr : Rel R w O x v) (y : VV) (hy : fieldVV i x = some y) :
  ∃ cs cv,v = .agg cs ∧ cs[i]? = some cv ∧ Rel R w O y cv := by
 unfold fieldVV at hy
 split at hy
 ·rename_i xs
  split at hy <;> simp only [Option.some.injEq,reduceCtorEq] at hy
  rename_i hi; subst hy
  cases (hr : Rd w (Fro R O w) v (.agg xs)) with
  | agg cs _ vs h1 h2 h3 => exact ⟨cs,vs i,rfl,h2 i hi,by rw [wf_get _ _ hi]; exact h3 i hi⟩
 ·rename_i t p xs
  split at hy <;> simp only [Option.some.injEq,reduceCtorEq] at hy
  rename_i hi; subst hy
  cases (hr : OwnU w O t p v (.agg xs)) with
  | agg _ cs _ vs h1 h2 h3 => exact ⟨cs,vs i,rfl,h2 i hi,by rw [wf_get _ _ hi]; exact part_cell (u := true) (h3 i hi)⟩
 ·rename_i t xs
  split at hy <;> simp only [Option.some.injEq,reduceCtorEq] at hy
  rename_i hi; subst hy
  cases (hr : Rd w (Bor R O w t) v (.agg xs)) with
  | agg cs _ vs h1 h2 h3 => exact ⟨cs,vs i,rfl,h2 i hi,by rw [wf_get _ _ hi]; exact bor_cell (h3 i hi)⟩
 ·cases hy

theorem len_rel (x : VV) (v : Value) (hr : Rel R w O x v) (n : Nat) (hy : lenVV x = some n) : ∃ a c,v = .slice a n c ∧ (n ≤ c ∨ n = 0) := by
 unfold lenVV at hy
 split at hy <;> simp only [Option.some.injEq,reduceCtorEq] at hy <;> subst hy
 ·rename_i xs
  cases (hr : Rd w (Fro R O w) v (.list xs)) with
  | empty a c => exact ⟨a,c,rfl,.inr rfl⟩
  | list g o cap cur E fr _ vs h1 h2 h3 h4 h5 => exact ⟨_,cap,rfl,.inl h3⟩
 ·rename_i t p u xs
  cases u with
  | true =>
   cases (hr : OwnU w O t p v (.list xs)) with
   | nil => exact ⟨none,0,rfl,.inr rfl⟩
   | list _ g cap cur E _ vs h1 h2 h3 h4 h5 h6 h7 => exact ⟨_,cap,rfl,.inl h3⟩
  | false =>
   cases (hr : OwnF R w O t p v (.list xs)) with
   | nil => exact ⟨none,0,rfl,.inr rfl⟩
   | list g cap cur E _ vs h1 h2 h3 h4 h5 h6 h7 => exact ⟨_,cap,rfl,.inl h3⟩
 ·rename_i t xs
  cases (hr : Rd w (Bor R O w t) v (.list xs)) with
  | empty a c => exact ⟨a,c,rfl,.inr rfl⟩
  | list g o cap cur E fr _ vs h1 h2 h3 h4 h5 => exact ⟨_,cap,rfl,.inl h3⟩
 ·rename_i m xs
  cases (hr : Rd w (Fro R O w) v (.recs m xs)) with
  | recs g o cap cur E fr _ _ h1 h2 h3 h4 h5 => exact ⟨_,cap,rfl,.inl h3⟩

theorem placeS_rel (m : Nat) (x : VV) (v : Value) (hr : Rel R w O x v) (i : Nat) (y : VV) (hy : placeS m x i = some y) :
  ∃ g o n c,v = .slice (some ⟨g,o,none⟩) n c ∧ i < n ∧ Rel R w O y (.pointer (some ⟨g,o + i * m,none⟩)) := by
 unfold placeS at hy
 split at hy <;> try cases hy
 rename_i k xs
 split at hy <;> simp only [Option.some.injEq,reduceCtorEq] at hy
 rename_i hc
 obtain ⟨hi,rfl⟩ := hc
 subst hy
 cases (hr : Rd w (Fro R O w) v (.recs k xs)) with
 | recs g o cap cur E fr _ _ h1 h2 h3 h4 h5 =>
  exact ⟨g,o,_,cap,rfl,hi,g,o + i * k,cur,E,fr,rfl,h1,h2,h4 i hi,by rw [wf_get _ _ hi]; exact h5 i hi⟩

theorem loadR_rel (n : Nat) (x : VV) (v : Value) (hr : Rel R w O x v) (y : VV) (hy : loadR n x = some y) :
  ∃ g o cur E fr,v = .pointer (some ⟨g,o,none⟩) ∧ w.heap[g]? = some (.cells cur E fr) ∧ o + n ≤ cur.size ∧ Rel R w O y (.agg (cur.extract o (o + n))) := by
 unfold loadR at hy
 split at hy <;> try cases hy
 rename_i m xs
 split at hy <;> simp only [Option.some.injEq,reduceCtorEq] at hy
 rename_i hc
 obtain ⟨rfl,hc⟩ := hc
 subst hy
 obtain ⟨g,o,cur,E,fr,e1,e2,e3,e4,e5⟩ := hr
 exact ⟨g,o,cur,E,fr,e1,e3,e4,e5⟩

theorem boxR_rel (i : Nat) (x : VV) (v : Value) (hr : Rel R w O x v) (y : VV) (hy : boxR i x = some y) :
  ∃ g o,v = .pointer (some ⟨g,o,none⟩) ∧ Rel R w O y (.pointer (some ⟨g,o + i,none⟩)) := by
 unfold boxR at hy
 split at hy <;> try cases hy
 rename_i m xs
 split at hy <;> simp only [Option.some.injEq,reduceCtorEq] at hy
 rename_i hc
 obtain ⟨hi,rfl⟩ := hc
 subst hy
 obtain ⟨g,o,cur,E,fr,e1,e2,e3,e4,e5⟩ := hr
 generalize hcs : (cur.extract o (o + xs.length)) = cs at e5
 cases e5 with
 | agg _ _ vs h1 h2 h3 =>
  refine ⟨g,o,e1,g,o + i,cur,E,fr,vs i,rfl,e2,e3,?_,by rw [wf_get _ _ hi]; exact h3 i hi⟩
  have := h2 i hi
  rw [← hcs,Array.getElem?_extract] at this
  split at this
  ·exact this
  ·cases this

theorem int_rel {x : VV} {v : Value} (hr : Rel R w O x v) {n : Int} (hy : x.int? = some n) : ∃ k,v = .int k n := by
 unfold VV.int? at hy
 split at hy <;> simp only [Option.some.injEq,reduceCtorEq] at hy
 subst hy
 cases (hr : Rd w (Fro R O w) v _)
 exact ⟨_,rfl⟩

end
end Go.Vam
