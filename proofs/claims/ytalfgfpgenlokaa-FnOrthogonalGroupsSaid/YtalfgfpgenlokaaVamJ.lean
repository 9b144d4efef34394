/- A step, a run of a region's operations, the rules of code, the door into a function. -/
import Derived.Test.YtalfgfpgenlokaaVamS
namespace Go.Vam
open Go Go.RowKit

def vval (τ : TypeId → TK) (Φ : Orc) (d : Nat) (op : Op) (σ : Frm) : Option (List Nat × VV) :=
 match op with
 | .assign x => some (vassign d (ev σ x))
 | .buildSlice T n parts => match vres τ Φ d (.buildSlice T n parts) σ with
  | some r => some r
  | none => vbuildS τ d T n parts σ
 | .build T parts => match vres τ Φ d (.build T parts) σ with
  | some r => some r
  | none => match vbuildZ (τ T) d parts.toList with
   | some r => some r
   | none => match vbuildP (τ T) d (parts.toList.map (·.1)) (vals σ (parts.toList.map (·.2))) with
    | some r => some r
    | none => vbuildT τ d T parts σ
 | .box T x => match vres τ Φ d (.box T x) σ with
  | some r => some r
  | none => vboxO (τ T) d (ev σ x)
 | .call c => match c.callee with
  | .builtin .append => match c.args.toList,c.argTypes.toList with
   | [s,x],[T,T'] => if T = T' then vapp τ d T (ev σ s) (ev σ x) else vappZ τ d T T' (ev σ s) (ev σ x)
   | _,_ => none
  | _ => vres τ Φ d (.call c) σ
 | op => vres τ Φ d op σ

def kmap (ks : List Nat) (x : VV) : VV := if ks.any (fun t => x.on t) then .dead else x

structure Eff where
 map : VV → VV
 put : Option (Nat × VV)

def Eff.run (e : Eff) (σ : Frm) : Frm :=
 match e.put with
 | some (d,x) => upd (fun s => e.map (σ s)) d x
 | none => fun s => e.map (σ s)

def vstoreE (τ : TypeId → TK) (T : TypeId) (ad x : VV) : Option (VV → VV) :=
 match τ T,ad.place with
 | .st _,_ => none
 | .ss _ _,_ => none
 | .fn,_ => none
 | .ar _,_ => none
 | .other,_ => none
 | _,some (t,p,i,u) => if u = false ∧ p ≠ [] then none else
  match x.given u with
  | some (e,tv) => if tv = some t then none else some (storeVV t p i u e tv)
  | none => none
 | _,none => none

theorem vstoreE_eq (τ : TypeId → TK) (T : TypeId) (ad x : VV) (σ : Frm) : vstore τ T ad x σ = (vstoreE τ T ad x).map fun f => fun s => f (σ s) := by
 unfold vstore vstoreE
 cases τ T <;> try rfl
 all_goals
  cases ad.place with
  | none => rfl
  | some q =>
   obtain ⟨t,p,i,u⟩ := q
   simp only
   split
   ·rfl
   ·cases x.given u with
    | none => rfl
    | some r =>
     obtain ⟨e,tv⟩ := r
     simp only
     split <;> rfl

noncomputable def vmut (Φ : Orc) (d : Nat) (op : Op) (σ : Frm) : Option Eff :=
 match op with
 | .call c => match c.callee,c.args.toList with
  | .value f,x :: xs => match ev σ f,ev σ x,vals σ xs,data σ xs with
   | .val (.fn g []),.ref t p true d0,some ds,_ => match Φ d g (d0 :: ds) with
    | some [.mut d',.sc r] => if r.sc = true then some ⟨mutVV t p d0 d',some (d,.val r)⟩ else none
    | some [.spoil,.sc r] => if r.sc = true ∧ p = [] then some ⟨kmap [t],some (d,.val r)⟩ else none
    | _ => none
   | .val (.fn g []),.ref t [] false (.ptr ys),_,some ds => match Φ d g (.ptr ys :: ds) with
    | some (.ptr ys' :: rs) => match retVV d (toks σ xs) rs with
     | some (ks,y) => if t ∉ toks σ xs ++ ks then some ⟨fun x => kmap (toks σ xs ++ ks) (wkVV t ys ys' x),some (d,y)⟩ else none
     | none => none
    | _ => none
   | _,_,_,_ => none
  | _,_ => none
 | _ => none

def cutR (d : Nat) (t : Nat) (p : List Nat) (r : Option (List Nat × VV)) : Option Eff := match r with
 | some (ks,y) => if d ∈ ks ∧ t ∉ ks then some ⟨fun z => kmap ks (dtcVV t p d z),some (d,y)⟩ else none
 | none => none
def cutB (τ : TypeId → TK) (d : Nat) (T : TypeId) (x y : VV) : Option Eff := match x with
 | .ref t (i :: p) true (.list xs) => if t ≠ d ∧ y.on d = false ∧ y.on t = false then cutR d t (i :: p) (vapp τ d T (.ref d [] true (.list xs)) y) else none
 | _ => none
def vcut (τ : TypeId → TK) (d : Nat) (op : Op) (σ : Frm) : Option Eff := match op with
 | .call c => match c.callee,c.args.toList,c.argTypes.toList with
  | .builtin .append,[.tmp s,x],[T,T'] => if T = T' then cutB τ d T (σ s) (ev σ x) else none
  | _,_,_ => none
 | _ => none

noncomputable def vdo (τ : TypeId → TK) (Φ : Orc) (N : Lim) (o : Oper) (σ : Frm) : Option Eff :=
 match o.dst with
 | none => match o.op with
  | .store T ad x => (match vstoreE τ T (ev σ ad) (ev σ x) with
   | some f => some f
   | none => vstoreS (τ T) (ev σ ad) (ev σ x)).map fun f => ⟨f,none⟩
  | _ => none
 | some d => if d ∈ N then (match vmut Φ d o.op σ with
  | some e => some e
  | none => match vval τ Φ d o.op σ with
   | some r => some ⟨kmap r.1,some (d,r.2)⟩
   | none => vcut τ d o.op σ) else none

def vskip (N : Lim) (o : Oper) : Option Eff :=
 match o.dst with
 | some d => if d ∈ N then some ⟨id,some (d,.und)⟩ else none
 | none => some ⟨id,none⟩

noncomputable def vact (τ : TypeId → TK) (Φ : Orc) (N : Lim) (ops : Array Oper) (o : Oper) (σ : Frm) : Option Eff :=
 match o.guard with
 | none => vdo τ Φ N o σ
 | some (j,want) => match (ops[j]?).bind (·.dst) with
  | none => none
  | some s => match σ s with
   | .val (.bool b) => if b = want then vdo τ Φ N o σ else vskip N o
   | .und => vskip N o
   | _ => none

noncomputable def vrun (τ : TypeId → TK) (Φ : Orc) (N : Lim) (ops : Array Oper) : List Oper → Frm → Option Frm
 | [],σ => some σ
 | o :: r,σ => match vact τ Φ N ops o σ with
  | some e => vrun τ Φ N ops r (e.run σ)
  | none => none

def Sound (P : Program) (Φ : Orc) : Prop := ∀ d f ds rs,Φ d f ds = some rs → VOk P f ds rs

section
variable {P : Program} {τ : TypeId → TK} {Φ : Orc} {R : Nat → Prop} {B : Nat → Prop} {w0 : W0} {N : Lim} {O : Own} {σ : Frm} {a : Act} {w : World}

theorem vval_sound (hτ : TyOk P τ) (hΦ : Sound P Φ) (h : St R B w0 N O σ a w) {o : Oper} {d : Nat} {ks : List Nat} {x : VV}
  (hv : vval τ Φ d o.op σ = some (ks,x)) {K : Act → World → Prop} {Q : Exit → Act → World → Prop}
  (hK : ∀ O' w' v,Made R B w w' O O' ks x v → K (a.put o.dst v) w') : o.wp P a w K Q := by
 have fin : Yld P R B O ks x (execOp a.eval o) w → o.wp P a w K Q := fun ⟨v,w',O',h1,h2⟩ => wp_val h1 (hK O' w' v h2)
 cases ho : o.op with
 | assign y =>
  rw [ho] at hv
  simp only [vval,Option.some.injEq] at hv
  have := sound_assign (P := P) h ho d
  rw [hv] at this
  exact fin this
 | buildSlice T n parts =>
  rw [ho] at hv
  simp only [vval] at hv
  split at hv
  ·rename_i r hr
   simp only [Option.some.injEq] at hv
   exact vres_sound hτ (fun d f ds rs d' ts z h hz => (hΦ d f ds rs h).call hz) h (ho ▸ (hv ▸ hr)) hK
  ·exact fin (sound_buildS hτ h ho hv)
 | build T parts =>
  rw [ho] at hv
  simp only [vval] at hv
  split at hv
  ·rename_i r hr
   simp only [Option.some.injEq] at hv
   exact vres_sound hτ (fun d f ds rs d' ts z h hz => (hΦ d f ds rs h).call hz) h (ho ▸ (hv ▸ hr)) hK
  ·split at hv
   ·rename_i r hr
    simp only [Option.some.injEq] at hv
    exact fin (sound_buildZ hτ h ho (hv ▸ hr))
   ·split at hv
    ·rename_i r hr
     simp only [Option.some.injEq] at hv
     exact fin (sound_buildP hτ h ho (hv ▸ hr))
    ·exact fin (sound_buildT hτ h ho hv)
 | box T y =>
  rw [ho] at hv
  simp only [vval] at hv
  split at hv
  ·rename_i r hr
   simp only [Option.some.injEq] at hv
   exact vres_sound hτ (fun d f ds rs d' ts z h hz => (hΦ d f ds rs h).call hz) h (ho ▸ (hv ▸ hr)) hK
  ·exact fin (sound_boxO h ho hv)
 | call c =>
  rw [ho] at hv
  simp only [vval] at hv
  split at hv
  ·rename_i hc
   split at hv <;> try cases hv
   rename_i s y T T' e1 e2
   split at hv
   ·rename_i hT
    subst hT
    exact fin (vapp_sound hτ h ho hc e1 e2 hv)
   ·exact fin (vappZ_sound hτ h ho hc e1 e2 hv)
  ·exact vres_sound hτ (fun d f ds rs d' ts z h hz => (hΦ d f ds rs h).call hz) h (ho ▸ hv) hK
 | _ =>
  rw [ho] at hv
  simp only [vval] at hv
  exact vres_sound hτ (fun d f ds rs d' ts z h hz => (hΦ d f ds rs h).call hz) h (by rw [ho]; exact hv) hK

theorem killl_eq (ks : List Nat) (σ : Frm) : killl ks σ = fun s => kmap ks (σ s) := rfl

theorem vdo_sound (hτ : TyOk P τ) (hΦ : Sound P Φ) (h : St R B w0 N O σ a w) {o : Oper} {e : Eff} (hv : vdo τ Φ N o σ = some e) {K : Act → World → Prop} {Q : Exit → Act → World → Prop}
  (hK : ∀ O' a' w',St R B w0 N O' (e.run σ) a' w' → K a' w') : o.wp P a w K Q := by
 unfold vdo at hv
 cases hd : o.dst with
 | none =>
  rw [hd] at hv
  simp only at hv
  split at hv <;> try cases hv
  rename_i T ad x ho
  obtain ⟨f,h5,h6⟩ := map_some hv
  subst h6
  have hst : ∃ w' O',(execOp a.eval o).run P w = .ok .skip w' ∧ St R B w0 N O' (fun s => f (σ s)) a w' := by
   split at h5
   ·rename_i f' h5'
    simp only [Option.some.injEq] at h5
    subst h5
    have hs := vstoreE_eq τ T (ev σ ad) (ev σ x) σ
    rw [h5'] at hs
    exact sound_store (P := P) hτ h ho hs
   ·exact sound_storeS (P := P) hτ h ho h5
  obtain ⟨w',O',h1,h2⟩ := hst
  unfold Oper.wp
  rw [h1]
  simp only [Oper.upon,hd,Act.put]
  exact hK O' a w' h2
 | some d =>
  rw [hd] at hv
  simp only at hv
  split at hv <;> try cases hv
  rename_i hN
  split at hv
  ·rename_i e' hm
   simp only [Option.some.injEq] at hv
   subst hv
   unfold vmut at hm
   split at hm <;> try cases hm
   rename_i c ho
   split at hm <;> try cases hm
   rename_i f x xs hc hargs
   split at hm <;> try cases hm
   case h_2 g t ys o' ds hf hx hds =>
    split at hm <;> try cases hm
    rename_i ys' rs hrs
    split at hm <;> try cases hm
    rename_i ks y hy
    split at hm <;> simp only [Option.some.injEq,reduceCtorEq] at hm
    rename_i htk
    subst hm
    exact wp_ptr h ho hc hf hargs hx hds (hΦ _ _ _ _ hrs) hy htk hd hN hK
   rename_i g t p d0 ds hf hx hds
   split at hm <;> try cases hm
   ·rename_i d' r hrs
    split at hm <;> simp only [Option.some.injEq,reduceCtorEq] at hm
    rename_i hr
    subst hm
    exact wp_mut h ho hc hf hargs hx hds (hΦ _ _ _ _ hrs) hr hd hN hK
   ·rename_i r hrs
    split at hm <;> simp only [Option.some.injEq,reduceCtorEq] at hm
    rename_i hr
    subst hm
    obtain ⟨hr,rfl⟩ := hr
    exact wp_spoil h ho hc hf hargs hx hds (hΦ _ _ _ _ hrs) hr hd hN hK
  split at hv
  ·rename_i r h5
   obtain ⟨ks,x⟩ := r
   simp only [Option.some.injEq] at hv
   subst hv
   refine vval_sound hτ hΦ h h5 fun O' w' v hm => ?_
   rw [hd]
   exact hK O' _ w' (h.made hm hN)
  ·unfold vcut at hv
   split at hv <;> try cases hv
   rename_i c ho
   split at hv <;> try cases hv
   rename_i s x T T' hc hargs hT'
   split at hv <;> try cases hv
   rename_i hTT
   subst hTT
   unfold cutB at hv
   split at hv <;> try cases hv
   rename_i t i p xs hs
   split at hv <;> try cases hv
   rename_i hne
   unfold cutR at hv
   split at hv <;> try cases hv
   rename_i ks y hap
   split at hv <;> simp only [Option.some.injEq,reduceCtorEq] at hv
   rename_i hk
   subst hv
   have h' := h.detach hs hne.1
   have hev : ev (upd (fun q => dtcVV t (i :: p) d (σ q)) s (.ref d [] true (.list xs))) x = ev σ x := by
    cases x with
    | tmp q =>
     have h1 : (σ q).on d = false := hne.2.1
     have h2 : (σ q).on t = false := hne.2.2
     have hqs : q ≠ s := by rintro rfl; rw [hs] at h2; simp [VV.on] at h2
     simp only [ev,upd,if_neg hqs]
     have h1' : (σ q).on d = false := h1
     unfold dtcVV
     split
     ·rename_i r D0 hr
      rw [hr] at h1 h2
      have e1 : r ≠ d := by simpa [VV.on] using h1
      have e2 : r ≠ t := by simpa [VV.on] using h2
      rw [if_neg e2,if_neg e1]
     ·rename_i f cs hr
      rw [hr] at h1
      rw [h1,hr]; rfl
     ·rename_i z f cs hr
      rw [hr] at h1
      rw [h1,hr]; rfl
     ·rw [h1,h2]; rfl
    | _ => rfl
   have hyl := vapp_sound (P := P) hτ h' ho hc hargs hT' (d := d) (ks := ks) (y := y) (by
    rw [hev]
    simp only [ev,upd,if_true]
    exact hap)
   obtain ⟨v,w',O',h1,h2⟩ := hyl
   refine wp_val h1 ?_
   rw [hd]
   refine hK O' _ w' ?_
   have h3 := h'.made h2 hN
   have heq : (Eff.run ⟨fun z => kmap ks (dtcVV t (i :: p) d z),some (d,y)⟩ σ) = upd (killl ks (upd (fun q => dtcVV t (i :: p) d (σ q)) s (.ref d [] true (.list xs)))) d y := by
    funext q
    simp only [Eff.run,upd,killl_eq]
    by_cases hq : q = d
    ·simp only [hq,if_true]
    ·simp only [if_neg hq]
     by_cases hqs : q = s
     ·subst hqs
      simp only [if_true,hs]
      have e1 : dtcVV t (i :: p) d (.ref t (i :: p) true (.list xs)) = .dead := by simp [dtcVV,VV.on]
      have e2 : ks.any (fun t => (VV.ref d [] true (.list xs)).on t) = true := List.any_eq_true.2 ⟨d,hk.1,by simp [VV.on]⟩
      have e3 : kmap ks (.ref d [] true (.list xs)) = .dead := by unfold kmap; rw [if_pos e2]
      rw [e1,e3]
      simp [kmap]
     ·simp only [if_neg hqs]
   rw [heq]
   exact h3

theorem vskip_sound (h : St R B w0 N O σ a w) {o : Oper} {e : Eff} (hv : vskip N o = some e) : St R B w0 N O (e.run σ) (a.put o.dst undef) w := by
 unfold vskip at hv
 cases hd : o.dst with
 | some d =>
  rw [hd] at hv
  simp only at hv
  split at hv <;> simp only [Option.some.injEq,reduceCtorEq] at hv
  rename_i hN
  subst hv
  have := h.made (ks := []) (x := .und) (v := undef) (d := d) ⟨Keeps.refl _ _ _,.refl _ _,h.own,h.inj,rfl⟩ hN
  rw [killl_nil] at this
  exact this
 | none =>
  rw [hd] at hv
  simp only [Option.some.injEq] at hv
  subst hv
  exact h

theorem yielded_of (h : St R B w0 N O σ a w) {ops : Array Oper} {j s : Nat} {b : Bool} (hj : (ops[j]?).bind (·.dst) = some s) (hs : σ s = .val (.bool b)) :
  yielded ops a.tmps j = some b := by
 have hr := h.slots s
 rw [hs] at hr
 generalize hv : a.tmps.getD s undef = v at hr
 cases (hr : Rd w (Fro R O w) v _)
 unfold yielded
 rw [hj]
 simp only [Option.bind_some]
 by_cases hlt : s < a.tmps.size
 ·simp [hlt] at hv
  simp [hlt,hv]
 ·simp [hlt] at hv
  cases hv

theorem yielded_und (h : St R B w0 N O σ a w) {ops : Array Oper} {j s : Nat} (hj : (ops[j]?).bind (·.dst) = some s) (hs : σ s = .und) :
  yielded ops a.tmps j = none := by
 have hr := h.slots s
 rw [hs] at hr
 have hr' : a.tmps.getD s undef = undef := hr
 unfold yielded
 rw [hj]
 simp only [Option.bind_some]
 by_cases hlt : s < a.tmps.size
 ·simp [hlt] at hr'
  simp [hlt,hr',undef]
 ·simp [hlt]

theorem vact_sound (hτ : TyOk P τ) (hΦ : Sound P Φ) (h : St R B w0 N O σ a w) {ops : Array Oper} {o : Oper} {e : Eff} (hv : vact τ Φ N ops o σ = some e) {K : Act → World → Prop} {Q : Exit → Act → World → Prop}
  (hK : ∀ O' a' w',St R B w0 N O' (e.run σ) a' w' → K a' w') :
  if Region.wanted o (yielded ops a.tmps) then o.wp P a w K Q else K (a.put o.dst undef) w := by
 unfold vact at hv
 split at hv
 ·rename_i hg
  have : Region.wanted o (yielded ops a.tmps) = true := by simp [Region.wanted,hg]
  rw [if_pos this]
  exact vdo_sound hτ hΦ h hv hK
 ·rename_i j want hg
  split at hv <;> try cases hv
  rename_i s hj
  split at hv
  case h_2 hs =>
   have hy := yielded_und h hj hs
   have hw : Region.wanted o (yielded ops a.tmps) = false := by simp [Region.wanted,hg,hy]
   rw [hw,if_neg (by simp)]
   exact hK O _ w (vskip_sound h hv)
  case h_3 => cases hv
  rename_i b hs
  have hy := yielded_of h hj hs
  have hw : Region.wanted o (yielded ops a.tmps) = (some b == some want) := by simp [Region.wanted,hg,hy]
  split at hv
  ·rename_i hb
   subst hb
   rw [hw,if_pos (by simp)]
   exact vdo_sound hτ hΦ h hv hK
  ·rename_i hb
   rw [hw,if_neg (by simpa using hb)]
   exact hK O _ w (vskip_sound h hv)

theorem vrun_sound (hτ : TyOk P τ) (hΦ : Sound P Φ) {ops : Array Oper} {Q : Exit → Act → World → Prop} : ∀ (l : List Oper) {σ σ' : Frm} {O : Own} {a : Act} {w : World},St R B w0 N O σ a w → vrun τ Φ N ops l σ = some σ' →
  (∀ O' a' w',St R B w0 N O' σ' a' w' → Q .normal a' w') → wpList P ops Q l a w
 | [],σ,σ',O,a,w,h,hv,hQ => by
  simp only [vrun,Option.some.injEq] at hv
  subst hv
  exact wpList_nil (hQ O a w h)
 | o :: r,σ,σ',O,a,w,h,hv,hQ => by
  simp only [vrun] at hv
  split at hv <;> try cases hv
  rename_i e he
  refine wpList_step fun K hK => ?_
  exact vact_sound hτ hΦ h he fun O' a' w' h' => hK a' w' (vrun_sound hτ hΦ r h' hv hQ)

end

/-! ### Code -/

def VW (P : Program) (N : Lim) (c : Code) (σ : Frm) (Q : Exit → Frm → Prop) : Prop :=
 ∀ (R : Nat → Prop) (B : Nat → Prop) (w0 : W0) (O : Own) (a : Act) (w : World),St R B w0 N O σ a w →
  c.wp P (fun e a' w' => ∃ O' σ',St R B w0 N O' σ' a' w' ∧ Q e σ') a w

section
variable {P : Program} {τ : TypeId → TK} {Φ : Orc} {N : Lim} {σ : Frm} {Q : Exit → Frm → Prop}

theorem VW.mono {c : Code} {Q' : Exit → Frm → Prop} (h : VW P N c σ Q) (hq : ∀ e σ,Q e σ → Q' e σ) : VW P N c σ Q' :=
 fun R B w0 O a w hs => wp_mono (h R B w0 O a w hs) fun e _ _ ⟨O',σ',h1,h2⟩ => ⟨O',σ',h1,hq e σ' h2⟩

theorem VW.forget {c : Code} {σ' : Frm} (hs : ∀ s,σ' s = .dead ∨ σ' s = σ s) (h : VW P N c σ' Q) : VW P N c σ Q :=
 fun R B w0 O a w hst => h R B w0 O a w (hst.forget hs)

theorem VW.skip (h : Q .normal σ) : VW P N .skip σ Q := fun _ _ _ O _ _ hs => wp_skip ⟨O,σ,hs,h⟩
theorem VW.exit {id : Nat} (h : Q (.exit id) σ) : VW P N (.exit id) σ Q := fun _ _ _ O _ _ hs => wp_exit ⟨O,σ,hs,h⟩
theorem VW.ret (h : Q .ret σ) : VW P N .ret σ Q := fun _ _ _ O _ _ hs => wp_ret ⟨O,σ,hs,h⟩

def Nx (K : Frm → Prop) (Q : Exit → Frm → Prop) : Exit → Frm → Prop
 | .normal,σ => K σ
 | e,σ => Q e σ

theorem VW.seq {x y : Code} (h : VW P N x σ (Nx (fun σ' => VW P N y σ' Q) Q)) : VW P N (.seq x y) σ Q := by
 intro R B w0 O a w hs
 refine wp_seq (wp_mono (h R B w0 O a w hs) ?_)
 rintro e a' w' ⟨O',σ',h1,h2⟩
 cases e with
 | normal => exact h2 R B w0 O' a' w' h1
 | _ => exact ⟨O',σ',h1,h2⟩

theorem VW.cond {c : Operand} {x y : Code} {b : Bool} (hc : ev σ c = .val (.bool b)) (ht : b = true → VW P N x σ Q) (hf : b = false → VW P N y σ Q) : VW P N (.cond c x y) σ Q := by
 intro R B w0 O a w hs
 have hr := rel_tmp hs c hc
 generalize hv : a.eval c = v at hr
 cases (hr : Rd w (Fro R O w) v _)
 exact wp_cond_split hv (fun hb => ht hb R B w0 O a w hs) (fun hb => hf hb R B w0 O a w hs)

def Bk (id : Nat) (Q : Exit → Frm → Prop) : Exit → Frm → Prop
 | .exit id',σ => if id' = id then Q .normal σ else Q (.exit id') σ
 | e,σ => Q e σ

theorem VW.block {id : Nat} {c : Code} (h : VW P N c σ (Bk id Q)) : VW P N (.block id c) σ Q := by
 intro R B w0 O a w hs
 refine wp_block (wp_mono (h R B w0 O a w hs) ?_)
 rintro e a' w' ⟨O',σ',h1,h2⟩
 cases e with
 | exit id' =>
  simp only [Bk] at h2
  simp only [Exit.inBlock]
  split
  ·rename_i e; rw [if_pos e] at h2; exact ⟨O',σ',h1,h2⟩
  ·rename_i e; rw [if_neg e] at h2; exact ⟨O',σ',h1,h2⟩
 | _ => exact ⟨O',σ',h1,h2⟩

theorem VW.loop {ι : Type} {c : Code} (F : ι → Frm → Prop) (μ : ι → Nat) (i0 : ι) (h0 : F i0 σ)
  (round : ∀ i σ,F i σ → VW P N c σ (Nx (fun σ' => ∃ j,F j σ' ∧ μ j < μ i) Q)) : VW P N (.loop c) σ Q := by
 intro R B w0 O a w hs b k cs
 have key : ∀ n,∀ (i : ι) (σ : Frm) (O : Own) (a : Act) (w : World),μ i = n → F i σ → St R B w0 N O σ a w →
   ∃ e a' w',(∃ O' σ',St R B w0 N O' σ' a' w' ∧ Q e σ') ∧ Arrives P (lone (b.at a (.code c :: .inLoop c :: k)) cs w) b k cs e a' w' := by
  intro n
  induction n using Nat.strongRecOn with
  | _ n ih =>
   intro i σ O a w hn hF hst
   obtain ⟨e,a₁,w₁,hq,harr⟩ := round i σ hF R B w0 O a w hst b (.inLoop c :: k) cs
   obtain ⟨O',σ',hst',hq⟩ := hq
   cases e with
   | normal =>
    obtain ⟨j,hj,hlt⟩ := hq
    obtain ⟨e₂,a₂,w₂,hq₂,harr₂⟩ := ih (μ j) (hn ▸ hlt) j σ' O' a₁ w₁ rfl hj hst'
    exact ⟨e₂,a₂,w₂,hq₂,.of_steps (Steps.trans harr (.one step_inLoop)) harr₂⟩
   | exit id => exact ⟨_,a₁,w₁,⟨O',σ',hst',hq⟩,.pass (x := .inLoop c) rfl (fun _ _ => .inl (by simp)) harr⟩
   | goto l => exact ⟨_,a₁,w₁,⟨O',σ',hst',hq⟩,.pass (x := .inLoop c) rfl (fun _ _ => .inl (by simp)) harr⟩
   | ret => exact ⟨_,a₁,w₁,⟨O',σ',hst',hq⟩,.pass (x := .inLoop c) rfl (fun _ _ => .inl (by simp)) harr⟩
   | panic ch => exact ⟨_,a₁,w₁,⟨O',σ',hst',hq⟩,.pass (x := .inLoop c) rfl (fun _ _ => .inl (by simp)) harr⟩
   | outgrown => exact ⟨_,a₁,w₁,⟨O',σ',hst',hq⟩,.pass (x := .inLoop c) rfl (fun _ _ => .inl (by simp)) harr⟩
 obtain ⟨e,a',w',hq,harr⟩ := key _ i0 σ O a w rfl h0 hs
 exact ⟨e,a',w',hq,.of_steps (.one step_loop) harr⟩

theorem VW.region (hτ : TyOk P τ) (hΦ : Sound P Φ) {id : Nat} {l : List Oper} {σ' : Frm} (hv : vrun τ Φ N l.toArray l σ = some σ') (h : Q .normal σ') :
  VW P N (.region id l.toArray false) σ Q :=
 fun _ _ _ _ _ _ hs => wp_region_lit (vrun_sound hτ hΦ l hs hv fun O' _ _ h' => ⟨O',σ',h',h⟩)

theorem VW.take {c : Code} {s t : Nat} {p : List Nat} {u : Bool} {x : D} (hs : σ s = .ref t p u x) (hN : s ∈ N) (d : Nat)
  (h : VW P N c (upd (killl [d,t] σ) s (.ref d [] u x)) Q) : VW P N c σ Q := by
 intro R B w0 O a w hst
 obtain ⟨O',h'⟩ := hst.take hs hN d
 exact h R B w0 O' a w h'

theorem VW.freeze {c : Code} {s t : Nat} {p : List Nat} {u : Bool} {x : D} (hs : σ s = .ref t p u x) (hN : s ∈ N)
  (h : VW P N c (upd (killl [t] σ) s (.val x)) Q) : VW P N c σ Q := by
 intro R B w0 O a w hst
 obtain ⟨O',h'⟩ := hst.freeze hs hN
 exact h R B w0 O' a w h'

theorem VW.weak {c : Code} {s t : Nat} {xs : List D} (hs : σ s = .ref t [] true (.list xs)) (hN : s ∈ N)
  (h : VW P N c (upd (killl [t] σ) s (.ref t [] false (.list xs))) Q) : VW P N c σ Q := by
 intro R B w0 O a w hst
 obtain ⟨O',h'⟩ := hst.weak hs hN
 exact h R B w0 O' a w h'

def door (ds : List D) : Frm := fun s => match ds[s]? with
 | some d => .val d
 | none => .dead

def resVV (rs : List ResultVar) (σ : Frm) : List Ret → Prop
 | [.sc x] => ∃ t,rs = [.tmp t] ∧ σ t = .val x ∧ x.sc = true
 | [.own u x] => ∃ t k p,rs = [.tmp t] ∧ σ t = .ref k p u x
 | [.sc x,.sc y] => ∃ t s,rs = [.tmp t,.tmp s] ∧ σ t = .val x ∧ σ s = .val y ∧ x.sc = true ∧ y.sc = true
 | [.own u x,.sc y] => ∃ t s k p,rs = [.tmp t,.tmp s] ∧ σ t = .ref k p u x ∧ σ s = .val y ∧ y.sc = true
 | [.shr x] => ∃ t,rs = [.tmp t] ∧ σ t = .val x
 | [.shr x,.sc y] => ∃ t s,rs = [.tmp t,.tmp s] ∧ σ t = .val x ∧ σ s = .val y ∧ y.sc = true
 | [.tup [x,y]] => ∃ t s,rs = [.tmp t,.tmp s] ∧ σ t = .val x ∧ σ s = .val y
 | [.tup [x,y,z]] => ∃ t s u,rs = [.tmp t,.tmp s,.tmp u] ∧ σ t = .val x ∧ σ s = .val y ∧ σ u = .val z
 | _ => False

def Post (rs : List ResultVar) (res : List Ret) : Exit → Frm → Prop
 | .normal,σ => resVV rs σ res
 | .ret,σ => resVV rs σ res
 | _,_ => False

theorem results_tmp1 {fn : Func} {t : Tmp} (h : fn.results.toList = [.tmp t]) (tmps : Array Value) (w : World) : (results fn tmps).run P w = .ok (tmps.getD t undef) w := by
 have : fn.results = #[.tmp t] := by rw [← Array.toArray_toList (xs := fn.results),h]
 simp [results,this]

theorem results_tmp2 {fn : Func} {t s : Tmp} (h : fn.results.toList = [.tmp t,.tmp s]) (tmps : Array Value) (w : World) :
  (results fn tmps).run P w = .ok (.tuple #[tmps.getD t undef,tmps.getD s undef]) w := by
 have : fn.results = #[.tmp t,.tmp s] := by rw [← Array.toArray_toList (xs := fn.results),h]
 simp [results,this]

theorem results_tmp3 {fn : Func} {t s u : Tmp} (h : fn.results.toList = [.tmp t,.tmp s,.tmp u]) (tmps : Array Value) (w : World) :
  (results fn tmps).run P w = .ok (.tuple #[tmps.getD t undef,tmps.getD s undef,tmps.getD u undef]) w := by
 have : fn.results = #[.tmp t,.tmp s,.tmp u] := by rw [← Array.toArray_toList (xs := fn.results),h]
 simp [results,this]

theorem VCall.intro {f : FuncId} {fn : Func} {c : Code} {ds : List D} {rs : List Ret} (hcall : ∀ args w,(callFunc f args).run P w = .ok (.enter f args) w)
  (hf : P.funcs[f]? = some fn) (hb : fn.body = some c) (hn : ds.length ≤ fn.ntmps)
  (hw : VW P ⟨fn.ntmps,0⟩ c (door ds) (Post fn.results.toList rs)) : VCall P f ds rs := by
 refine ⟨hcall,fun w A vs hA hsz hvs => calls_of_wp hf hb ?_⟩
 have hst : St (fun g => A g ∨ w.heap.size ≤ g) (fun g => g < w.heap.size) ⟨w,fun _ => undef⟩ ⟨fn.ntmps,0⟩ (fun _ => none) (door ds) { tmps := vs ++ Array.replicate (fn.ntmps - vs.size) undef,defers := [] } w := by
  refine ⟨.refl _ _,fun g hg => hg,fun g hg => .inr (by omega),fun g y hy => (by cases hy),fun g g' y hy => (by cases hy),by simp; omega,rfl,fun s hs => absurd hs (Nat.not_lt_zero _),fun s => ?_⟩
  unfold door
  split
  ·rename_i d hd
   have hs : s < ds.length := (List.getElem?_eq_some_iff.1 hd).1
   obtain ⟨v,h1,h2⟩ := hvs s hs
   have hd' : ds[s] = d := by rw [List.getElem?_eq_getElem hs] at hd; exact Option.some.inj hd
   rw [hd'] at h2
   have hg : (vs ++ Array.replicate (fn.ntmps - vs.size) undef).getD s undef = v := by
    rw [Array.getD_eq_getD_getElem?,Array.getElem?_append_left (by omega),h1]; rfl
   simp only
   rw [hg]
   exact h2.keep (fun g hg => ⟨rfl,hA g hg,.inl hg⟩) fun _ _ => rfl
  ·exact trivial
 refine wp_mono (hw _ _ _ _ _ _ hst) ?_
 rintro e a' w' ⟨O,σ,hs,hq⟩
 have fin : resVV fn.results.toList σ rs → ∃ v,(results fn a'.tmps).run P w' = .ok v w' ∧ ∃ (v' : Value) (O : Own),Ending.returned v = .returned v' ∧ Below w.heap.size w w' ∧
   (∀ g y,O g = some y → w.heap.size ≤ g ∧ g < w'.heap.size) ∧ (∀ g g' y,O g = some y → O g' = some y → g = g') ∧ RetOk (fun g => A g ∨ w.heap.size ≤ g) w' O rs v' := by
  intro hres
  have scal : ∀ {v : Value} {d : D} {S : Nat → Prop},d.sc = true → Rd w' S v d → Rd w' (fun _ => False) v d := fun h1 h2 => sc_rd h1 (sc_own h1 h2 (fun _ => none) w' 0 []) _ _
  have slot := hs.slots
  have tree : ∀ {u k p x} {v : Value},Tree (fun g => A g ∨ w.heap.size ≤ g) w' O k p u v x → ∃ O' : Own,(∀ g y,O' g = some y → w.heap.size ≤ g ∧ g < w'.heap.size) ∧ (∀ g g' y,O' g = some y → O' g' = some y → g = g') ∧
    Tree (fun g => A g ∨ w.heap.size ≤ g) w' O' 0 [] u v x := fun ht => by
   have m := ren_made hs _ 0 _ _ _ _ ht
   exact ⟨_,fun g y hy => ⟨Nat.not_lt.1 (m.own g y hy).1,(m.own g y hy).2⟩,m.inj,m.rel⟩
  unfold resVV at hres
  split at hres
  ·obtain ⟨t,h1,h2,h3⟩ := hres
   have h4 := slot t
   rw [h2] at h4
   exact ⟨_,results_tmp1 h1 _ _,_,fun _ => none,rfl,hs.below.below,fun g y hy => (by cases hy),fun g g' y hy => (by cases hy),scal h3 h4⟩
  ·obtain ⟨t,k,p,h1,h2⟩ := hres
   have h4 := slot t
   rw [h2] at h4
   obtain ⟨O',o1,o2,o3⟩ := tree h4
   exact ⟨_,results_tmp1 h1 _ _,_,O',rfl,hs.below.below,o1,o2,o3⟩
  ·obtain ⟨t,s,h1,h2,h3,h4,h5⟩ := hres
   have r1 := slot t
   rw [h2] at r1
   have r2 := slot s
   rw [h3] at r2
   exact ⟨_,results_tmp2 h1 _ _,_,fun _ => none,rfl,hs.below.below,fun g y hy => (by cases hy),fun g g' y hy => (by cases hy),_,_,rfl,scal h4 r1,scal h5 r2⟩
  ·obtain ⟨t,s,k,p,h1,h2,h3,h5⟩ := hres
   have r1 := slot t
   rw [h2] at r1
   have r2 := slot s
   rw [h3] at r2
   obtain ⟨O',o1,o2,o3⟩ := tree r1
   exact ⟨_,results_tmp2 h1 _ _,_,O',rfl,hs.below.below,o1,o2,_,_,rfl,o3,scal h5 r2⟩
  ·obtain ⟨t,h1,h2⟩ := hres
   have h4 := slot t
   rw [h2] at h4
   exact ⟨_,results_tmp1 h1 _ _,_,fun _ => none,rfl,hs.below.below,fun g y hy => (by cases hy),fun g g' y hy => (by cases hy),fun _ => rfl,Rd.keep (fun g hg => ⟨hg.2.2,hg.2.1⟩) (fun _ _ => rfl) h4⟩
  ·obtain ⟨t,s,h1,h2,h3,h5⟩ := hres
   have r1 := slot t
   rw [h2] at r1
   have r2 := slot s
   rw [h3] at r2
   exact ⟨_,results_tmp2 h1 _ _,_,fun _ => none,rfl,hs.below.below,fun g y hy => (by cases hy),fun g g' y hy => (by cases hy),fun _ => rfl,_,_,rfl,Rd.keep (fun g hg => ⟨hg.2.2,hg.2.1⟩) (fun _ _ => rfl) r1,scal h5 r2⟩
  ·obtain ⟨t,s,h1,h2,h3⟩ := hres
   have r1 := slot t
   rw [h2] at r1
   have r2 := slot s
   rw [h3] at r2
   refine ⟨_,results_tmp2 h1 _ _,_,fun _ => none,rfl,hs.below.below,fun g y hy => (by cases hy),fun g g' y hy => (by cases hy),fun _ => rfl,_,rfl,rfl,fun i hi => ?_⟩
   match i,hi with
   | 0,_ => exact ⟨_,rfl,Rd.keep (fun g hg => ⟨hg.2.2,hg.2.1⟩) (fun _ _ => rfl) r1⟩
   | 1,_ => exact ⟨_,rfl,Rd.keep (fun g hg => ⟨hg.2.2,hg.2.1⟩) (fun _ _ => rfl) r2⟩
  ·obtain ⟨t,s,u,h1,h2,h3,h4⟩ := hres
   have r1 := slot t
   rw [h2] at r1
   have r2 := slot s
   rw [h3] at r2
   have r3 := slot u
   rw [h4] at r3
   refine ⟨_,results_tmp3 h1 _ _,_,fun _ => none,rfl,hs.below.below,fun g y hy => (by cases hy),fun g g' y hy => (by cases hy),fun _ => rfl,_,rfl,rfl,fun i hi => ?_⟩
   match i,hi with
   | 0,_ => exact ⟨_,rfl,Rd.keep (fun g hg => ⟨hg.2.2,hg.2.1⟩) (fun _ _ => rfl) r1⟩
   | 1,_ => exact ⟨_,rfl,Rd.keep (fun g hg => ⟨hg.2.2,hg.2.1⟩) (fun _ _ => rfl) r2⟩
   | 2,_ => exact ⟨_,rfl,Rd.keep (fun g hg => ⟨hg.2.2,hg.2.1⟩) (fun _ _ => rfl) r3⟩
  ·exact hres.elim
 cases e with
 | normal =>
  obtain ⟨v,h1,h2⟩ := fin hq
  exact ⟨hs.defers,v,h1,h2⟩
 | ret =>
  obtain ⟨v,h1,h2⟩ := fin hq
  exact ⟨hs.defers,v,h1,h2⟩
 | _ => exact hq.elim

end
end Go.Vam
