/- The evaluation of a region by simp: frames as lists, one operation after the other, a law for each kind. -/
import Derived.Test.YtalfgfpgenlokaaVamM
namespace Go.Vam
open Go Go.RowKit

abbrev FL := List (Nat × VV)

def andThen (o : Option FL) (f : FL → Option FL) : Option FL := match o with
 | some e => f e
 | none => none
@[congr] theorem andThen_congr {o o' : Option FL} {f : FL → Option FL} (h : o = o') : andThen o f = andThen o' f := by rw [h]
@[simp] theorem andThen_some (e : FL) (f : FL → Option FL) : andThen (some e) f = f e := (rfl)

def pushL (d : Nat) (fl : FL) (r : Option (List Nat × VV)) : Option FL := match r with
 | some (ks,x) => some ((d,x) :: fl.map fun q => (q.1,kmap ks q.2))
 | none => none
@[congr] theorem pushL_congr {d : Nat} {fl : FL} {r r' : Option (List Nat × VV)} (h : r = r') : pushL d fl r = pushL d fl r' := by rw [h]
@[simp] theorem pushL_nil (d : Nat) (fl : FL) (x : VV) : pushL d fl (some ([],x)) = some ((d,x) :: fl) := by simp [pushL,kmap]
@[simp] theorem pushL_one (d : Nat) (fl : FL) (t : Nat) (ts : List Nat) (x : VV) : pushL d fl (some (t :: ts,x)) = some ((d,x) :: fl.map fun q => (q.1,kmap (t :: ts) q.2)) := (rfl)

def makesO : Op → Bool
 | .call ⟨.builtin .len,_,_⟩ => false
 | .call ⟨.builtin .min,_,_⟩ => false
 | .call ⟨.builtin .max,_,_⟩ => false
 | .call _ | .makeSlice _ _ _ | .buildSlice _ _ _ | .alloc _ => true
 | _ => false
theorem makesB_eq (o : Oper) : makesB o = makesO o.op := by
 unfold makesB makesO; cases o.op <;> rfl

def orV (a b : Option (List Nat × VV)) : Option (List Nat × VV) := match a with
 | some r => some r
 | none => b
@[congr] theorem orV_congr {a a' b : Option (List Nat × VV)} (h : a = a') : orV a b = orV a' b := by rw [h]
@[simp] theorem orV_some (r : List Nat × VV) (b : Option (List Nat × VV)) : orV (some r) b = some r := (rfl)
@[simp] theorem orV_none (b : Option (List Nat × VV)) : orV none b = b := (rfl)

def pushC (d : Nat) (o : Op) (fl : FL) (r : Option (List Nat × VV)) : Option FL := match r with
 | some (ks,x) => if ks = [] ∨ (ks = [d] ∧ makesO o = true) then some ((d,x) :: fl) else none
 | none => none
@[congr] theorem pushC_congr {d : Nat} {o : Op} {fl : FL} {r r' : Option (List Nat × VV)} (h : r = r') : pushC d o fl r = pushC d o fl r' := by rw [h]
@[simp] theorem pushC_nil (d : Nat) (o : Op) (fl : FL) (x : VV) : pushC d o fl (some ([],x)) = some ((d,x) :: fl) := by simp [pushC]
@[simp] theorem pushC_call (d : Nat) (f : Operand) (as : Array Operand) (ts : Array TypeId) (fl : FL) (x : VV) : pushC d (.call ⟨.value f,as,ts⟩) fl (some ([d],x)) = some ((d,x) :: fl) := by simp [pushC,makesO]
@[simp] theorem pushC_mkS (d : Nat) (T : TypeId) (a b : Operand) (fl : FL) (x : VV) : pushC d (.makeSlice T a b) fl (some ([d],x)) = some ((d,x) :: fl) := by simp [pushC,makesO]
@[simp] theorem pushC_buS (d : Nat) (T : TypeId) (n : Nat) (a : Array (Nat × Operand)) (fl : FL) (x : VV) : pushC d (.buildSlice T n a) fl (some ([d],x)) = some ((d,x) :: fl) := by simp [pushC,makesO]
@[simp] theorem pushC_all (d : Nat) (T : TypeId) (fl : FL) (x : VV) : pushC d (.alloc T) fl (some ([d],x)) = some ((d,x) :: fl) := by simp [pushC,makesO]

def storeL (fl : FL) (r : Option (VV → VV)) : Option FL := match r with
 | some f => some (fl.map fun q => (q.1,f q.2))
 | none => none
@[congr] theorem storeL_congr {fl : FL} {r r' : Option (VV → VV)} (h : r = r') : storeL fl r = storeL fl r' := by rw [h]
@[simp] theorem storeL_some (fl : FL) (f : VV → VV) : storeL fl (some f) = some (fl.map fun q => (q.1,f q.2)) := (rfl)

def orS (a b : Option (VV → VV)) : Option (VV → VV) := match a with
 | some r => some r
 | none => b
@[congr] theorem orS_congr {a a' b : Option (VV → VV)} (h : a = a') : orS a b = orS a' b := by rw [h]
@[simp] theorem orS_some (r : VV → VV) (b : Option (VV → VV)) : orS (some r) b = some r := (rfl)
@[simp] theorem orS_none (b : Option (VV → VV)) : orS none b = b := (rfl)

section
variable (τ : TypeId → TK) (Φ : Orc) (N : Lim)

noncomputable def mutR (d : Nat) (fl : FL) (t : Nat) (p : List Nat) (d0 : D) (o : Option (List Ret)) : Option FL := match o with
 | some [.mut d',.sc r] => if r.sc = true then some ((d,.val r) :: fl.map fun q => (q.1,mutVV t p d0 d' q.2)) else none
 | some [.spoil,.sc r] => if r.sc = true ∧ p = [] then some ((d,.val r) :: fl.map fun q => (q.1,kmap [t] q.2)) else none
 | _ => none
noncomputable def ptrP (d : Nat) (fl : FL) (t : Nat) (ys ys' : List D) (tk : List Nat) (o : Option (List Nat × VV)) : Option FL := match o with
 | some (ks,y) => if t ∉ tk ++ ks then some ((d,y) :: fl.map fun q => (q.1,kmap (tk ++ ks) (wkVV t ys ys' q.2))) else none
 | none => none
noncomputable def ptrR (d : Nat) (fl : FL) (t : Nat) (ys : List D) (tk : List Nat) (o : Option (List Ret)) : Option FL := match o with
 | some (.ptr ys' :: rs) => ptrP d fl t ys ys' tk (retVV d tk rs)
 | _ => none
noncomputable def mutB (Φ : Orc) (d : Nat) (fl : FL) (g : FuncId) (x : VV) (ds : Option (List D)) (tk : List Nat) (da : Option (List D)) : Option FL := match x,ds,da with
 | .ref t p true d0,some ds,_ => mutR d fl t p d0 (Φ d g (d0 :: ds))
 | .ref t [] false (.ptr ys),_,some ds => ptrR d fl t ys tk (Φ d g (.ptr ys :: ds))
 | _,_,_ => none
noncomputable def mutA (Φ : Orc) (d : Nat) (fl : FL) (fv : VV) (as : List Operand) : Option FL := match fv,as with
 | .val (.fn g []),x :: xs => mutB Φ d fl g (ev (mk fl) x) (vals (mk fl) xs) (toks (mk fl) xs) (data (mk fl) xs)
 | _,_ => none
noncomputable def mutL (Φ : Orc) (d : Nat) (op : Op) (fl : FL) : Option FL := match op with
 | .call c => match c.callee with
  | .value f => mutA Φ d fl (ev (mk fl) f) c.args.toList
  | _ => none
 | _ => none
def orL (a b : Option FL) : Option FL := match a with
 | some r => some r
 | none => b

def cutRL (d : Nat) (fl : FL) (t : Nat) (p : List Nat) (r : Option (List Nat × VV)) : Option FL := match r with
 | some (ks,y) => if d ∈ ks ∧ t ∉ ks then some ((d,y) :: fl.map fun q => (q.1,kmap ks (dtcVV t p d q.2))) else none
 | none => none
def cutBL (d : Nat) (T : TypeId) (fl : FL) (x y : VV) : Option FL := match x with
 | .ref t (i :: p) true (.list xs) => if t ≠ d ∧ y.on d = false ∧ y.on t = false then cutRL d fl t (i :: p) (vapp τ d T (.ref d [] true (.list xs)) y) else none
 | _ => none
def cutL (d : Nat) (op : Op) (fl : FL) : Option FL := match op with
 | .call c => match c.callee,c.args.toList,c.argTypes.toList with
  | .builtin .append,[.tmp s,x],[T,T'] => if T = T' then cutBL τ d T fl (mk fl s) (ev (mk fl) x) else none
  | _,_,_ => none
 | _ => none

noncomputable def doL (dst : Option Nat) (op : Op) (fl : FL) : Option FL :=
 match dst with
 | none => match op with
  | .store T ad x => storeL fl (orS (vstoreE τ T (ev (mk fl) ad) (ev (mk fl) x)) (vstoreS (τ T) (ev (mk fl) ad) (ev (mk fl) x)))
  | _ => none
 | some d => if d ∈ N then orL (mutL Φ d op fl) (orL (pushL d fl (vval τ Φ d op (mk fl))) (cutL τ d op fl)) else none

def calmL (dst : Option Nat) (op : Op) (fl : FL) : Option FL :=
 match dst with
 | none => none
 | some d => if d ∈ N then pushC d op fl (vres τ Φ d op (mk fl)) else none

def skipL (dst : Option Nat) (fl : FL) : Option FL :=
 match dst with
 | some d => if d ∈ N then some ((d,.und) :: fl) else none
 | none => some fl

def gateL (v : VV) (want : Bool) (a b : Option FL) : Option FL :=
 match v with
 | .val (.bool b') => if b' = want then a else b
 | .und => b
 | _ => none
end
@[congr] theorem orL_congr {a a' b : Option FL} (h : a = a') : orL a b = orL a' b := by rw [h]
@[simp] theorem orL_some (r : FL) (b : Option FL) : orL (some r) b = some r := (rfl)
@[simp] theorem orL_none (b : Option FL) : orL none b = b := (rfl)
@[congr] theorem gateL_congr {v v' : VV} {w : Bool} {a b : Option FL} (h : v = v') : gateL v w a b = gateL v' w a b := by rw [h]
@[simp] theorem gateL_tt (a b : Option FL) : gateL (.val (.bool true)) true a b = a := by simp [gateL]
@[simp] theorem gateL_tf (a b : Option FL) : gateL (.val (.bool true)) false a b = b := by simp [gateL]
@[simp] theorem gateL_ff (a b : Option FL) : gateL (.val (.bool false)) false a b = a := by simp [gateL]
@[simp] theorem gateL_ft (a b : Option FL) : gateL (.val (.bool false)) true a b = b := by simp [gateL]

@[simp] theorem gateL_und (w : Bool) (a b : Option FL) : gateL .und w a b = b := (rfl)
def slotL (ds : List (Option Nat)) (j : Nat) : Option Nat := (ds[j]?).join

noncomputable def opL (τ : TypeId → TK) (Φ : Orc) (N : Lim) (ds : List (Option Nat)) (o : Oper) (fl : FL) : Option FL :=
 match o.guard with
 | none => doL τ Φ N o.dst o.op fl
 | some (j,want) => match slotL ds j with
  | none => none
  | some s => gateL (mk fl s) want (doL τ Φ N o.dst o.op fl) (skipL N o.dst fl)

noncomputable def headL (τ : TypeId → TK) (Φ : Orc) (N : Lim) (ds : List (Option Nat)) (o : Oper) (fl : FL) : Option FL :=
 match o.guard with
 | none => calmL τ Φ N o.dst o.op fl
 | some (j,want) => match slotL ds j with
  | none => none
  | some s => gateL (mk fl s) want (calmL τ Φ N o.dst o.op fl) (match o.dst with | some _ => skipL N o.dst fl | none => none)

noncomputable def runL (τ : TypeId → TK) (Φ : Orc) (N : Lim) (ds : List (Option Nat)) : List Oper → FL → Option FL
 | [],fl => some fl
 | o :: r,fl => andThen (opL τ Φ N ds o fl) (runL τ Φ N ds r)

noncomputable def mixL (τ : TypeId → TK) (Φ : Orc) (N : Lim) (ds : List (Option Nat)) : Nat → List Oper → FL → Option FL
 | _,[],fl => some fl
 | 0,o :: r,fl => andThen (opL τ Φ N ds o fl) (mixL τ Φ N ds 0 r)
 | n + 1,o :: r,fl => andThen (headL τ Φ N ds o fl) (mixL τ Φ N ds n r)

/-! ### It is the evaluation -/
section
variable {τ : TypeId → TK} {Φ : Orc} {N : Lim}

theorem mk_map (f : VV → VV) (hf : f .dead = .dead) (fl : FL) (s : Nat) : mk (fl.map fun q => (q.1,f q.2)) s = f (mk fl s) := by
 induction fl with
 | nil => simp [mk,hf]
 | cons q r ih =>
  obtain ⟨k,v⟩ := q
  simp only [List.map_cons,mk_cons,ih]
  split <;> rfl

theorem kmap_dead (ks : List Nat) : kmap ks .dead = .dead := by simp [kmap]

theorem storeE_dead {T : TypeId} {ad x : VV} {f : VV → VV} (h : vstoreE τ T ad x = some f) : f .dead = .dead := by
 unfold vstoreE at h
 split at h <;> first | (cases h; done) | skip
 split at h <;> first | (cases h; done) | skip
 split at h <;> first | (cases h; done) | skip
 split at h <;> first | (cases h; done) | skip
 simp only [Option.some.injEq] at h
 subst h
 rename_i tv _ _
 cases tv <;> simp [storeVV,VV.on]

theorem storeS_dead {t : TK} {ad x : VV} {f : VV → VV} (h : vstoreS t ad x = some f) : f .dead = .dead := by
 unfold vstoreS at h
 split at h <;> try cases h
 all_goals
  split at h <;> simp only [Option.some.injEq,reduceCtorEq] at h
  subst h
  simp [stoSVV,detVV,attVV,stfVV,VV.on]

theorem mutL_ok {d : Nat} {op : Op} {fl fl' : FL} (h : mutL Φ d op fl = some fl') : ∃ e,vmut Φ d op (mk fl) = some e ∧ e.run (mk fl) = mk fl' := by
 unfold mutL at h
 split at h <;> try cases h
 rename_i c
 split at h <;> try cases h
 rename_i f hc
 unfold mutA at h
 split at h <;> try cases h
 rename_i g x xs hf hargs
 unfold mutB at h
 split at h <;> try cases h
 case h_2 o' t ys ds hx hds =>
  unfold ptrR at h
  split at h <;> try cases h
  rename_i ys' rs hrs
  unfold ptrP at h
  split at h <;> try cases h
  rename_i ks y hy
  split at h <;> simp only [Option.some.injEq,reduceCtorEq] at h
  rename_i htk
  subst h
  refine ⟨⟨fun x => kmap (toks (mk fl) xs ++ ks) (wkVV t ys ys' x),some (d,y)⟩,by simp only [vmut,hc,hargs,hf,hx,hds,hrs,hy,htk,not_false_eq_true,if_true],?_⟩
  funext s
  simp only [Eff.run,upd,mk_cons]
  rw [mk_map (fun x => kmap (toks (mk fl) xs ++ ks) (wkVV t ys ys' x)) (by simp [kmap,wkVV,VV.on])]
 rename_i t p d0 ds hx hds
 unfold mutR at h
 split at h <;> try cases h
 ·rename_i d' r hrs
  split at h <;> simp only [Option.some.injEq,reduceCtorEq] at h
  rename_i hr
  subst h
  refine ⟨⟨mutVV t p d0 d',some (d,.val r)⟩,by simp only [vmut,hc,hargs,hf,hx,hds,hrs,hr,if_true],?_⟩
  funext s
  simp only [Eff.run,upd,mk_cons]
  rw [mk_map (mutVV t p d0 d') (by simp [mutVV,VV.on])]
 ·rename_i r hrs
  split at h <;> simp only [Option.some.injEq,reduceCtorEq] at h
  rename_i hr
  subst h
  refine ⟨⟨kmap [t],some (d,.val r)⟩,by simp only [vmut,hc,hargs,hf,hx,hds,hrs,hr,and_self,if_true],?_⟩
  funext s
  simp only [Eff.run,upd,mk_cons]
  rw [mk_map (kmap [t]) (by simp [kmap])]
theorem mutL_no {d : Nat} {op : Op} {fl : FL} (h : mutL Φ d op fl = none) : vmut Φ d op (mk fl) = none := by
 cases hm : vmut Φ d op (mk fl) with
 | none => rfl
 | some e =>
  exfalso
  unfold vmut at hm
  split at hm <;> try cases hm
  rename_i c
  split at hm <;> try cases hm
  rename_i f x xs hc hargs
  split at hm <;> try cases hm
  case h_2 o' g t ys ds hf hx hds =>
   split at hm <;> try cases hm
   rename_i ys' rs hrs
   split at hm <;> try cases hm
   rename_i ks y hy
   split at hm <;> simp only [Option.some.injEq,reduceCtorEq] at hm
   rename_i htk
   simp only [mutL,hc,hargs,mutA,hf,mutB,hx,hds,ptrR,hrs,ptrP,hy,htk,not_false_eq_true,if_true] at h
   cases h
  rename_i g t p d0 ds hf hx hds
  split at hm <;> try cases hm
  all_goals
   rename_i hrs
   split at hm <;> simp only [Option.some.injEq,reduceCtorEq] at hm
   rename_i hr
   simp only [mutL,hc,hargs,mutA,hf,mutB,hx,hds,mutR,hrs,hr,and_self,if_true] at h
   cases h

theorem doL_ok {o : Oper} {fl fl' : FL} (h : doL τ Φ N o.dst o.op fl = some fl') : ∃ e,vdo τ Φ N o (mk fl) = some e ∧ e.run (mk fl) = mk fl' := by
 unfold doL at h
 unfold vdo
 split at h
 ·rename_i hd
  rw [hd]
  split at h
  ·rename_i T ad x hop
   simp only [hop]
   cases hv : vstoreE τ T (ev (mk fl) ad) (ev (mk fl) x) with
   | none =>
    rw [hv,orS_none] at h
    cases hv2 : vstoreS (τ T) (ev (mk fl) ad) (ev (mk fl) x) with
    | none => rw [hv2] at h; cases h
    | some f =>
     rw [hv2] at h
     simp only [storeL_some,Option.some.injEq] at h
     subst h
     refine ⟨_,rfl,?_⟩
     funext s
     simp only [Eff.run]
     rw [mk_map f (storeS_dead hv2)]
   | some f =>
    rw [hv] at h
    simp only [orS_some,storeL_some,Option.some.injEq] at h
    subst h
    refine ⟨_,rfl,?_⟩
    funext s
    simp only [Eff.run]
    rw [mk_map f (storeE_dead hv)]
  ·cases h
 ·rename_i d hd
  rw [hd]
  split at h
  ·rename_i hn
   simp only [hn,if_true]
   cases hmu : mutL Φ d o.op fl with
   | some fl1 =>
    rw [hmu] at h
    simp only [orL_some,Option.some.injEq] at h
    subst h
    obtain ⟨e,h1,h2⟩ := mutL_ok hmu
    exact ⟨e,by rw [h1],h2⟩
   | none =>
   rw [hmu,orL_none] at h
   rw [mutL_no hmu]
   cases hv : vval τ Φ d o.op (mk fl) with
   | none =>
    rw [hv] at h
    simp only [pushL,orL_none] at h
    unfold cutL at h
    split at h <;> try cases h
    rename_i c ho
    split at h <;> try cases h
    rename_i s y T T' hc hargs hT
    split at h <;> try cases h
    rename_i hTT
    subst hTT
    unfold cutBL at h
    split at h <;> try cases h
    rename_i t i p xs hx
    split at h <;> try cases h
    rename_i hne
    unfold cutRL at h
    split at h <;> try cases h
    rename_i ks z hap
    split at h <;> simp only [Option.some.injEq,reduceCtorEq] at h
    rename_i hk
    subst h
    refine ⟨⟨fun z => kmap ks (dtcVV t (i :: p) d z),some (d,z)⟩,?_,?_⟩
    ·simp only [vcut,ho,hc,hargs,hT,if_true,cutB,hx]
     rw [if_pos hne]
     simp only [cutR,hap]
     rw [if_pos hk]
    ·funext q
     simp only [Eff.run,upd,mk_cons]
     rw [mk_map (fun z => kmap ks (dtcVV t (i :: p) d z)) (by simp [kmap,dtcVV,VV.on])]
   | some r =>
    rw [hv] at h
    obtain ⟨ks,x⟩ := r
    simp only [pushL,orL_some,Option.some.injEq] at h
    subst h
    refine ⟨_,rfl,?_⟩
    funext s
    simp only [Eff.run,upd,mk_cons]
    rw [mk_map (kmap ks) (kmap_dead ks)]
  ·cases h

theorem skipL_ok {o : Oper} {fl fl' : FL} (h : skipL N o.dst fl = some fl') : ∃ e,vskip N o = some e ∧ e.run (mk fl) = mk fl' := by
 unfold skipL at h
 unfold vskip
 split at h
 ·rename_i d hd
  rw [hd]
  split at h
  ·rename_i hn
   simp only [hn,if_true]
   simp only [Option.some.injEq] at h
   subst h
   exact ⟨_,rfl,by funext s; simp [Eff.run,upd,mk]⟩
  ·cases h
 ·rename_i hd
  rw [hd]
  simp only [Option.some.injEq] at h
  subst h
  exact ⟨_,rfl,rfl⟩

theorem slot_eq {l : List Oper} {j : Nat} : slotL (l.map (·.dst)) j = ((l.toArray)[j]?).bind (·.dst) := by
 unfold slotL
 rw [List.getElem?_map,List.getElem?_toArray]
 cases l[j]? <;> rfl

theorem opL_ok {l : List Oper} {o : Oper} {fl fl' : FL} (h : opL τ Φ N (l.map (·.dst)) o fl = some fl') : ∃ e,vact τ Φ N l.toArray o (mk fl) = some e ∧ e.run (mk fl) = mk fl' := by
 unfold opL at h
 unfold vact
 split at h
 ·rename_i hg
  rw [hg]
  exact doL_ok h
 ·rename_i j want hg
  rw [hg]
  rw [slot_eq] at h
  simp only
  split at h
  ·cases h
  ·rename_i s hs
   rw [hs]
   simp only
   unfold gateL at h
   split at h
   ·rename_i b hb
    rw [hb]
    simp only
    split at h
    ·rename_i hw; rw [if_pos hw]; exact doL_ok h
    ·rename_i hw; rw [if_neg hw]; exact skipL_ok h
   ·rename_i hb
    rw [hb]
    exact skipL_ok h
   ·cases h

theorem runL_ok {l0 : List Oper} : ∀ (l : List Oper) (fl fl' : FL),runL τ Φ N (l0.map (·.dst)) l fl = some fl' → vrun τ Φ N l0.toArray l (mk fl) = some (mk fl')
 | [],fl,fl',h => by simp only [runL,Option.some.injEq] at h; subst h; rfl
 | o :: r,fl,fl',h => by
  simp only [runL] at h
  cases ho : opL τ Φ N (l0.map (·.dst)) o fl with
  | none => rw [ho] at h; cases h
  | some f1 =>
   rw [ho] at h
   obtain ⟨e,h1,h2⟩ := opL_ok ho
   simp only [vrun,h1]
   rw [h2]
   exact runL_ok r f1 fl' h

theorem calmL_ok {o : Oper} {fl fl' : FL} (h : calmL τ Φ N o.dst o.op fl = some fl') : ∃ d x,o.dst = some d ∧ d ∈ N ∧ calmV τ Φ d o (mk fl) = some x ∧ upd (mk fl) d x = mk fl' := by
 unfold calmL at h
 split at h
 ·cases h
 ·rename_i d hd
  split at h
  ·rename_i hn
   refine ⟨d,?_⟩
   unfold calmV
   cases hv : vres τ Φ d o.op (mk fl) with
   | none => rw [hv] at h; cases h
   | some r =>
    rw [hv] at h
    obtain ⟨ks,x⟩ := r
    simp only [pushC] at h
    split at h
    ·rename_i hc
     simp only [Option.some.injEq] at h
     subst h
     refine ⟨x,hd,hn,?_,?_⟩
     ·simp only
      rw [if_pos]
      rw [makesB_eq]
      exact hc
     ·funext s; simp [upd,mk]
    ·cases h
  ·cases h

theorem headL_ok {l : List Oper} {o : Oper} {fl fl' : FL} (h : headL τ Φ N (l.map (·.dst)) o fl = some fl') : ∃ d x,calm τ Φ N l.toArray o (mk fl) = some (d,x) ∧ upd (mk fl) d x = mk fl' := by
 unfold headL at h
 unfold calm
 split at h
 ·rename_i hg
  rw [hg]
  obtain ⟨d,x,hd,hn,hx,e⟩ := calmL_ok h
  exact ⟨d,x,by simp only [hd,hn,hx,if_true,Option.map_some],e⟩
 ·rename_i j want hg
  rw [hg]
  rw [slot_eq] at h
  split at h
  ·cases h
  ·rename_i s hs
   unfold gateL at h
   split at h
   ·rename_i b hb
    split at h
    ·rename_i hw
     obtain ⟨d,x,hd,hn,hx,e⟩ := calmL_ok h
     exact ⟨d,x,by simp only [hd,hn,hs,hb,hw,hx,if_true,Option.map_some],e⟩
    ·rename_i hw
     split at h
     ·rename_i d hd
      unfold skipL at h
      rw [hd] at h
      simp only at h
      split at h
      ·rename_i hn
       simp only [Option.some.injEq] at h
       subst h
       exact ⟨d,.und,by simp only [hd,hn,hs,hb,hw,if_true,if_false],by funext s; simp [upd,mk]⟩
      ·cases h
     ·cases h
   ·rename_i hb
    split at h
    ·rename_i d hd
     unfold skipL at h
     rw [hd] at h
     simp only at h
     split at h
     ·rename_i hn
      simp only [Option.some.injEq] at h
      subst h
      exact ⟨d,.und,by simp only [hd,hn,hs,hb,if_true],by funext s; simp [upd,mk]⟩
     ·cases h
    ·cases h
   ·cases h

theorem mixL_ok {l0 : List Oper} {n0 : Nat} : ∀ (l : List Oper) (n k : Nat) (fl fl' : FL),n0 = k + n → mixL τ Φ N (l0.map (·.dst)) n l fl = some fl' → vmix τ Φ N l0.toArray n0 k l (mk fl) = some (mk fl')
 | [],n,k,fl,fl',_,h => by simp only [mixL,Option.some.injEq] at h; subst h; rfl
 | o :: r,0,k,fl,fl',hk,h => by
  simp only [mixL] at h
  have hlt : ¬ k < n0 := by omega
  cases ho : opL τ Φ N (l0.map (·.dst)) o fl with
  | none => rw [ho] at h; cases h
  | some f1 =>
   rw [ho] at h
   obtain ⟨e,h1,h2⟩ := opL_ok ho
   simp only [vmix,hlt,if_false,h1]
   rw [h2]
   have : ∀ (r : List Oper) (k : Nat) (f1 : FL),n0 ≤ k → mixL τ Φ N (l0.map (·.dst)) 0 r f1 = some fl' → vmix τ Φ N l0.toArray n0 k r (mk f1) = some (mk fl') := by
    intro r
    induction r with
    | nil => intro k f1 _ h; simp only [mixL,Option.some.injEq] at h; subst h; rfl
    | cons o r ih =>
     intro k f1 hk h
     simp only [mixL] at h
     have hlt : ¬ k < n0 := by omega
     cases ho : opL τ Φ N (l0.map (·.dst)) o f1 with
     | none => rw [ho] at h; cases h
     | some f2 =>
      rw [ho] at h
      obtain ⟨e,h1,h2⟩ := opL_ok ho
      simp only [vmix,hlt,if_false,h1]
      rw [h2]
      exact ih (k + 1) f2 (by omega) h
   exact this r (k + 1) f1 (by omega) h
 | o :: r,n + 1,k,fl,fl',hk,h => by
  simp only [mixL] at h
  have hlt : k < n0 := by omega
  cases ho : headL τ Φ N (l0.map (·.dst)) o fl with
  | none => rw [ho] at h; cases h
  | some f1 =>
   rw [ho] at h
   obtain ⟨d,x,h1,h2⟩ := headL_ok ho
   simp only [vmix,hlt,if_true,h1]
   rw [h2]
   exact mixL_ok r n (k + 1) f1 fl' (by omega) h
end

/-! ### The laws that simp takes -/
section
variable (τ : TypeId → TK) (Φ : Orc) (N : Lim) (ds : List (Option Nat))

theorem runL_nil (fl : FL) : runL τ Φ N ds [] fl = some fl := (rfl)
theorem runL_cons (o : Oper) (r : List Oper) (fl : FL) : runL τ Φ N ds (o :: r) fl = andThen (opL τ Φ N ds o fl) (runL τ Φ N ds r) := (rfl)
theorem mixL_nil (n : Nat) (fl : FL) : mixL τ Φ N ds n [] fl = some fl := by cases n <;> rfl
theorem mixL_zero (o : Oper) (r : List Oper) (fl : FL) : mixL τ Φ N ds 0 (o :: r) fl = andThen (opL τ Φ N ds o fl) (mixL τ Φ N ds 0 r) := (rfl)
theorem mixL_succ (n : Nat) (o : Oper) (r : List Oper) (fl : FL) : mixL τ Φ N ds (n + 1) (o :: r) fl = andThen (headL τ Φ N ds o fl) (mixL τ Φ N ds n r) := (rfl)
theorem opL_free (dst : Option Nat) (op : Op) (T : TypeId) (s : String) (a : Array Edge) (fl : FL) : opL τ Φ N ds ⟨dst,op,T,s,a,none⟩ fl = doL τ Φ N dst op fl := (rfl)
theorem opL_gate (dst : Option Nat) (op : Op) (T : TypeId) (s : String) (a : Array Edge) (j : Nat) (w : Bool) (fl : FL) (g : Nat) (hg : slotL ds j = some g) :
  opL τ Φ N ds ⟨dst,op,T,s,a,some (j,w)⟩ fl = gateL (mk fl g) w (doL τ Φ N dst op fl) (skipL N dst fl) := by simp only [opL,hg]
theorem headL_free (dst : Option Nat) (op : Op) (T : TypeId) (s : String) (a : Array Edge) (fl : FL) : headL τ Φ N ds ⟨dst,op,T,s,a,none⟩ fl = calmL τ Φ N dst op fl := (rfl)
theorem headL_gate (d : Nat) (op : Op) (T : TypeId) (s : String) (a : Array Edge) (j : Nat) (w : Bool) (fl : FL) (g : Nat) (hg : slotL ds j = some g) :
  headL τ Φ N ds ⟨some d,op,T,s,a,some (j,w)⟩ fl = gateL (mk fl g) w (calmL τ Φ N (some d) op fl) (skipL N (some d) fl) := by simp only [headL,hg]
theorem doL_some (d : Nat) (op : Op) (fl : FL) (h : d ∈ N) : doL τ Φ N (some d) op fl = orL (mutL Φ d op fl) (orL (pushL d fl (vval τ Φ d op (mk fl))) (cutL τ d op fl)) := by simp only [doL,h,if_true]
theorem mutL_move (x : Operand) (d : Nat) (fl : FL) : mutL Φ d (.move x) fl = none := (rfl)
theorem mutL_assign (x : Operand) (d : Nat) (fl : FL) : mutL Φ d (.assign x) fl = none := (rfl)
theorem mutL_pick (a b c : Operand) (d : Nat) (fl : FL) : mutL Φ d (.pick a b c) fl = none := (rfl)
theorem mutL_alloc (T : TypeId) (d : Nat) (fl : FL) : mutL Φ d (.alloc T) fl = none := (rfl)
theorem mutL_box (T : TypeId) (x : Operand) (d : Nat) (fl : FL) : mutL Φ d (.box T x) fl = none := (rfl)
theorem mutL_build (T : TypeId) (ps : Array (Nat × Operand)) (d : Nat) (fl : FL) : mutL Φ d (.build T ps) fl = none := (rfl)
theorem mutL_buildS (T : TypeId) (n : Nat) (ps : Array (Nat × Operand)) (d : Nat) (fl : FL) : mutL Φ d (.buildSlice T n ps) fl = none := (rfl)
theorem mutL_load (T : TypeId) (x : Operand) (d : Nat) (fl : FL) : mutL Φ d (.load T x) fl = none := (rfl)
theorem mutL_bin (o : BinOp) (T U : TypeId) (x y : Operand) (d : Nat) (fl : FL) : mutL Φ d (.binOp o T x y U) fl = none := (rfl)
theorem mutL_un (o : UnOp) (T : TypeId) (x : Operand) (d : Nat) (fl : FL) : mutL Φ d (.unOp o T x) fl = none := (rfl)
theorem mutL_conv (T U : TypeId) (x : Operand) (d : Nat) (fl : FL) : mutL Φ d (.convert T U x) fl = none := (rfl)
theorem mutL_mf (f : Fn) (a b : Array Operand) (d : Nat) (fl : FL) : mutL Φ d (.makeFunc f a b) fl = none := (rfl)
theorem mutL_ms (T : TypeId) (a b : Operand) (d : Nat) (fl : FL) : mutL Φ d (.makeSlice T a b) fl = none := (rfl)
theorem mutL_sl (T : TypeId) (x : Operand) (a b c : Option Operand) (d : Nat) (fl : FL) : mutL Φ d (.slice T x a b c) fl = none := (rfl)
theorem mutL_fa (T : TypeId) (x : Operand) (n : Nat) (d : Nat) (fl : FL) : mutL Φ d (.fieldAddr T x n) fl = none := (rfl)
theorem mutL_fi (T : TypeId) (x : Operand) (n : Nat) (d : Nat) (fl : FL) : mutL Φ d (.field T x n) fl = none := (rfl)
theorem mutL_ix (T : TypeId) (x y : Operand) (d : Nat) (fl : FL) : mutL Φ d (.indexAddr T x y) fl = none := (rfl)
theorem mutL_ext (x : Operand) (n : Nat) (d : Nat) (fl : FL) : mutL Φ d (.extract x n) fl = none := (rfl)
theorem mutL_bu (b : Builtin) (as : Array Operand) (ts : Array TypeId) (d : Nat) (fl : FL) : mutL Φ d (.call ⟨.builtin b,as,ts⟩) fl = none := (rfl)
theorem mutL_call (f : Operand) (as : Array Operand) (ts : Array TypeId) (d : Nat) (fl : FL) : mutL Φ d (.call ⟨.value f,as,ts⟩) fl = mutA Φ d fl (ev (mk fl) f) as.toList := (rfl)
theorem mutA_fn (d : Nat) (fl : FL) (g : FuncId) (x : Operand) (xs : List Operand) : mutA Φ d fl (.val (.fn g [])) (x :: xs) = mutB Φ d fl g (ev (mk fl) x) (vals (mk fl) xs) (toks (mk fl) xs) (data (mk fl) xs) := (rfl)
theorem mutA_nil (d : Nat) (fl : FL) (v : VV) : mutA Φ d fl v [] = none := by unfold mutA; split <;> simp_all
theorem mutA_cap (d : Nat) (fl : FL) (g : FuncId) (c : D) (cs : List D) (l : List Operand) : mutA Φ d fl (.val (.fn g (c :: cs))) l = none := (rfl)
theorem mutB_val (d : Nat) (fl : FL) (g : FuncId) (x : D) (o : Option (List D)) (tk : List Nat) (da : Option (List D)) : mutB Φ d fl g (.val x) o tk da = none := by unfold mutB; split <;> simp_all
theorem mutB_bor (d : Nat) (fl : FL) (g : FuncId) (t : Nat) (x : D) (o : Option (List D)) (tk : List Nat) (da : Option (List D)) : mutB Φ d fl g (.bor t x) o tk da = none := by unfold mutB; split <;> simp_all
theorem mutB_reff (d : Nat) (fl : FL) (g : FuncId) (t : Nat) (p : List Nat) (x : List D) (o : Option (List D)) (tk : List Nat) (da : Option (List D)) : mutB Φ d fl g (.ref t p false (.list x)) o tk da = none := by unfold mutB; split <;> simp_all
theorem mutB_refs (d : Nat) (fl : FL) (g : FuncId) (t i : Nat) (p : List Nat) (x : D) (o : Option (List D)) (tk : List Nat) (da : Option (List D)) : mutB Φ d fl g (.ref t (i :: p) false x) o tk da = none := by unfold mutB; split <;> simp_all
theorem mutB_ptr (d : Nat) (fl : FL) (g : FuncId) (t : Nat) (ys ds : List D) (o : Option (List D)) (tk : List Nat) : mutB Φ d fl g (.ref t [] false (.ptr ys)) o tk (some ds) = ptrR d fl t ys tk (Φ d g (.ptr ys :: ds)) := by cases o <;> rfl
theorem mutB_none (d : Nat) (fl : FL) (g : FuncId) (t : Nat) (p : List Nat) (x : D) (tk : List Nat) (da : Option (List D)) : mutB Φ d fl g (.ref t p true x) none tk da = none := by unfold mutB; split <;> simp_all
theorem mutB_ref (d : Nat) (fl : FL) (g : FuncId) (t : Nat) (p : List Nat) (x : D) (ds : List D) (tk : List Nat) (da : Option (List D)) : mutB Φ d fl g (.ref t p true x) (some ds) tk da = mutR d fl t p x (Φ d g (x :: ds)) := by cases da <;> rfl
theorem ptrR_ptr (d : Nat) (fl : FL) (t : Nat) (ys ys' : List D) (tk : List Nat) (rs : List Ret) : ptrR d fl t ys tk (some (.ptr ys' :: rs)) = ptrP d fl t ys ys' tk (retVV d tk rs) := (rfl)
theorem ptrR_none (d : Nat) (fl : FL) (t : Nat) (ys : List D) (tk : List Nat) : ptrR d fl t ys tk none = none := (rfl)
theorem ptrR_sc (d : Nat) (fl : FL) (t : Nat) (ys : List D) (tk : List Nat) (r : D) (l : List Ret) : ptrR d fl t ys tk (some (.sc r :: l)) = none := (rfl)
theorem ptrR_own (d : Nat) (fl : FL) (t : Nat) (ys : List D) (tk : List Nat) (r : D) (u : Bool) (l : List Ret) : ptrR d fl t ys tk (some (.own u r :: l)) = none := (rfl)
theorem ptrR_shr (d : Nat) (fl : FL) (t : Nat) (ys : List D) (tk : List Nat) (r : D) (l : List Ret) : ptrR d fl t ys tk (some (.shr r :: l)) = none := (rfl)
theorem ptrR_tup (d : Nat) (fl : FL) (t : Nat) (ys : List D) (tk : List Nat) (r : List D) (l : List Ret) : ptrR d fl t ys tk (some (.tup r :: l)) = none := (rfl)
theorem ptrP_some (d : Nat) (fl : FL) (t : Nat) (ys ys' : List D) (tk ks : List Nat) (y : VV) (h : t ∉ tk ++ ks) : ptrP d fl t ys ys' tk (some (ks,y)) = some ((d,y) :: fl.map fun q => (q.1,kmap (tk ++ ks) (wkVV t ys ys' q.2))) := by simp only [ptrP,h,not_false_eq_true,if_true]
theorem cutL_app (T : TypeId) (s : Tmp) (x : Operand) (d : Nat) (fl : FL) : cutL τ d (.call ⟨.builtin .append,#[.tmp s,x],#[T,T]⟩) fl = cutBL τ d T fl (mk fl s) (ev (mk fl) x) := by simp [cutL]
theorem cutBL_ref (d : Nat) (T : TypeId) (fl : FL) (t i : Nat) (p : List Nat) (xs : List D) (y : VV) (h : t ≠ d ∧ y.on d = false ∧ y.on t = false) : cutBL τ d T fl (.ref t (i :: p) true (.list xs)) y = cutRL d fl t (i :: p) (vapp τ d T (.ref d [] true (.list xs)) y) := by simp only [cutBL]; rw [if_pos h]
theorem cutRL_some (d : Nat) (fl : FL) (t : Nat) (p : List Nat) (ks : List Nat) (y : VV) (h : d ∈ ks ∧ t ∉ ks) : cutRL d fl t p (some (ks,y)) = some ((d,y) :: fl.map fun q => (q.1,kmap ks (dtcVV t p d q.2))) := by simp only [cutRL]; rw [if_pos h]
@[simp] theorem pushL_none (d : Nat) (fl : FL) : pushL d fl none = none := (rfl)
theorem mutL_nilc (x : Operand) (d : Nat) (fl : FL) : mutL Φ d (.nilCheck x) fl = none := (rfl)
theorem doL_store (T : TypeId) (ad x : Operand) (fl : FL) : doL τ Φ N none (.store T ad x) fl = storeL fl (orS (vstoreE τ T (ev (mk fl) ad) (ev (mk fl) x)) (vstoreS (τ T) (ev (mk fl) ad) (ev (mk fl) x))) := (rfl)
theorem calmL_some (d : Nat) (op : Op) (fl : FL) (h : d ∈ N) : calmL τ Φ N (some d) op fl = pushC d op fl (vres τ Φ d op (mk fl)) := by simp only [calmL,h,if_true]
theorem skipL_some (d : Nat) (fl : FL) (h : d ∈ N) : skipL N (some d) fl = some ((d,.und) :: fl) := by simp only [skipL,h,if_true]
theorem skipL_none (fl : FL) : skipL N none fl = some fl := (rfl)

variable (d : Nat) (σ : Frm)
def vpick (c a b : VV) : Option (List Nat × VV) := match c with
 | .val (.bool true) => some ([],a)
 | .val (.bool false) => some ([],b)
 | _ => none
theorem vpick_t (a b : VV) : vpick (.val (.bool true)) a b = some ([],a) := (rfl)
theorem vpick_f (a b : VV) : vpick (.val (.bool false)) a b = some ([],b) := (rfl)
def vbin (op : BinOp) (t : TK) (x y : VV) : Option (List Nat × VV) := match x,y with
 | .val a,.val b => (binop op t a b).map fun r => ([],.val r)
 | _,_ => none
def vun (op : UnOp) (x : VV) : Option (List Nat × VV) := match x with
 | .val a => (una op a).map fun r => ([],.val r)
 | _ => none
def vconv (s t : TK) (x : VV) : Option (List Nat × VV) := match s,t,x with
 | .int _,.int k,.val (.int _ n) => some ([],.val (.int k (k.wrap n)))
 | _,_,_ => none
def vix (t : TK) (x i : VV) : Option (List Nat × VV) := match t,i.int? with
 | .sl _,some n => if 0 ≤ n then (placeVV x n.toNat).map fun r => ([],r) else none
 | .ss _ m,some n => if 0 ≤ n then (placeS m x n.toNat).map fun r => ([],r) else none
 | _,_ => none
def vld (t : TK) (x : VV) : Option (List Nat × VV) := match t with
 | .int _ | .bool | .sl _ | .fn => (loadVV x).map fun r => ([],r)
 | .st zs => (orO (loadSt zs.length x) (loadR zs.length x)).map fun r => ([],r)
 | .ss _ _ => none
 | .ar _ => none
 | .other => none
def vlen (t : TK) (x : VV) : Option (List Nat × VV) := match t with
 | .sl _ => (lenVV x).map fun (n : Nat) => ([],VV.val (.int .i64 (n : Int)))
 | .ss _ _ => (lenVV x).map fun (n : Nat) => ([],VV.val (.int .i64 (n : Int)))
 | _ => none
def vms (τ : TypeId → TK) (d : Nat) (t : TK) (l c : VV) : Option (List Nat × VV) := match t,l.int?,c.int? with
 | .sl e,some n,some m => if n = m ∧ 0 ≤ n ∧ n ≤ 1099511627776 then (τ e).zd.map fun z => ([d],.ref d [] true (.list (List.replicate n.toNat z))) else none
 | _,_,_ => none
def vcallR (d : Nat) (ts : List Nat) (o : Option (List Ret)) : Option (List Nat × VV) := match o with
 | some rs => retVV d ts rs
 | none => none

theorem vres_move (x : Operand) : vres τ Φ d (.move x) σ = some ([],ev σ x) := (rfl)
def vasn (x : VV) : Option (List Nat × VV) := match x with
 | .ref _ [] _ _ => none
 | y => some ([],y)
theorem vres_asn (x : Operand) : vres τ Φ d (.assign x) σ = vasn (ev σ x) := (rfl)
theorem vasn_val (x : D) : vasn (.val x) = some ([],.val x) := (rfl)
theorem vasn_sub (t i : Nat) (p : List Nat) (u : Bool) (x : D) : vasn (.ref t (i :: p) u x) = some ([],.ref t (i :: p) u x) := (rfl)
theorem vasn_bor (t : Nat) (x : D) : vasn (.bor t x) = some ([],.bor t x) := (rfl)
theorem vasn_tups (x : List D) : vasn (.tups x) = some ([],.tups x) := (rfl)
theorem vasn_tup (x y : VV) : vasn (.tup x y) = some ([],.tup x y) := (rfl)
theorem vres_pick (c a b : Operand) : vres τ Φ d (.pick c a b) σ = vpick (ev σ c) (ev σ a) (ev σ b) := (rfl)
theorem vres_bin (op : BinOp) (T U : TypeId) (x y : Operand) : vres τ Φ d (.binOp op T x y U) σ = vbin op (τ T) (ev σ x) (ev σ y) := (rfl)
theorem vres_un (op : UnOp) (T : TypeId) (x : Operand) : vres τ Φ d (.unOp op T x) σ = vun op (ev σ x) := (rfl)
theorem vres_conv (s t : TypeId) (x : Operand) : vres τ Φ d (.convert s t x) σ = vconv (τ s) (τ t) (ev σ x) := (rfl)
theorem vres_ix (T : TypeId) (x i : Operand) : vres τ Φ d (.indexAddr T x i) σ = vix (τ T) (ev σ x) (ev σ i) := (rfl)
theorem vres_ld (T : TypeId) (x : Operand) : vres τ Φ d (.load T x) σ = vld (τ T) (ev σ x) := (rfl)
theorem vres_ext (x : Operand) (i : Nat) : vres τ Φ d (.extract x i) σ = (tupVV i (ev σ x)).map fun r => ([],r) := (rfl)
theorem vres_nilc (x : Operand) : vres τ Φ d (.nilCheck x) σ = (nilVV (ev σ x)).map fun r => ([],r) := (rfl)
theorem vres_ms (T : TypeId) (l c : Operand) : vres τ Φ d (.makeSlice T l c) σ = vms τ d (τ T) (ev σ l) (ev σ c) := (rfl)
theorem vres_min (Ts : Array TypeId) (x y : Operand) : vres τ Φ d (.call ⟨.builtin .min,#[x,y],Ts⟩) σ = vmm false (ev σ x) (ev σ y) := (rfl)
theorem vres_max (Ts : Array TypeId) (x y : Operand) : vres τ Φ d (.call ⟨.builtin .max,#[x,y],Ts⟩) σ = vmm true (ev σ x) (ev σ y) := (rfl)
theorem vmm_min (k : IntKind) (a b : Int) : vmm false (.val (.int k a)) (.val (.int k b)) = some ([],.val (.int k (imin a b))) := by simp [vmm,mmi]
theorem vmm_max (k : IntKind) (a b : Int) : vmm true (.val (.int k a)) (.val (.int k b)) = some ([],.val (.int k (imax a b))) := by simp [vmm,mmi]
theorem vres_len (T : TypeId) (x : Operand) : vres τ Φ d (.call ⟨.builtin .len,#[x],#[T]⟩) σ = vlen (τ T) (ev σ x) := (rfl)
theorem vres_call (f : FuncId) (as : Array Operand) (ts : Array TypeId) (dl : List D) (h : data σ as.toList = some dl) :
  vres τ Φ d (.call ⟨.value (.func f),as,ts⟩) σ = vcallR d (toks σ as.toList) (Φ d f dl) := by
 simp only [vres,ev,h,List.append_nil,vcallR]
 cases Φ d f dl <;> rfl

theorem vval_move (x : Operand) : vval τ Φ d (.move x) σ = some ([],ev σ x) := (rfl)
theorem vval_assign (x : Operand) : vval τ Φ d (.assign x) σ = some (vassign d (ev σ x)) := (rfl)
theorem vval_pick (c a b : Operand) : vval τ Φ d (.pick c a b) σ = vpick (ev σ c) (ev σ a) (ev σ b) := (rfl)
theorem vval_bin (op : BinOp) (T U : TypeId) (x y : Operand) : vval τ Φ d (.binOp op T x y U) σ = vbin op (τ T) (ev σ x) (ev σ y) := (rfl)
theorem vval_un (op : UnOp) (T : TypeId) (x : Operand) : vval τ Φ d (.unOp op T x) σ = vun op (ev σ x) := (rfl)
theorem vval_conv (s t : TypeId) (x : Operand) : vval τ Φ d (.convert s t x) σ = vconv (τ s) (τ t) (ev σ x) := (rfl)
theorem vval_ix (T : TypeId) (x i : Operand) : vval τ Φ d (.indexAddr T x i) σ = vix (τ T) (ev σ x) (ev σ i) := (rfl)
theorem vval_ld (T : TypeId) (x : Operand) : vval τ Φ d (.load T x) σ = vld (τ T) (ev σ x) := (rfl)
theorem vval_ext (x : Operand) (i : Nat) : vval τ Φ d (.extract x i) σ = (tupVV i (ev σ x)).map fun r => ([],r) := (rfl)
theorem vval_nilc (x : Operand) : vval τ Φ d (.nilCheck x) σ = (nilVV (ev σ x)).map fun r => ([],r) := (rfl)
theorem vval_ms (T : TypeId) (l c : Operand) : vval τ Φ d (.makeSlice T l c) σ = vms τ d (τ T) (ev σ l) (ev σ c) := (rfl)
theorem vval_min (Ts : Array TypeId) (x y : Operand) : vval τ Φ d (.call ⟨.builtin .min,#[x,y],Ts⟩) σ = vmm false (ev σ x) (ev σ y) := (rfl)
theorem vval_max (Ts : Array TypeId) (x y : Operand) : vval τ Φ d (.call ⟨.builtin .max,#[x,y],Ts⟩) σ = vmm true (ev σ x) (ev σ y) := (rfl)
theorem vval_len (T : TypeId) (x : Operand) : vval τ Φ d (.call ⟨.builtin .len,#[x],#[T]⟩) σ = vlen (τ T) (ev σ x) := (rfl)
theorem vval_call (f : FuncId) (as : Array Operand) (ts : Array TypeId) (dl : List D) (h : data σ as.toList = some dl) :
  vval τ Φ d (.call ⟨.value (.func f),as,ts⟩) σ = vcallR d (toks σ as.toList) (Φ d f dl) := by
 simp only [vval]; exact vres_call τ Φ d σ f as ts dl h
theorem vval_app (T : TypeId) (s x : Operand) : vval τ Φ d (.call ⟨.builtin .append,#[s,x],#[T,T]⟩) σ = vapp τ d T (ev σ s) (ev σ x) := by
 simp [vval]
theorem vval_appZ (T T' : TypeId) (hT : T ≠ T') (s x : Operand) : vval τ Φ d (.call ⟨.builtin .append,#[s,x],#[T,T']⟩) σ = vappZ τ d T T' (ev σ s) (ev σ x) := by
 simp [vval,hT]
theorem vres_fa (T : TypeId) (x : Operand) (f : Nat) : vres τ Φ d (.fieldAddr T x f) σ = match τ T with
  | .st zs => if f < zs.length then (orO (boxVV (ev σ x) f) (boxR f (ev σ x))).map fun r => ([],r) else none
  | _ => none := (rfl)
theorem vres_fi (T : TypeId) (x : Operand) (f : Nat) : vres τ Φ d (.field T x f) σ = match τ T with
  | .st zs => if f < zs.length then (fieldVV f (ev σ x)).map fun r => ([],r) else none
  | _ => none := (rfl)
theorem vval_fa (T : TypeId) (x : Operand) (f : Nat) : vval τ Φ d (.fieldAddr T x f) σ = vres τ Φ d (.fieldAddr T x f) σ := (rfl)
theorem vval_fi (T : TypeId) (x : Operand) (f : Nat) : vval τ Φ d (.field T x f) σ = vres τ Φ d (.field T x f) σ := (rfl)
theorem vval_sl (T : TypeId) (x : Operand) (a b c : Option Operand) : vval τ Φ d (.slice T x a b c) σ = vres τ Φ d (.slice T x a b c) σ := (rfl)

def vcalld (Φ : Orc) (d : Nat) (ts : List Nat) (fv : VV) (ds : Option (List D)) : Option (List Nat × VV) := match fv,ds with
 | .val (.fn g caps),some ds => vcallR d ts (Φ d g (ds ++ caps))
 | _,_ => none
theorem vcalld_some (ts : List Nat) (g : FuncId) (caps ds : List D) : vcalld Φ d ts (.val (.fn g caps)) (some ds) = vcallR d ts (Φ d g (ds ++ caps)) := (rfl)
theorem vres_calld (f : Tmp) (as : Array Operand) (ts : Array TypeId) : vres τ Φ d (.call ⟨.value (.tmp f),as,ts⟩) σ = vcalld Φ d (toks σ as.toList) (σ f) (data σ as.toList) := by
 simp only [vres,ev,vcalld,vcallR]
 cases σ f with
 | val x => cases x with
  | fn g caps => cases data σ as.toList with
   | none => rfl
   | some ds => simp only; cases Φ d g (ds ++ caps) <;> rfl
  | _ => rfl
 | _ => rfl
theorem vval_calld (f : Tmp) (as : Array Operand) (ts : Array TypeId) : vval τ Φ d (.call ⟨.value (.tmp f),as,ts⟩) σ = vcalld Φ d (toks σ as.toList) (σ f) (data σ as.toList) := by
 simp only [vval]; exact vres_calld τ Φ d σ f as ts
def vbox (t : TK) (x : VV) : Option (List Nat × VV) := match t,x with
 | .st zs,.val (.agg xs) => if zs.any D.u64 then none else some ([],.val (.ptr xs))
 | .st zs,.ref 0 [] true (.agg xs) => if zs.any D.u64 then none else some ([],.al 0 xs)
 | .st _,_ => none
 | .ss _ _,_ => none
 | .fn,_ => none
 | .ar _,_ => none
 | .other,_ => none
 | _,.val x => if x.one then some ([],.val (.ptr [x])) else none
 | _,_ => none
def loI (σ : Frm) : Option Operand → Option Int
 | none => some 0
 | some l => (ev σ l).int?
def hiI (σ : Frm) (n : Nat) : Option Operand → Option Int
 | none => some (n : Int)
 | some h => (ev σ h).int?
def vslB (x : VV) (l : Int) (h : Option Int) : Option (List Nat × VV) := match h with
 | some h => (sliceVV l h x).map fun r => ([],r)
 | none => none
def vslA (σ : Frm) (t : TK) (l : Option Int) (x : VV) (hi : Option Operand) : Option (List Nat × VV) := match t,l,lenVV x with
 | .sl _,some l,some n => vslB x l (hiI σ n hi)
 | _,_,_ => none
theorem vres_slc (T : TypeId) (x : Operand) (lo hi : Option Operand) : vres τ Φ d (.slice T x lo hi none) σ = vslA σ (τ T) (loI σ lo) (ev σ x) hi := by
 cases lo <;> cases hi <;> rfl
theorem vslA_val (e : TypeId) (l : Int) (xs : List D) (hi : Option Operand) : vslA σ (.sl e) (some l) (.val (.list xs)) hi = vslB (.val (.list xs)) l (hiI σ xs.length hi) := (rfl)
theorem vslA_bor (e : TypeId) (l : Int) (t : Nat) (xs : List D) (hi : Option Operand) : vslA σ (.sl e) (some l) (.bor t (.list xs)) hi = vslB (.bor t (.list xs)) l (hiI σ xs.length hi) := (rfl)
theorem vslA_ref (e : TypeId) (l : Int) (t : Nat) (p : List Nat) (u : Bool) (xs : List D) (hi : Option Operand) : vslA σ (.sl e) (some l) (.ref t p u (.list xs)) hi = vslB (.ref t p u (.list xs)) l (hiI σ xs.length hi) := (rfl)
theorem vslB_some (x : VV) (l h : Int) : vslB x l (some h) = (sliceVV l h x).map fun r => ([],r) := (rfl)
def vall (d : Nat) (t : TK) : Option (List Nat × VV) := match t with
 | .int k => some ([d],.ref d [] true (.ptr [.int k 0]))
 | .bool => some ([d],.ref d [] true (.ptr [.bool false]))
 | .sl _ => some ([d],.ref d [] true (.ptr [.list []]))
 | .st zs => some ([d],.ref d [] true (.ptr zs))
 | .fn => some ([d],.ref d [] true (.ptr [.gone]))
 | .ss _ _ => none
 | .ar _ => none
 | .other => none
theorem vres_al (T : TypeId) : vres τ Φ d (.alloc T) σ = vall d (τ T) := (rfl)
theorem vval_al (T : TypeId) : vval τ Φ d (.alloc T) σ = vall d (τ T) := (rfl)
theorem vall_int (k : IntKind) : vall d (.int k) = some ([d],.ref d [] true (.ptr [.int k 0])) := (rfl)
theorem vall_fn : vall d .fn = some ([d],.ref d [] true (.ptr [.gone])) := (rfl)
theorem vall_bool : vall d .bool = some ([d],.ref d [] true (.ptr [.bool false])) := (rfl)
theorem vall_sl (e : TypeId) : vall d (.sl e) = some ([d],.ref d [] true (.ptr [.list []])) := (rfl)
theorem vall_st (zs : List D) : vall d (.st zs) = some ([d],.ref d [] true (.ptr zs)) := (rfl)
theorem vres_box (T : TypeId) (x : Operand) : vres τ Φ d (.box T x) σ = vbox (τ T) (ev σ x) := (rfl)
theorem vval_box (T : TypeId) (x : Operand) : vval τ Φ d (.box T x) σ = orV (vbox (τ T) (ev σ x)) (vboxO (τ T) d (ev σ x)) := by
 simp only [vval,vres_box]
 cases vbox (τ T) (ev σ x) <;> rfl
theorem vbox_ownl (zs xs : List D) (r : Nat) (p : List Nat) (u : Bool) (h : r ≠ 0) : vbox (.st zs) (.ref r p u (.agg xs)) = none := by
 cases r with
 | zero => exact absurd rfl h
 | succ r => rfl
theorem vbox_al (zs xs : List D) : vbox (.st zs) (.ref 0 [] true (.agg xs)) = if zs.any D.u64 then none else some ([],.al 0 xs) := (rfl)
def vbt (t : TK) (n : Nat) (ix : List Nat) (o : Option (List D)) : Option (List Nat × VV) := match t with
 | .st zs => match o with
  | some ds => if 0 < n ∧ ds.all D.one ∧ ix.all (fun i => decide (i < zs.length)) ∧ partB zs ix ds = false then some ([],.val (.agg (setAll zs (ix.zip ds)))) else none
  | none => none
 | .ar zs => match o with
  | some ds => if 0 < n ∧ ds.all D.one ∧ ix.all (fun i => decide (i < zs.length)) then some ([],.val (.agg (setAll zs (ix.zip ds)))) else none
  | none => none
 | _ => none
theorem vbt_ar (zs ds : List D) (n : Nat) (ix : List Nat) (h : 0 < n) (h1 : ds.all D.one = true) (h2 : ix.all (fun i => decide (i < zs.length)) = true) : vbt (.ar zs) n ix (some ds) = some ([],.val (.agg (setAll zs (ix.zip ds)))) := by
 simp only [vbt,h,h1,h2,and_self,if_true]
theorem vres_bt (T : TypeId) (parts : Array (Nat × Operand)) : vres τ Φ d (.build T parts) σ = vbt (τ T) parts.size (parts.toList.map (·.1)) (vals σ (parts.toList.map (·.2))) := (rfl)
theorem vval_bt (T : TypeId) (parts : Array (Nat × Operand)) : vval τ Φ d (.build T parts) σ = orV (vbt (τ T) parts.size (parts.toList.map (·.1)) (vals σ (parts.toList.map (·.2)))) (orV (vbuildZ (τ T) d parts.toList) (orV (vbuildP (τ T) d (parts.toList.map (·.1)) (vals σ (parts.toList.map (·.2)))) (vbuildT τ d T parts σ))) := by
 simp only [vval,vres_bt]
 cases vbt (τ T) parts.size (parts.toList.map (·.1)) (vals σ (parts.toList.map (·.2))) with
 | some r => rfl
 | none =>
  cases vbuildZ (τ T) d parts.toList with
  | some r => rfl
  | none => cases vbuildP (τ T) d (parts.toList.map (·.1)) (vals σ (parts.toList.map (·.2))) <;> rfl
theorem vbt_none (t : TK) (n : Nat) (ix : List Nat) : vbt t n ix none = none := by unfold vbt; cases t <;> rfl
theorem vbt_zero (t : TK) (ix : List Nat) (o : Option (List D)) : vbt t 0 ix o = none := by unfold vbt; cases t <;> (try rfl) <;> cases o <;> simp
theorem vbt_some (zs ds : List D) (n : Nat) (ix : List Nat) (h : 0 < n) (h1 : ds.all D.one = true) (h2 : ix.all (fun i => decide (i < zs.length)) = true) (h3 : partB zs ix ds = false) : vbt (.st zs) n ix (some ds) = some ([],.val (.agg (setAll zs (ix.zip ds)))) := by
 simp only [vbt,h,h1,h2,h3,and_self,if_true]
theorem vbt_part (zs ds : List D) (n : Nat) (ix : List Nat) (h3 : partB zs ix ds = true) : vbt (.st zs) n ix (some ds) = none := by
 simp [vbt,h3]
theorem vbox_int (k k' : IntKind) (n : Int) : vbox (.int k) (.val (.int k' n)) = some ([],.val (.ptr [.int k' n])) := (rfl)
theorem vbox_bool (b : Bool) : vbox .bool (.val (.bool b)) = some ([],.val (.ptr [.bool b])) := (rfl)
theorem vbox_sl (e : TypeId) (xs : List D) : vbox (.sl e) (.val (.list xs)) = some ([],.val (.ptr [.list xs])) := (rfl)
theorem vbox_st (zs xs : List D) : vbox (.st zs) (.val (.agg xs)) = if zs.any D.u64 then none else some ([],.val (.ptr xs)) := (rfl)
theorem vres_mf (f : FuncId) (caps : Array Operand) (ds : List D) (h : vals σ caps.toList = some ds) : vres τ Φ d (.makeFunc (.func f) #[] caps) σ = some ([],.val (.fn f ds)) := by
 simp [vres,h]
theorem vval_mf (f : FuncId) (caps : Array Operand) (ds : List D) (h : vals σ caps.toList = some ds) : vval τ Φ d (.makeFunc (.func f) #[] caps) σ = some ([],.val (.fn f ds)) := by
 simp only [vval]; exact vres_mf τ Φ d σ f caps ds h
def vbs (τ : TypeId → TK) (d : Nat) (t : TK) (n : Nat) (ix : List Nat) (o : Option (List D)) : Option (List Nat × VV) := match t with
 | .sl e => if ix = List.range n ∧ n ≤ 1000 ∧ (τ e).zd.isSome then
   match o with
   | some ds => if ds.all D.one then some ([d],.ref d [] (ds.all D.sc) (.list ds)) else none
   | none => none
  else none
 | .ss e m => match τ e with
   | .st zs => if ix = List.range n ∧ n ≤ 1000 ∧ zs.length = m ∧ 0 < m ∧ m ≤ 8 then
     match o with
     | some ds => if ds.all (isRec m) then some ([],.val (.recs m ds)) else none
     | none => none
    else none
   | _ => none
 | _ => none
theorem vres_bs (T : TypeId) (n : Nat) (parts : Array (Nat × Operand)) : vres τ Φ d (.buildSlice T n parts) σ = vbs τ d (τ T) n (parts.toList.map (·.1)) (vals σ (parts.toList.map (·.2))) := (rfl)
theorem vval_bs (T : TypeId) (n : Nat) (parts : Array (Nat × Operand)) : vval τ Φ d (.buildSlice T n parts) σ = orV (vbs τ d (τ T) n (parts.toList.map (·.1)) (vals σ (parts.toList.map (·.2)))) (vbuildS τ d T n parts σ) := by
 simp only [vval,vres_bs]
 cases vbs τ d (τ T) n (parts.toList.map (·.1)) (vals σ (parts.toList.map (·.2))) <;> rfl
theorem vbs_none (t : TK) (n : Nat) (ix : List Nat) : vbs τ d t n ix none = none := by
 unfold vbs; cases t <;> simp
 split <;> simp
def recB (t : TK) (m : Nat) : Bool := match t with
 | .st zs => decide (zs.length = m)
 | _ => false
theorem vbs_rec (e : TypeId) (m : Nat) (n : Nat) (ix : List Nat) (ds : List D) (h : recB (τ e) m = true ∧ ix = List.range n ∧ n ≤ 1000 ∧ 0 < m ∧ m ≤ 8) (h1 : ds.all (isRec m) = true) :
  vbs τ d (.ss e m) n ix (some ds) = some ([],.val (.recs m ds)) := by
 obtain ⟨h0,h2,h3,h4,h5⟩ := h
 unfold recB at h0
 split at h0 <;> simp only [decide_eq_true_eq,Bool.false_eq_true] at h0
 rename_i zs he
 simp only [vbs,he,if_pos (show ix = List.range n ∧ n ≤ 1000 ∧ zs.length = m ∧ 0 < m ∧ m ≤ 8 from ⟨h2,h3,h0,h4,h5⟩),h1,if_true]
theorem vbs_some (e : TypeId) (n : Nat) (ix : List Nat) (ds : List D) (h : ix = List.range n ∧ n ≤ 1000 ∧ (τ e).zd.isSome) (h1 : ds.all D.one = true) :
  vbs τ d (.sl e) n ix (some ds) = some ([d],.ref d [] (ds.all D.sc) (.list ds)) := by
 simp [vbs,h,h1]

theorem vcallR_some (ts : List Nat) (rs : List Ret) : vcallR d ts (some rs) = retVV d ts rs := (rfl)
theorem vix_val (e : TypeId) (xs : List D) (n : Int) (k : IntKind) (h : 0 ≤ n ∧ n.toNat < xs.length) : vix (.sl e) (.val (.list xs)) (.val (.int k n)) = some ([],.adrv (xs.getD n.toNat default)) := by
 simp [vix,VV.int?,placeVV,h]
theorem vix_ref (e : TypeId) (t : Nat) (p : List Nat) (u : Bool) (xs : List D) (n : Int) (k : IntKind) (h : 0 ≤ n ∧ n.toNat < xs.length) :
  vix (.sl e) (.ref t p u (.list xs)) (.val (.int k n)) = some ([],.adr t p n.toNat u (xs.getD n.toNat default)) := by
 simp [vix,VV.int?,placeVV,h]
theorem vix_rec (e : TypeId) (m : Nat) (xs : List D) (n : Int) (k : IntKind) (h : 0 ≤ n ∧ n.toNat < xs.length) : vix (.ss e m) (.val (.recs m xs)) (.val (.int k n)) = some ([],.adrs m (xs.getD n.toNat default)) := by
 simp [vix,VV.int?,placeS,h]
theorem vix_bor (e : TypeId) (t : Nat) (xs : List D) (n : Int) (k : IntKind) (h : 0 ≤ n ∧ n.toNat < xs.length) :
  vix (.sl e) (.bor t (.list xs)) (.val (.int k n)) = some ([],.adrb t (xs.getD n.toNat default)) := by
 simp [vix,VV.int?,placeVV,h]
end

theorem mutR_mut (d : Nat) (fl : FL) (t : Nat) (p : List Nat) (d0 d' r : D) (h : r.sc = true) : mutR d fl t p d0 (some [.mut d',.sc r]) = some ((d,.val r) :: fl.map fun q => (q.1,mutVV t p d0 d' q.2)) := by simp [mutR,h]
theorem mutR_none (d : Nat) (fl : FL) (t : Nat) (p : List Nat) (d0 : D) : mutR d fl t p d0 none = none := (rfl)
theorem mutR_sc (d : Nat) (fl : FL) (t : Nat) (p : List Nat) (d0 r : D) (l : List Ret) : mutR d fl t p d0 (some (.sc r :: l)) = none := (rfl)
theorem mutR_own (d : Nat) (fl : FL) (t : Nat) (p : List Nat) (d0 r : D) (u : Bool) (l : List Ret) : mutR d fl t p d0 (some (.own u r :: l)) = none := (rfl)

def ieq (a b : Int) : Bool := decide (a = b)
def ilt (a b : Int) : Bool := decide (a < b)
def ile (a b : Int) : Bool := decide (a ≤ b)
section
variable (k : IntKind) (t : TK) (a b : Int)
theorem vbin_add : vbin .add t (.val (.int k a)) (.val (.int k b)) = some ([],.val (.int k (k.wrap (a + b)))) := by simp [vbin,binop,bin]
theorem vbin_sub : vbin .sub t (.val (.int k a)) (.val (.int k b)) = some ([],.val (.int k (k.wrap (a - b)))) := by simp [vbin,binop,bin]
theorem vbin_mul : vbin .mul t (.val (.int k a)) (.val (.int k b)) = some ([],.val (.int k (k.wrap (a * b)))) := by simp [vbin,binop,bin]
theorem vbin_quo (h : b ≠ 0) : vbin .quo t (.val (.int k a)) (.val (.int k b)) = some ([],.val (.int k (k.wrap (a.tdiv b)))) := by simp [vbin,binop,bin,h]
theorem vbin_rem (h : b ≠ 0) : vbin .rem t (.val (.int k a)) (.val (.int k b)) = some ([],.val (.int k (a.tmod b))) := by simp [vbin,binop,bin,h]
theorem vbin_eql : vbin .eql t (.val (.int k a)) (.val (.int k b)) = some ([],.val (.bool (ieq a b))) := by
 simp [vbin,binop,bin,Bool.beq_eq_decide_eq,ieq]
theorem vbin_neq : vbin .neq t (.val (.int k a)) (.val (.int k b)) = some ([],.val (.bool (!ieq a b))) := by
 simp [vbin,binop,bin,bne,ieq]; rfl
theorem vbin_lss : vbin .lss t (.val (.int k a)) (.val (.int k b)) = some ([],.val (.bool (ilt a b))) := by simp [vbin,binop,bin,ilt]
theorem vbin_leq : vbin .leq t (.val (.int k a)) (.val (.int k b)) = some ([],.val (.bool (ile a b))) := by simp [vbin,binop,bin,ile]
theorem vbin_gtr : vbin .gtr t (.val (.int k a)) (.val (.int k b)) = some ([],.val (.bool (ilt b a))) := by simp [vbin,binop,bin,ilt]
theorem vbin_geq : vbin .geq t (.val (.int k a)) (.val (.int k b)) = some ([],.val (.bool (ile b a))) := by simp [vbin,binop,bin,ile]
theorem vbin_beql (p q : Bool) : vbin .eql .bool (.val (.bool p)) (.val (.bool q)) = some ([],.val (.bool (p == q))) := by simp [vbin,binop,bin,binB]
theorem vbin_bneq (p q : Bool) : vbin .neq .bool (.val (.bool p)) (.val (.bool q)) = some ([],.val (.bool (p != q))) := by simp [vbin,binop,bin,binB]
theorem vun_not (p : Bool) : vun .not (.val (.bool p)) = some ([],.val (.bool (!p))) := by simp [vun,una]
theorem vun_neg : vun .neg (.val (.int k a)) = some ([],.val (.int k (k.wrap (0 - a)))) := by simp [vun,una]
theorem vld_int (x : VV) : vld (.int k) x = (loadVV x).map fun r => ([],r) := (rfl)
theorem vld_fn (x : VV) : vld .fn x = (loadVV x).map fun r => ([],r) := (rfl)
theorem vld_bool (x : VV) : vld .bool x = (loadVV x).map fun r => ([],r) := (rfl)
theorem vld_sl (e : TypeId) (x : VV) : vld (.sl e) x = (loadVV x).map fun r => ([],r) := (rfl)
theorem vld_st (zs : List D) (x : VV) : vld (.st zs) x = (orO (loadSt zs.length x) (loadR zs.length x)).map fun r => ([],r) := (rfl)
theorem vlen_ss (e : TypeId) (m : Nat) (x : VV) : vlen (.ss e m) x = (lenVV x).map fun (n : Nat) => ([],VV.val (.int .i64 (n : Int))) := (rfl)
theorem vlen_sl (e : TypeId) (x : VV) : vlen (.sl e) x = (lenVV x).map fun (n : Nat) => ([],VV.val (.int .i64 (n : Int))) := (rfl)
end

def AfterL (o : Option FL) (K : FL → Prop) : Prop := match o with
 | some σ => K σ
 | none => False
@[congr] theorem AfterL_congr {o o' : Option FL} {K : FL → Prop} (h : o = o') : AfterL o K = AfterL o' K := by rw [h]
theorem AfterL_some (σ : FL) (K : FL → Prop) : AfterL (some σ) K = K σ := (rfl)
def pickL (ks : List Nat) (fl : FL) : FL := ks.map fun s => (s,mk fl s)
theorem pickL_nil (fl : FL) : pickL [] fl = [] := (rfl)
theorem pickL_cons (s : Nat) (ks : List Nat) (fl : FL) : pickL (s :: ks) fl = (s,mk fl s) :: pickL ks fl := (rfl)

attribute [simp ↓] runL_cons mixL_succ mixL_zero opL_free headL_free
attribute [simp] runL_nil mixL_nil opL_gate headL_gate doL_some doL_store calmL_some skipL_some skipL_none slotL
 vpick_t vpick_f vres_move vres_pick vres_bin vres_un vres_conv vres_ix vres_ld vres_ext vres_ms vres_len vres_call
 vval_move vval_assign vval_pick vval_bin vval_un vval_conv vval_ix vval_ld vval_ext vval_ms vval_len vval_call vval_app vval_appZ vres_box vval_box vbox_int vbox_bool vbox_sl vbox_st vres_mf vval_mf vres_bs vals vres_calld vval_calld vcalld_some vbs_some vval_bs vbs_none vbuildS vbuildT partsV partVV ptoks PartV.d
 vres_fa vres_fi vval_fa vval_fi vval_sl vcallR_some vix_val vix_ref vix_bor
 vbin_add vbin_sub vbin_mul vbin_quo vbin_rem vbin_eql vbin_neq vbin_lss vbin_leq vbin_gtr vbin_geq vbin_beql vbin_bneq vun_not vun_neg
 vres_asn vasn_val vasn_sub vasn_bor vasn_tup vasn_tups vres_slc vslA_val vslA_bor vslA_ref vslB_some loI hiI vres_al vval_al vall_int vall_fn vall_bool vall_sl vall_st vld_int vld_fn vld_bool vld_sl vld_st vlen_sl vlen_ss vix_rec orO loadR boxR isRec recB vbs_rec AfterL_some pickL_nil pickL_cons vconv vms
 vassign vapp vappZ ev constVV kmap mk_cons mk_nil 
 loadVV fieldVV sliceVV lenVV VV.int? data VV.dat VV.toks toks retVV tupVV cellVV borVV
 D.sc D.one D.zero TK.zd vstoreE VV.place VV.given storeVV diverge D.node D.put D.isNode VV.on
 setAll newDs dl
 vbox_ownl vbox_al mutP vboxO vres_bt vval_bt vres_min vres_max vval_min vval_max vmm_min vmm_max vbt_none vbt_zero vbt_some vbt_ar vbt_part partB vbuildP vbuildZ vstoreS stoSVV detVV attVV stfVV loadSt boxVV
 mutL_move mutL_assign mutL_pick mutL_alloc mutL_box mutL_build mutL_buildS mutL_load mutL_bin mutL_un mutL_conv mutL_mf mutL_ms mutL_sl mutL_fa mutL_fi mutL_ix mutL_ext mutL_bu mutL_call mutA_fn mutA_nil mutA_cap mutB_val mutB_bor mutB_reff mutB_refs mutB_ptr ptrR_ptr ptrR_none ptrR_sc ptrR_own ptrR_shr ptrR_tup ptrP_some cutL_app cutBL_ref cutRL_some dtcVV mutL_nilc vres_nilc vval_nilc nilVV D.u64 wkVV mutB_none mutB_ref mutR_mut mutR_none mutR_sc mutR_own mutVV

section
variable {P : Program} {τ : TypeId → TK} {Φ : Orc} {N : Lim} {fl : FL} {Q : Exit → Frm → Prop}

theorem keep_mk (ks : List Nat) (fl : FL) : keep ks (mk fl) = mk (pickL ks fl) := (rfl)

theorem VW.es (hτ : TyOk P τ) (hΦ : Sound P Φ) (ds : List (Option Nat)) (ks : List Nat) {id : Nat} {l : List Oper} {y : Code} (hds : l.map (·.dst) = ds)
  (h : ∀ K : FL → Prop,(∀ fl,VW P N y (mk fl) Q → K fl) → AfterL (runL τ Φ N ds l fl) fun fl' => K (pickL ks fl')) :
  VW P N (.seq (.region id l.toArray false) y) (mk fl) Q := by
 subst hds
 refine VW.sr hτ hΦ ks fun K hK => ?_
 have h := h (fun fl => K (mk fl)) fun fl hf => hK _ hf
 cases hv : runL τ Φ N (l.map (·.dst)) l fl with
 | none => rw [hv] at h; exact h.elim
 | some fl' =>
  rw [hv] at h
  rw [runL_ok l fl fl' hv]
  exact h

theorem VW.er (hτ : TyOk P τ) (hΦ : Sound P Φ) (ds : List (Option Nat)) (ks : List Nat) {id : Nat} {l : List Oper} (hds : l.map (·.dst) = ds)
  (h : ∀ K : FL → Prop,(∀ fl,Q .normal (mk fl) → K fl) → AfterL (runL τ Φ N ds l fl) fun fl' => K (pickL ks fl')) :
  VW P N (.region id l.toArray false) (mk fl) Q := by
 subst hds
 refine VW.reg hτ hΦ ks ?_
 have h := h (fun fl => Q .normal (mk fl)) fun fl hf => hf
 cases hv : runL τ Φ N (l.map (·.dst)) l fl with
 | none => rw [hv] at h; exact h.elim
 | some fl' =>
  rw [hv] at h
  rw [runL_ok l fl fl' hv]
  exact h

theorem VW.ed (hτ : TyOk P τ) (hΦ : Sound P Φ) (hm : P.follows .mixedOrders = true) (ds : List (Option Nat)) (ks : List Nat) {id : Nat} {l : List Oper} (n : Nat) {y : Code} (hds : l.map (·.dst) = ds)
  (hB : drawB l.toArray n = true) (hf : freshB (newDs (l.take n)) fl = true)
  (h : ∀ K : FL → Prop,(∀ fl,VW P N y (mk fl) Q → K fl) → AfterL (mixL τ Φ N ds n l fl) fun fl' => K (pickL ks fl')) :
  VW P N (.seq (.region id l.toArray true) y) (mk fl) Q := by
 subst hds
 refine VW.sd hτ hΦ hm ks n hB hf fun K hK => ?_
 have h := h (fun fl => K (mk fl)) fun fl hf => hK _ hf
 cases hv : mixL τ Φ N (l.map (·.dst)) n l fl with
 | none => rw [hv] at h; exact h.elim
 | some fl' =>
  rw [hv] at h
  rw [mixL_ok l n 0 fl fl' (by simp) hv]
  exact h

theorem VW.edr (hτ : TyOk P τ) (hΦ : Sound P Φ) (hm : P.follows .mixedOrders = true) (ds : List (Option Nat)) (ks : List Nat) {id : Nat} {l : List Oper} (n : Nat) (hds : l.map (·.dst) = ds)
  (hB : drawB l.toArray n = true) (hf : freshB (newDs (l.take n)) fl = true)
  (h : ∀ K : FL → Prop,(∀ fl,Q .normal (mk fl) → K fl) → AfterL (mixL τ Φ N ds n l fl) fun fl' => K (pickL ks fl')) :
  VW P N (.region id l.toArray true) (mk fl) Q := by
 subst hds
 refine VW.regD hτ hΦ hm ks n hB hf ?_
 have h := h (fun fl => Q .normal (mk fl)) fun fl hf => hf
 cases hv : mixL τ Φ N (l.map (·.dst)) n l fl with
 | none => rw [hv] at h; exact h.elim
 | some fl' =>
  rw [hv] at h
  rw [mixL_ok l n 0 fl fl' (by simp) hv]
  exact h

def sayL (new : FL) (ks : List Nat) (fl fl' : FL) : Prop := (new.map fun q => mk fl' q.1) = new.map (·.2) ∧ (ks.map fun s => mk fl' s) = ks.map fun s => mk fl s

theorem say_pick {new : FL} {ks : List Nat} {fl fl' : FL} (h : sayL new ks fl fl') : pickL (new.map (·.1) ++ ks) fl' = new ++ pickL ks fl := by
 obtain ⟨h1,h2⟩ := h
 unfold pickL
 rw [List.map_append]
 congr 1
 ·rw [List.map_map]
  conv => rhs; rw [← List.map_id new]
  exact List.map_congr_left fun q hq => by rw [Function.comp,List.map_inj_left.1 h1 q hq]; rfl
 ·exact List.map_congr_left fun s hs => by rw [List.map_inj_left.1 h2 s hs]

theorem after_say {new : FL} {ks : List Nat} {fl : FL} {o : Option FL} {K : FL → Prop} (h1 : AfterL o (sayL new ks fl)) (h2 : K (new ++ pickL ks fl)) : AfterL o fun fl' => K (pickL (new.map (·.1) ++ ks) fl') := by
 cases o with
 | none => exact h1
 | some fl' => exact (say_pick h1 ▸ h2 : K (pickL (new.map (·.1) ++ ks) fl'))

theorem VW.vs (hτ : TyOk P τ) (hΦ : Sound P Φ) (ds : List (Option Nat)) (new : FL) (ks : List Nat) {id : Nat} {l : List Oper} {y : Code} (hds : l.map (·.dst) = ds)
  (h1 : AfterL (runL τ Φ N ds l fl) (sayL new ks fl)) (h2 : VW P N y (mk (new ++ pickL ks fl)) Q) : VW P N (.seq (.region id l.toArray false) y) (mk fl) Q :=
 VW.es hτ hΦ ds (new.map (·.1) ++ ks) hds fun _ hK => after_say h1 (hK _ h2)
end

theorem resVV_sc (t : Tmp) (σ : Frm) (x : D) : resVV [.tmp t] σ [.sc x] = (σ t = .val x ∧ x.sc = true) := by simp [resVV]
theorem resVV_own (t : Tmp) (σ : Frm) (u : Bool) (x : D) : resVV [.tmp t] σ [.own u x] = ∃ k p,σ t = .ref k p u x := by simp [resVV]
theorem resVV_scsc (t s : Tmp) (σ : Frm) (x y : D) : resVV [.tmp t,.tmp s] σ [.sc x,.sc y] = (σ t = .val x ∧ σ s = .val y ∧ x.sc = true ∧ y.sc = true) := by
 refine propext ⟨?_,?_⟩
 ·rintro ⟨t',s',h,h1,h2,h3,h4⟩; simp at h; obtain ⟨rfl,rfl⟩ := h; exact ⟨h1,h2,h3,h4⟩
 ·rintro ⟨h1,h2,h3,h4⟩; exact ⟨t,s,rfl,h1,h2,h3,h4⟩
theorem resVV_shr (t : Tmp) (σ : Frm) (x : D) : resVV [.tmp t] σ [.shr x] = (σ t = .val x) := by simp [resVV]
theorem resVV_shrsc (t s : Tmp) (σ : Frm) (x y : D) : resVV [.tmp t,.tmp s] σ [.shr x,.sc y] = (σ t = .val x ∧ σ s = .val y ∧ y.sc = true) := by
 refine propext ⟨?_,?_⟩
 ·rintro ⟨t',s',h,h1,h2,h3⟩; simp at h; obtain ⟨rfl,rfl⟩ := h; exact ⟨h1,h2,h3⟩
 ·rintro ⟨h1,h2,h3⟩; exact ⟨t,s,rfl,h1,h2,h3⟩
theorem resVV_ownsc (t s : Tmp) (σ : Frm) (u : Bool) (x y : D) : resVV [.tmp t,.tmp s] σ [.own u x,.sc y] = ((∃ k p,σ t = .ref k p u x) ∧ σ s = .val y ∧ y.sc = true) := by
 refine propext ⟨?_,?_⟩
 ·rintro ⟨t',s',k,p,h,h1,h2,h3⟩; simp at h; obtain ⟨rfl,rfl⟩ := h; exact ⟨⟨k,p,h1⟩,h2,h3⟩
 ·rintro ⟨⟨k,p,h1⟩,h2,h3⟩; exact ⟨t,s,k,p,rfl,h1,h2,h3⟩

def doorM (d : D) (ds : List D) : FL := (0,.ref 0 [] true d) :: dl 1 ds
def PostM (res : List ResultVar) (r d' : D) : Exit → Frm → Prop
 | .normal,σ => resVV res σ [.sc r] ∧ ∃ k p,σ 0 = .ref k p true d'
 | .ret,σ => resVV res σ [.sc r] ∧ ∃ k p,σ 0 = .ref k p true d'
 | _,_ => False

attribute [simp] sayL Int.natCast_inj resVV_sc resVV_own resVV_scsc resVV_ownsc resVV_shr resVV_shrsc
end Go.Vam
