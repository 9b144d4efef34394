/- The evaluation of a mixed region by simp. -/
import Derived.Test.YtalfgfpgenlokaaVamX
namespace Go.Vam
open Go Go.RowKit
set_option linter.unusedSimpArgs false

def offsL (ts sl : List Nat) (fl : FL) : Bool := sl.all fun s => offT ts (mk fl s) && (mk fl s).liv
def offD (ts : List Nat) (d : Option Nat) (fl : FL) : Bool := match d with
 | some d => offT ts (mk fl d)
 | none => true
def chkK (ts sl : List Nat) (d : Option Nat) (fl : FL) (r : Option FL) : Option FL := match r with
 | some f => if (offsL ts sl fl && offD ts d f) = true then some f else none
 | none => none
@[congr] theorem chkK_congr {ts sl : List Nat} {d : Option Nat} {fl : FL} {r r' : Option FL} (h : r = r') : chkK ts sl d fl r = chkK ts sl d fl r' := by rw [h]
@[simp] theorem chkK_some (ts sl : List Nat) (d : Option Nat) (fl f : FL) : chkK ts sl d fl (some f) = if (offsL ts sl fl && offD ts d f) = true then some f else none := (rfl)

def pushX (ts : List Nat) (d : Nat) (fl : FL) (r : Option (List Nat × VV)) : Option FL := match r with
 | some (ks,x) => if (ks.all fun k => ts.contains k) = true then some ((d,x) :: fl.map fun q => (q.1,kmap ks q.2)) else none
 | none => none
@[congr] theorem pushX_congr {ts : List Nat} {d : Nat} {fl : FL} {r r' : Option (List Nat × VV)} (h : r = r') : pushX ts d fl r = pushX ts d fl r' := by rw [h]
@[simp] theorem pushX_some (ts : List Nat) (d : Nat) (fl : FL) (ks : List Nat) (x : VV) : pushX ts d fl (some (ks,x)) = if (ks.all fun k => ts.contains k) = true then some ((d,x) :: fl.map fun q => (q.1,kmap ks q.2)) else none := (rfl)

noncomputable def ptrXP (ts : List Nat) (d : Nat) (fl : FL) (t : Nat) (ys ys' : List D) (tk : List Nat) (o : Option (List Nat × VV)) : Option FL := match o with
 | some (ks,y) => if (!(tk ++ ks).contains t && ts.contains t && (tk ++ ks).all fun k => ts.contains k) = true then some ((d,y) :: fl.map fun q => (q.1,kmap (tk ++ ks) (wkVV t ys ys' q.2))) else none
 | none => none
@[simp] theorem ptrXP_some (ts : List Nat) (d : Nat) (fl : FL) (t : Nat) (ys ys' : List D) (tk ks : List Nat) (y : VV) : ptrXP ts d fl t ys ys' tk (some (ks,y)) =
  if (!(tk ++ ks).contains t && ts.contains t && (tk ++ ks).all fun k => ts.contains k) = true then some ((d,y) :: fl.map fun q => (q.1,kmap (tk ++ ks) (wkVV t ys ys' q.2))) else none := (rfl)
noncomputable def ptrXR (ts : List Nat) (d : Nat) (fl : FL) (t : Nat) (ys : List D) (tk : List Nat) (o : Option (List Ret)) : Option FL := match o with
 | some (.ptr ys' :: rs) => ptrXP ts d fl t ys ys' tk (retVV d tk rs)
 | _ => none
@[simp] theorem ptrXR_ptr (ts : List Nat) (d : Nat) (fl : FL) (t : Nat) (ys ys' : List D) (tk : List Nat) (rs : List Ret) : ptrXR ts d fl t ys tk (some (.ptr ys' :: rs)) = ptrXP ts d fl t ys ys' tk (retVV d tk rs) := (rfl)
section
variable (τ : TypeId → TK) (Φ : Orc) (N : Lim)
noncomputable def argX (ts : List Nat) (d : Nat) (op : Op) (fl : FL) (g : FuncId) (x : VV) (tk : List Nat) (ods : Option (List D)) : Option FL := match x,ods with
 | .ref t [] false (.ptr ys),some ds => ptrXR ts d fl t ys tk (Φ d g (.ptr ys :: ds))
 | .val _,_ => pushX ts d fl (vval τ Φ d op (mk fl))
 | _,_ => none
@[simp] theorem argX_ptr (ts : List Nat) (d : Nat) (op : Op) (fl : FL) (g : FuncId) (t : Nat) (ys ds : List D) (tk : List Nat) : argX τ Φ ts d op fl g (.ref t [] false (.ptr ys)) tk (some ds) = ptrXR ts d fl t ys tk (Φ d g (.ptr ys :: ds)) := (rfl)
@[simp] theorem argX_val (ts : List Nat) (d : Nat) (op : Op) (fl : FL) (g : FuncId) (x : D) (tk : List Nat) (o : Option (List D)) : argX τ Φ ts d op fl g (.val x) tk o = pushX ts d fl (vval τ Φ d op (mk fl)) := by cases o <;> rfl
noncomputable def callX (ts : List Nat) (d : Nat) (op : Op) (fl : FL) (fv : VV) (as : List Operand) : Option FL := match fv,as with
 | .val (.fn g []),x :: xs => argX τ Φ ts d op fl g (ev (mk fl) x) (toks (mk fl) xs) (data (mk fl) xs)
 | _,_ => none
@[simp] theorem callX_fn (ts : List Nat) (d : Nat) (op : Op) (fl : FL) (g : FuncId) (x : Operand) (xs : List Operand) : callX τ Φ ts d op fl (.val (.fn g [])) (x :: xs) = argX τ Φ ts d op fl g (ev (mk fl) x) (toks (mk fl) xs) (data (mk fl) xs) := (rfl)
noncomputable def opX (ts : List Nat) (d : Nat) (op : Op) (fl : FL) : Option FL := match op with
 | .call c => match c.callee with
  | .value f => callX τ Φ ts d op fl (ev (mk fl) f) c.args.toList
  | .builtin .append => pushX ts d fl (vval τ Φ d op (mk fl))
  | _ => none
 | .buildSlice _ _ _ => pushX ts d fl (vval τ Φ d op (mk fl))
 | .assign _ => pushX ts d fl (vval τ Φ d op (mk fl))
 | _ => none
@[simp] theorem opX_call (ts : List Nat) (d : Nat) (f : Operand) (as : Array Operand) (tt : Array TypeId) (fl : FL) : opX τ Φ ts d (.call ⟨.value f,as,tt⟩) fl = callX τ Φ ts d (.call ⟨.value f,as,tt⟩) fl (ev (mk fl) f) as.toList := (rfl)
@[simp] theorem opX_app (ts : List Nat) (d : Nat) (as : Array Operand) (tt : Array TypeId) (fl : FL) : opX τ Φ ts d (.call ⟨.builtin .append,as,tt⟩) fl = pushX ts d fl (vval τ Φ d (.call ⟨.builtin .append,as,tt⟩) (mk fl)) := (rfl)
@[simp] theorem opX_bs (ts : List Nat) (d : Nat) (T : TypeId) (n : Nat) (ps : Array (Nat × Operand)) (fl : FL) : opX τ Φ ts d (.buildSlice T n ps) fl = pushX ts d fl (vval τ Φ d (.buildSlice T n ps) (mk fl)) := (rfl)
@[simp] theorem opX_asg (ts : List Nat) (d : Nat) (x : Operand) (fl : FL) : opX τ Φ ts d (.assign x) fl = pushX ts d fl (vval τ Φ d (.assign x) (mk fl)) := (rfl)
def stoX (ts : List Nat) (k : TK) (ad x : VV) (fl : FL) : Option FL := match k,ad,x with
 | .st zs,.ref t [] true (.ptr ys),.ref r [] true (.agg xs) => if (ts.contains t && ts.contains r) = true ∧ (r ≠ t ∧ ys.length = zs.length ∧ xs.length = zs.length ∧ xs.all D.one = true) then some (fl.map fun q => (q.1,stoSVV t r xs q.2)) else none
 | _,_,_ => none
@[simp] theorem stoX_st (ts : List Nat) (zs : List D) (t r : Nat) (ys xs : List D) (fl : FL) : stoX ts (.st zs) (.ref t [] true (.ptr ys)) (.ref r [] true (.agg xs)) fl = if (ts.contains t && ts.contains r) = true ∧ (r ≠ t ∧ ys.length = zs.length ∧ xs.length = zs.length ∧ xs.all D.one = true) then some (fl.map fun q => (q.1,stoSVV t r xs q.2)) else none := (rfl)
noncomputable def stoO (ts : List Nat) (op : Op) (fl : FL) : Option FL := match op with
 | .store T ad x => stoX ts (τ T) (ev (mk fl) ad) (ev (mk fl) x) fl
 | _ => none
@[simp] theorem stoO_st (ts : List Nat) (T : TypeId) (ad x : Operand) (fl : FL) : stoO τ ts (.store T ad x) fl = stoX ts (τ T) (ev (mk fl) ad) (ev (mk fl) x) fl := (rfl)
noncomputable def actX (ts : List Nat) (g : Option (Nat × Bool)) (d : Option Nat) (op : Op) (fl : FL) : Option FL := match g,d with
 | none,some d => if d ∈ N then opX τ Φ ts d op fl else none
 | none,none => stoO τ ts op fl
 | _,_ => none
@[simp] theorem actX_none (ts : List Nat) (op : Op) (fl : FL) : actX τ Φ N ts none none op fl = stoO τ ts op fl := (rfl)
@[simp] theorem actX_some (ts : List Nat) (d : Nat) (op : Op) (fl : FL) (h : d ∈ N) : actX τ Φ N ts none (some d) op fl = opX τ Φ ts d op fl := by simp only [actX,h,if_true]
def quietL (r : Option (List Nat × VV)) (x : Option FL) : Option FL := match r with
 | some ([],_) => x
 | _ => none
@[congr] theorem quietL_congr {r r' : Option (List Nat × VV)} {x : Option FL} (h : r = r') : quietL r x = quietL r' x := by rw [h]
@[simp] theorem quietL_some (y : VV) (x : Option FL) : quietL (some ([],y)) x = x := (rfl)
noncomputable def headQ (ds : List (Option Nat)) (o : Oper) (fl : FL) : Option FL := match o.op,o.dst with
 | .call c,some d => quietL (vres τ Φ d (.call c) (mk fl)) (headL τ Φ N ds o fl)
 | .makeSlice _ _ _,_ => none
 | .buildSlice _ _ _,_ => none
 | .alloc _,_ => none
 | _,_ => headL τ Φ N ds o fl
noncomputable def stepX (ds : List (Option Nat)) (ts : List Nat) (k : Nat) (sl : List Nat) (o : Oper) (fl : FL) : Option FL :=
 match k with
 | 0 => headL τ Φ N ds o fl
 | 1 => chkK ts sl o.dst fl (headQ τ Φ N ds o fl)
 | 2 => actX τ Φ N ts o.guard o.dst o.op fl
 | _ => opL τ Φ N ds o fl
@[simp] theorem stepX_0 (ds : List (Option Nat)) (ts sl : List Nat) (o : Oper) (fl : FL) : stepX τ Φ N ds ts 0 sl o fl = headL τ Φ N ds o fl := (rfl)
@[simp] theorem stepX_1 (ds : List (Option Nat)) (ts sl : List Nat) (o : Oper) (fl : FL) : stepX τ Φ N ds ts 1 sl o fl = chkK ts sl o.dst fl (headQ τ Φ N ds o fl) := (rfl)
@[simp] theorem stepX_2 (ds : List (Option Nat)) (ts sl : List Nat) (o : Oper) (fl : FL) : stepX τ Φ N ds ts 2 sl o fl = actX τ Φ N ts o.guard o.dst o.op fl := (rfl)
@[simp] theorem stepX_3 (ds : List (Option Nat)) (ts sl : List Nat) (o : Oper) (fl : FL) : stepX τ Φ N ds ts 3 sl o fl = opL τ Φ N ds o fl := (rfl)

noncomputable def mixX (ds : List (Option Nat)) (ts : List Nat) : List Nat → List (List Nat) → List Oper → FL → Option FL
 | k :: kd,sl :: sn,o :: r,fl => andThen (stepX τ Φ N ds ts k sl o fl) (mixX ds ts kd sn r)
 | [],[],[],fl => some fl
 | _,_,_,_ => none
theorem mixX_cons (ds : List (Option Nat)) (ts : List Nat) (k : Nat) (kd sl : List Nat) (sn : List (List Nat)) (o : Oper) (r : List Oper) (fl : FL) :
  mixX τ Φ N ds ts (k :: kd) (sl :: sn) (o :: r) fl = andThen (stepX τ Φ N ds ts k sl o fl) (mixX τ Φ N ds ts kd sn r) := (rfl)
@[simp] theorem mixX_nil (ds : List (Option Nat)) (ts : List Nat) (fl : FL) : mixX τ Φ N ds ts [] [] [] fl = some fl := (rfl)
end
attribute [simp ↓] mixX_cons
attribute [simp] offsL offD offT VV.liv headQ

section
variable {P : Program} {τ : TypeId → TK} {Φ : Orc} {N : Lim} {ts : List Nat}

theorem all_mem {ts ks : List Nat} (h : (ks.all fun k => ts.contains k) = true) : ∀ k ∈ ks,k ∈ ts := fun k hk => by
 have := List.all_eq_true.1 h k hk
 simpa using this

theorem pushX_ok {o : Oper} {d : Nat} {fl fl' : FL} (hd : o.dst = some d) (hN : d ∈ N) (hm : mutL Φ d o.op fl = none) (h : pushX ts d fl (vval τ Φ d o.op (mk fl)) = some fl') :
  ∃ e,vdo τ Φ N o (mk fl) = some e ∧ e.run (mk fl) = mk fl' ∧ Within ts e.map := by
 cases hv : vval τ Φ d o.op (mk fl) with
 | none => rw [hv] at h; cases h
 | some r =>
  obtain ⟨ks,x⟩ := r
  rw [hv,pushX_some] at h
  split at h <;> simp only [Option.some.injEq,reduceCtorEq] at h
  rename_i hk
  subst h
  refine ⟨⟨kmap ks,some (d,x)⟩,by unfold vdo; simp only [hd,if_pos hN,mutL_no hm,hv,Option.map_some],?_,within_kmap (all_mem hk)⟩
  funext s
  simp only [Eff.run,upd,mk_cons]
  rw [mk_map (kmap ks) (kmap_dead ks)]

theorem within_sto {ts : List Nat} {t r : Nat} (ht : t ∈ ts) (hr : r ∈ ts) (xs : List D) : Within ts (stoSVV t r xs) := by
 intro x
 unfold stoSVV
 split
 ·rename_i s ys
  by_cases h1 : s = t
  ·subst h1
   rw [if_pos rfl]
   refine ⟨fun h => ?_,fun _ => .inr ?_⟩
   ·have := offT_iff.1 h s ht; simp [VV.on] at this
   ·exact offT_not.2 ⟨s,ht,by simp [VV.on]⟩
  ·rw [if_neg h1]
   by_cases h2 : s = r
   ·rw [if_pos h2]
    refine ⟨fun h => ?_,fun _ => .inl rfl⟩
    subst h2
    have := offT_iff.1 h s hr; simp [VV.on] at this
   ·rw [if_neg h2]; exact ⟨fun _ => rfl,fun h => .inr h⟩
 ·by_cases h : (x.on t || x.on r) = true
  ·rw [if_pos h]
   refine ⟨fun ho => ?_,fun _ => .inl rfl⟩
   rw [offT_iff.1 ho t ht,offT_iff.1 ho r hr] at h; cases h
  ·rw [if_neg h]; exact ⟨fun _ => rfl,fun h => .inr h⟩
theorem stoX_ok {ops : Array Oper} {o : Oper} {T : TypeId} {ad x : Operand} {fl fl' : FL} (hg : o.guard = none) (hd : o.dst = none) (ho : o.op = .store T ad x) (h : stoX ts (τ T) (ev (mk fl) ad) (ev (mk fl) x) fl = some fl') :
  ∃ e,vact τ Φ N ops o (mk fl) = some e ∧ e.run (mk fl) = mk fl' ∧ Within ts e.map := by
 unfold stoX at h
 split at h <;> try cases h
 rename_i zs t ys r xs hT had hx
 split at h <;> simp only [Option.some.injEq,reduceCtorEq] at h
 rename_i hc
 subst h
 obtain ⟨h1,h2⟩ := hc
 simp only [Bool.and_eq_true,List.contains_iff_mem] at h1
 refine ⟨⟨stoSVV t r xs,none⟩,?_,?_,within_sto h1.1 h1.2 xs⟩
 ·unfold vact vdo
  simp only [hg,hd,ho]
  have e1 : vstoreE τ T (ev (mk fl) ad) (ev (mk fl) x) = none := by unfold vstoreE; rw [hT]
  have e2 : vstoreS (τ T) (ev (mk fl) ad) (ev (mk fl) x) = some (stoSVV t r xs) := by
   rw [hT,had,hx]
   simp only [vstoreS]
   rw [if_pos h2]
  rw [e1]
  simp only [e2,Option.map_some]
 ·funext s
  simp only [Eff.run]
  rw [mk_map (stoSVV t r xs) (by simp [stoSVV,VV.on])]
theorem actX_ok {ops : Array Oper} {o : Oper} {fl fl' : FL} (h : actX τ Φ N ts o.guard o.dst o.op fl = some fl') : ∃ e,vact τ Φ N ops o (mk fl) = some e ∧ e.run (mk fl) = mk fl' ∧ Within ts e.map := by
 unfold actX at h
 split at h <;> try cases h
 rotate_left
 ·rename_i hg hd
  unfold stoO at h
  split at h <;> try cases h
  rename_i T ad x ho
  exact stoX_ok hg hd ho h
 rename_i d hg hd
 split at h <;> try cases h
 rename_i hN
 unfold vact
 rw [hg]
 simp only
 unfold opX at h
 split at h <;> try cases h
 ·rename_i c ho
  split at h <;> try cases h
  rotate_left
  ·rename_i hc
   exact pushX_ok hd hN (by rw [ho]; simp only [mutL,hc]) (ho ▸ h)
  rename_i f hc
  unfold callX at h
  split at h <;> try cases h
  rename_i g x xs hf hargs
  unfold argX at h
  split at h <;> try cases h
  ·rename_i t ys ds hx hds
   unfold ptrXR at h
   split at h <;> try cases h
   rename_i ys' rs hrs
   unfold ptrXP at h
   split at h <;> try cases h
   rename_i ks y hy
   split at h <;> simp only [Option.some.injEq,reduceCtorEq] at h
   rename_i hk
   subst h
   simp only [Bool.and_eq_true,Bool.not_eq_eq_eq_not,Bool.not_true] at hk
   obtain ⟨⟨k1,k2⟩,k3⟩ := hk
   have k1' : t ∉ toks (mk fl) xs ++ ks := by simpa using k1
   have k2' : t ∈ ts := by simpa using k2
   refine ⟨⟨fun x => kmap (toks (mk fl) xs ++ ks) (wkVV t ys ys' x),some (d,y)⟩,?_,?_,(within_kmap (all_mem k3)).comp (within_wk k2' ys ys') (kmap_dead _)⟩
   ·unfold vdo
    simp only [hd,if_pos hN,ho,vmut,hc,hargs,hf,hx,hds,hrs,hy,k1',not_false_eq_true,if_true]
   ·funext s
    simp only [Eff.run,upd,mk_cons]
    rw [mk_map (fun x => kmap (toks (mk fl) xs ++ ks) (wkVV t ys ys' x)) (by simp [kmap,wkVV,VV.on])]
  ·rename_i x' hx
   have hm : mutL Φ d o.op fl = none := by
    rw [ho]
    simp only [mutL,hc,mutA,hf,hargs,hx,mutB_val]
   exact pushX_ok hd hN hm h
 ·rename_i T n ps ho
  exact pushX_ok hd hN (by rw [ho]; rfl) h
 ·rename_i x ho
  exact pushX_ok hd hN (by rw [ho]; rfl) h

theorem headQ_ok {ds : List (Option Nat)} {o : Oper} {fl fl' : FL} (h : headQ τ Φ N ds o fl = some fl') : headL τ Φ N ds o fl = some fl' ∧ quietC τ Φ o (mk fl) := by
 unfold headQ at h
 split at h <;> try cases h
 ·rename_i c d ho hd
  unfold quietL at h
  split at h <;> try cases h
  rename_i y hy
  refine ⟨h,fun _ d' hd' => ⟨y,?_⟩⟩
  rw [hd] at hd'
  simp only [Option.some.injEq] at hd'
  subst hd'
  rw [ho]; exact hy
 ·refine ⟨h,fun hm d hd => ?_⟩
  exfalso
  unfold makesB at hm
  cases ho : o.op with
  | call c => simp_all
  | makeSlice a b c => simp_all
  | buildSlice a b c => simp_all
  | alloc a => simp_all
  | _ => rw [ho] at hm; cases hm

theorem mixX_ok {l0 : List Oper} {kd0 : List Nat} : ∀ (l : List Oper) (kd : List Nat) (sn : List (List Nat)) (k : Nat) (fl fl' : FL),(∀ j,kd[j]? = kd0[k + j]?) → l.map (fun o => Op.seen o.op) = sn →
  mixX τ Φ N (l0.map (·.dst)) ts kd sn l fl = some fl' → vmixX τ Φ N l0.toArray kd0 ts k l (mk fl) = some (mk fl')
 | [],kd,sn,k,fl,fl',_,hs,h => by
  subst hs
  cases kd with
  | nil => simp only [List.map_nil,mixX,Option.some.injEq] at h; subst h; rfl
  | cons a b => simp [mixX] at h
 | o :: r,kd,sn,k,fl,fl',hk,hs,h => by
  subst hs
  cases kd with
  | nil => simp [mixX] at h
  | cons a kd =>
   simp only [List.map_cons,mixX_cons] at h
   have hka : knd kd0 k = a := by
    have := hk 0
    simp only [List.getElem?_cons_zero,Nat.add_zero] at this
    unfold knd
    rw [List.getD_eq_getElem?_getD,← this]; rfl
   have hk' : ∀ j,kd[j]? = kd0[k + 1 + j]? := fun j => by
    have := hk (j + 1)
    simp only [List.getElem?_cons_succ] at this
    rw [this]; congr 1; omega
   cases hst : stepX τ Φ N (l0.map (·.dst)) ts a (Op.seen o.op) o fl with
   | none => rw [hst] at h; cases h
   | some f1 =>
    rw [hst,andThen_some] at h
    have ih := mixX_ok r kd _ (k + 1) f1 fl' hk' rfl h
    simp only [vmixX,hka]
    clear hk
    rcases a with _ | _ | _ | a
    ·obtain ⟨d,x,h1,h2⟩ := headL_ok hst
     simp only [h1]
     rw [if_pos (by omega),if_pos (by intro e; rw [hka] at e; cases e),h2]
     exact ih
    ·simp only [Nat.zero_add,stepX_1] at hst
     cases hq : headQ τ Φ N (l0.map (·.dst)) o fl with
     | none => rw [hq] at hst; cases hst
     | some f2 =>
      rw [hq,chkK_some] at hst
      obtain ⟨hh,hqt⟩ := headQ_ok hq
      split at hst <;> simp only [Option.some.injEq,reduceCtorEq] at hst
      rename_i hc
      subst hst
      obtain ⟨d,x,h1,h2⟩ := headL_ok hh
      simp only [Bool.and_eq_true] at hc
      simp only [h1]
      rw [if_pos (by omega),if_pos ?_,h2]
      ·exact ih
      intro _
      refine ⟨fun s hs => ?_,?_,hqt⟩
      ·have := List.all_eq_true.1 hc.1 s hs
       simpa only [Bool.and_eq_true] using this
      ·have h3 := hc.2
       have hd := calm_dst h1
       rw [hd] at h3
       have : mk f2 d = x := by rw [← h2]; simp [upd]
       simp only [offD,this] at h3
       exact h3
    ·obtain ⟨e,h1,h2,h3⟩ := actX_ok (ops := l0.toArray) hst
     simp only [h1]
     rw [if_neg (by omega),if_pos fun _ => h3,h2]
     exact ih
    ·obtain ⟨e,h1,h2⟩ := opL_ok hst
     simp only [h1]
     rw [if_neg (by omega),if_pos (by intro e; rw [hka] at e; omega),h2]
     exact ih

variable {fl : FL} {Q : Exit → Frm → Prop}
theorem VW.wxr (hτ : TyOk P τ) (hΦ : Sound P Φ) (hm : P.follows .mixedOrders = true) (ds : List (Option Nat)) (fl' : FL) (kd : List Nat) (sn : List (List Nat)) (ts : List Nat) {id : Nat} {l : List Oper} (hds : l.map (·.dst) = ds)
  (hsn : l.map (fun o => Op.seen o.op) = sn) (hB : drawX l.toArray kd = true) (hfr : freshB (newDsX kd l) fl = true)
  (h1 : AfterL (mixX τ Φ N ds ts kd sn l fl) fun f => pickL (fl'.map (·.1)) f = fl') (h2 : Q .normal (mk fl')) : VW P N (.region id l.toArray true) (mk fl) Q := by
 subst hds
 refine VW.regX hτ hΦ hm (fl'.map (·.1)) kd ts hB hfr ?_
 cases hv : mixX τ Φ N (l.map (·.dst)) ts kd sn l fl with
 | none => rw [hv] at h1; exact h1.elim
 | some f =>
  rw [hv] at h1
  have h1' : pickL (fl'.map (·.1)) f = fl' := h1
  rw [mixX_ok l kd sn 0 fl f (by simp) hsn hv]
  show Q .normal (keep (fl'.map (·.1)) (mk f))
  rw [keep_mk,h1']
  exact h2
theorem VW.wxs (hτ : TyOk P τ) (hΦ : Sound P Φ) (hm : P.follows .mixedOrders = true) (ds : List (Option Nat)) (fl' : FL) (kd : List Nat) (sn : List (List Nat)) (ts : List Nat) {id : Nat} {l : List Oper} {y : Code} (hds : l.map (·.dst) = ds)
  (hsn : l.map (fun o => Op.seen o.op) = sn) (hB : drawX l.toArray kd = true) (hfr : freshB (newDsX kd l) fl = true)
  (h1 : AfterL (mixX τ Φ N ds ts kd sn l fl) fun f => pickL (fl'.map (·.1)) f = fl') (h2 : VW P N y (mk fl') Q) : VW P N (.seq (.region id l.toArray true) y) (mk fl) Q :=
 VW.seq (VW.wxr hτ hΦ hm ds fl' kd sn ts hds hsn hB hfr h1 h2)
end
end Go.Vam
