/- The evaluation of a mixed region by simp. -/
import Derived.Test.YtijmfifejmgeaaaVamX
namespace Go.Vam
open Go Go.RowKit
set_option linter.unusedSimpArgs false

def offsL (ts sl : List Nat) (fl : FL) : Bool := sl.all fun s => offT ts (mk fl s) && (mk fl s).liv
def offD (ts : List Nat) (d : Option Nat) (fl : FL) : Bool := match d with
  | some d => offT ts (mk fl d)
  | none => true
/-- What only looks, and looks at nothing that hangs on ts. -/
def chkK (ts sl : List Nat) (d : Option Nat) (fl : FL) (r : Option FL) : Option FL := match r with
  | some f => if (offsL ts sl fl && offD ts d f) = true then some f else none
  | none => none
@[congr] theorem chkK_congr {ts sl : List Nat} {d : Option Nat} {fl : FL} {r r' : Option FL} (h : r = r') : chkK ts sl d fl r = chkK ts sl d fl r' := by rw [h]
@[simp] theorem chkK_some (ts sl : List Nat) (d : Option Nat) (fl f : FL) : chkK ts sl d fl (some f) = if (offsL ts sl fl && offD ts d f) = true then some f else none := (rfl)

def pushX (ts : List Nat) (d : Nat) (fl : FL) (r : Option (List Nat × VV)) : Option FL := match r with
  | some (ks, x) => if (ks.all fun k => ts.contains k) = true then some ((d, x) :: fl.map fun q => (q.1, kmap ks q.2)) else none
  | none => none
@[congr] theorem pushX_congr {ts : List Nat} {d : Nat} {fl : FL} {r r' : Option (List Nat × VV)} (h : r = r') : pushX ts d fl r = pushX ts d fl r' := by rw [h]
@[simp] theorem pushX_some (ts : List Nat) (d : Nat) (fl : FL) (ks : List Nat) (x : VV) : pushX ts d fl (some (ks, x)) = if (ks.all fun k => ts.contains k) = true then some ((d, x) :: fl.map fun q => (q.1, kmap ks q.2)) else none := (rfl)

noncomputable def ptrXP (ts : List Nat) (d : Nat) (fl : FL) (t : Nat) (ys ys' : List D) (tk : List Nat) (o : Option (List Nat × VV)) : Option FL := match o with
  | some (ks, y) => if (!(tk ++ ks).contains t && ts.contains t && (tk ++ ks).all fun k => ts.contains k) = true then some ((d, y) :: fl.map fun q => (q.1, kmap (tk ++ ks) (wkVV t ys ys' q.2))) else none
  | none => none
@[simp] theorem ptrXP_some (ts : List Nat) (d : Nat) (fl : FL) (t : Nat) (ys ys' : List D) (tk ks : List Nat) (y : VV) : ptrXP ts d fl t ys ys' tk (some (ks, y)) =
    if (!(tk ++ ks).contains t && ts.contains t && (tk ++ ks).all fun k => ts.contains k) = true then some ((d, y) :: fl.map fun q => (q.1, kmap (tk ++ ks) (wkVV t ys ys' q.2))) else none := (rfl)
noncomputable def ptrXR (ts : List Nat) (d : Nat) (fl : FL) (t : Nat) (ys : List D) (tk : List Nat) (o : Option (List Ret)) : Option FL := match o with
  | some (.ptr ys' :: rs) => ptrXP ts d fl t ys ys' tk (retVV d tk rs)
  | _ => none
@[simp] theorem ptrXR_ptr (ts : List Nat) (d : Nat) (fl : FL) (t : Nat) (ys ys' : List D) (tk : List Nat) (rs : List Ret) : ptrXR ts d fl t ys tk (some (.ptr ys' :: rs)) = ptrXP ts d fl t ys ys' tk (retVV d tk rs) := (rfl)
section
variable (τ : TypeId → TK) (Φ : Orc) (N : Lim)
noncomputable def argX (ts : List Nat) (d : Nat) (op : Op) (fl : FL) (g : FuncId) (x : VV) (tk : List Nat) (ods : Option (List D)) : Option FL := match x, ods with
  | .ref t [] false (.ptr ys), some ds => ptrXR ts d fl t ys tk (Φ d g (.ptr ys :: ds))
  | .val _, _ => pushX ts d fl (vval τ Φ d op (mk fl))
  | _, _ => none
@[simp] theorem argX_ptr (ts : List Nat) (d : Nat) (op : Op) (fl : FL) (g : FuncId) (t : Nat) (ys ds : List D) (tk : List Nat) : argX τ Φ ts d op fl g (.ref t [] false (.ptr ys)) tk (some ds) = ptrXR ts d fl t ys tk (Φ d g (.ptr ys :: ds)) := (rfl)
@[simp] theorem argX_val (ts : List Nat) (d : Nat) (op : Op) (fl : FL) (g : FuncId) (x : D) (tk : List Nat) (o : Option (List D)) : argX τ Φ ts d op fl g (.val x) tk o = pushX ts d fl (vval τ Φ d op (mk fl)) := by cases o <;> rfl
noncomputable def callX (ts : List Nat) (d : Nat) (op : Op) (fl : FL) (fv : VV) (as : List Operand) : Option FL := match fv, as with
  | .val (.fn g []), x :: xs => argX τ Φ ts d op fl g (ev (mk fl) x) (toks (mk fl) xs) (data (mk fl) xs)
  | _, _ => none
@[simp] theorem callX_fn (ts : List Nat) (d : Nat) (op : Op) (fl : FL) (g : FuncId) (x : Operand) (xs : List Operand) : callX τ Φ ts d op fl (.val (.fn g [])) (x :: xs) = argX τ Φ ts d op fl g (ev (mk fl) x) (toks (mk fl) xs) (data (mk fl) xs) := (rfl)
noncomputable def opX (ts : List Nat) (d : Nat) (op : Op) (fl : FL) : Option FL := match op with
  | .call c => match c.callee with
    | .value f => callX τ Φ ts d op fl (ev (mk fl) f) c.args.toList
    | .builtin .append => pushX ts d fl (vval τ Φ d op (mk fl))
    | _ => none
  | .buildSlice _ _ _ => pushX ts d fl (vval τ Φ d op (mk fl))
  | _ => none
@[simp] theorem opX_call (ts : List Nat) (d : Nat) (f : Operand) (as : Array Operand) (tt : Array TypeId) (fl : FL) : opX τ Φ ts d (.call ⟨.value f, as, tt⟩) fl = callX τ Φ ts d (.call ⟨.value f, as, tt⟩) fl (ev (mk fl) f) as.toList := (rfl)
@[simp] theorem opX_app (ts : List Nat) (d : Nat) (as : Array Operand) (tt : Array TypeId) (fl : FL) : opX τ Φ ts d (.call ⟨.builtin .append, as, tt⟩) fl = pushX ts d fl (vval τ Φ d (.call ⟨.builtin .append, as, tt⟩) (mk fl)) := (rfl)
@[simp] theorem opX_bs (ts : List Nat) (d : Nat) (T : TypeId) (n : Nat) (ps : Array (Nat × Operand)) (fl : FL) : opX τ Φ ts d (.buildSlice T n ps) fl = pushX ts d fl (vval τ Φ d (.buildSlice T n ps) (mk fl)) := (rfl)
noncomputable def actX (ts : List Nat) (g : Option (Nat × Bool)) (d : Option Nat) (op : Op) (fl : FL) : Option FL := match g, d with
  | none, some d => if d ∈ N then opX τ Φ ts d op fl else none
  | _, _ => none
@[simp] theorem actX_some (ts : List Nat) (d : Nat) (op : Op) (fl : FL) (h : d ∈ N) : actX τ Φ N ts none (some d) op fl = opX τ Φ ts d op fl := by simp only [actX, h, if_true]
def quietL (r : Option (List Nat × VV)) (x : Option FL) : Option FL := match r with
  | some ([], _) => x
  | _ => none
@[congr] theorem quietL_congr {r r' : Option (List Nat × VV)} {x : Option FL} (h : r = r') : quietL r x = quietL r' x := by rw [h]
@[simp] theorem quietL_some (y : VV) (x : Option FL) : quietL (some ([], y)) x = x := (rfl)
noncomputable def headQ (ds : List (Option Nat)) (o : Oper) (fl : FL) : Option FL := match o.op, o.dst with
  | .call c, some d => quietL (vres τ Φ d (.call c) (mk fl)) (headL τ Φ N ds o fl)
  | .makeSlice _ _ _, _ => none
  | .buildSlice _ _ _, _ => none
  | .alloc _, _ => none
  | _, _ => headL τ Φ N ds o fl
noncomputable def stepX (ds : List (Option Nat)) (ts : List Nat) (k : Nat) (sl : List Nat) (o : Oper) (fl : FL) : Option FL :=
  match k with
  | 0 => headL τ Φ N ds o fl
  | 1 => chkK ts sl o.dst fl (headQ τ Φ N ds o fl)
  | 2 => actX τ Φ N ts o.guard o.dst o.op fl
  | _ => opL τ Φ N ds o fl
@[simp] theorem stepX_0 (ds : List (Option Nat)) (ts sl : List Nat) (o : Oper) (fl : FL) : stepX τ Φ N ds ts 0 sl o fl = headL τ Φ N ds o fl := (rfl)
@[simp] theorem stepX_1 (ds : List (Option Nat)) (ts sl : List Nat) (o : Oper) (fl : FL) : stepX τ Φ N ds ts 1 sl o fl = chkK ts sl o.dst fl (headQ τ Φ N ds o fl) := (rfl)
@[simp] theorem stepX_2 (ds : List (Option Nat)) (ts sl : List Nat) (o : Oper) (fl : FL) : stepX τ Φ N ds ts 2 sl o fl = actX τ Φ N ts o.guard o.dst o.op fl := (rfl)
@[simp] theorem stepX_3 (ds : List (Option Nat)) (ts sl : List Nat) (o : Oper) (fl : FL) : stepX τ Φ N ds ts 3 sl o fl = opL τ Φ N ds o fl := (rfl)

noncomputable def mixX (ds : List (Option Nat)) (ts : List Nat) : List Nat → List (List Nat) → List Oper → FL → Option FL
  | k :: kd, sl :: sn, o :: r, fl => andThen (stepX τ Φ N ds ts k sl o fl) (mixX ds ts kd sn r)
  | [], [], [], fl => some fl
  | _, _, _, _ => none
theorem mixX_cons (ds : List (Option Nat)) (ts : List Nat) (k : Nat) (kd sl : List Nat) (sn : List (List Nat)) (o : Oper) (r : List Oper) (fl : FL) :
    mixX τ Φ N ds ts (k :: kd) (sl :: sn) (o :: r) fl = andThen (stepX τ Φ N ds ts k sl o fl) (mixX τ Φ N ds ts kd sn r) := (rfl)
@[simp] theorem mixX_nil (ds : List (Option Nat)) (ts : List Nat) (fl : FL) : mixX τ Φ N ds ts [] [] [] fl = some fl := (rfl)
end
attribute [simp ↓] mixX_cons
attribute [simp] offsL offD offT VV.liv headQ

section
variable {P : Program} {τ : TypeId → TK} {Φ : Orc} {N : Lim} {ts : List Nat}

variable {fl : FL} {Q : Exit → Frm → Prop}
end
end Go.Vam
