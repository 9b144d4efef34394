/- A call that makes room behind nil: an empty slice of one's own. -/
import Derived.Test.YtijmfifejmgeaaaVamY
namespace Go.Vam
open Go Go.RowKit
set_option linter.unusedSimpArgs false

section
variable {P : Program} {N : Lim}

end
def resWC (a : Tmp) (n : Nat) (xs : List D) (σ : Frm) (k : Nat) : Prop := ∃ k2 p,σ a = .ref k2 p true (.ptr xs) ∧ k2 ≠ k ∧ xs.length = n
def PostWC (a : Tmp) (n : Nat) (xs ys : List D) : Exit → Frm → Prop
 | .normal,σ => ∃ k,σ 0 = .ref k [] false (.ptr ys) ∧ resWC a n xs σ k
 | .ret,σ => ∃ k,σ 0 = .ref k [] false (.ptr ys) ∧ resWC a n xs σ k
 | _,_ => False
section
variable {P : Program} {τ : TypeId → TK}
section
variable {R : Nat → Prop} {B : Nat → Prop} {w0 : W0} {N : Lim} {O : Own} {σ : Frm} {a : Act} {w : World}
end
end

/-! ### Parts of lists of numbers -/
@[simp] theorem all_one_tail (k : IntKind) (xs : List Int) : ((xs.map (D.int k)).tail).all D.one = true := by
 rw [← List.map_tail,List.all_map]; exact List.all_eq_true.2 fun x _ => rfl
@[simp] theorem all_sc_tail (k : IntKind) (xs : List Int) : ((xs.map (D.int k)).tail).all D.sc = true := by
 rw [← List.map_tail,List.all_map]; exact List.all_eq_true.2 fun x _ => rfl
@[simp] theorem all_one_drop (k : IntKind) (xs : List Int) (n : Nat) : ((xs.map (D.int k)).drop n).all D.one = true := by
 rw [← List.map_drop,List.all_map]; exact List.all_eq_true.2 fun x _ => rfl
@[simp] theorem all_sc_drop (k : IntKind) (xs : List Int) (n : Nat) : ((xs.map (D.int k)).drop n).all D.sc = true := by
 rw [← List.map_drop,List.all_map]; exact List.all_eq_true.2 fun x _ => rfl
@[simp] theorem all_one_take (k : IntKind) (xs : List Int) (n : Nat) : ((xs.map (D.int k)).take n).all D.one = true := by
 rw [← List.map_take,List.all_map]; exact List.all_eq_true.2 fun x _ => rfl
@[simp] theorem all_sc_take (k : IntKind) (xs : List Int) (n : Nat) : ((xs.map (D.int k)).take n).all D.sc = true := by
 rw [← List.map_take,List.all_map]; exact List.all_eq_true.2 fun x _ => rfl
end Go.Vam
