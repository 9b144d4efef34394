/- Regions of open order, where a part of a frozen tuple is taken beside operations that act. -/
import Derived.Test.YtalfgfpgenlokaaVamZ
namespace Go.Vam
open Go Go.RowKit
set_option linter.unusedSimpArgs false

section
variable {P : Program} {τ : TypeId → TK} {Φ : Orc} {N : Lim} {ops : Array Oper} {Qf : Frm → Prop} {ex : List Nat}

def fz (x : VV) : Prop := (∃ ds,x = .tups ds) ∨ ∃ d,x = .val d
@[simp] theorem fz_tups (ds : List D) : fz (.tups ds) = True := by simp [fz]
@[simp] theorem fz_val (d : D) : fz (.val d) = True := by simp [fz]

theorem VCall.frzT {f : FuncId} {ds : List D} {u : Bool} {x y : D} (h : VCall P f ds [.own u x,.sc y]) : VCall P f ds [.tup [x,y]] := by
 refine ⟨h.1,fun w A vs hA hn hv => (h.2 w A vs hA hn hv).mono ?_⟩
 rintro e w' ⟨v,O,he,hb,ho,hi,p,q,rfl,hr1,hr2⟩
 refine ⟨_,fun _ => none,he,hb,(fun g y hy => by simp at hy),(fun g g' y hy => by simp at hy),⟨fun _ => rfl,#[p,q],rfl,rfl,fun i hi => ?_⟩⟩
 have h1 : Rd w' (fun g => (A g ∨ w.heap.size ≤ g) ∧ g < w'.heap.size) p x := Tree.rd hr1 (fun g q hg => ⟨.inr (ho g _ hg).1,(ho g _ hg).2⟩) (fun g hg => ⟨hg.2.2,hg.2.1⟩)
 match i,hi with
 | 0,_ => exact ⟨p,rfl,h1⟩
 | 1,_ => exact ⟨q,rfl,hr2.keep (fun _ hf => hf.elim) fun _ hf => hf.elim⟩
end
end Go.Vam
