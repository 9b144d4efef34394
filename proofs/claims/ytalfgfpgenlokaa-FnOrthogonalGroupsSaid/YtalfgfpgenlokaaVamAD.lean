/- A clone of an own list whose rows are frozen: the list itself stays. -/
import Derived.Test.YtalfgfpgenlokaaVamAC
namespace Go.Vam
open Go Go.RowKit
set_option linter.unusedSimpArgs false

section
variable {P : Program} {N : Lim} {τ : TypeId → TK}

theorem tree_weak {R : Nat → Prop} {w : World} {O : Own} {t : Nat} {v : Value} {u : Bool} {xs : List D} (h : Tree R w O t [] u v (.list xs)) (hs : u = true → xs.all D.sc = true) : OwnF R w O t [] v (.list xs) := by
 cases u with
 | false => exact h
 | true =>
  cases (h : OwnU w O t [] v (.list xs)) with
  | nil => exact .nil
  | list _ g cap cur E _ vs a1 a2 a3 a4 a5 a6 a7 =>
   exact .list g cap cur E xs vs a1 a2 a3 a4 a5 a6 fun i hi => sc_rd (List.all_eq_true.1 (hs rfl) _ (List.getElem_mem hi)) (a7 i hi) _ _

end
end Go.Vam
