/- A call that takes its last argument, an own list with frozen elements, and gives one back. -/
import Derived.Test.YtijmfifejmgeaaaVamAJ
namespace Go.Vam
open Go Go.RowKit
set_option linter.unusedSimpArgs false
set_option linter.unusedVariables false

theorem OwnF.turn {R R' : Nat → Prop} {w : World} {O O' : Own} {t t' : Nat} {p p' : List Nat} {v : Value} {xs : List D} (h : OwnF R w O t p v (.list xs)) (hO : ∀ g,O g = some (t,p) → O' g = some (t',p'))
  (hF : ∀ g,Fro R O w g → Fro R' O' w g) : OwnF R' w O' t' p' v (.list xs) := by
 cases h with
 | nil => exact .nil
 | list g cap cur E _ vs h1 h2 h3 h4 h5 h6 h7 => exact .list g cap cur E xs vs (hO g h1) h2 h3 h4 h5 h6 fun i hi => (h7 i hi).keep hF fun _ _ => rfl

section
variable {P : Program} {N : Lim}

end
end Go.Vam
