/- A region of open order, mixed, whose last operation is told by hand. -/
import Derived.Test.YtalfgfpgenlokaaVamAK
namespace Go.Vam
open Go Go.RowKit
set_option linter.unusedSimpArgs false
set_option linter.unusedVariables false

section
variable {P : Program} {τ : TypeId → TK} {Φ : Orc} {N : Lim} {ops : Array Oper} {m : Nat} {Sf : Frm → Prop}

end
end Go.Vam
