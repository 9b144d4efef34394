/- A region of open order whose last operation is told by hand; closures that catch addresses. -/
import Derived.Test.YtalfgfpgenlokaaVamAF
namespace Go.Vam
open Go Go.RowKit
set_option linter.unusedSimpArgs false
set_option linter.unusedVariables false

section
variable {P : Program} {τ : TypeId → TK} {Φ : Orc} {N : Lim} {ops : Array Oper}

end
end Go.Vam
