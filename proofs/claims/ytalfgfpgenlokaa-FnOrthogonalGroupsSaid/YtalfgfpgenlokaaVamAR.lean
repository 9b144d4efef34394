/- A call that writes behind its first argument and returns several values, some in cells. -/
import Derived.Test.YtalfgfpgenlokaaVamAQ
namespace Go.Vam
open Go Go.RowKit
set_option linter.unusedSimpArgs false
set_option linter.unusedVariables false

section
variable {P : Program} {τ : TypeId → TK}
end
end Go.Vam
