/- copy, into an own list of numbers. -/
import Derived.Test.YtalfgfpgenlokaaVamAE
namespace Go.Vam
open Go Go.RowKit
set_option linter.unusedSimpArgs false

section
variable {P : Program} {N : Lim} {τ : TypeId → TK}


end
end Go.Vam
