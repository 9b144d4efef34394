/- Arrays of constants, and their elements; closed regions with two operations told by hand. -/
import Derived.Test.YtijmfifejmgeaaaVamAN
namespace Go.Vam
open Go Go.RowKit
set_option linter.unusedSimpArgs false
set_option linter.unusedVariables false

section
variable {P : Program} {τ : TypeId → TK} {Φ : Orc} {N : Lim}

end
end Go.Vam
