/- A clone of an own list whose rows are frozen: the list itself stays. -/
import Derived.Test.YtijmfifejmgeaaaVamAC
namespace Go.Vam
open Go Go.RowKit
set_option linter.unusedSimpArgs false

section
variable {P : Program} {N : Lim} {τ : TypeId → TK}

end
end Go.Vam
