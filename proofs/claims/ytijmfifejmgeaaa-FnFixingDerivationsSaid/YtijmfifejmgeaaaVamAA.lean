/- Regions of open order, where a part of a frozen tuple is taken beside operations that act. -/
import Derived.Test.YtijmfifejmgeaaaVamZ
namespace Go.Vam
open Go Go.RowKit
set_option linter.unusedSimpArgs false

section
variable {P : Program} {τ : TypeId → TK} {Φ : Orc} {N : Lim} {ops : Array Oper} {Qf : Frm → Prop} {ex : List Nat}

end
end Go.Vam
