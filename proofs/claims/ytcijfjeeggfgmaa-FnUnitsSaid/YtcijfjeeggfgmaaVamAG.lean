/- A region of open order whose last operation is told by hand; closures that catch addresses. -/
import Derived.Test.YtcijfjeeggfgmaaVamAF
namespace Go.Vam
open Go Go.RowKit
set_option linter.unusedSimpArgs false
set_option linter.unusedVariables false

section
variable {P : Program} {τ : TypeId → TK} {Φ : Orc} {N : Lim} {ops : Array Oper}

def drawH (ops : Array Oper) (m : Nat) : Bool :=
  decide (m + 1 = ops.size) && ((List.range m).all fun i => reachB ops ops.size m i) && lexB ops ops.size 0 (Array.replicate ops.size false) && decide ((dsts ops.toList).Nodup) && decide (nilT ∉ dsts ops.toList)

end
end Go.Vam
