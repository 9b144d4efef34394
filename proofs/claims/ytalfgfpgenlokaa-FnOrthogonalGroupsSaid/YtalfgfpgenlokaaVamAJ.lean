/- Parts that stay readable where they go: a slice's literal, an append, an assignment. -/
import Derived.Test.YtalfgfpgenlokaaVamAI
namespace Go.Vam
open Go Go.RowKit
set_option linter.unusedSimpArgs false
set_option linter.unusedVariables false

section
variable {P : Program} {τ : TypeId → TK} {Φ : Orc} {R : Nat → Prop} {B : Nat → Prop} {w0 : W0} {N : Lim} {O : Own} {σ : Frm} {a : Act} {w : World}

end
section
variable {P : Program} {N : Lim} {τ : TypeId → TK} {Φ : Orc}

end
end Go.Vam
