import Derived.Test.YtcijfjeeggfgmaaFnF
import Derived.Test.YtcijfjeeggfgmaaVamY
namespace Go.Vam
open Go Go.RowKit
set_option maxRecDepth 100000
set_option linter.unusedSimpArgs false
set_option linter.unusedVariables false

end Go.Vam
