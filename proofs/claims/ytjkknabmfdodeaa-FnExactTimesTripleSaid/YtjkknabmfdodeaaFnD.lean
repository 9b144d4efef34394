import Derived.Test.YtjkknabmfdodeaaFnC
namespace Go.Vam
open Go Go.RowKit
set_option maxRecDepth 100000
set_option linter.unusedSimpArgs false
set_option linter.unusedVariables false

def l_eqTriple (a0_0 : List (List Int)) (a0_1 : List (List Int)) (a0_2 : List (List Int)) (a1_0 : List (List Int)) (a1_1 : List (List Int)) (a1_2 : List (List Int)) : Option Bool :=
  (l_eqInt64SS a0_0 a1_0).bind fun v2 =>
  (if v2 = false then
    some false
  else
    (l_eqInt64SS a0_1 a1_1).bind fun v5 =>
    (if v5 = false then
      some false
    else
      (l_eqInt64SS a0_2 a1_2).bind fun v8 =>
      (if v8 = false then
        some false
      else
        some true)))

end Go.Vam
