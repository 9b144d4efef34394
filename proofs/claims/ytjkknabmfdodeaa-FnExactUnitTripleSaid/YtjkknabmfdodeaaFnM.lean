import Derived.Test.YtjkknabmfdodeaaFnL
import Derived.Test.YtjkknabmfdodeaaVamZ
namespace Go.Vam
open Go Go.RowKit
set_option maxRecDepth 100000
set_option linter.unusedSimpArgs false
set_option linter.unusedVariables false

def l_markTriple_m (a0_0 : List (List Int)) (a0_1 : List (List Int)) (a0_2 : List (List Int)) (a1 : Int) : Option (Int × ((List (List Int)) × (List (List Int)) × (List (List Int)))) :=
  (l_markInt64SS a0_0 a1).bind fun v1 =>
  (l_markInt64SS a0_1 v1.1).bind fun v2 =>
  (l_markInt64SS a0_2 v2.1).bind fun v3 =>
  some (v3.1, (v1.2, v2.2, v3.2))

def l_heldTriple (a0_0 : List (List Int)) (a0_1 : List (List Int)) (a0_2 : List (List Int)) (a1 : Int) : Option Int :=
  (l_heldInt64SS a0_0 a1).bind fun v1 =>
  (if v1 < 0 then
    some (-1)
  else
    (l_heldInt64SS a0_1 v1).bind fun v4 =>
    (if v4 < 0 then
      some (-1)
    else
      (l_heldInt64SS a0_2 v4).bind fun v7 =>
      (if v7 < 0 then
        some (-1)
      else
        some v7)))

def l_FnExactUnitTriple (a0_0 : Int) (a0_1 : List Int) (a1 : List Int) : Option Bool :=
  (if 1048576 < (a1.length : Int) then
    some true
  else
    (l_szDoubling a0_0 a0_1 1048576).bind fun v3 =>
    (if v3 < 0 then
      some true
    else
      (l_toDoubling a0_0 a0_1).bind fun v6 =>
      (l_toInt64S a1).bind fun v7 =>
      (s_UnitTriple v6.1 v6.2 v7).bind fun v8 =>
      (l_toDoubling a0_0 a0_1).bind fun v9 =>
      (l_toInt64S a1).bind fun v10 =>
      (i_UnitTriple v9.1 v9.2 v10).bind fun v11 =>
      ((l_eqTriple v11.1.1 v11.1.2.1 v11.1.2.2 v8.1.1 v8.1.2.1 v8.1.2.2).bind fun v13 =>
      (if v13 = false then
        some true
      else
        some (!(ieq v11.2 v8.2))) : Option Bool).bind fun x15 =>
      (if x15 = true then
        some false
      else
        (l_toDoubling a0_0 a0_1).bind fun v18 =>
        (l_eqDoubling v9.1 v9.2 v18.1 v18.2).bind fun v19 =>
        (if v19 = false then
          some false
        else
          (l_toInt64S a1).bind fun v22 =>
          (l_eqInt64S v10 v22).bind fun v23 =>
          (if v23 = false then
            some false
          else
            (l_markDoubling v9.1 v9.2 1).bind fun v25 =>
            (l_markInt64S v10 v25).bind fun v26 =>
            ((if v26.1 < 0 then
              some true
            else
              (l_eqTriple v11.1.1 v11.1.2.1 v11.1.2.2 v8.1.1 v8.1.2.1 v8.1.2.2).bind fun v29 =>
              (if v29 = false then
                some true
              else
                some (!(ieq v11.2 v8.2)))) : Option Bool).bind fun x31 =>
            (if x31 = true then
              some false
            else
              (l_markTriple_m v11.1.1 v11.1.2.1 v11.1.2.2 1).bind fun v33 =>
              (l_heldTriple v33.2.1 v33.2.2.1 v33.2.2.2 1).bind fun v34 =>
              (if v34 < 0 then
                some false
              else
                (if ¬ v34 = v33.1 then
                  some false
                else
                  (l_toDoubling a0_0 a0_1).bind fun v39 =>
                  (l_toInt64S a1).bind fun v40 =>
                  (i_UnitTriple v39.1 v39.2 v40).bind fun v41 =>
                  ((l_eqTriple v41.1.1 v41.1.2.1 v41.1.2.2 v8.1.1 v8.1.2.1 v8.1.2.2).bind fun v43 =>
                  (if v43 = false then
                    some true
                  else
                    some (!(ieq v41.2 v8.2))) : Option Bool).bind fun x45 =>
                  (if x45 = true then
                    some false
                  else
                    (l_heldTriple v33.2.1 v33.2.2.1 v33.2.2.2 1).bind fun v47 =>
                    (if v47 < 0 then
                      some false
                    else
                      (if ¬ v47 = v33.1 then
                        some false
                      else
                        some true)))))))))))

end Go.Vam
