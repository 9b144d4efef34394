import Derived.Test.YtomgbldkoehplaaFnL
import Derived.Test.YtomgbldkoehplaaVamZ
namespace Go.Vam
open Go Go.RowKit
set_option maxRecDepth 100000
set_option linter.unusedSimpArgs false
set_option linter.unusedVariables false

def l_markTriple_m (a0_0 : List (List Int)) (a0_1 : List (List Int)) (a0_2 : List (List Int)) (a1 : Int) : Option (Int × ((List (List Int)) × (List (List Int)) × (List (List Int)))) :=
  (l_markInt64SS a0_0 a1).bind fun v1 =>
  (l_markInt64SS a0_1 v1.1).bind fun v2 =>
  (l_markInt64SS a0_2 v2.1).bind fun v3 =>
  some (v3.1, (v1.2, v2.2, v3.2))

def l_heldTriple (a0_0 : List (List Int)) (a0_1 : List (List Int)) (a0_2 : List (List Int)) (a1 : Int) : Option Int :=
  (l_heldInt64SS a0_0 a1).bind fun v1 =>
  (if v1 < 0 then
    some (-1)
  else
    (l_heldInt64SS a0_1 v1).bind fun v4 =>
    (if v4 < 0 then
      some (-1)
    else
      (l_heldInt64SS a0_2 v4).bind fun v7 =>
      (if v7 < 0 then
        some (-1)
      else
        some v7)))

def l_FnExactRotateTriple (a0_0 : Int) (a0_1 : List Int) (a1_0 : List (List Int)) (a1_1 : List (List Int)) (a1_2 : List (List Int)) : Option Bool :=
  (l_szDoubling a0_0 a0_1 1048576).bind fun v1 =>
  (if v1 < 0 then
    some true
  else
    (l_szTriple a1_0 a1_1 a1_2 v1).bind fun v4 =>
    (if v4 < 0 then
      some true
    else
      (l_toDoubling a0_0 a0_1).bind fun v7 =>
      (l_toTriple a1_0 a1_1 a1_2).bind fun v8 =>
      (s_RotateTriple v7.1 v7.2 v8.1 v8.2.1 v8.2.2).bind fun v9 =>
      (l_toDoubling a0_0 a0_1).bind fun v10 =>
      (l_toTriple a1_0 a1_1 a1_2).bind fun v11 =>
      (i_RotateTriple v10.1 v10.2 v11.1 v11.2.1 v11.2.2).bind fun v12 =>
      ((l_eqTriple v12.1.1 v12.1.2.1 v12.1.2.2 v9.1.1 v9.1.2.1 v9.1.2.2).bind fun v14 =>
      (if v14 = false then
        some true
      else
        some (!(ieq v12.2 v9.2))) : Option Bool).bind fun x16 =>
      (if x16 = true then
        some false
      else
        (l_toDoubling a0_0 a0_1).bind fun v19 =>
        (l_eqDoubling v10.1 v10.2 v19.1 v19.2).bind fun v20 =>
        (if v20 = false then
          some false
        else
          (l_toTriple a1_0 a1_1 a1_2).bind fun v23 =>
          (l_eqTriple v11.1 v11.2.1 v11.2.2 v23.1 v23.2.1 v23.2.2).bind fun v24 =>
          (if v24 = false then
            some false
          else
            (l_markDoubling v10.1 v10.2 1).bind fun v26 =>
            (l_markTriple_m v11.1 v11.2.1 v11.2.2 v26).bind fun v27 =>
            ((if v27.1 < 0 then
              some true
            else
              (l_eqTriple v12.1.1 v12.1.2.1 v12.1.2.2 v9.1.1 v9.1.2.1 v9.1.2.2).bind fun v30 =>
              (if v30 = false then
                some true
              else
                some (!(ieq v12.2 v9.2)))) : Option Bool).bind fun x32 =>
            (if x32 = true then
              some false
            else
              (l_markTriple_m v12.1.1 v12.1.2.1 v12.1.2.2 1).bind fun v34 =>
              (l_heldTriple v34.2.1 v34.2.2.1 v34.2.2.2 1).bind fun v35 =>
              (if v35 < 0 then
                some false
              else
                (if ¬ v35 = v34.1 then
                  some false
                else
                  (l_toDoubling a0_0 a0_1).bind fun v40 =>
                  (l_toTriple a1_0 a1_1 a1_2).bind fun v41 =>
                  (i_RotateTriple v40.1 v40.2 v41.1 v41.2.1 v41.2.2).bind fun v42 =>
                  ((l_eqTriple v42.1.1 v42.1.2.1 v42.1.2.2 v9.1.1 v9.1.2.1 v9.1.2.2).bind fun v44 =>
                  (if v44 = false then
                    some true
                  else
                    some (!(ieq v42.2 v9.2))) : Option Bool).bind fun x46 =>
                  (if x46 = true then
                    some false
                  else
                    (l_heldTriple v34.2.1 v34.2.2.1 v34.2.2.2 1).bind fun v48 =>
                    (if v48 < 0 then
                      some false
                    else
                      (if ¬ v48 = v34.1 then
                        some false
                      else
                        some true)))))))))))

end Go.Vam
