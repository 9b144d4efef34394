import Derived.Test.YtomgbldkoehplaaFnN
import Derived.Test.YtomgbldkoehplaaVamZ
namespace Go.Vam
open Go Go.RowKit
set_option maxRecDepth 100000
set_option linter.unusedSimpArgs false
set_option linter.unusedVariables false

def i_AutomorphismFrom_L1 (a0_0 : Int) (a0_1 : List Int) (s8 : (List (List Int)) × Int) (v13 : List Int) (s15 : (List (List Int)) × Int) : Option (((List (List Int)) × Int) ⊕ (List (List Int))) :=
  (if s15.2 < (s8.1.length : Int) then
    (idx s8.1 s15.2).bind fun v20 =>
    (i_Doubling_times a0_0 a0_1 v20 v13).bind fun v21 =>
    (chk (s15.1.length + [v21].length ≤ 1099511627776)).bind fun _ =>
    some (.inl (s15.1 ++ [v21], w64 (s15.2 + 1)))
  else
    some (.inr s15.1))
def i_AutomorphismFrom_L0 (a0_0 : Int) (a0_1 : List Int) (a1 : List (List Int)) (s8 : (List (List Int)) × Int) : Option (((List (List Int)) × Int) ⊕ (List (List Int))) :=
  (if s8.2 < (a1.length : Int) then
    (idx a1 s8.2).bind fun v13 =>
    (chk (s8.1.length ≤ 1099511627776)).bind fun _ =>
    (loop (i_AutomorphismFrom_L1 a0_0 a0_1 s8 v13) BIG (s8.1, 0)).bind fun x15 =>
    some (.inl (x15, w64 (s8.2 + 1)))
  else
    some (.inr s8.1))
def i_AutomorphismFrom (a0_0 : Int) (a0_1 : List Int) (a1 : List (List Int)) : Option ((List (List Int)) × Int) :=
  (i_checkThree a0_0 a0_1 a1 ([] : List (List (List Int)))).bind fun v2 =>
  (if ¬ v2 = 0 then
    some (([] : List (List Int)), v2)
  else
    (if ¬ (a1.length : Int) = (a0_1.length : Int) then
      some (([] : List (List Int)), 2)
    else
      (i_Doubling_element a0_0 a0_1 0).bind fun v6 =>
      (loop (i_AutomorphismFrom_L0 a0_0 a0_1 a1) BIG ([v6], 0)).bind fun x8 =>
      (i_transpose x8).bind fun v23 =>
      (i_Doubling_isAutomorphism a0_0 a0_1 v23).bind fun v25 =>
      (if v25 = false then
        some (([] : List (List Int)), 5)
      else
        some (v23, 0))))

def l_FnExactAutomorphismFrom (a0_0 : Int) (a0_1 : List Int) (a1 : List (List Int)) : Option Bool :=
  (l_szDoubling a0_0 a0_1 1048576).bind fun v1 =>
  (if v1 < 0 then
    some true
  else
    (l_szInt64SS a1 v1).bind fun v4 =>
    (if v4 < 0 then
      some true
    else
      (l_toDoubling a0_0 a0_1).bind fun v7 =>
      (l_toInt64SS a1).bind fun v8 =>
      (s_AutomorphismFrom v7.1 v7.2 v8).bind fun v9 =>
      (l_toDoubling a0_0 a0_1).bind fun v10 =>
      (l_toInt64SS a1).bind fun v11 =>
      (i_AutomorphismFrom v10.1 v10.2 v11).bind fun v12 =>
      ((l_eqInt64SS v12.1 v9.1).bind fun v14 =>
      (if v14 = false then
        some true
      else
        some (!(ieq v12.2 v9.2))) : Option Bool).bind fun x16 =>
      (if x16 = true then
        some false
      else
        (l_toDoubling a0_0 a0_1).bind fun v19 =>
        (l_eqDoubling v10.1 v10.2 v19.1 v19.2).bind fun v20 =>
        (if v20 = false then
          some false
        else
          (l_toInt64SS a1).bind fun v23 =>
          (l_eqInt64SS v11 v23).bind fun v24 =>
          (if v24 = false then
            some false
          else
            (l_markDoubling v10.1 v10.2 1).bind fun v26 =>
            (l_markInt64SS v11 v26).bind fun v27 =>
            ((if v27.1 < 0 then
              some true
            else
              (l_eqInt64SS v12.1 v9.1).bind fun v30 =>
              (if v30 = false then
                some true
              else
                some (!(ieq v12.2 v9.2)))) : Option Bool).bind fun x32 =>
            (if x32 = true then
              some false
            else
              (l_markInt64SS v12.1 1).bind fun v34 =>
              (l_heldInt64SS v34.2 1).bind fun v35 =>
              (if v35 < 0 then
                some false
              else
                (if ¬ v35 = v34.1 then
                  some false
                else
                  (l_toDoubling a0_0 a0_1).bind fun v40 =>
                  (l_toInt64SS a1).bind fun v41 =>
                  (i_AutomorphismFrom v40.1 v40.2 v41).bind fun v42 =>
                  ((l_eqInt64SS v42.1 v9.1).bind fun v44 =>
                  (if v44 = false then
                    some true
                  else
                    some (!(ieq v42.2 v9.2))) : Option Bool).bind fun x46 =>
                  (if x46 = true then
                    some false
                  else
                    (l_heldInt64SS v34.2 1).bind fun v48 =>
                    (if v48 < 0 then
                      some false
                    else
                      (if ¬ v48 = v34.1 then
                        some false
                      else
                        some true)))))))))))

end Go.Vam
