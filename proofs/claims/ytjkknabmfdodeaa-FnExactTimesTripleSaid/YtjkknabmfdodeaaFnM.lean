import Derived.Test.YtjkknabmfdodeaaFnL
import Derived.Test.YtjkknabmfdodeaaVamZ
namespace Go.Vam
open Go Go.RowKit
set_option maxRecDepth 100000
set_option linter.unusedSimpArgs false
set_option linter.unusedVariables false

def l_markTriple_m (a0_0 : List (List Int)) (a0_1 : List (List Int)) (a0_2 : List (List Int)) (a1 : Int) : Option (Int × ((List (List Int)) × (List (List Int)) × (List (List Int)))) :=
  (l_markInt64SS a0_0 a1).bind fun v1 =>
  (l_markInt64SS a0_1 v1.1).bind fun v2 =>
  (l_markInt64SS a0_2 v2.1).bind fun v3 =>
  some (v3.1, (v1.2, v2.2, v3.2))

def l_heldTriple (a0_0 : List (List Int)) (a0_1 : List (List Int)) (a0_2 : List (List Int)) (a1 : Int) : Option Int :=
  (l_heldInt64SS a0_0 a1).bind fun v1 =>
  (if v1 < 0 then
    some (-1)
  else
    (l_heldInt64SS a0_1 v1).bind fun v4 =>
    (if v4 < 0 then
      some (-1)
    else
      (l_heldInt64SS a0_2 v4).bind fun v7 =>
      (if v7 < 0 then
        some (-1)
      else
        some v7)))

def s_l14Times_L0 (a0 : Int) (a1 : List (List Int)) (a2 : List (List Int)) (s2 : (List (List Int)) × Int) : Option (((List (List Int)) × Int) ⊕ (List (List Int))) :=
  (if s2.2 < (a2.length : Int) then
    (s_l14Column a2 s2.2).bind fun v7 =>
    (s_l14Apply a0 a1 v7).bind fun v8 =>
    (chk (s2.1.length + [v8].length ≤ 1099511627776)).bind fun _ =>
    some (.inl (s2.1 ++ [v8], w64 (s2.2 + 1)))
  else
    some (.inr s2.1))
def s_l14Times (a0 : Int) (a1 : List (List Int)) (a2 : List (List Int)) : Option (List (List Int)) :=
  (loop (s_l14Times_L0 a0 a1 a2) BIG ([], 0)).bind fun x2 =>
  (s_l11Columns x2).bind fun v10 =>
  some v10

def s_l15Times (a0 : Int) (a1_0 : List (List Int)) (a1_1 : List (List Int)) (a1_2 : List (List Int)) (a2_0 : List (List Int)) (a2_1 : List (List Int)) (a2_2 : List (List Int)) : Option ((List (List Int)) × (List (List Int)) × (List (List Int))) :=
  (s_l14Times a0 a1_0 a2_0).bind fun v1 =>
  (s_l14Times a0 a1_1 a2_1).bind fun v2 =>
  (s_l14Times a0 a1_2 a2_2).bind fun v3 =>
  some (v1, v2, v3)

def s_TimesTriple (a0_0 : Int) (a0_1 : List Int) (a1_0 : List (List Int)) (a1_1 : List (List Int)) (a1_2 : List (List Int)) (a2_0 : List (List Int)) (a2_1 : List (List Int)) (a2_2 : List (List Int)) : Option (((List (List Int)) × (List (List Int)) × (List (List Int))) × Int) :=
  (s_l15Code a0_0 a0_1 [(a1_0, a1_1, a1_2), (a2_0, a2_1, a2_2)]).bind fun v2 =>
  (if ¬ v2 = 0 then
    some (([], [], []), v2)
  else
    (s_l15Times a0_0 a1_0 a1_1 a1_2 a2_0 a2_1 a2_2).bind fun v4 =>
    some ((v4.1, v4.2.1, v4.2.2), 0))

def i_TimesTriple (a0_0 : Int) (a0_1 : List Int) (a1_0 : List (List Int)) (a1_1 : List (List Int)) (a1_2 : List (List Int)) (a2_0 : List (List Int)) (a2_1 : List (List Int)) (a2_2 : List (List Int)) : Option (((List (List Int)) × (List (List Int)) × (List (List Int))) × Int) :=
  (i_checkTriples a0_0 a0_1 [(a1_0, a1_1, a1_2), (a2_0, a2_1, a2_2)]).bind fun v2 =>
  (if ¬ v2 = 0 then
    some (([], [], []), v2)
  else
    (i_Doubling_field a0_0 a0_1).bind fun v4 =>
    (i_field_times v4 a1_0 a2_0).bind fun v5 =>
    (i_field_times v4 a1_1 a2_1).bind fun v6 =>
    (i_field_times v4 a1_2 a2_2).bind fun v7 =>
    some ((v5, v6, v7), 0))

def l_FnExactTimesTriple (a0_0 : Int) (a0_1 : List Int) (a1_0 : List (List Int)) (a1_1 : List (List Int)) (a1_2 : List (List Int)) (a2_0 : List (List Int)) (a2_1 : List (List Int)) (a2_2 : List (List Int)) : Option Bool :=
  (l_szDoubling a0_0 a0_1 1048576).bind fun v1 =>
  (if v1 < 0 then
    some true
  else
    (l_szTriple a1_0 a1_1 a1_2 v1).bind fun v4 =>
    (if v4 < 0 then
      some true
    else
      (l_szTriple a2_0 a2_1 a2_2 v4).bind fun v7 =>
      (if v7 < 0 then
        some true
      else
        (l_toDoubling a0_0 a0_1).bind fun v10 =>
        (l_toTriple a1_0 a1_1 a1_2).bind fun v11 =>
        (l_toTriple a2_0 a2_1 a2_2).bind fun v12 =>
        (s_TimesTriple v10.1 v10.2 v11.1 v11.2.1 v11.2.2 v12.1 v12.2.1 v12.2.2).bind fun v13 =>
        (l_toDoubling a0_0 a0_1).bind fun v14 =>
        (l_toTriple a1_0 a1_1 a1_2).bind fun v15 =>
        (l_toTriple a2_0 a2_1 a2_2).bind fun v16 =>
        (i_TimesTriple v14.1 v14.2 v15.1 v15.2.1 v15.2.2 v16.1 v16.2.1 v16.2.2).bind fun v17 =>
        ((l_eqTriple v17.1.1 v17.1.2.1 v17.1.2.2 v13.1.1 v13.1.2.1 v13.1.2.2).bind fun v19 =>
        (if v19 = false then
          some true
        else
          some (!(ieq v17.2 v13.2))) : Option Bool).bind fun x21 =>
        (if x21 = true then
          some false
        else
          (l_toDoubling a0_0 a0_1).bind fun v24 =>
          (l_eqDoubling v14.1 v14.2 v24.1 v24.2).bind fun v25 =>
          (if v25 = false then
            some false
          else
            (l_toTriple a1_0 a1_1 a1_2).bind fun v28 =>
            (l_eqTriple v15.1 v15.2.1 v15.2.2 v28.1 v28.2.1 v28.2.2).bind fun v29 =>
            (if v29 = false then
              some false
            else
              (l_toTriple a2_0 a2_1 a2_2).bind fun v32 =>
              (l_eqTriple v16.1 v16.2.1 v16.2.2 v32.1 v32.2.1 v32.2.2).bind fun v33 =>
              (if v33 = false then
                some false
              else
                (l_markDoubling v14.1 v14.2 1).bind fun v35 =>
                (l_markTriple_m v15.1 v15.2.1 v15.2.2 v35).bind fun v36 =>
                (l_markTriple_m v16.1 v16.2.1 v16.2.2 v36.1).bind fun v37 =>
                ((if v37.1 < 0 then
                  some true
                else
                  (l_eqTriple v17.1.1 v17.1.2.1 v17.1.2.2 v13.1.1 v13.1.2.1 v13.1.2.2).bind fun v40 =>
                  (if v40 = false then
                    some true
                  else
                    some (!(ieq v17.2 v13.2)))) : Option Bool).bind fun x42 =>
                (if x42 = true then
                  some false
                else
                  (l_markTriple_m v17.1.1 v17.1.2.1 v17.1.2.2 1).bind fun v44 =>
                  (l_heldTriple v44.2.1 v44.2.2.1 v44.2.2.2 1).bind fun v45 =>
                  (if v45 < 0 then
                    some false
                  else
                    (if ¬ v45 = v44.1 then
                      some false
                    else
                      (l_toDoubling a0_0 a0_1).bind fun v50 =>
                      (l_toTriple a1_0 a1_1 a1_2).bind fun v51 =>
                      (l_toTriple a2_0 a2_1 a2_2).bind fun v52 =>
                      (i_TimesTriple v50.1 v50.2 v51.1 v51.2.1 v51.2.2 v52.1 v52.2.1 v52.2.2).bind fun v53 =>
                      ((l_eqTriple v53.1.1 v53.1.2.1 v53.1.2.2 v13.1.1 v13.1.2.1 v13.1.2.2).bind fun v55 =>
                      (if v55 = false then
                        some true
                      else
                        some (!(ieq v53.2 v13.2))) : Option Bool).bind fun x57 =>
                      (if x57 = true then
                        some false
                      else
                        (l_heldTriple v44.2.1 v44.2.2.1 v44.2.2.2 1).bind fun v59 =>
                        (if v59 < 0 then
                          some false
                        else
                          (if ¬ v59 = v44.1 then
                            some false
                          else
                            some true)))))))))))))

end Go.Vam
