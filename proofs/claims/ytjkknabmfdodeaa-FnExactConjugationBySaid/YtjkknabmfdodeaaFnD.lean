import Derived.Test.YtjkknabmfdodeaaFnC
namespace Go.Vam
open Go Go.RowKit
set_option maxRecDepth 100000
set_option linter.unusedSimpArgs false
set_option linter.unusedVariables false

def s_l11Norm_L0 (a0_0 : Int) (a1 : List Int) (v1 : List Int) (s3 : Int × Int) : Option ((Int × Int) ⊕ Int) :=
  (if s3.2 < (a1.length : Int) then
    (idx v1 s3.2).bind fun v8 =>
    (idx a1 s3.2).bind fun v9 =>
    (s_l01Mod a0_0 (w64 (s3.1 + (w64 ((w64 (v8 * v9)) * v9))))).bind fun v10 =>
    some (.inl (v10, w64 (s3.2 + 1)))
  else
    some (.inr s3.1))
def s_l11Norm (a0_0 : Int) (a0_1 : List Int) (a1 : List Int) : Option Int :=
  (s_l11Diagonal a0_0 a0_1).bind fun v1 =>
  (loop (s_l11Norm_L0 a0_0 a1 v1) BIG (0, 0)).bind fun x3 =>
  some x3

def s_ConjugationBy_L0 (a0_0 : Int) (a0_1 : List Int) (a1 : List Int) (v11 : List Int) (s13 : (List (List Int)) × Int) : Option (((List (List Int)) × Int) ⊕ (List (List Int))) :=
  (s_l11Size a0_0 a0_1).bind fun v16 =>
  (if s13.2 < v16 then
    (s_l11One a0_0 a0_1 s13.2).bind fun v19 =>
    (s_l11Times a0_0 a0_1 a1 v19).bind fun v20 =>
    (s_l11Times a0_0 a0_1 v20 v11).bind fun v21 =>
    (chk (s13.1.length + [v21].length ≤ 1099511627776)).bind fun _ =>
    some (.inl (s13.1 ++ [v21], w64 (s13.2 + 1)))
  else
    some (.inr s13.1))
def s_ConjugationBy (a0_0 : Int) (a0_1 : List Int) (a1 : List Int) : Option ((List (List Int)) × Int) :=
  (s_l14Elements a0_0 a0_1 [a1]).bind fun v1 =>
  (if ¬ v1 = 0 then
    some (([] : List (List Int)), v1)
  else
    ((if 2 < (a0_1.length : Int) then
      some true
    else
      (s_l11Norm a0_0 a0_1 a1).bind fun v5 =>
      some (ieq v5 0)) : Option Bool).bind fun x6 =>
    (if x6 = true then
      some (([] : List (List Int)), 5)
    else
      (s_l11Norm a0_0 a0_1 a1).bind fun v8 =>
      (s_l01Inv a0_0 v8).bind fun v9 =>
      (s_l11Star a0_0 a1).bind fun v10 =>
      (s_l11Scale a0_0 v9 v10).bind fun v11 =>
      (loop (s_ConjugationBy_L0 a0_0 a0_1 a1 v11) BIG ([], 0)).bind fun x13 =>
      (s_l11Columns x13).bind fun v23 =>
      some (v23, 0)))

def i_DoubleInverse (a0_0 : Int) (a0_1 : List Int) (a1 : List Int) : Option ((List Int) × Int) :=
  (i_checkElements a0_0 a0_1 [a1]).bind fun v2 =>
  (if ¬ v2 = 0 then
    some (([] : List Int), v2)
  else
    (i_Doubling_norm a0_0 a0_1 a1).bind fun v5 =>
    (if v5 = 0 then
      some (([] : List Int), 5)
    else
      (i_Doubling_field a0_0 a0_1).bind fun v7 =>
      (i_Doubling_field a0_0 a0_1).bind fun v8 =>
      (i_field_conjugate v8 a1).bind fun v9 =>
      (i_Doubling_field a0_0 a0_1).bind fun v10 =>
      (i_Doubling_norm a0_0 a0_1 a1).bind fun v11 =>
      (i_field_inv v10 v11).bind fun v12 =>
      (i_field_scaled v7 v9 v12).bind fun v13 =>
      some (v13, 0)))

def i_ConjugationBy_c1 (a0 : List Int) (a1_0 : Int) (a1_1 : List Int) (a2_0 : List Int) (a3_0 : List Int) : Option (List Int) :=
  (i_Doubling_times a1_0 a1_1 a2_0 a0).bind fun v1 =>
  (i_Doubling_times a1_0 a1_1 v1 a3_0).bind fun v2 =>
  some v2

def i_Doubling_matrixOf_of_i_ConjugationBy_c1_L0 (a1_0_0 : Int) (a1_0_1 : List Int) (a1_1_0 : List Int) (a1_2_0 : List Int) (v3 : List (List Int)) (s4 : (List (List Int)) × Int) : Option (((List (List Int)) × Int) ⊕ (List (List Int))) :=
  (if s4.2 < (v3.length : Int) then
    (idx v3 s4.2).bind fun v9 =>
    (i_ConjugationBy_c1 v9 a1_0_0 a1_0_1 a1_1_0 a1_2_0).bind fun v10 =>
    (chk (s4.1.length + [v10].length ≤ 1099511627776)).bind fun _ =>
    some (.inl (s4.1 ++ [v10], w64 (s4.2 + 1)))
  else
    some (.inr s4.1))
def i_Doubling_matrixOf_of_i_ConjugationBy_c1 (a0_0 : Int) (a0_1 : List Int) (a1_0_0 : Int) (a1_0_1 : List Int) (a1_1_0 : List Int) (a1_2_0 : List Int) : Option (List (List Int)) :=
  (i_Doubling_size a0_0 a0_1).bind fun v2 =>
  (i_unit v2).bind fun v3 =>
  (loop (i_Doubling_matrixOf_of_i_ConjugationBy_c1_L0 a1_0_0 a1_0_1 a1_1_0 a1_2_0 v3) BIG ([], 0)).bind fun x4 =>
  (i_transpose x4).bind fun v12 =>
  some v12

def i_ConjugationBy (a0_0 : Int) (a0_1 : List Int) (a1 : List Int) : Option ((List (List Int)) × Int) :=
  (i_checkThree a0_0 a0_1 [a1] ([] : List (List (List Int)))).bind fun v2 =>
  (if ¬ v2 = 0 then
    some (([] : List (List Int)), v2)
  else
    (i_DoubleInverse a0_0 a0_1 a1).bind fun v4 =>
    ((if ¬ v4.2 = 0 then
      some true
    else
      some (ieq (a0_1.length : Int) 3)) : Option Bool).bind fun x7 =>
    (if x7 = true then
      some (([] : List (List Int)), 5)
    else
      (i_Doubling_matrixOf_of_i_ConjugationBy_c1 a0_0 a0_1 a0_0 a0_1 a1 v4.1).bind fun v9 =>
      some (v9, 0)))

def l_FnExactConjugationBy (a0_0 : Int) (a0_1 : List Int) (a1 : List Int) : Option Bool :=
  (if 1048576 < (a1.length : Int) then
    some true
  else
    (l_szDoubling a0_0 a0_1 1048576).bind fun v3 =>
    (if v3 < 0 then
      some true
    else
      (l_toDoubling a0_0 a0_1).bind fun v6 =>
      (l_toInt64S a1).bind fun v7 =>
      (s_ConjugationBy v6.1 v6.2 v7).bind fun v8 =>
      (l_toDoubling a0_0 a0_1).bind fun v9 =>
      (l_toInt64S a1).bind fun v10 =>
      (i_ConjugationBy v9.1 v9.2 v10).bind fun v11 =>
      ((l_eqInt64SS v11.1 v8.1).bind fun v13 =>
      (if v13 = false then
        some true
      else
        some (!(ieq v11.2 v8.2))) : Option Bool).bind fun x15 =>
      (if x15 = true then
        some false
      else
        (l_toDoubling a0_0 a0_1).bind fun v18 =>
        (l_eqDoubling v9.1 v9.2 v18.1 v18.2).bind fun v19 =>
        (if v19 = false then
          some false
        else
          (l_toInt64S a1).bind fun v22 =>
          (l_eqInt64S v10 v22).bind fun v23 =>
          (if v23 = false then
            some false
          else
            (l_markDoubling v9.1 v9.2 1).bind fun v25 =>
            (l_markInt64S v10 v25).bind fun v26 =>
            ((if v26.1 < 0 then
              some true
            else
              (l_eqInt64SS v11.1 v8.1).bind fun v29 =>
              (if v29 = false then
                some true
              else
                some (!(ieq v11.2 v8.2)))) : Option Bool).bind fun x31 =>
            (if x31 = true then
              some false
            else
              (l_markInt64SS v11.1 1).bind fun v33 =>
              (l_heldInt64SS v33.2 1).bind fun v34 =>
              (if v34 < 0 then
                some false
              else
                (if ¬ v34 = v33.1 then
                  some false
                else
                  (l_toDoubling a0_0 a0_1).bind fun v39 =>
                  (l_toInt64S a1).bind fun v40 =>
                  (i_ConjugationBy v39.1 v39.2 v40).bind fun v41 =>
                  ((l_eqInt64SS v41.1 v8.1).bind fun v43 =>
                  (if v43 = false then
                    some true
                  else
                    some (!(ieq v41.2 v8.2))) : Option Bool).bind fun x45 =>
                  (if x45 = true then
                    some false
                  else
                    (l_heldInt64SS v33.2 1).bind fun v47 =>
                    (if v47 < 0 then
                      some false
                    else
                      (if ¬ v47 = v33.1 then
                        some false
                      else
                        some true)))))))))))

end Go.Vam
