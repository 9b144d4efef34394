import Derived.Test.YtdoimfkonaeceaaFnC
namespace Go.Vam
open Go Go.RowKit
set_option maxRecDepth 100000
set_option linter.unusedSimpArgs false
set_option linter.unusedVariables false

def s_l14Derivation_L1 (a0_0 : Int) (a0_1 : List Int) (a1 : List (List Int)) (v1 : List (List Int)) (v2 : Int) (s4 : Int) (s10 : Int) : Option (Int ⊕ (Unit ⊕ (Int ⊕ (Unit ⊕ Bool)))) :=
  (if s10 < v2 then
    (idx v1 s4).bind fun v16 =>
    (idx v16 s10).bind fun v17 =>
    (s_l14Column a1 (bxor .i64 s4 s10)).bind fun v18 =>
    (s_l11Scale a0_0 v17 v18).bind fun v19 =>
    (s_l14Column a1 s4).bind fun v20 =>
    (s_l11One a0_0 a0_1 s10).bind fun v21 =>
    (s_l11Times a0_0 a0_1 v20 v21).bind fun v22 =>
    (s_l11One a0_0 a0_1 s4).bind fun v23 =>
    (s_l14Column a1 s10).bind fun v24 =>
    (s_l11Times a0_0 a0_1 v23 v24).bind fun v25 =>
    (s_l11Add a0_0 v22 v25).bind fun v26 =>
    (s_l01Same v19 v26).bind fun v27 =>
    (if v27 = false then
      some (.inr (.inr (.inr (.inr false))))
    else
      some (.inl (w64 (s10 + 1))))
  else
    some (.inr (.inl ())))
def s_l14Derivation_L0 (a0_0 : Int) (a0_1 : List Int) (a1 : List (List Int)) (v1 : List (List Int)) (v2 : Int) (s4 : Int) : Option (Int ⊕ (Unit ⊕ Bool)) :=
  (if s4 < v2 then
    (loop (s_l14Derivation_L1 a0_0 a0_1 a1 v1 v2 s4) BIG 0).bind fun x10 =>
    (match x10 with
    | .inl y12 =>
      some (.inl (w64 (s4 + 1)))
    | .inr t => some t)
  else
    some (.inr (.inl ())))
def s_l14Derivation (a0_0 : Int) (a0_1 : List Int) (a1 : List (List Int)) : Option Bool :=
  (s_l11Basis a0_0 a0_1).bind fun v1 =>
  (s_l11Size a0_0 a0_1).bind fun v2 =>
  (loop (s_l14Derivation_L0 a0_0 a0_1 a1 v1 v2) BIG 0).bind fun x4 =>
  (match x4 with
  | .inl y6 =>
    some true
  | .inr t => some t)

def s_IsDerivation (a0_0 : Int) (a0_1 : List Int) (a1 : List (List Int)) : Option (Bool × Int) :=
  (s_l14Two a0_0 a0_1 [a1]).bind fun v2 =>
  (if ¬ v2 = 0 then
    some (false, v2)
  else
    (s_l14Derivation a0_0 a0_1 a1).bind fun v4 =>
    some (v4, 0))

def i_column_L0 (a0 : List (List Int)) (a1 : Int) (s2 : (List Int) × Int) : Option (((List Int) × Int) ⊕ (List Int)) :=
  (if s2.2 < (a0.length : Int) then
    (idx a0 s2.2).bind fun v7 =>
    (idx v7 a1).bind fun v8 =>
    (chk (s2.1.length + [v8].length ≤ 1099511627776)).bind fun _ =>
    some (.inl (s2.1 ++ [v8], w64 (s2.2 + 1)))
  else
    some (.inr s2.1))
def i_column (a0 : List (List Int)) (a1 : Int) : Option (List Int) :=
  (loop (i_column_L0 a0 a1) BIG ([], 0)).bind fun x2 =>
  some x2

def i_isZero (a0 : List Int) : Option Bool :=
  (i_lead a0).bind fun v1 =>
  some (ieq v1 (a0.length : Int))

def i_Doubling_isDerivation_L1 (a0_0 : Int) (a0_1 : List Int) (a1 : List (List Int)) (v1 : Int) (s5 : Int) (v11 : List Int) (v13 : List (List Int)) (s14 : Int) : Option (Int ⊕ (Unit ⊕ (Int ⊕ (Unit ⊕ Bool)))) :=
  (if s14 < (v13.length : Int) then
    (idx v13 s14).bind fun v20 =>
    (i_column a1 s5).bind fun v21 =>
    (i_Doubling_times a0_0 a0_1 v21 v20).bind fun v22 =>
    (i_column a1 s14).bind fun v23 =>
    (i_Doubling_times a0_0 a0_1 v11 v23).bind fun v24 =>
    (i_field_plus v1 v22 v24 1).bind fun v25 =>
    (i_Doubling_times a0_0 a0_1 v11 v20).bind fun v26 =>
    (i_field_apply v1 a1 v26).bind fun v27 =>
    (i_field_plus v1 v25 v27 (-1)).bind fun v28 =>
    (i_isZero v28).bind fun v29 =>
    (if v29 = false then
      some (.inr (.inr (.inr (.inr false))))
    else
      some (.inl (w64 (s14 + 1))))
  else
    some (.inr (.inl ())))
def i_Doubling_isDerivation_L0 (a0_0 : Int) (a0_1 : List Int) (a1 : List (List Int)) (v1 : Int) (v4 : List (List Int)) (s5 : Int) : Option (Int ⊕ (Unit ⊕ Bool)) :=
  (if s5 < (v4.length : Int) then
    (idx v4 s5).bind fun v11 =>
    (i_Doubling_size a0_0 a0_1).bind fun v12 =>
    (i_unit v12).bind fun v13 =>
    (loop (i_Doubling_isDerivation_L1 a0_0 a0_1 a1 v1 s5 v11 v13) BIG 0).bind fun x14 =>
    (match x14 with
    | .inl y16 =>
      some (.inl (w64 (s5 + 1)))
    | .inr t => some t)
  else
    some (.inr (.inl ())))
def i_Doubling_isDerivation (a0_0 : Int) (a0_1 : List Int) (a1 : List (List Int)) : Option Bool :=
  (i_Doubling_field a0_0 a0_1).bind fun v1 =>
  (i_Doubling_size a0_0 a0_1).bind fun v3 =>
  (i_unit v3).bind fun v4 =>
  (loop (i_Doubling_isDerivation_L0 a0_0 a0_1 a1 v1 v4) BIG 0).bind fun x5 =>
  (match x5 with
  | .inl y7 =>
    some true
  | .inr t => some t)

def i_IsDerivation (a0_0 : Int) (a0_1 : List Int) (a1 : List (List Int)) : Option (Bool × Int) :=
  (i_checkThree a0_0 a0_1 ([] : List (List Int)) [a1]).bind fun v2 =>
  (if ¬ v2 = 0 then
    some (false, v2)
  else
    (i_Doubling_isDerivation a0_0 a0_1 a1).bind fun v4 =>
    some (v4, 0))

def l_FnExactIsDerivation (a0_0 : Int) (a0_1 : List Int) (a1 : List (List Int)) : Option Bool :=
  (l_szDoubling a0_0 a0_1 1048576).bind fun v1 =>
  (if v1 < 0 then
    some true
  else
    (l_szInt64SS a1 v1).bind fun v4 =>
    (if v4 < 0 then
      some true
    else
      (l_toDoubling a0_0 a0_1).bind fun v7 =>
      (l_toInt64SS a1).bind fun v8 =>
      (s_IsDerivation v7.1 v7.2 v8).bind fun v9 =>
      (l_toDoubling a0_0 a0_1).bind fun v10 =>
      (l_toInt64SS a1).bind fun v11 =>
      (i_IsDerivation v10.1 v10.2 v11).bind fun v12 =>
      ((if (v12.1 != v9.1) = true then
        some true
      else
        some (!(ieq v12.2 v9.2))) : Option Bool).bind fun x15 =>
      (if x15 = true then
        some false
      else
        (l_toDoubling a0_0 a0_1).bind fun v18 =>
        (l_eqDoubling v10.1 v10.2 v18.1 v18.2).bind fun v19 =>
        (if v19 = false then
          some false
        else
          (l_toInt64SS a1).bind fun v22 =>
          (l_eqInt64SS v11 v22).bind fun v23 =>
          (if v23 = false then
            some false
          else
            some true)))))

def s_l11Norm_L0 (a0_0 : Int) (a1 : List Int) (v1 : List Int) (s3 : Int × Int) : Option ((Int × Int) ⊕ Int) :=
  (if s3.2 < (a1.length : Int) then
    (idx v1 s3.2).bind fun v8 =>
    (idx a1 s3.2).bind fun v9 =>
    (s_l01Mod a0_0 (w64 (s3.1 + (w64 ((w64 (v8 * v9)) * v9))))).bind fun v10 =>
    some (.inl (v10, w64 (s3.2 + 1)))
  else
    some (.inr s3.1))
def s_l11Norm (a0_0 : Int) (a0_1 : List Int) (a1 : List Int) : Option Int :=
  (s_l11Diagonal a0_0 a0_1).bind fun v1 =>
  (loop (s_l11Norm_L0 a0_0 a1 v1) BIG (0, 0)).bind fun x3 =>
  some x3

def s_ConjugationBy_L0 (a0_0 : Int) (a0_1 : List Int) (a1 : List Int) (v11 : List Int) (s13 : (List (List Int)) × Int) : Option (((List (List Int)) × Int) ⊕ (List (List Int))) :=
  (s_l11Size a0_0 a0_1).bind fun v16 =>
  (if s13.2 < v16 then
    (s_l11One a0_0 a0_1 s13.2).bind fun v19 =>
    (s_l11Times a0_0 a0_1 a1 v19).bind fun v20 =>
    (s_l11Times a0_0 a0_1 v20 v11).bind fun v21 =>
    (chk (s13.1.length + [v21].length ≤ 1099511627776)).bind fun _ =>
    some (.inl (s13.1 ++ [v21], w64 (s13.2 + 1)))
  else
    some (.inr s13.1))
def s_ConjugationBy (a0_0 : Int) (a0_1 : List Int) (a1 : List Int) : Option ((List (List Int)) × Int) :=
  (s_l14Elements a0_0 a0_1 [a1]).bind fun v1 =>
  (if ¬ v1 = 0 then
    some (([] : List (List Int)), v1)
  else
    ((if 2 < (a0_1.length : Int) then
      some true
    else
      (s_l11Norm a0_0 a0_1 a1).bind fun v5 =>
      some (ieq v5 0)) : Option Bool).bind fun x6 =>
    (if x6 = true then
      some (([] : List (List Int)), 5)
    else
      (s_l11Norm a0_0 a0_1 a1).bind fun v8 =>
      (s_l01Inv a0_0 v8).bind fun v9 =>
      (s_l11Star a0_0 a1).bind fun v10 =>
      (s_l11Scale a0_0 v9 v10).bind fun v11 =>
      (loop (s_ConjugationBy_L0 a0_0 a0_1 a1 v11) BIG ([], 0)).bind fun x13 =>
      (s_l11Columns x13).bind fun v23 =>
      some (v23, 0)))

def i_DoubleInverse (a0_0 : Int) (a0_1 : List Int) (a1 : List Int) : Option ((List Int) × Int) :=
  (i_checkElements a0_0 a0_1 [a1]).bind fun v2 =>
  (if ¬ v2 = 0 then
    some (([] : List Int), v2)
  else
    (i_Doubling_norm a0_0 a0_1 a1).bind fun v5 =>
    (if v5 = 0 then
      some (([] : List Int), 5)
    else
      (i_Doubling_field a0_0 a0_1).bind fun v7 =>
      (i_Doubling_field a0_0 a0_1).bind fun v8 =>
      (i_field_conjugate v8 a1).bind fun v9 =>
      (i_Doubling_field a0_0 a0_1).bind fun v10 =>
      (i_Doubling_norm a0_0 a0_1 a1).bind fun v11 =>
      (i_field_inv v10 v11).bind fun v12 =>
      (i_field_scaled v7 v9 v12).bind fun v13 =>
      some (v13, 0)))

def i_ConjugationBy_c1 (a0 : List Int) (a1_0 : Int) (a1_1 : List Int) (a2_0 : List Int) (a3_0 : List Int) : Option (List Int) :=
  (i_Doubling_times a1_0 a1_1 a2_0 a0).bind fun v1 =>
  (i_Doubling_times a1_0 a1_1 v1 a3_0).bind fun v2 =>
  some v2

def i_Doubling_matrixOf_of_i_ConjugationBy_c1_L0 (a1_0_0 : Int) (a1_0_1 : List Int) (a1_1_0 : List Int) (a1_2_0 : List Int) (v3 : List (List Int)) (s4 : (List (List Int)) × Int) : Option (((List (List Int)) × Int) ⊕ (List (List Int))) :=
  (if s4.2 < (v3.length : Int) then
    (idx v3 s4.2).bind fun v9 =>
    (i_ConjugationBy_c1 v9 a1_0_0 a1_0_1 a1_1_0 a1_2_0).bind fun v10 =>
    (chk (s4.1.length + [v10].length ≤ 1099511627776)).bind fun _ =>
    some (.inl (s4.1 ++ [v10], w64 (s4.2 + 1)))
  else
    some (.inr s4.1))
def i_Doubling_matrixOf_of_i_ConjugationBy_c1 (a0_0 : Int) (a0_1 : List Int) (a1_0_0 : Int) (a1_0_1 : List Int) (a1_1_0 : List Int) (a1_2_0 : List Int) : Option (List (List Int)) :=
  (i_Doubling_size a0_0 a0_1).bind fun v2 =>
  (i_unit v2).bind fun v3 =>
  (loop (i_Doubling_matrixOf_of_i_ConjugationBy_c1_L0 a1_0_0 a1_0_1 a1_1_0 a1_2_0 v3) BIG ([], 0)).bind fun x4 =>
  (i_transpose x4).bind fun v12 =>
  some v12

def i_ConjugationBy (a0_0 : Int) (a0_1 : List Int) (a1 : List Int) : Option ((List (List Int)) × Int) :=
  (i_checkThree a0_0 a0_1 [a1] ([] : List (List (List Int)))).bind fun v2 =>
  (if ¬ v2 = 0 then
    some (([] : List (List Int)), v2)
  else
    (i_DoubleInverse a0_0 a0_1 a1).bind fun v4 =>
    ((if ¬ v4.2 = 0 then
      some true
    else
      some (ieq (a0_1.length : Int) 3)) : Option Bool).bind fun x7 =>
    (if x7 = true then
      some (([] : List (List Int)), 5)
    else
      (i_Doubling_matrixOf_of_i_ConjugationBy_c1 a0_0 a0_1 a0_0 a0_1 a1 v4.1).bind fun v9 =>
      some (v9, 0)))

def l_FnExactConjugationBy (a0_0 : Int) (a0_1 : List Int) (a1 : List Int) : Option Bool :=
  (if 1048576 < (a1.length : Int) then
    some true
  else
    (l_szDoubling a0_0 a0_1 1048576).bind fun v3 =>
    (if v3 < 0 then
      some true
    else
      (l_toDoubling a0_0 a0_1).bind fun v6 =>
      (l_toInt64S a1).bind fun v7 =>
      (s_ConjugationBy v6.1 v6.2 v7).bind fun v8 =>
      (l_toDoubling a0_0 a0_1).bind fun v9 =>
      (l_toInt64S a1).bind fun v10 =>
      (i_ConjugationBy v9.1 v9.2 v10).bind fun v11 =>
      ((l_eqInt64SS v11.1 v8.1).bind fun v13 =>
      (if v13 = false then
        some true
      else
        some (!(ieq v11.2 v8.2))) : Option Bool).bind fun x15 =>
      (if x15 = true then
        some false
      else
        (l_toDoubling a0_0 a0_1).bind fun v18 =>
        (l_eqDoubling v9.1 v9.2 v18.1 v18.2).bind fun v19 =>
        (if v19 = false then
          some false
        else
          (l_toInt64S a1).bind fun v22 =>
          (l_eqInt64S v10 v22).bind fun v23 =>
          (if v23 = false then
            some false
          else
            (l_markDoubling v9.1 v9.2 1).bind fun v25 =>
            (l_markInt64S v10 v25).bind fun v26 =>
            ((if v26.1 < 0 then
              some true
            else
              (l_eqInt64SS v11.1 v8.1).bind fun v29 =>
              (if v29 = false then
                some true
              else
                some (!(ieq v11.2 v8.2)))) : Option Bool).bind fun x31 =>
            (if x31 = true then
              some false
            else
              (l_markInt64SS v11.1 1).bind fun v33 =>
              (l_heldInt64SS v33.2 1).bind fun v34 =>
              (if v34 < 0 then
                some false
              else
                (if ¬ v34 = v33.1 then
                  some false
                else
                  (l_toDoubling a0_0 a0_1).bind fun v39 =>
                  (l_toInt64S a1).bind fun v40 =>
                  (i_ConjugationBy v39.1 v39.2 v40).bind fun v41 =>
                  ((l_eqInt64SS v41.1 v8.1).bind fun v43 =>
                  (if v43 = false then
                    some true
                  else
                    some (!(ieq v41.2 v8.2))) : Option Bool).bind fun x45 =>
                  (if x45 = true then
                    some false
                  else
                    (l_heldInt64SS v33.2 1).bind fun v47 =>
                    (if v47 < 0 then
                      some false
                    else
                      (if ¬ v47 = v33.1 then
                        some false
                      else
                        some true)))))))))))

def s_l02Inverse_L0 (a1 : List (List Int)) (v1 : List (List Int)) (s3 : (List (List Int)) × Int) : Option (((List (List Int)) × Int) ⊕ (List (List Int))) :=
  (if s3.2 < (a1.length : Int) then
    (idx a1 s3.2).bind fun v8 =>
    (s_l01Own v8).bind fun v9 =>
    (idx v1 s3.2).bind fun v10 =>
    (chk (v9.length + v10.length ≤ 1099511627776)).bind fun _ =>
    (chk (s3.1.length + [v9 ++ v10].length ≤ 1099511627776)).bind fun _ =>
    some (.inl (s3.1 ++ [v9 ++ v10], w64 (s3.2 + 1)))
  else
    some (.inr s3.1))
def s_l02Inverse_L1 (a1 : List (List Int)) (v13 : List (List Int)) (s15 : (List (List Int)) × Int) : Option (((List (List Int)) × Int) ⊕ (List (List Int))) :=
  (if s15.2 < (v13.length : Int) then
    (idx v13 s15.2).bind fun v20 =>
    (chk (0 ≤ (a1.length : Int) ∧ (a1.length : Int) ≤ (v20.length : Int))).bind fun _ =>
    (s_l01Own (v20.drop (a1.length : Int).toNat)).bind fun v22 =>
    (chk (s15.1.length + [v22].length ≤ 1099511627776)).bind fun _ =>
    some (.inl (s15.1 ++ [v22], w64 (s15.2 + 1)))
  else
    some (.inr s15.1))
def s_l02Inverse (a0 : Int) (a1 : List (List Int)) : Option (List (List Int)) :=
  (s_l02Unit (a1.length : Int)).bind fun v1 =>
  (loop (s_l02Inverse_L0 a1 v1) BIG ([], 0)).bind fun x3 =>
  (s_l02Basis a0 x3).bind fun v13 =>
  (loop (s_l02Inverse_L1 a1 v13) BIG ([], 0)).bind fun x15 =>
  some x15

def s_InverseMatrix (a0 : Int) (a1 : List (List Int)) : Option ((List (List Int)) × Int) :=
  (s_l02Square a0 a1).bind fun v1 =>
  ((if v1 = 0 then
    (s_l02Det a0 a1).bind fun v4 =>
    some (ieq v4 0)
  else
    some false) : Option Bool).bind fun x5 =>
  ((if x5 = true then
    some 5
  else
    some v1) : Option Int).bind fun x6 =>
  (if ¬ x6 = 0 then
    some (([] : List (List Int)), x6)
  else
    (s_l02Inverse a0 a1).bind fun v11 =>
    some (v11, 0))

def s_l11Left_L0 (a0_0 : Int) (a0_1 : List Int) (a1 : List Int) (s2 : (List (List Int)) × Int) : Option (((List (List Int)) × Int) ⊕ (List (List Int))) :=
  (s_l11Size a0_0 a0_1).bind fun v5 =>
  (if s2.2 < v5 then
    (s_l11One a0_0 a0_1 s2.2).bind fun v8 =>
    (s_l11Times a0_0 a0_1 a1 v8).bind fun v9 =>
    (chk (s2.1.length + [v9].length ≤ 1099511627776)).bind fun _ =>
    some (.inl (s2.1 ++ [v9], w64 (s2.2 + 1)))
  else
    some (.inr s2.1))
def s_l11Left (a0_0 : Int) (a0_1 : List Int) (a1 : List Int) : Option (List (List Int)) :=
  (loop (s_l11Left_L0 a0_0 a0_1 a1) BIG ([], 0)).bind fun x2 =>
  (s_l11Columns x2).bind fun v11 =>
  some v11

def s_l11Right_L0 (a0_0 : Int) (a0_1 : List Int) (a1 : List Int) (s2 : (List (List Int)) × Int) : Option (((List (List Int)) × Int) ⊕ (List (List Int))) :=
  (s_l11Size a0_0 a0_1).bind fun v5 =>
  (if s2.2 < v5 then
    (s_l11One a0_0 a0_1 s2.2).bind fun v8 =>
    (s_l11Times a0_0 a0_1 v8 a1).bind fun v9 =>
    (chk (s2.1.length + [v9].length ≤ 1099511627776)).bind fun _ =>
    some (.inl (s2.1 ++ [v9], w64 (s2.2 + 1)))
  else
    some (.inr s2.1))
def s_l11Right (a0_0 : Int) (a0_1 : List Int) (a1 : List Int) : Option (List (List Int)) :=
  (loop (s_l11Right_L0 a0_0 a0_1 a1) BIG ([], 0)).bind fun x2 =>
  (s_l11Columns x2).bind fun v11 =>
  some v11

def s_l15Unit_L0 (a0_0 : Int) (a0_1 : List Int) (v1 : List Int) (s3 : (List (List Int)) × Int) : Option (((List (List Int)) × Int) ⊕ (List (List Int))) :=
  (s_l11Size a0_0 a0_1).bind fun v6 =>
  (if s3.2 < v6 then
    (s_l11One a0_0 a0_1 s3.2).bind fun v9 =>
    (s_l11Times a0_0 a0_1 v1 v9).bind fun v10 =>
    (s_l11Times a0_0 a0_1 v10 v1).bind fun v11 =>
    (chk (s3.1.length + [v11].length ≤ 1099511627776)).bind fun _ =>
    some (.inl (s3.1 ++ [v11], w64 (s3.2 + 1)))
  else
    some (.inr s3.1))
def s_l15Unit (a0_0 : Int) (a0_1 : List Int) (a1 : List Int) : Option ((List (List Int)) × (List (List Int)) × (List (List Int))) :=
  (s_l11Star a0_0 a1).bind fun v1 =>
  (loop (s_l15Unit_L0 a0_0 a0_1 v1) BIG ([], 0)).bind fun x3 =>
  (s_l11Left a0_0 a0_1 a1).bind fun v13 =>
  (s_l11Right a0_0 a0_1 a1).bind fun v14 =>
  (s_l11Columns x3).bind fun v15 =>
  some (v13, v14, v15)

def s_UnitTriple (a0_0 : Int) (a0_1 : List Int) (a1 : List Int) : Option (((List (List Int)) × (List (List Int)) × (List (List Int))) × Int) :=
  (s_l14Elements a0_0 a0_1 [a1]).bind fun v1 =>
  (if ¬ v1 = 0 then
    some (([], [], []), v1)
  else
    (s_l11Norm a0_0 a0_1 a1).bind fun v4 =>
    (if ¬ v4 = 1 then
      some (([], [], []), 5)
    else
      (s_l15Unit a0_0 a0_1 a1).bind fun v6 =>
      some ((v6.1, v6.2.1, v6.2.2), 0)))

def i_Doubling_left_L0 (a0_0 : Int) (a0_1 : List Int) (a1 : List Int) (v3 : List (List Int)) (s4 : (List (List Int)) × Int) : Option (((List (List Int)) × Int) ⊕ (List (List Int))) :=
  (if s4.2 < (v3.length : Int) then
    (idx v3 s4.2).bind fun v9 =>
    (i_Doubling_times a0_0 a0_1 a1 v9).bind fun v10 =>
    (chk (s4.1.length + [v10].length ≤ 1099511627776)).bind fun _ =>
    some (.inl (s4.1 ++ [v10], w64 (s4.2 + 1)))
  else
    some (.inr s4.1))
def i_Doubling_left (a0_0 : Int) (a0_1 : List Int) (a1 : List Int) : Option (List (List Int)) :=
  (i_Doubling_size a0_0 a0_1).bind fun v2 =>
  (i_unit v2).bind fun v3 =>
  (loop (i_Doubling_left_L0 a0_0 a0_1 a1 v3) BIG ([], 0)).bind fun x4 =>
  (i_transpose x4).bind fun v12 =>
  some v12

def i_Doubling_right_L0 (a0_0 : Int) (a0_1 : List Int) (a1 : List Int) (v3 : List (List Int)) (s4 : (List (List Int)) × Int) : Option (((List (List Int)) × Int) ⊕ (List (List Int))) :=
  (if s4.2 < (v3.length : Int) then
    (idx v3 s4.2).bind fun v9 =>
    (i_Doubling_times a0_0 a0_1 v9 a1).bind fun v10 =>
    (chk (s4.1.length + [v10].length ≤ 1099511627776)).bind fun _ =>
    some (.inl (s4.1 ++ [v10], w64 (s4.2 + 1)))
  else
    some (.inr s4.1))
def i_Doubling_right (a0_0 : Int) (a0_1 : List Int) (a1 : List Int) : Option (List (List Int)) :=
  (i_Doubling_size a0_0 a0_1).bind fun v2 =>
  (i_unit v2).bind fun v3 =>
  (loop (i_Doubling_right_L0 a0_0 a0_1 a1 v3) BIG ([], 0)).bind fun x4 =>
  (i_transpose x4).bind fun v12 =>
  some v12

def i_UnitTriple_c1 (a0 : List Int) (a1_0 : Int) (a1_1 : List Int) (a2_0 : List Int) : Option (List Int) :=
  (i_Doubling_times a1_0 a1_1 a2_0 a0).bind fun v1 =>
  (i_Doubling_times a1_0 a1_1 v1 a2_0).bind fun v2 =>
  some v2

def i_Doubling_matrixOf_of_i_UnitTriple_c1_L0 (a1_0_0 : Int) (a1_0_1 : List Int) (a1_1_0 : List Int) (v3 : List (List Int)) (s4 : (List (List Int)) × Int) : Option (((List (List Int)) × Int) ⊕ (List (List Int))) :=
  (if s4.2 < (v3.length : Int) then
    (idx v3 s4.2).bind fun v9 =>
    (i_UnitTriple_c1 v9 a1_0_0 a1_0_1 a1_1_0).bind fun v10 =>
    (chk (s4.1.length + [v10].length ≤ 1099511627776)).bind fun _ =>
    some (.inl (s4.1 ++ [v10], w64 (s4.2 + 1)))
  else
    some (.inr s4.1))
def i_Doubling_matrixOf_of_i_UnitTriple_c1 (a0_0 : Int) (a0_1 : List Int) (a1_0_0 : Int) (a1_0_1 : List Int) (a1_1_0 : List Int) : Option (List (List Int)) :=
  (i_Doubling_size a0_0 a0_1).bind fun v2 =>
  (i_unit v2).bind fun v3 =>
  (loop (i_Doubling_matrixOf_of_i_UnitTriple_c1_L0 a1_0_0 a1_0_1 a1_1_0 v3) BIG ([], 0)).bind fun x4 =>
  (i_transpose x4).bind fun v12 =>
  some v12

def i_UnitTriple (a0_0 : Int) (a0_1 : List Int) (a1 : List Int) : Option (((List (List Int)) × (List (List Int)) × (List (List Int))) × Int) :=
  (i_checkThree a0_0 a0_1 [a1] ([] : List (List (List Int)))).bind fun v2 =>
  (if ¬ v2 = 0 then
    some (([], [], []), v2)
  else
    (i_Doubling_norm a0_0 a0_1 a1).bind fun v5 =>
    (if ¬ v5 = 1 then
      some (([], [], []), 5)
    else
      (i_Doubling_field a0_0 a0_1).bind fun v7 =>
      (i_field_conjugate v7 a1).bind fun v8 =>
      (i_Doubling_left a0_0 a0_1 a1).bind fun v9 =>
      (i_Doubling_right a0_0 a0_1 a1).bind fun v10 =>
      (i_Doubling_matrixOf_of_i_UnitTriple_c1 a0_0 a0_1 a0_0 a0_1 v8).bind fun v11 =>
      some ((v9, v10, v11), 0)))

def l_eqTriple (a0_0 : List (List Int)) (a0_1 : List (List Int)) (a0_2 : List (List Int)) (a1_0 : List (List Int)) (a1_1 : List (List Int)) (a1_2 : List (List Int)) : Option Bool :=
  (l_eqInt64SS a0_0 a1_0).bind fun v2 =>
  (if v2 = false then
    some false
  else
    (l_eqInt64SS a0_1 a1_1).bind fun v5 =>
    (if v5 = false then
      some false
    else
      (l_eqInt64SS a0_2 a1_2).bind fun v8 =>
      (if v8 = false then
        some false
      else
        some true)))

def l_markTriple (a0_0 : List (List Int)) (a0_1 : List (List Int)) (a0_2 : List (List Int)) (a1 : Int) : Option Int :=
  (l_markInt64SS a0_0 a1).bind fun v1 =>
  (l_markInt64SS a0_1 v1.1).bind fun v2 =>
  (l_markInt64SS a0_2 v2.1).bind fun v3 =>
  some v3.1

def s_l14Equations_L2 (a0_0 : Int) (v1 : List (List Int)) (v2 : Int) (s4 : (List (List Int)) × Int) (s9 : (List (List Int)) × Int) (s14 : (List (List Int)) × Int) : Option (((List (List Int)) × Int) ⊕ (List (List Int))) :=
  (if s14.2 < v2 then
    (chk (0 ≤ (w64 (v2 * v2)) ∧ (w64 (v2 * v2)) ≤ 1099511627776)).bind fun _ =>
    (some (List.replicate (w64 (v2 * v2)).toNat 0)).bind fun l20 =>
    (idx l20 (w64 ((w64 (s14.2 * v2)) + (bxor .i64 s4.2 s9.2)))).bind fun v21 =>
    (idx v1 s4.2).bind fun v22 =>
    (idx v22 s9.2).bind fun v23 =>
    (s_l01Mod a0_0 (w64 (v21 + v23))).bind fun v24 =>
    (some (l20.set (w64 ((w64 (s14.2 * v2)) + (bxor .i64 s4.2 s9.2))).toNat v24)).bind fun l25 =>
    (idx l25 (w64 ((w64 ((bxor .i64 s14.2 s9.2) * v2)) + s4.2))).bind fun v26 =>
    (idx v1 (bxor .i64 s14.2 s9.2)).bind fun v27 =>
    (idx v27 s9.2).bind fun v28 =>
    (s_l01Mod a0_0 (w64 (v26 - v28))).bind fun v29 =>
    (some (l25.set (w64 ((w64 ((bxor .i64 s14.2 s9.2) * v2)) + s4.2)).toNat v29)).bind fun l30 =>
    (idx l30 (w64 ((w64 ((bxor .i64 s14.2 s4.2) * v2)) + s9.2))).bind fun v31 =>
    (idx v22 (bxor .i64 s14.2 s4.2)).bind fun v32 =>
    (s_l01Mod a0_0 (w64 (v31 - v32))).bind fun v33 =>
    (chk (s14.1.length + [l30.set (w64 ((w64 ((bxor .i64 s14.2 s4.2) * v2)) + s9.2)).toNat v33].length ≤ 1099511627776)).bind fun _ =>
    some (.inl (s14.1 ++ [l30.set (w64 ((w64 ((bxor .i64 s14.2 s4.2) * v2)) + s9.2)).toNat v33], w64 (s14.2 + 1)))
  else
    some (.inr s14.1))
def s_l14Equations_L1 (a0_0 : Int) (v1 : List (List Int)) (v2 : Int) (s4 : (List (List Int)) × Int) (s9 : (List (List Int)) × Int) : Option (((List (List Int)) × Int) ⊕ (List (List Int))) :=
  (if s9.2 < v2 then
    (loop (s_l14Equations_L2 a0_0 v1 v2 s4 s9) BIG (s9.1, 0)).bind fun x14 =>
    some (.inl (x14, w64 (s9.2 + 1)))
  else
    some (.inr s9.1))
def s_l14Equations_L0 (a0_0 : Int) (v1 : List (List Int)) (v2 : Int) (s4 : (List (List Int)) × Int) : Option (((List (List Int)) × Int) ⊕ (List (List Int))) :=
  (if s4.2 < v2 then
    (loop (s_l14Equations_L1 a0_0 v1 v2 s4) BIG (s4.1, 0)).bind fun x9 =>
    some (.inl (x9, w64 (s4.2 + 1)))
  else
    some (.inr s4.1))
def s_l14Equations (a0_0 : Int) (a0_1 : List Int) : Option (List (List Int)) :=
  (s_l11Basis a0_0 a0_1).bind fun v1 =>
  (s_l11Size a0_0 a0_1).bind fun v2 =>
  (loop (s_l14Equations_L0 a0_0 v1 v2) BIG ([], 0)).bind fun x4 =>
  some x4

def s_l14Basis (a0_0 : Int) (a0_1 : List Int) : Option (List (List Int)) :=
  (s_l11Size a0_0 a0_1).bind fun v1 =>
  (s_l14Equations a0_0 a0_1).bind fun v2 =>
  (s_l12Kernel a0_0 (w64 (v1 * v1)) v2).bind fun v3 =>
  some v3

def s_DerivationDimension (a0_0 : Int) (a0_1 : List Int) : Option (Int × Int) :=
  (s_l14Code a0_0 a0_1).bind fun v2 =>
  (if ¬ v2 = 0 then
    some (0, v2)
  else
    (s_l14Basis a0_0 a0_1).bind fun v4 =>
    some ((v4.length : Int), 0))

def s_IsAutomorphism (a0_0 : Int) (a0_1 : List Int) (a1 : List (List Int)) : Option (Bool × Int) :=
  (s_l14Two a0_0 a0_1 [a1]).bind fun v2 =>
  (if ¬ v2 = 0 then
    some (false, v2)
  else
    (s_l14Automorphism a0_0 a0_1 a1).bind fun v4 =>
    some (v4, 0))

def g_slices_Equal_LI_I_L0 (a0 : List Int) (a1 : List Int) (s4 : Int) : Option (Int ⊕ (Unit ⊕ Bool)) :=
  (if s4 < (a0.length : Int) then
    (idx a0 s4).bind fun v10 =>
    (idx a1 s4).bind fun v11 =>
    (if ¬ v10 = v11 then
      some (.inr (.inr false))
    else
      some (.inl (w64 (s4 + 1))))
  else
    some (.inr (.inl ())))
def g_slices_Equal_LI_I (a0 : List Int) (a1 : List Int) : Option Bool :=
  (if ¬ (a0.length : Int) = (a1.length : Int) then
    some false
  else
    (loop (g_slices_Equal_LI_I_L0 a0 a1) BIG 0).bind fun x4 =>
    (match x4 with
    | .inl y6 =>
      some true
    | .inr t => some t))

def i_Doubling_isAutomorphism_L1 (a0_0 : Int) (a0_1 : List Int) (a1 : List (List Int)) (v1 : Int) (s8 : Int) (v14 : List Int) (v16 : List (List Int)) (s17 : Int) : Option (Int ⊕ (Unit ⊕ (Int ⊕ (Unit ⊕ Bool)))) :=
  (if s17 < (v16.length : Int) then
    (idx v16 s17).bind fun v23 =>
    (i_Doubling_times a0_0 a0_1 v14 v23).bind fun v24 =>
    (i_field_apply v1 a1 v24).bind fun v25 =>
    (i_column a1 s8).bind fun v26 =>
    (i_column a1 s17).bind fun v27 =>
    (i_Doubling_times a0_0 a0_1 v26 v27).bind fun v28 =>
    (g_slices_Equal_LI_I v25 v28).bind fun v29 =>
    (if v29 = false then
      some (.inr (.inr (.inr (.inr false))))
    else
      some (.inl (w64 (s17 + 1))))
  else
    some (.inr (.inl ())))
def i_Doubling_isAutomorphism_L0 (a0_0 : Int) (a0_1 : List Int) (a1 : List (List Int)) (v1 : Int) (v7 : List (List Int)) (s8 : Int) : Option (Int ⊕ (Unit ⊕ Bool)) :=
  (if s8 < (v7.length : Int) then
    (idx v7 s8).bind fun v14 =>
    (i_Doubling_size a0_0 a0_1).bind fun v15 =>
    (i_unit v15).bind fun v16 =>
    (loop (i_Doubling_isAutomorphism_L1 a0_0 a0_1 a1 v1 s8 v14 v16) BIG 0).bind fun x17 =>
    (match x17 with
    | .inl y19 =>
      some (.inl (w64 (s8 + 1)))
    | .inr t => some t)
  else
    some (.inr (.inl ())))
def i_Doubling_isAutomorphism (a0_0 : Int) (a0_1 : List Int) (a1 : List (List Int)) : Option Bool :=
  (i_Doubling_field a0_0 a0_1).bind fun v1 =>
  (i_field_determinant v1 a1).bind fun v3 =>
  (if v3 = 0 then
    some false
  else
    (i_Doubling_size a0_0 a0_1).bind fun v6 =>
    (i_unit v6).bind fun v7 =>
    (loop (i_Doubling_isAutomorphism_L0 a0_0 a0_1 a1 v1 v7) BIG 0).bind fun x8 =>
    (match x8 with
    | .inl y10 =>
      some true
    | .inr t => some t))

def i_IsAutomorphism (a0_0 : Int) (a0_1 : List Int) (a1 : List (List Int)) : Option (Bool × Int) :=
  (i_checkThree a0_0 a0_1 ([] : List (List Int)) [a1]).bind fun v2 =>
  (if ¬ v2 = 0 then
    some (false, v2)
  else
    (i_Doubling_isAutomorphism a0_0 a0_1 a1).bind fun v4 =>
    some (v4, 0))

def l_FnExactIsAutomorphism (a0_0 : Int) (a0_1 : List Int) (a1 : List (List Int)) : Option Bool :=
  (l_szDoubling a0_0 a0_1 1048576).bind fun v1 =>
  (if v1 < 0 then
    some true
  else
    (l_szInt64SS a1 v1).bind fun v4 =>
    (if v4 < 0 then
      some true
    else
      (l_toDoubling a0_0 a0_1).bind fun v7 =>
      (l_toInt64SS a1).bind fun v8 =>
      (s_IsAutomorphism v7.1 v7.2 v8).bind fun v9 =>
      (l_toDoubling a0_0 a0_1).bind fun v10 =>
      (l_toInt64SS a1).bind fun v11 =>
      (i_IsAutomorphism v10.1 v10.2 v11).bind fun v12 =>
      ((if (v12.1 != v9.1) = true then
        some true
      else
        some (!(ieq v12.2 v9.2))) : Option Bool).bind fun x15 =>
      (if x15 = true then
        some false
      else
        (l_toDoubling a0_0 a0_1).bind fun v18 =>
        (l_eqDoubling v10.1 v10.2 v18.1 v18.2).bind fun v19 =>
        (if v19 = false then
          some false
        else
          (l_toInt64SS a1).bind fun v22 =>
          (l_eqInt64SS v11 v22).bind fun v23 =>
          (if v23 = false then
            some false
          else
            some true)))))

def s_l01Same2_L0 (a0 : List (List Int)) (a1 : List (List Int)) (s4 : Int) : Option (Int ⊕ (Unit ⊕ Bool)) :=
  (if s4 < (a0.length : Int) then
    (idx a0 s4).bind fun v10 =>
    (idx a1 s4).bind fun v11 =>
    (s_l01Same v10 v11).bind fun v12 =>
    (if v12 = false then
      some (.inr (.inr false))
    else
      some (.inl (w64 (s4 + 1))))
  else
    some (.inr (.inl ())))
def s_l01Same2 (a0 : List (List Int)) (a1 : List (List Int)) : Option Bool :=
  (if ¬ (a0.length : Int) = (a1.length : Int) then
    some false
  else
    (loop (s_l01Same2_L0 a0 a1) BIG 0).bind fun x4 =>
    (match x4 with
    | .inl y6 =>
      some true
    | .inr t => some t))

def s_OrthogonalOrder_L0 (a0_0 : Int) (a1 : List (List Int)) (v4 : List (List Int)) (s6 : (List (List Int)) × Int) : Option (((List (List Int)) × Int) ⊕ (Int ⊕ (Int × Int))) :=
  (s_l01Same2 s6.1 v4).bind fun v10 =>
  (if v10 = false then
    (s_l02Times a0_0 s6.1 a1).bind fun v12 =>
    (if 100000 < (w64 (s6.2 + 1)) then
      some (.inr (.inr (0, 3)))
    else
      some (.inl (v12, w64 (s6.2 + 1))))
  else
    some (.inr (.inl s6.2)))
def s_OrthogonalOrder (a0_0 : Int) (a0_1 : List Int) (a1 : List (List Int)) : Option (Int × Int) :=
  (s_l08Code a0_0 a0_1 a1).bind fun v1 =>
  (if ¬ v1 = 0 then
    some (0, v1)
  else
    (s_l02Unit (a1.length : Int)).bind fun v4 =>
    (loop (s_OrthogonalOrder_L0 a0_0 a1 v4) BIG (a1, 1)).bind fun x6 =>
    (match x6 with
    | .inl y8 =>
      some (y8, 0)
    | .inr t => some t))

def g_slices_EqualFunc_LLI_LLI_LI_LI_of_g_slices_Equal_LI_I_L0 (a0 : List (List Int)) (a1 : List (List Int)) (s4 : Int) : Option (Int ⊕ (Unit ⊕ Bool)) :=
  (if s4 < (a0.length : Int) then
    (idx a0 s4).bind fun v10 =>
    (idx a1 s4).bind fun v11 =>
    (g_slices_Equal_LI_I v10 v11).bind fun v12 =>
    (if v12 = false then
      some (.inr (.inr false))
    else
      some (.inl (w64 (s4 + 1))))
  else
    some (.inr (.inl ())))
def g_slices_EqualFunc_LLI_LLI_LI_LI_of_g_slices_Equal_LI_I (a0 : List (List Int)) (a1 : List (List Int)) : Option Bool :=
  (if ¬ (a0.length : Int) = (a1.length : Int) then
    some false
  else
    (loop (g_slices_EqualFunc_LLI_LLI_LI_LI_of_g_slices_Equal_LI_I_L0 a0 a1) BIG 0).bind fun x4 =>
    (match x4 with
    | .inl y6 =>
      some true
    | .inr t => some t))

def i_sameRows (a0 : List (List Int)) (a1 : List (List Int)) : Option Bool :=
  (g_slices_EqualFunc_LLI_LLI_LI_LI_of_g_slices_Equal_LI_I a0 a1).bind fun v1 =>
  some v1

def i_OrthogonalOrder_L0 (a0_0 : Int) (a0_1 : List Int) (a1 : List (List Int)) (v5 : List (List Int)) (s7 : (List (List Int)) × Int) : Option (((List (List Int)) × Int) ⊕ (Unit ⊕ (Int × Int))) :=
  (if s7.2 ≤ 100000 then
    (i_sameRows s7.1 v5).bind fun v14 =>
    (if v14 = true then
      some (.inr (.inr (s7.2, 0)))
    else
      (i_Space_field a0_0 a0_1).bind fun v16 =>
      (i_field_times v16 s7.1 a1).bind fun v17 =>
      some (.inl (v17, w64 (s7.2 + 1))))
  else
    some (.inr (.inl ())))
def i_OrthogonalOrder (a0_0 : Int) (a0_1 : List Int) (a1 : List (List Int)) : Option (Int × Int) :=
  (i_checkOrthogonal a0_0 a0_1 a1).bind fun v2 =>
  (if ¬ v2 = 0 then
    some (0, v2)
  else
    (i_Space_dim a0_0 a0_1).bind fun v4 =>
    (i_unit v4).bind fun v5 =>
    (loop (i_OrthogonalOrder_L0 a0_0 a0_1 a1 v5) BIG (a1, 1)).bind fun x7 =>
    (match x7 with
    | .inl y9 =>
      some (0, 3)
    | .inr t => some t))

def l_FnExactOrthogonalOrder (a0_0 : Int) (a0_1 : List Int) (a1 : List (List Int)) : Option Bool :=
  (l_szSpace a0_0 a0_1 1048576).bind fun v1 =>
  (if v1 < 0 then
    some true
  else
    (l_szInt64SS a1 v1).bind fun v4 =>
    (if v4 < 0 then
      some true
    else
      (l_toSpace a0_0 a0_1).bind fun v7 =>
      (l_toInt64SS a1).bind fun v8 =>
      (s_OrthogonalOrder v7.1 v7.2 v8).bind fun v9 =>
      (l_toSpace a0_0 a0_1).bind fun v10 =>
      (l_toInt64SS a1).bind fun v11 =>
      (i_OrthogonalOrder v10.1 v10.2 v11).bind fun v12 =>
      ((if ¬ v12.1 = v9.1 then
        some true
      else
        some (!(ieq v12.2 v9.2))) : Option Bool).bind fun x15 =>
      (if x15 = true then
        some false
      else
        (l_toSpace a0_0 a0_1).bind fun v18 =>
        (l_eqSpace v10.1 v10.2 v18.1 v18.2).bind fun v19 =>
        (if v19 = false then
          some false
        else
          (l_toInt64SS a1).bind fun v22 =>
          (l_eqInt64SS v11 v22).bind fun v23 =>
          (if v23 = false then
            some false
          else
            some true)))))

def s_FixingDimension_L1 (a1 : List Int) (v4 : Int) (s7 : (List (List Int)) × Int) (s14 : (List Int) × Int) : Option (((List Int) × Int) ⊕ (List Int)) :=
  (if s14.2 < v4 then
    (idx a1 s14.2).bind fun v19 =>
    (idx s14.1 (w64 ((w64 (s7.2 * v4)) + s14.2))).bind fun v20 =>
    some (.inl (s14.1.set (w64 ((w64 (s7.2 * v4)) + s14.2)).toNat v19, w64 (s14.2 + 1)))
  else
    some (.inr s14.1))
def s_FixingDimension_L0 (a1 : List Int) (v4 : Int) (s7 : (List (List Int)) × Int) : Option (((List (List Int)) × Int) ⊕ (List (List Int))) :=
  (if s7.2 < v4 then
    (chk (0 ≤ (w64 (v4 * v4)) ∧ (w64 (v4 * v4)) ≤ 1099511627776)).bind fun _ =>
    (loop (s_FixingDimension_L1 a1 v4 s7) BIG (List.replicate (w64 (v4 * v4)).toNat 0, 0)).bind fun x14 =>
    (chk (s7.1.length + [x14].length ≤ 1099511627776)).bind fun _ =>
    some (.inl (s7.1 ++ [x14], w64 (s7.2 + 1)))
  else
    some (.inr s7.1))
def s_FixingDimension (a0_0 : Int) (a0_1 : List Int) (a1 : List Int) : Option (Int × Int) :=
  (s_l14Elements a0_0 a0_1 [a1]).bind fun v2 =>
  (if ¬ v2 = 0 then
    some (0, v2)
  else
    (s_l11Size a0_0 a0_1).bind fun v4 =>
    (s_l14Equations a0_0 a0_1).bind fun v5 =>
    (loop (s_FixingDimension_L0 a1 v4) BIG (v5, 0)).bind fun x7 =>
    (s_l12Kernel a0_0 (w64 (v4 * v4)) x7).bind fun v22 =>
    some ((v22.length : Int), 0))

def s_l07Reflect (a0_0 : Int) (a0_1 : List Int) (a1 : List Int) (a2 : List Int) : Option (List Int) :=
  (s_l03Pair a0_0 a0_1 a1 a2).bind fun v1 =>
  (chk (¬ a0_0 = 0)).bind fun _ =>
  (s_l03Pair a0_0 a0_1 a1 a1).bind fun v3 =>
  (s_l01Inv a0_0 v3).bind fun v4 =>
  (chk (¬ a0_0 = 0)).bind fun _ =>
  (chk (¬ a0_0 = 0)).bind fun _ =>
  (s_l02Plus a0_0 a2 a1 ((w64 (a0_0 - ((w64 (((w64 (2 * v1)).tmod a0_0) * v4)).tmod a0_0))).tmod a0_0)).bind fun v7 =>
  some v7

def s_l08Reflection_L0 (a0_0 : Int) (a0_1 : List Int) (a1 : List Int) (s2 : (List (List Int)) × Int) : Option (((List (List Int)) × Int) ⊕ (List (List Int))) :=
  (if s2.2 < (a0_1.length : Int) then
    (chk (0 ≤ (a0_1.length : Int) ∧ (a0_1.length : Int) ≤ 1099511627776)).bind fun _ =>
    (some (List.replicate (a0_1.length : Int).toNat 0)).bind fun l8 =>
    (idx l8 s2.2).bind fun v9 =>
    (s_l07Reflect a0_0 a0_1 a1 (l8.set s2.2.toNat 1)).bind fun v10 =>
    (chk (s2.1.length + [v10].length ≤ 1099511627776)).bind fun _ =>
    some (.inl (s2.1 ++ [v10], w64 (s2.2 + 1)))
  else
    some (.inr s2.1))
def s_l08Reflection (a0_0 : Int) (a0_1 : List Int) (a1 : List Int) : Option (List (List Int)) :=
  (loop (s_l08Reflection_L0 a0_0 a0_1 a1) BIG ([], 0)).bind fun x2 =>
  (s_l02Turn x2).bind fun v12 =>
  some v12

def s_l14Cut_L0 (a0 : List Int) (a1 : Int) (s2 : (List (List Int)) × Int) : Option (((List (List Int)) × Int) ⊕ (List (List Int))) :=
  (if s2.2 < (a0.length : Int) then
    (chk (0 ≤ s2.2 ∧ s2.2 ≤ (w64 (s2.2 + a1)) ∧ (w64 (s2.2 + a1)) ≤ (a0.length : Int))).bind fun _ =>
    (s_l01Own ((a0.take (w64 (s2.2 + a1)).toNat).drop s2.2.toNat)).bind fun v8 =>
    (chk (s2.1.length + [v8].length ≤ 1099511627776)).bind fun _ =>
    some (.inl (s2.1 ++ [v8], w64 (s2.2 + a1)))
  else
    some (.inr s2.1))
def s_l14Cut (a0 : List Int) (a1 : Int) : Option (List (List Int)) :=
  (loop (s_l14Cut_L0 a0 a1) BIG ([], 0)).bind fun x2 =>
  some x2

def s_DerivationBasis_L0 (a0_0 : Int) (a0_1 : List Int) (v4 : List (List Int)) (s6 : (List (List (List Int))) × Int) : Option (((List (List (List Int))) × Int) ⊕ (List (List (List Int)))) :=
  (if s6.2 < (v4.length : Int) then
    (idx v4 s6.2).bind fun v11 =>
    (s_l11Size a0_0 a0_1).bind fun v12 =>
    (s_l14Cut v11 v12).bind fun v13 =>
    (chk (s6.1.length + [v13].length ≤ 1099511627776)).bind fun _ =>
    some (.inl (s6.1 ++ [v13], w64 (s6.2 + 1)))
  else
    some (.inr s6.1))
def s_DerivationBasis (a0_0 : Int) (a0_1 : List Int) : Option ((List (List (List Int))) × Int) :=
  (s_l14Code a0_0 a0_1).bind fun v2 =>
  (if ¬ v2 = 0 then
    some (([] : List (List (List Int))), v2)
  else
    (s_l14Basis a0_0 a0_1).bind fun v4 =>
    (loop (s_DerivationBasis_L0 a0_0 a0_1 v4) BIG ([], 0)).bind fun x6 =>
    some (x6, 0))

def s_l13Sub_L0 (a1 : List Int) (s5 : (List Bool) × (List Int) × Int) : Option (((List Bool) × (List Int) × Int) ⊕ ((List Bool) × (List Int))) :=
  (if s5.2.2 < (a1.length : Int) then
    ((idx a1 s5.2.2).bind fun v11 =>
    (idx s5.1 v11).bind fun v12 =>
    (if v12 = false then
      (chk (s5.2.1.length + [v11].length ≤ 1099511627776)).bind fun _ =>
      some (s5.1.set v11.toNat true, s5.2.1 ++ [v11])
    else
      some (s5.1, s5.2.1)) : Option ((List Bool) × (List Int))).bind fun x9 =>
    some (.inl (x9.1, x9.2, w64 (s5.2.2 + 1)))
  else
    some (.inr (s5.1, s5.2.1)))
def s_l13Sub_L3 (s32 : (List Bool) × (List Int) × (List Int) × Int) : Option (((List Bool) × (List Int) × (List Int) × Int) ⊕ ((List Bool) × (List Int))) :=
  (if s32.2.2.2 < 2 then
    ((idx s32.2.2.1 s32.2.2.2).bind fun v38 =>
    (idx s32.1 v38).bind fun v39 =>
    (if v39 = false then
      (chk (s32.2.1.length + [v38].length ≤ 1099511627776)).bind fun _ =>
      some (s32.1.set v38.toNat true, s32.2.1 ++ [v38])
    else
      some (s32.1, s32.2.1)) : Option ((List Bool) × (List Int))).bind fun x36 =>
    some (.inl (x36.1, x36.2, s32.2.2.1, w64 (s32.2.2.2 + 1)))
  else
    some (.inr (s32.1, s32.2.1)))
def s_l13Sub_L2 (a0 : List (List Int)) (s16 : (List Bool) × (List Int) × Int) (s21 : (List Bool) × (List Int) × Int) : Option (((List Bool) × (List Int) × Int) ⊕ ((List Bool) × (List Int))) :=
  (if s21.2.2 ≤ s16.2.2 then
    (idx s21.2.1 s16.2.2).bind fun v26 =>
    (idx a0 v26).bind fun v27 =>
    (idx s21.2.1 s21.2.2).bind fun v28 =>
    (idx v27 v28).bind fun v29 =>
    (idx a0 v28).bind fun v30 =>
    (idx v30 v26).bind fun v31 =>
    (loop s_l13Sub_L3 BIG (s21.1, s21.2.1, [v29, v31], 0)).bind fun x32 =>
    some (.inl (x32.1, x32.2, w64 (s21.2.2 + 1)))
  else
    some (.inr (s21.1, s21.2.1)))
def s_l13Sub_L1 (a0 : List (List Int)) (s16 : (List Bool) × (List Int) × Int) : Option (((List Bool) × (List Int) × Int) ⊕ (List Bool)) :=
  (if s16.2.2 < (s16.2.1.length : Int) then
    (loop (s_l13Sub_L2 a0 s16) BIG (s16.1, s16.2.1, 0)).bind fun x21 =>
    some (.inl (x21.1, x21.2, w64 (s16.2.2 + 1)))
  else
    some (.inr s16.1))
def s_l13Sub_L4 (a0 : List (List Int)) (x16 : List Bool) (s43 : (List Int) × Int) : Option (((List Int) × Int) ⊕ (List Int)) :=
  (if s43.2 < (a0.length : Int) then
    ((idx x16 s43.2).bind fun v49 =>
    (if v49 = true then
      (chk (s43.1.length + [s43.2].length ≤ 1099511627776)).bind fun _ =>
      some (s43.1 ++ [s43.2])
    else
      some s43.1) : Option (List Int)).bind fun x47 =>
    some (.inl (x47, w64 (s43.2 + 1)))
  else
    some (.inr s43.1))
def s_l13Sub (a0 : List (List Int)) (a1 : List Int) : Option (List Int) :=
  (chk (0 ≤ (a0.length : Int) ∧ (a0.length : Int) ≤ 1099511627776)).bind fun _ =>
  (some (List.replicate (a0.length : Int).toNat false)).bind fun l2 =>
  (idx l2 0).bind fun v3 =>
  (loop (s_l13Sub_L0 a1) BIG (l2.set 0 true, [0], 0)).bind fun x5 =>
  (loop (s_l13Sub_L1 a0) BIG (x5.1, x5.2, 0)).bind fun x16 =>
  (loop (s_l13Sub_L4 a0 x16) BIG ([], 0)).bind fun x43 =>
  some x43

def s_SubloopFrom_L0 (a0 : List (List Int)) (a1 : List Int) (s5 : Int) : Option (Int ⊕ (Unit ⊕ ((List Int) × Int))) :=
  (if s5 < (a1.length : Int) then
    (idx a1 s5).bind fun v11 =>
    (s_l01In v11 0 (w64 ((a0.length : Int) - 1))).bind fun v12 =>
    (if v12 = false then
      some (.inr (.inr (([] : List Int), 2)))
    else
      some (.inl (w64 (s5 + 1))))
  else
    some (.inr (.inl ())))
def s_SubloopFrom (a0 : List (List Int)) (a1 : List Int) : Option ((List Int) × Int) :=
  (s_l13Is a0).bind fun v2 =>
  (if v2 = false then
    some (([] : List Int), 1)
  else
    (loop (s_SubloopFrom_L0 a0 a1) BIG 0).bind fun x5 =>
    (match x5 with
    | .inl y7 =>
      (s_l13Sub a0 a1).bind fun v14 =>
      some (v14, 0)
    | .inr t => some t))

def s_IsDiassociativeLoop_L4 (a0 : List (List Int)) (v18 : List Int) (s19 : Int) (s25 : Int) (s31 : Int) : Option (Int ⊕ (Unit ⊕ (Int ⊕ (Unit ⊕ (Int ⊕ (Unit ⊕ (Int ⊕ (Unit ⊕ (Int ⊕ (Unit ⊕ (Bool × Int))))))))))) :=
  (if s31 < (v18.length : Int) then
    (idx v18 s19).bind fun v37 =>
    (idx v18 s25).bind fun v38 =>
    (idx v18 s31).bind fun v39 =>
    (s_l13Associates a0 v37 v38 v39).bind fun v40 =>
    (if v40 = false then
      some (.inr (.inr (.inr (.inr (.inr (.inr (.inr (.inr (.inr (.inr (false, 0)))))))))))
    else
      some (.inl (w64 (s31 + 1))))
  else
    some (.inr (.inl ())))
def s_IsDiassociativeLoop_L3 (a0 : List (List Int)) (v18 : List Int) (s19 : Int) (s25 : Int) : Option (Int ⊕ (Unit ⊕ (Int ⊕ (Unit ⊕ (Int ⊕ (Unit ⊕ (Int ⊕ (Unit ⊕ (Bool × Int))))))))) :=
  (if s25 < (v18.length : Int) then
    (loop (s_IsDiassociativeLoop_L4 a0 v18 s19 s25) BIG 0).bind fun x31 =>
    (match x31 with
    | .inl y33 =>
      some (.inl (w64 (s25 + 1)))
    | .inr t => some t)
  else
    some (.inr (.inl ())))
def s_IsDiassociativeLoop_L2 (a0 : List (List Int)) (v18 : List Int) (s19 : Int) : Option (Int ⊕ (Unit ⊕ (Int ⊕ (Unit ⊕ (Int ⊕ (Unit ⊕ (Bool × Int))))))) :=
  (if s19 < (v18.length : Int) then
    (loop (s_IsDiassociativeLoop_L3 a0 v18 s19) BIG 0).bind fun x25 =>
    (match x25 with
    | .inl y27 =>
      some (.inl (w64 (s19 + 1)))
    | .inr t => some t)
  else
    some (.inr (.inl ())))
def s_IsDiassociativeLoop_L1 (a0 : List (List Int)) (s6 : Int) (s12 : Int) : Option (Int ⊕ (Unit ⊕ (Int ⊕ (Unit ⊕ (Bool × Int))))) :=
  (if s12 < (a0.length : Int) then
    (s_l13Sub a0 [s6, s12]).bind fun v18 =>
    (loop (s_IsDiassociativeLoop_L2 a0 v18) BIG 0).bind fun x19 =>
    (match x19 with
    | .inl y21 =>
      some (.inl (w64 (s12 + 1)))
    | .inr t => some t)
  else
    some (.inr (.inl ())))
def s_IsDiassociativeLoop_L0 (a0 : List (List Int)) (s6 : Int) : Option (Int ⊕ (Unit ⊕ (Bool × Int))) :=
  (if s6 < (a0.length : Int) then
    (loop (s_IsDiassociativeLoop_L1 a0 s6) BIG s6).bind fun x12 =>
    (match x12 with
    | .inl y14 =>
      some (.inl (w64 (s6 + 1)))
    | .inr t => some t)
  else
    some (.inr (.inl ())))
def s_IsDiassociativeLoop (a0 : List (List Int)) : Option (Bool × Int) :=
  (s_l13Is a0).bind fun v2 =>
  (if v2 = false then
    some (false, 1)
  else
    (if 32 < (a0.length : Int) then
      some (false, 3)
    else
      (loop (s_IsDiassociativeLoop_L0 a0) BIG 0).bind fun x6 =>
      (match x6 with
      | .inl y8 =>
        some (true, 0)
      | .inr t => some t)))

end Go.Vam
