import Derived.Test.YtjkknabmfdodeaaFnC
namespace Go.Vam
open Go Go.RowKit
set_option maxRecDepth 100000
set_option linter.unusedSimpArgs false
set_option linter.unusedVariables false

def s_l11Norm_L0 (a0_0 : Int) (a1 : List Int) (v1 : List Int) (s3 : Int × Int) : Option ((Int × Int) ⊕ Int) :=
  (if s3.2 < (a1.length : Int) then
    (idx v1 s3.2).bind fun v8 =>
    (idx a1 s3.2).bind fun v9 =>
    (s_l01Mod a0_0 (w64 (s3.1 + (w64 ((w64 (v8 * v9)) * v9))))).bind fun v10 =>
    some (.inl (v10, w64 (s3.2 + 1)))
  else
    some (.inr s3.1))
def s_l11Norm (a0_0 : Int) (a0_1 : List Int) (a1 : List Int) : Option Int :=
  (s_l11Diagonal a0_0 a0_1).bind fun v1 =>
  (loop (s_l11Norm_L0 a0_0 a1 v1) BIG (0, 0)).bind fun x3 =>
  some x3

def s_l11Left_L0 (a0_0 : Int) (a0_1 : List Int) (a1 : List Int) (s2 : (List (List Int)) × Int) : Option (((List (List Int)) × Int) ⊕ (List (List Int))) :=
  (s_l11Size a0_0 a0_1).bind fun v5 =>
  (if s2.2 < v5 then
    (s_l11One a0_0 a0_1 s2.2).bind fun v8 =>
    (s_l11Times a0_0 a0_1 a1 v8).bind fun v9 =>
    (chk (s2.1.length + [v9].length ≤ 1099511627776)).bind fun _ =>
    some (.inl (s2.1 ++ [v9], w64 (s2.2 + 1)))
  else
    some (.inr s2.1))
def s_l11Left (a0_0 : Int) (a0_1 : List Int) (a1 : List Int) : Option (List (List Int)) :=
  (loop (s_l11Left_L0 a0_0 a0_1 a1) BIG ([], 0)).bind fun x2 =>
  (s_l11Columns x2).bind fun v11 =>
  some v11

def s_l11Right_L0 (a0_0 : Int) (a0_1 : List Int) (a1 : List Int) (s2 : (List (List Int)) × Int) : Option (((List (List Int)) × Int) ⊕ (List (List Int))) :=
  (s_l11Size a0_0 a0_1).bind fun v5 =>
  (if s2.2 < v5 then
    (s_l11One a0_0 a0_1 s2.2).bind fun v8 =>
    (s_l11Times a0_0 a0_1 v8 a1).bind fun v9 =>
    (chk (s2.1.length + [v9].length ≤ 1099511627776)).bind fun _ =>
    some (.inl (s2.1 ++ [v9], w64 (s2.2 + 1)))
  else
    some (.inr s2.1))
def s_l11Right (a0_0 : Int) (a0_1 : List Int) (a1 : List Int) : Option (List (List Int)) :=
  (loop (s_l11Right_L0 a0_0 a0_1 a1) BIG ([], 0)).bind fun x2 =>
  (s_l11Columns x2).bind fun v11 =>
  some v11

def s_l15Unit_L0 (a0_0 : Int) (a0_1 : List Int) (v1 : List Int) (s3 : (List (List Int)) × Int) : Option (((List (List Int)) × Int) ⊕ (List (List Int))) :=
  (s_l11Size a0_0 a0_1).bind fun v6 =>
  (if s3.2 < v6 then
    (s_l11One a0_0 a0_1 s3.2).bind fun v9 =>
    (s_l11Times a0_0 a0_1 v1 v9).bind fun v10 =>
    (s_l11Times a0_0 a0_1 v10 v1).bind fun v11 =>
    (chk (s3.1.length + [v11].length ≤ 1099511627776)).bind fun _ =>
    some (.inl (s3.1 ++ [v11], w64 (s3.2 + 1)))
  else
    some (.inr s3.1))
def s_l15Unit (a0_0 : Int) (a0_1 : List Int) (a1 : List Int) : Option ((List (List Int)) × (List (List Int)) × (List (List Int))) :=
  (s_l11Star a0_0 a1).bind fun v1 =>
  (loop (s_l15Unit_L0 a0_0 a0_1 v1) BIG ([], 0)).bind fun x3 =>
  (s_l11Left a0_0 a0_1 a1).bind fun v13 =>
  (s_l11Right a0_0 a0_1 a1).bind fun v14 =>
  (s_l11Columns x3).bind fun v15 =>
  some (v13, v14, v15)

def s_UnitTriple (a0_0 : Int) (a0_1 : List Int) (a1 : List Int) : Option (((List (List Int)) × (List (List Int)) × (List (List Int))) × Int) :=
  (s_l14Elements a0_0 a0_1 [a1]).bind fun v1 =>
  (if ¬ v1 = 0 then
    some (([], [], []), v1)
  else
    (s_l11Norm a0_0 a0_1 a1).bind fun v4 =>
    (if ¬ v4 = 1 then
      some (([], [], []), 5)
    else
      (s_l15Unit a0_0 a0_1 a1).bind fun v6 =>
      some ((v6.1, v6.2.1, v6.2.2), 0)))

def i_Doubling_left_L0 (a0_0 : Int) (a0_1 : List Int) (a1 : List Int) (v3 : List (List Int)) (s4 : (List (List Int)) × Int) : Option (((List (List Int)) × Int) ⊕ (List (List Int))) :=
  (if s4.2 < (v3.length : Int) then
    (idx v3 s4.2).bind fun v9 =>
    (i_Doubling_times a0_0 a0_1 a1 v9).bind fun v10 =>
    (chk (s4.1.length + [v10].length ≤ 1099511627776)).bind fun _ =>
    some (.inl (s4.1 ++ [v10], w64 (s4.2 + 1)))
  else
    some (.inr s4.1))
def i_Doubling_left (a0_0 : Int) (a0_1 : List Int) (a1 : List Int) : Option (List (List Int)) :=
  (i_Doubling_size a0_0 a0_1).bind fun v2 =>
  (i_unit v2).bind fun v3 =>
  (loop (i_Doubling_left_L0 a0_0 a0_1 a1 v3) BIG ([], 0)).bind fun x4 =>
  (i_transpose x4).bind fun v12 =>
  some v12

def i_Doubling_right_L0 (a0_0 : Int) (a0_1 : List Int) (a1 : List Int) (v3 : List (List Int)) (s4 : (List (List Int)) × Int) : Option (((List (List Int)) × Int) ⊕ (List (List Int))) :=
  (if s4.2 < (v3.length : Int) then
    (idx v3 s4.2).bind fun v9 =>
    (i_Doubling_times a0_0 a0_1 v9 a1).bind fun v10 =>
    (chk (s4.1.length + [v10].length ≤ 1099511627776)).bind fun _ =>
    some (.inl (s4.1 ++ [v10], w64 (s4.2 + 1)))
  else
    some (.inr s4.1))
def i_Doubling_right (a0_0 : Int) (a0_1 : List Int) (a1 : List Int) : Option (List (List Int)) :=
  (i_Doubling_size a0_0 a0_1).bind fun v2 =>
  (i_unit v2).bind fun v3 =>
  (loop (i_Doubling_right_L0 a0_0 a0_1 a1 v3) BIG ([], 0)).bind fun x4 =>
  (i_transpose x4).bind fun v12 =>
  some v12

def i_UnitTriple_c1 (a0 : List Int) (a1_0 : Int) (a1_1 : List Int) (a2_0 : List Int) : Option (List Int) :=
  (i_Doubling_times a1_0 a1_1 a2_0 a0).bind fun v1 =>
  (i_Doubling_times a1_0 a1_1 v1 a2_0).bind fun v2 =>
  some v2

def i_Doubling_matrixOf_of_i_UnitTriple_c1_L0 (a1_0_0 : Int) (a1_0_1 : List Int) (a1_1_0 : List Int) (v3 : List (List Int)) (s4 : (List (List Int)) × Int) : Option (((List (List Int)) × Int) ⊕ (List (List Int))) :=
  (if s4.2 < (v3.length : Int) then
    (idx v3 s4.2).bind fun v9 =>
    (i_UnitTriple_c1 v9 a1_0_0 a1_0_1 a1_1_0).bind fun v10 =>
    (chk (s4.1.length + [v10].length ≤ 1099511627776)).bind fun _ =>
    some (.inl (s4.1 ++ [v10], w64 (s4.2 + 1)))
  else
    some (.inr s4.1))
def i_Doubling_matrixOf_of_i_UnitTriple_c1 (a0_0 : Int) (a0_1 : List Int) (a1_0_0 : Int) (a1_0_1 : List Int) (a1_1_0 : List Int) : Option (List (List Int)) :=
  (i_Doubling_size a0_0 a0_1).bind fun v2 =>
  (i_unit v2).bind fun v3 =>
  (loop (i_Doubling_matrixOf_of_i_UnitTriple_c1_L0 a1_0_0 a1_0_1 a1_1_0 v3) BIG ([], 0)).bind fun x4 =>
  (i_transpose x4).bind fun v12 =>
  some v12

def i_UnitTriple (a0_0 : Int) (a0_1 : List Int) (a1 : List Int) : Option (((List (List Int)) × (List (List Int)) × (List (List Int))) × Int) :=
  (i_checkThree a0_0 a0_1 [a1] ([] : List (List (List Int)))).bind fun v2 =>
  (if ¬ v2 = 0 then
    some (([], [], []), v2)
  else
    (i_Doubling_norm a0_0 a0_1 a1).bind fun v5 =>
    (if ¬ v5 = 1 then
      some (([], [], []), 5)
    else
      (i_Doubling_field a0_0 a0_1).bind fun v7 =>
      (i_field_conjugate v7 a1).bind fun v8 =>
      (i_Doubling_left a0_0 a0_1 a1).bind fun v9 =>
      (i_Doubling_right a0_0 a0_1 a1).bind fun v10 =>
      (i_Doubling_matrixOf_of_i_UnitTriple_c1 a0_0 a0_1 a0_0 a0_1 v8).bind fun v11 =>
      some ((v9, v10, v11), 0)))

def l_eqTriple (a0_0 : List (List Int)) (a0_1 : List (List Int)) (a0_2 : List (List Int)) (a1_0 : List (List Int)) (a1_1 : List (List Int)) (a1_2 : List (List Int)) : Option Bool :=
  (l_eqInt64SS a0_0 a1_0).bind fun v2 =>
  (if v2 = false then
    some false
  else
    (l_eqInt64SS a0_1 a1_1).bind fun v5 =>
    (if v5 = false then
      some false
    else
      (l_eqInt64SS a0_2 a1_2).bind fun v8 =>
      (if v8 = false then
        some false
      else
        some true)))

end Go.Vam
