import Derived.Test.YtdoimfkonaeceaaFnB
namespace Go.Vam
open Go Go.RowKit
set_option maxRecDepth 100000
set_option linter.unusedSimpArgs false
set_option linter.unusedVariables false

def l_FnExactPowerMatrix (a0 : Int) (a1 : List (List Int)) (a2 : Int) : Option Bool :=
  (l_szInt64SS a1 1048576).bind fun v1 =>
  (if v1 < 0 then
    some true
  else
    (l_toInt64SS a1).bind fun v4 =>
    (s_PowerMatrix a0 v4 a2).bind fun v5 =>
    (l_toInt64SS a1).bind fun v6 =>
    (i_PowerMatrix a0 v6 a2).bind fun v7 =>
    ((l_eqInt64SS v7.1 v5.1).bind fun v9 =>
    (if v9 = false then
      some true
    else
      some (!(ieq v7.2 v5.2))) : Option Bool).bind fun x11 =>
    (if x11 = true then
      some false
    else
      (l_toInt64SS a1).bind fun v14 =>
      (l_eqInt64SS v6 v14).bind fun v15 =>
      (if v15 = false then
        some false
      else
        (l_markInt64SS v6 1).bind fun v17 =>
        ((if v17.1 < 0 then
          some true
        else
          (l_eqInt64SS v7.1 v5.1).bind fun v20 =>
          (if v20 = false then
            some true
          else
            some (!(ieq v7.2 v5.2)))) : Option Bool).bind fun x22 =>
        (if x22 = true then
          some false
        else
          (l_markInt64SS v7.1 1).bind fun v24 =>
          (l_heldInt64SS v24.2 1).bind fun v25 =>
          (if v25 < 0 then
            some false
          else
            (if ¬ v25 = v24.1 then
              some false
            else
              (l_toInt64SS a1).bind fun v30 =>
              (i_PowerMatrix a0 v30 a2).bind fun v31 =>
              ((l_eqInt64SS v31.1 v5.1).bind fun v33 =>
              (if v33 = false then
                some true
              else
                some (!(ieq v31.2 v5.2))) : Option Bool).bind fun x35 =>
              (if x35 = true then
                some false
              else
                (l_heldInt64SS v24.2 1).bind fun v37 =>
                (if v37 < 0 then
                  some false
                else
                  (if ¬ v37 = v24.1 then
                    some false
                  else
                    some true)))))))))

def s_SignedBasis_L0 (a0_0 : Int) (a0_1 : List Int) (s5 : Int) : Option (Int ⊕ (Unit ⊕ ((List (List Int)) × Int))) :=
  (if s5 < (a0_1.length : Int) then
    ((idx a0_1 s5).bind fun v11 =>
    (if ¬ v11 = 1 then
      some (!(ieq v11 (w64 (a0_0 - 1))))
    else
      some false) : Option Bool).bind fun x13 =>
    (if x13 = true then
      some (.inr (.inr (([] : List (List Int)), 5)))
    else
      some (.inl (w64 (s5 + 1))))
  else
    some (.inr (.inl ())))
def s_SignedBasis_L2 (a0_0 : Int) (a0_1 : List Int) (v15 : List (List Int)) (s17 : (List (List Int)) × Int) (s24 : (List Int) × Int) : Option (((List Int) × Int) ⊕ (List Int)) :=
  (s_l11Size a0_0 a0_1).bind fun v27 =>
  (if s24.2 < (w64 (2 * v27)) then
    (idx v15 (w64 (s17.2.tdiv 2))).bind fun v31 =>
    (idx v31 (w64 (s24.2.tdiv 2))).bind fun v32 =>
    ((if ¬ v32 = 1 then
      some (w64 (1 - ((w64 (s17.2 + s24.2)).tmod 2)))
    else
      some ((w64 (s17.2 + s24.2)).tmod 2)) : Option Int).bind fun x33 =>
    (chk (s24.1.length + [w64 ((w64 (2 * (bxor .i64 (w64 (s17.2.tdiv 2)) (w64 (s24.2.tdiv 2))))) + x33)].length ≤ 1099511627776)).bind fun _ =>
    some (.inl (s24.1 ++ [w64 ((w64 (2 * (bxor .i64 (w64 (s17.2.tdiv 2)) (w64 (s24.2.tdiv 2))))) + x33)], w64 (s24.2 + 1)))
  else
    some (.inr s24.1))
def s_SignedBasis_L1 (a0_0 : Int) (a0_1 : List Int) (v15 : List (List Int)) (s17 : (List (List Int)) × Int) : Option (((List (List Int)) × Int) ⊕ (List (List Int))) :=
  (s_l11Size a0_0 a0_1).bind fun v20 =>
  (if s17.2 < (w64 (2 * v20)) then
    (loop (s_SignedBasis_L2 a0_0 a0_1 v15 s17) BIG ([], 0)).bind fun x24 =>
    (chk (s17.1.length + [x24].length ≤ 1099511627776)).bind fun _ =>
    some (.inl (s17.1 ++ [x24], w64 (s17.2 + 1)))
  else
    some (.inr s17.1))
def s_SignedBasis (a0_0 : Int) (a0_1 : List Int) : Option ((List (List Int)) × Int) :=
  (s_l11Is a0_0 a0_1).bind fun v2 =>
  (if v2 = false then
    some (([] : List (List Int)), 1)
  else
    (loop (s_SignedBasis_L0 a0_0 a0_1) BIG 0).bind fun x5 =>
    (match x5 with
    | .inl y7 =>
      (s_l11Basis a0_0 a0_1).bind fun v15 =>
      (loop (s_SignedBasis_L1 a0_0 a0_1 v15) BIG ([], 0)).bind fun x17 =>
      some (x17, 0)
    | .inr t => some t))

def i_SignedBasis_c1 (a0 : Int) (a1_0 : Int) (a1_1 : List Int) : Option Bool :=
  ((if ¬ a0 = 1 then
    some (!(ieq a0 (w64 (a1_0 - 1))))
  else
    some false) : Option Bool).bind fun x2 =>
  some x2

def g_slices_IndexFunc_LI_I_of_i_SignedBasis_c1_L0 (a0 : List Int) (a1_0_0 : Int) (a1_0_1 : List Int) (s2 : Int) : Option (Int ⊕ (Unit ⊕ Int)) :=
  (if s2 < (a0.length : Int) then
    (idx a0 s2).bind fun v8 =>
    (i_SignedBasis_c1 v8 a1_0_0 a1_0_1).bind fun v9 =>
    (if v9 = true then
      some (.inr (.inr s2))
    else
      some (.inl (w64 (s2 + 1))))
  else
    some (.inr (.inl ())))
def g_slices_IndexFunc_LI_I_of_i_SignedBasis_c1 (a0 : List Int) (a1_0_0 : Int) (a1_0_1 : List Int) : Option Int :=
  (loop (g_slices_IndexFunc_LI_I_of_i_SignedBasis_c1_L0 a0 a1_0_0 a1_0_1) BIG 0).bind fun x2 =>
  (match x2 with
  | .inl y4 =>
    some (-1)
  | .inr t => some t)

def g_slices_ContainsFunc_LI_I_of_i_SignedBasis_c1 (a0 : List Int) (a1_0_0 : Int) (a1_0_1 : List Int) : Option Bool :=
  (g_slices_IndexFunc_LI_I_of_i_SignedBasis_c1 a0 a1_0_0 a1_0_1).bind fun v1 =>
  some (ile 0 v1)

def i_Doubling_products_L1 (a0_0 : Int) (a0_1 : List Int) (s4 : (List (List Int)) × Int) (v9 : List Int) (v12 : List (List Int)) (s13 : (List Int) × Int) : Option (((List Int) × Int) ⊕ (List Int)) :=
  (if s13.2 < (v12.length : Int) then
    (idx v12 s13.2).bind fun v18 =>
    (i_Doubling_times a0_0 a0_1 v9 v18).bind fun v19 =>
    (idx v19 (bxor .i64 s4.2 s13.2)).bind fun v20 =>
    (chk (s13.1.length + [v20].length ≤ 1099511627776)).bind fun _ =>
    some (.inl (s13.1 ++ [v20], w64 (s13.2 + 1)))
  else
    some (.inr s13.1))
def i_Doubling_products_L0 (a0_0 : Int) (a0_1 : List Int) (v3 : List (List Int)) (s4 : (List (List Int)) × Int) : Option (((List (List Int)) × Int) ⊕ (List (List Int))) :=
  (if s4.2 < (v3.length : Int) then
    (idx v3 s4.2).bind fun v9 =>
    (i_Doubling_size a0_0 a0_1).bind fun v11 =>
    (i_unit v11).bind fun v12 =>
    (loop (i_Doubling_products_L1 a0_0 a0_1 s4 v9 v12) BIG ([], 0)).bind fun x13 =>
    (chk (s4.1.length + [x13].length ≤ 1099511627776)).bind fun _ =>
    some (.inl (s4.1 ++ [x13], w64 (s4.2 + 1)))
  else
    some (.inr s4.1))
def i_Doubling_products (a0_0 : Int) (a0_1 : List Int) : Option (List (List Int)) :=
  (i_Doubling_size a0_0 a0_1).bind fun v2 =>
  (i_unit v2).bind fun v3 =>
  (loop (i_Doubling_products_L0 a0_0 a0_1 v3) BIG ([], 0)).bind fun x4 =>
  some x4

def i_SignedBasis_L1 (v7 : List (List Int)) (s10 : (List (List Int)) × Int) (v16 : Int) (s17 : (List Int) × Int) : Option (((List Int) × Int) ⊕ (List Int)) :=
  (if s17.2 < (w64 (2 * v16)) then
    (idx v7 (w64 (s10.2.tdiv 2))).bind fun v23 =>
    (idx v23 (w64 (s17.2.tdiv 2))).bind fun v24 =>
    ((if ¬ v24 = 1 then
      some (w64 (1 - ((w64 (s10.2 + s17.2)).tmod 2)))
    else
      some ((w64 (s10.2 + s17.2)).tmod 2)) : Option Int).bind fun x25 =>
    (chk (s17.1.length + [w64 ((w64 (2 * (bxor .i64 (w64 (s10.2.tdiv 2)) (w64 (s17.2.tdiv 2))))) + x25)].length ≤ 1099511627776)).bind fun _ =>
    some (.inl (s17.1 ++ [w64 ((w64 (2 * (bxor .i64 (w64 (s10.2.tdiv 2)) (w64 (s17.2.tdiv 2))))) + x25)], w64 (s17.2 + 1)))
  else
    some (.inr s17.1))
def i_SignedBasis_L0 (a0_0 : Int) (a0_1 : List Int) (v7 : List (List Int)) (v9 : Int) (s10 : (List (List Int)) × Int) : Option (((List (List Int)) × Int) ⊕ (List (List Int))) :=
  (if s10.2 < (w64 (2 * v9)) then
    (i_Doubling_size a0_0 a0_1).bind fun v16 =>
    (loop (i_SignedBasis_L1 v7 s10 v16) BIG ([], 0)).bind fun x17 =>
    (chk (s10.1.length + [x17].length ≤ 1099511627776)).bind fun _ =>
    some (.inl (s10.1 ++ [x17], w64 (s10.2 + 1)))
  else
    some (.inr s10.1))
def i_SignedBasis (a0_0 : Int) (a0_1 : List Int) : Option ((List (List Int)) × Int) :=
  (i_IsDoubling a0_0 a0_1).bind fun v2 =>
  (if v2 = false then
    some (([] : List (List Int)), 1)
  else
    (g_slices_ContainsFunc_LI_I_of_i_SignedBasis_c1 a0_1 a0_0 a0_1).bind fun v5 =>
    (if v5 = true then
      some (([] : List (List Int)), 5)
    else
      (i_Doubling_products a0_0 a0_1).bind fun v7 =>
      (i_Doubling_size a0_0 a0_1).bind fun v9 =>
      (loop (i_SignedBasis_L0 a0_0 a0_1 v7 v9) BIG ([], 0)).bind fun x10 =>
      some (x10, 0)))

def l_FnExactSignedBasis (a0_0 : Int) (a0_1 : List Int) : Option Bool :=
  (l_szDoubling a0_0 a0_1 1048576).bind fun v1 =>
  (if v1 < 0 then
    some true
  else
    (l_toDoubling a0_0 a0_1).bind fun v4 =>
    (s_SignedBasis v4.1 v4.2).bind fun v5 =>
    (l_toDoubling a0_0 a0_1).bind fun v6 =>
    (i_SignedBasis v6.1 v6.2).bind fun v7 =>
    ((l_eqInt64SS v7.1 v5.1).bind fun v9 =>
    (if v9 = false then
      some true
    else
      some (!(ieq v7.2 v5.2))) : Option Bool).bind fun x11 =>
    (if x11 = true then
      some false
    else
      (l_toDoubling a0_0 a0_1).bind fun v14 =>
      (l_eqDoubling v6.1 v6.2 v14.1 v14.2).bind fun v15 =>
      (if v15 = false then
        some false
      else
        (l_markDoubling v6.1 v6.2 1).bind fun v17 =>
        ((if v17 < 0 then
          some true
        else
          (l_eqInt64SS v7.1 v5.1).bind fun v20 =>
          (if v20 = false then
            some true
          else
            some (!(ieq v7.2 v5.2)))) : Option Bool).bind fun x22 =>
        (if x22 = true then
          some false
        else
          (l_markInt64SS v7.1 1).bind fun v24 =>
          (l_heldInt64SS v24.2 1).bind fun v25 =>
          (if v25 < 0 then
            some false
          else
            (if ¬ v25 = v24.1 then
              some false
            else
              (l_toDoubling a0_0 a0_1).bind fun v30 =>
              (i_SignedBasis v30.1 v30.2).bind fun v31 =>
              ((l_eqInt64SS v31.1 v5.1).bind fun v33 =>
              (if v33 = false then
                some true
              else
                some (!(ieq v31.2 v5.2))) : Option Bool).bind fun x35 =>
              (if x35 = true then
                some false
              else
                (l_heldInt64SS v24.2 1).bind fun v37 =>
                (if v37 < 0 then
                  some false
                else
                  (if ¬ v37 = v24.1 then
                    some false
                  else
                    some true)))))))))

def s_l11Diagonal_L0 (a0_0 : Int) (a0_1 : List Int) (s2 : (List Int) × Int) : Option (((List Int) × Int) ⊕ (List Int)) :=
  (if s2.2 < (a0_1.length : Int) then
    (idx a0_1 s2.2).bind fun v7 =>
    (s_l11Scale a0_0 (w64 (a0_0 - v7)) s2.1).bind fun v8 =>
    (chk (s2.1.length + v8.length ≤ 1099511627776)).bind fun _ =>
    some (.inl (s2.1 ++ v8, w64 (s2.2 + 1)))
  else
    some (.inr s2.1))
def s_l11Diagonal (a0_0 : Int) (a0_1 : List Int) : Option (List Int) :=
  (loop (s_l11Diagonal_L0 a0_0 a0_1) BIG ([1], 0)).bind fun x2 =>
  some x2

def s_l15Skew_L1 (a0_0 : Int) (a1 : List (List Int)) (v1 : List Int) (s3 : Int) (s9 : Int) : Option (Int ⊕ (Unit ⊕ (Int ⊕ (Unit ⊕ Bool)))) :=
  (if s9 ≤ s3 then
    (idx a1 s3).bind fun v15 =>
    (idx v15 s9).bind fun v16 =>
    (idx v1 s3).bind fun v17 =>
    (idx a1 s9).bind fun v18 =>
    (idx v18 s3).bind fun v19 =>
    (idx v1 s9).bind fun v20 =>
    (s_l01Mod a0_0 (w64 ((w64 (v16 * v17)) + (w64 (v19 * v20))))).bind fun v21 =>
    (if ¬ v21 = 0 then
      some (.inr (.inr (.inr (.inr false))))
    else
      some (.inl (w64 (s9 + 1))))
  else
    some (.inr (.inl ())))
def s_l15Skew_L0 (a0_0 : Int) (a1 : List (List Int)) (v1 : List Int) (s3 : Int) : Option (Int ⊕ (Unit ⊕ Bool)) :=
  (if s3 < (a1.length : Int) then
    (loop (s_l15Skew_L1 a0_0 a1 v1 s3) BIG 0).bind fun x9 =>
    (match x9 with
    | .inl y11 =>
      some (.inl (w64 (s3 + 1)))
    | .inr t => some t)
  else
    some (.inr (.inl ())))
def s_l15Skew (a0_0 : Int) (a0_1 : List Int) (a1 : List (List Int)) : Option Bool :=
  (s_l11Diagonal a0_0 a0_1).bind fun v1 =>
  (loop (s_l15Skew_L0 a0_0 a1 v1) BIG 0).bind fun x3 =>
  (match x3 with
  | .inl y5 =>
    some true
  | .inr t => some t)

def s_IsSkew (a0_0 : Int) (a0_1 : List Int) (a1 : List (List Int)) : Option (Bool × Int) :=
  (s_l14Two a0_0 a0_1 [a1]).bind fun v2 =>
  (if ¬ v2 = 0 then
    some (false, v2)
  else
    (s_l15Skew a0_0 a0_1 a1).bind fun v4 =>
    some (v4, 0))

def i_Doubling_norm (a0_0 : Int) (a0_1 : List Int) (a1 : List Int) : Option Int :=
  (i_Doubling_field a0_0 a0_1).bind fun v1 =>
  (i_field_conjugate v1 a1).bind fun v2 =>
  (i_Doubling_times a0_0 a0_1 a1 v2).bind fun v3 =>
  (idx v3 0).bind fun v4 =>
  some v4

def i_Doubling_diagonal_L0 (a0_0 : Int) (a0_1 : List Int) (v3 : List (List Int)) (s4 : (List Int) × Int) : Option (((List Int) × Int) ⊕ (List Int)) :=
  (if s4.2 < (v3.length : Int) then
    (idx v3 s4.2).bind fun v9 =>
    (i_Doubling_norm a0_0 a0_1 v9).bind fun v10 =>
    (chk (s4.1.length + [v10].length ≤ 1099511627776)).bind fun _ =>
    some (.inl (s4.1 ++ [v10], w64 (s4.2 + 1)))
  else
    some (.inr s4.1))
def i_Doubling_diagonal (a0_0 : Int) (a0_1 : List Int) : Option (List Int) :=
  (i_Doubling_size a0_0 a0_1).bind fun v2 =>
  (i_unit v2).bind fun v3 =>
  (loop (i_Doubling_diagonal_L0 a0_0 a0_1 v3) BIG ([], 0)).bind fun x4 =>
  some x4

def i_Doubling_isSkew_L1 (a0_0 : Int) (a0_1 : List Int) (a1 : List (List Int)) (v1 : List Int) (s3 : Int) (s9 : Int) : Option (Int ⊕ (Unit ⊕ (Int ⊕ (Unit ⊕ Bool)))) :=
  (if s9 < (a1.length : Int) then
    (i_Doubling_field a0_0 a0_1).bind fun v15 =>
    (idx a1 s3).bind fun v16 =>
    (idx v16 s9).bind fun v17 =>
    (idx v1 s3).bind fun v18 =>
    (idx a1 s9).bind fun v19 =>
    (idx v19 s3).bind fun v20 =>
    (idx v1 s9).bind fun v21 =>
    (i_field_num v15 (w64 ((w64 (v17 * v18)) + (w64 (v20 * v21))))).bind fun v22 =>
    (if ¬ v22 = 0 then
      some (.inr (.inr (.inr (.inr false))))
    else
      some (.inl (w64 (s9 + 1))))
  else
    some (.inr (.inl ())))
def i_Doubling_isSkew_L0 (a0_0 : Int) (a0_1 : List Int) (a1 : List (List Int)) (v1 : List Int) (s3 : Int) : Option (Int ⊕ (Unit ⊕ Bool)) :=
  (if s3 < (a1.length : Int) then
    (loop (i_Doubling_isSkew_L1 a0_0 a0_1 a1 v1 s3) BIG 0).bind fun x9 =>
    (match x9 with
    | .inl y11 =>
      some (.inl (w64 (s3 + 1)))
    | .inr t => some t)
  else
    some (.inr (.inl ())))
def i_Doubling_isSkew (a0_0 : Int) (a0_1 : List Int) (a1 : List (List Int)) : Option Bool :=
  (i_Doubling_diagonal a0_0 a0_1).bind fun v1 =>
  (loop (i_Doubling_isSkew_L0 a0_0 a0_1 a1 v1) BIG 0).bind fun x3 =>
  (match x3 with
  | .inl y5 =>
    some true
  | .inr t => some t)

def i_IsSkew (a0_0 : Int) (a0_1 : List Int) (a1 : List (List Int)) : Option (Bool × Int) :=
  (i_checkThree a0_0 a0_1 ([] : List (List Int)) [a1]).bind fun v2 =>
  (if ¬ v2 = 0 then
    some (false, v2)
  else
    (i_Doubling_isSkew a0_0 a0_1 a1).bind fun v4 =>
    some (v4, 0))

def l_FnExactIsSkew (a0_0 : Int) (a0_1 : List Int) (a1 : List (List Int)) : Option Bool :=
  (l_szDoubling a0_0 a0_1 1048576).bind fun v1 =>
  (if v1 < 0 then
    some true
  else
    (l_szInt64SS a1 v1).bind fun v4 =>
    (if v4 < 0 then
      some true
    else
      (l_toDoubling a0_0 a0_1).bind fun v7 =>
      (l_toInt64SS a1).bind fun v8 =>
      (s_IsSkew v7.1 v7.2 v8).bind fun v9 =>
      (l_toDoubling a0_0 a0_1).bind fun v10 =>
      (l_toInt64SS a1).bind fun v11 =>
      (i_IsSkew v10.1 v10.2 v11).bind fun v12 =>
      ((if (v12.1 != v9.1) = true then
        some true
      else
        some (!(ieq v12.2 v9.2))) : Option Bool).bind fun x15 =>
      (if x15 = true then
        some false
      else
        (l_toDoubling a0_0 a0_1).bind fun v18 =>
        (l_eqDoubling v10.1 v10.2 v18.1 v18.2).bind fun v19 =>
        (if v19 = false then
          some false
        else
          (l_toInt64SS a1).bind fun v22 =>
          (l_eqInt64SS v11 v22).bind fun v23 =>
          (if v23 = false then
            some false
          else
            some true)))))

def s_l15Form (a0_0 : Int) (a0_1 : List Int) (a1 : List (List Int)) (a2 : Int) (a3 : Int) (a4 : Int) : Option Int :=
  (if ¬ (bxor .i64 a2 a3) = a4 then
    some 0
  else
    (idx a1 a2).bind fun v3 =>
    (idx v3 a3).bind fun v4 =>
    (idx a1 a4).bind fun v5 =>
    (idx v5 a4).bind fun v6 =>
    (s_l01Mod a0_0 (w64 ((w64 (2 * v4)) * v6))).bind fun v7 =>
    some v7)

def s_l01Index_L0 (a0 : List Int) (a1 : Int) (s2 : Int) : Option (Int ⊕ (Unit ⊕ Int)) :=
  (if s2 < (a0.length : Int) then
    (idx a0 s2).bind fun v8 =>
    (if v8 = a1 then
      some (.inr (.inr s2))
    else
      some (.inl (w64 (s2 + 1))))
  else
    some (.inr (.inl ())))
def s_l01Index (a0 : List Int) (a1 : Int) : Option Int :=
  (loop (s_l01Index_L0 a0 a1) BIG 0).bind fun x2 =>
  (match x2 with
  | .inl y4 =>
    some (-1)
  | .inr t => some t)

def s_l01Has (a0 : List Int) (a1 : Int) : Option Bool :=
  (s_l01Index a0 a1).bind fun v1 =>
  some (ile 0 v1)

def s_l12Kernel_L0 (v1 : List (List Int)) (s3 : (List Int) × Int) : Option (((List Int) × Int) ⊕ (List Int)) :=
  (if s3.2 < (v1.length : Int) then
    (idx v1 s3.2).bind fun v8 =>
    (s_l12First v8).bind fun v9 =>
    (chk (s3.1.length + [v9].length ≤ 1099511627776)).bind fun _ =>
    some (.inl (s3.1 ++ [v9], w64 (s3.2 + 1)))
  else
    some (.inr s3.1))
def s_l12Kernel_L2 (a0 : Int) (v1 : List (List Int)) (x3 : List Int) (s12 : (List (List Int)) × Int) (s26 : (List Int) × Int) : Option (((List Int) × Int) ⊕ (List Int)) :=
  (if s26.2 < (v1.length : Int) then
    (idx x3 s26.2).bind fun v31 =>
    (idx v1 s26.2).bind fun v32 =>
    (idx v32 s12.2).bind fun v33 =>
    (s_l01Mod a0 (w64 (0 - v33))).bind fun v34 =>
    (idx s26.1 v31).bind fun v35 =>
    some (.inl (s26.1.set v31.toNat v34, w64 (s26.2 + 1)))
  else
    some (.inr s26.1))
def s_l12Kernel_L1 (a0 : Int) (a1 : Int) (v1 : List (List Int)) (x3 : List Int) (s12 : (List (List Int)) × Int) : Option (((List (List Int)) × Int) ⊕ (List (List Int))) :=
  (if s12.2 < a1 then
    ((s_l01Has x3 s12.2).bind fun v20 =>
    (if v20 = true then
      some s12.1
    else
      (chk (0 ≤ a1 ∧ a1 ≤ 1099511627776)).bind fun _ =>
      (some (List.replicate a1.toNat 0)).bind fun l23 =>
      (idx l23 s12.2).bind fun v24 =>
      (loop (s_l12Kernel_L2 a0 v1 x3 s12) BIG (l23.set s12.2.toNat 1, 0)).bind fun x26 =>
      (chk (s12.1.length + [x26].length ≤ 1099511627776)).bind fun _ =>
      some (s12.1 ++ [x26])) : Option (List (List Int))).bind fun x17 =>
    some (.inl (x17, w64 (s12.2 + 1)))
  else
    some (.inr s12.1))
def s_l12Kernel (a0 : Int) (a1 : Int) (a2 : List (List Int)) : Option (List (List Int)) :=
  (s_l12Reduced a0 a2).bind fun v1 =>
  (loop (s_l12Kernel_L0 v1) BIG ([], 0)).bind fun x3 =>
  (loop (s_l12Kernel_L1 a0 a1 v1 x3) BIG ([], 0)).bind fun x12 =>
  (s_l12Reduced a0 x12).bind fun v37 =>
  some v37

def s_l15Basis_L2 (v2 : Int) (v3 : List Int) (s5 : (List (List Int)) × Int) (s10 : (List (List Int)) × Int) (s15 : (List (List Int)) × Int) : Option (((List (List Int)) × Int) ⊕ (List (List Int))) :=
  (if s15.2 ≤ s10.2 then
    (chk (0 ≤ (w64 ((w64 (3 * v2)) * v2)) ∧ (w64 ((w64 (3 * v2)) * v2)) ≤ 1099511627776)).bind fun _ =>
    (some (List.replicate (w64 ((w64 (3 * v2)) * v2)).toNat 0)).bind fun l21 =>
    (idx v3 s10.2).bind fun v22 =>
    (idx l21 (w64 ((w64 ((w64 ((w64 (s5.2 * v2)) + s10.2)) * v2)) + s15.2))).bind fun v23 =>
    (some (l21.set (w64 ((w64 ((w64 ((w64 (s5.2 * v2)) + s10.2)) * v2)) + s15.2)).toNat v22)).bind fun l24 =>
    (idx v3 s15.2).bind fun v25 =>
    (idx l24 (w64 ((w64 ((w64 ((w64 (s5.2 * v2)) + s15.2)) * v2)) + s10.2))).bind fun v26 =>
    (chk (s15.1.length + [l24.set (w64 ((w64 ((w64 ((w64 (s5.2 * v2)) + s15.2)) * v2)) + s10.2)).toNat v25].length ≤ 1099511627776)).bind fun _ =>
    some (.inl (s15.1 ++ [l24.set (w64 ((w64 ((w64 ((w64 (s5.2 * v2)) + s15.2)) * v2)) + s10.2)).toNat v25], w64 (s15.2 + 1)))
  else
    some (.inr s15.1))
def s_l15Basis_L1 (v2 : Int) (v3 : List Int) (s5 : (List (List Int)) × Int) (s10 : (List (List Int)) × Int) : Option (((List (List Int)) × Int) ⊕ (List (List Int))) :=
  (if s10.2 < v2 then
    (loop (s_l15Basis_L2 v2 v3 s5 s10) BIG (s10.1, 0)).bind fun x15 =>
    some (.inl (x15, w64 (s10.2 + 1)))
  else
    some (.inr s10.1))
def s_l15Basis_L0 (v2 : Int) (v3 : List Int) (s5 : (List (List Int)) × Int) : Option (((List (List Int)) × Int) ⊕ (List (List Int))) :=
  (if s5.2 < 3 then
    (loop (s_l15Basis_L1 v2 v3 s5) BIG (s5.1, 0)).bind fun x10 =>
    some (.inl (x10, w64 (s5.2 + 1)))
  else
    some (.inr s5.1))
def s_l15Basis_L5 (a0_0 : Int) (a0_1 : List Int) (v1 : List (List Int)) (v2 : Int) (s29 : (List (List Int)) × Int) (s34 : (List (List Int)) × Int) (s39 : (List (List Int)) × Int) : Option (((List (List Int)) × Int) ⊕ (List (List Int))) :=
  (if s39.2 < v2 then
    (chk (0 ≤ (w64 ((w64 (3 * v2)) * v2)) ∧ (w64 ((w64 (3 * v2)) * v2)) ≤ 1099511627776)).bind fun _ =>
    (some (List.replicate (w64 ((w64 (3 * v2)) * v2)).toNat 0)).bind fun l45 =>
    (s_l15Form a0_0 a0_1 v1 (bxor .i64 s34.2 s39.2) s34.2 s39.2).bind fun v46 =>
    (idx l45 (w64 ((w64 ((bxor .i64 s34.2 s39.2) * v2)) + s29.2))).bind fun v47 =>
    (some (l45.set (w64 ((w64 ((bxor .i64 s34.2 s39.2) * v2)) + s29.2)).toNat v46)).bind fun l48 =>
    (s_l15Form a0_0 a0_1 v1 s29.2 (bxor .i64 s29.2 s39.2) s39.2).bind fun v49 =>
    (idx l48 (w64 ((w64 ((w64 (v2 + (bxor .i64 s29.2 s39.2))) * v2)) + s34.2))).bind fun v50 =>
    (some (l48.set (w64 ((w64 ((w64 (v2 + (bxor .i64 s29.2 s39.2))) * v2)) + s34.2)).toNat v49)).bind fun l51 =>
    (s_l15Form a0_0 a0_1 v1 s29.2 s34.2 (bxor .i64 s29.2 s34.2)).bind fun v52 =>
    (idx l51 (w64 ((w64 ((w64 ((w64 (2 * v2)) + (bxor .i64 s29.2 s34.2))) * v2)) + s39.2))).bind fun v53 =>
    (chk (s39.1.length + [l51.set (w64 ((w64 ((w64 ((w64 (2 * v2)) + (bxor .i64 s29.2 s34.2))) * v2)) + s39.2)).toNat v52].length ≤ 1099511627776)).bind fun _ =>
    some (.inl (s39.1 ++ [l51.set (w64 ((w64 ((w64 ((w64 (2 * v2)) + (bxor .i64 s29.2 s34.2))) * v2)) + s39.2)).toNat v52], w64 (s39.2 + 1)))
  else
    some (.inr s39.1))
def s_l15Basis_L4 (a0_0 : Int) (a0_1 : List Int) (v1 : List (List Int)) (v2 : Int) (s29 : (List (List Int)) × Int) (s34 : (List (List Int)) × Int) : Option (((List (List Int)) × Int) ⊕ (List (List Int))) :=
  (if s34.2 < v2 then
    (loop (s_l15Basis_L5 a0_0 a0_1 v1 v2 s29 s34) BIG (s34.1, 0)).bind fun x39 =>
    some (.inl (x39, w64 (s34.2 + 1)))
  else
    some (.inr s34.1))
def s_l15Basis_L3 (a0_0 : Int) (a0_1 : List Int) (v1 : List (List Int)) (v2 : Int) (s29 : (List (List Int)) × Int) : Option (((List (List Int)) × Int) ⊕ (List (List Int))) :=
  (if s29.2 < v2 then
    (loop (s_l15Basis_L4 a0_0 a0_1 v1 v2 s29) BIG (s29.1, 0)).bind fun x34 =>
    some (.inl (x34, w64 (s29.2 + 1)))
  else
    some (.inr s29.1))
def s_l15Basis (a0_0 : Int) (a0_1 : List Int) : Option (List (List Int)) :=
  (s_l11Basis a0_0 a0_1).bind fun v1 =>
  (s_l11Size a0_0 a0_1).bind fun v2 =>
  (s_l11Diagonal a0_0 a0_1).bind fun v3 =>
  (loop (s_l15Basis_L0 v2 v3) BIG ([], 0)).bind fun x5 =>
  (loop (s_l15Basis_L3 a0_0 a0_1 v1 v2) BIG (x5, 0)).bind fun x29 =>
  (s_l12Kernel a0_0 (w64 ((w64 (3 * v2)) * v2)) x29).bind fun v55 =>
  some v55

def s_LocalDimension (a0_0 : Int) (a0_1 : List Int) : Option (Int × Int) :=
  (s_l14Code a0_0 a0_1).bind fun v2 =>
  (if ¬ v2 = 0 then
    some (0, v2)
  else
    (s_l15Basis a0_0 a0_1).bind fun v4 =>
    some ((v4.length : Int), 0))

def s_l15Pair_L0 (a0_0 : Int) (a1 : List Int) (a2 : List Int) (v1 : List Int) (s3 : Int × Int) : Option ((Int × Int) ⊕ Int) :=
  (if s3.2 < (a1.length : Int) then
    (idx v1 s3.2).bind fun v8 =>
    (idx a1 s3.2).bind fun v9 =>
    (idx a2 s3.2).bind fun v10 =>
    (s_l01Mod a0_0 (w64 (s3.1 + (w64 ((w64 (v8 * v9)) * v10))))).bind fun v11 =>
    some (.inl (v11, w64 (s3.2 + 1)))
  else
    some (.inr s3.1))
def s_l15Pair (a0_0 : Int) (a0_1 : List Int) (a1 : List Int) (a2 : List Int) : Option Int :=
  (s_l11Diagonal a0_0 a0_1).bind fun v1 =>
  (loop (s_l15Pair_L0 a0_0 a1 a2 v1) BIG (0, 0)).bind fun x3 =>
  some x3

def s_l15Isometry_L1 (a0_0 : Int) (a0_1 : List Int) (a1 : List (List Int)) (v1 : List Int) (s3 : Int) (s9 : Int) : Option (Int ⊕ (Unit ⊕ (Int ⊕ (Unit ⊕ Bool)))) :=
  (if s9 ≤ s3 then
    ((if s3 = s9 then
      (idx v1 s3).bind fun v19 =>
      some v19
    else
      some 0) : Option Int).bind fun x16 =>
    (s_l14Column a1 s3).bind fun v20 =>
    (s_l14Column a1 s9).bind fun v21 =>
    (s_l15Pair a0_0 a0_1 v20 v21).bind fun v22 =>
    (if ¬ v22 = x16 then
      some (.inr (.inr (.inr (.inr false))))
    else
      some (.inl (w64 (s9 + 1))))
  else
    some (.inr (.inl ())))
def s_l15Isometry_L0 (a0_0 : Int) (a0_1 : List Int) (a1 : List (List Int)) (v1 : List Int) (s3 : Int) : Option (Int ⊕ (Unit ⊕ Bool)) :=
  (if s3 < (a1.length : Int) then
    (loop (s_l15Isometry_L1 a0_0 a0_1 a1 v1 s3) BIG 0).bind fun x9 =>
    (match x9 with
    | .inl y11 =>
      some (.inl (w64 (s3 + 1)))
    | .inr t => some t)
  else
    some (.inr (.inl ())))
def s_l15Isometry (a0_0 : Int) (a0_1 : List Int) (a1 : List (List Int)) : Option Bool :=
  (s_l11Diagonal a0_0 a0_1).bind fun v1 =>
  (loop (s_l15Isometry_L0 a0_0 a0_1 a1 v1) BIG 0).bind fun x3 =>
  (match x3 with
  | .inl y5 =>
    some true
  | .inr t => some t)

def s_KeepsNorm (a0_0 : Int) (a0_1 : List Int) (a1 : List (List Int)) : Option (Bool × Int) :=
  (s_l14Two a0_0 a0_1 [a1]).bind fun v2 =>
  (if ¬ v2 = 0 then
    some (false, v2)
  else
    (s_l15Isometry a0_0 a0_1 a1).bind fun v4 =>
    some (v4, 0))

def i_Doubling_keepsNorm_L2 (a0_0 : Int) (a0_1 : List Int) (a1 : List (List Int)) (v1 : List Int) (s3 : Int) (s9 : Int) (s16 : Int × Int) : Option ((Int × Int) ⊕ Int) :=
  (if s16.2 < (a1.length : Int) then
    (i_Doubling_field a0_0 a0_1).bind fun v21 =>
    (idx a1 s16.2).bind fun v22 =>
    (idx v22 s3).bind fun v23 =>
    (idx v22 s9).bind fun v24 =>
    (i_field_num v21 (w64 (v23 * v24))).bind fun v25 =>
    (idx v1 s16.2).bind fun v26 =>
    some (.inl (w64 (s16.1 + (w64 (v25 * v26))), w64 (s16.2 + 1)))
  else
    some (.inr s16.1))
def i_Doubling_keepsNorm_L1 (a0_0 : Int) (a0_1 : List Int) (a1 : List (List Int)) (v1 : List Int) (s3 : Int) (s9 : Int) : Option (Int ⊕ (Unit ⊕ (Int ⊕ (Unit ⊕ Bool)))) :=
  (if s9 < (a1.length : Int) then
    (loop (i_Doubling_keepsNorm_L2 a0_0 a0_1 a1 v1 s3 s9) BIG (0, 0)).bind fun x16 =>
    ((if s3 = s9 then
      (idx v1 s3).bind fun v31 =>
      some (w64 (x16 - v31))
    else
      some x16) : Option Int).bind fun x28 =>
    (i_Doubling_field a0_0 a0_1).bind fun v32 =>
    (i_field_num v32 x28).bind fun v33 =>
    (if ¬ v33 = 0 then
      some (.inr (.inr (.inr (.inr false))))
    else
      some (.inl (w64 (s9 + 1))))
  else
    some (.inr (.inl ())))
def i_Doubling_keepsNorm_L0 (a0_0 : Int) (a0_1 : List Int) (a1 : List (List Int)) (v1 : List Int) (s3 : Int) : Option (Int ⊕ (Unit ⊕ Bool)) :=
  (if s3 < (a1.length : Int) then
    (loop (i_Doubling_keepsNorm_L1 a0_0 a0_1 a1 v1 s3) BIG 0).bind fun x9 =>
    (match x9 with
    | .inl y11 =>
      some (.inl (w64 (s3 + 1)))
    | .inr t => some t)
  else
    some (.inr (.inl ())))
def i_Doubling_keepsNorm (a0_0 : Int) (a0_1 : List Int) (a1 : List (List Int)) : Option Bool :=
  (i_Doubling_diagonal a0_0 a0_1).bind fun v1 =>
  (loop (i_Doubling_keepsNorm_L0 a0_0 a0_1 a1 v1) BIG 0).bind fun x3 =>
  (match x3 with
  | .inl y5 =>
    some true
  | .inr t => some t)

def i_KeepsNorm (a0_0 : Int) (a0_1 : List Int) (a1 : List (List Int)) : Option (Bool × Int) :=
  (i_checkThree a0_0 a0_1 ([] : List (List Int)) [a1]).bind fun v2 =>
  (if ¬ v2 = 0 then
    some (false, v2)
  else
    (i_Doubling_keepsNorm a0_0 a0_1 a1).bind fun v4 =>
    some (v4, 0))

def l_FnExactKeepsNorm (a0_0 : Int) (a0_1 : List Int) (a1 : List (List Int)) : Option Bool :=
  (l_szDoubling a0_0 a0_1 1048576).bind fun v1 =>
  (if v1 < 0 then
    some true
  else
    (l_szInt64SS a1 v1).bind fun v4 =>
    (if v4 < 0 then
      some true
    else
      (l_toDoubling a0_0 a0_1).bind fun v7 =>
      (l_toInt64SS a1).bind fun v8 =>
      (s_KeepsNorm v7.1 v7.2 v8).bind fun v9 =>
      (l_toDoubling a0_0 a0_1).bind fun v10 =>
      (l_toInt64SS a1).bind fun v11 =>
      (i_KeepsNorm v10.1 v10.2 v11).bind fun v12 =>
      ((if (v12.1 != v9.1) = true then
        some true
      else
        some (!(ieq v12.2 v9.2))) : Option Bool).bind fun x15 =>
      (if x15 = true then
        some false
      else
        (l_toDoubling a0_0 a0_1).bind fun v18 =>
        (l_eqDoubling v10.1 v10.2 v18.1 v18.2).bind fun v19 =>
        (if v19 = false then
          some false
        else
          (l_toInt64SS a1).bind fun v22 =>
          (l_eqInt64SS v11 v22).bind fun v23 =>
          (if v23 = false then
            some false
          else
            some true)))))

def s_l02First_L0 (a0 : List Int) (s2 : Int) : Option (Int ⊕ (Unit ⊕ Int)) :=
  (if s2 < (a0.length : Int) then
    (idx a0 s2).bind fun v8 =>
    (if ¬ v8 = 0 then
      some (.inr (.inr s2))
    else
      some (.inl (w64 (s2 + 1))))
  else
    some (.inr (.inl ())))
def s_l02First (a0 : List Int) : Option Int :=
  (loop (s_l02First_L0 a0) BIG 0).bind fun x2 =>
  (match x2 with
  | .inl y4 =>
    some (-1)
  | .inr t => some t)

def s_l02Solve_L0 (a1 : List (List Int)) (a2 : List Int) (s2 : (List (List Int)) × Int) : Option (((List (List Int)) × Int) ⊕ (List (List Int))) :=
  (if s2.2 < (a1.length : Int) then
    (idx a1 s2.2).bind fun v7 =>
    (s_l01Own v7).bind fun v8 =>
    (idx a2 s2.2).bind fun v9 =>
    (chk (v8.length + [v9].length ≤ 1099511627776)).bind fun _ =>
    (chk (s2.1.length + [v8 ++ [v9]].length ≤ 1099511627776)).bind fun _ =>
    some (.inl (s2.1 ++ [v8 ++ [v9]], w64 (s2.2 + 1)))
  else
    some (.inr s2.1))
def s_l02Solve_L1 (v12 : List (List Int)) (v13 : List Int) (s16 : (List Int) × Int) : Option (((List Int) × Int) ⊕ ((List Int) ⊕ ((List Int) × Bool))) :=
  (if s16.2 < (v12.length : Int) then
    (idx v12 s16.2).bind fun v22 =>
    (s_l02First v22).bind fun v23 =>
    (if v23 = (v13.length : Int) then
      some (.inr (.inr (([] : List Int), false)))
    else
      (idx v22 (v13.length : Int)).bind fun v26 =>
      (idx s16.1 v23).bind fun v27 =>
      some (.inl (s16.1.set v23.toNat v26, w64 (s16.2 + 1))))
  else
    some (.inr (.inl s16.1)))
def s_l02Solve (a0 : Int) (a1 : List (List Int)) (a2 : List Int) : Option ((List Int) × Bool) :=
  (loop (s_l02Solve_L0 a1 a2) BIG ([], 0)).bind fun x2 =>
  (s_l02Basis a0 x2).bind fun v12 =>
  (idx a1 0).bind fun v13 =>
  (chk (0 ≤ (v13.length : Int) ∧ (v13.length : Int) ≤ 1099511627776)).bind fun _ =>
  (loop (s_l02Solve_L1 v12 v13) BIG (List.replicate (v13.length : Int).toNat 0, 0)).bind fun x16 =>
  (match x16 with
  | .inl y18 =>
    some (y18, true)
  | .inr t => some t)

def s_SolveMatrix (a0 : Int) (a1 : List (List Int)) (a2 : List Int) : Option ((List Int) × Int) :=
  (s_l02Is a0 a1).bind fun v2 =>
  (if v2 = false then
    some (([] : List Int), 1)
  else
    ((if ¬ (a2.length : Int) = (a1.length : Int) then
      some true
    else
      (s_l01Numbers a0 a2).bind fun v6 =>
      some (!v6)) : Option Bool).bind fun x7 =>
    (if x7 = true then
      some (([] : List Int), 2)
    else
      (s_l02Solve a0 a1 a2).bind fun v9 =>
      (if v9.2 = false then
        some (([] : List Int), 4)
      else
        some (v9.1, 0))))

def i_lead_L0 (a0 : List Int) (s2 : Int) : Option (Int ⊕ Int) :=
  ((if s2 < (a0.length : Int) then
    (idx a0 s2).bind fun v6 =>
    some (ieq v6 0)
  else
    some false) : Option Bool).bind fun x7 =>
  (if x7 = true then
    some (.inl (w64 (s2 + 1)))
  else
    some (.inr s2))
def i_lead (a0 : List Int) : Option Int :=
  (loop (i_lead_L0 a0) BIG 0).bind fun x2 =>
  some x2

def i_field_solve_L0 (a1 : List (List Int)) (a2 : List Int) (s3 : (List (List Int)) × Int) : Option (((List (List Int)) × Int) ⊕ (List (List Int))) :=
  (if s3.2 < (a1.length : Int) then
    (idx a1 s3.2).bind fun v8 =>
    (g_slices_Clone_LI_I v8).bind fun v9 =>
    (idx a2 s3.2).bind fun v10 =>
    (chk (v9.length + [v10].length ≤ 1099511627776)).bind fun _ =>
    (chk (s3.1.length + [v9 ++ [v10]].length ≤ 1099511627776)).bind fun _ =>
    some (.inl (s3.1 ++ [v9 ++ [v10]], w64 (s3.2 + 1)))
  else
    some (.inr s3.1))
def i_field_solve_L1 (v1 : List Int) (v15 : List (List Int)) (s16 : (List Int) × Int) : Option (((List Int) × Int) ⊕ ((List Int) ⊕ ((List Int) × Bool))) :=
  (if s16.2 < (v15.length : Int) then
    (idx v15 s16.2).bind fun v22 =>
    (i_lead v22).bind fun v23 =>
    (if v23 = (v1.length : Int) then
      some (.inr (.inr (([] : List Int), false)))
    else
      (idx v22 (v1.length : Int)).bind fun v26 =>
      (idx s16.1 v23).bind fun v27 =>
      some (.inl (s16.1.set v23.toNat v26, w64 (s16.2 + 1))))
  else
    some (.inr (.inl s16.1)))
def i_field_solve (a0 : Int) (a1 : List (List Int)) (a2 : List Int) : Option ((List Int) × Bool) :=
  (idx a1 0).bind fun v1 =>
  (loop (i_field_solve_L0 a1 a2) BIG ([], 0)).bind fun x3 =>
  (chk (0 ≤ (v1.length : Int) ∧ (v1.length : Int) ≤ 1099511627776)).bind fun _ =>
  (i_field_basis a0 x3).bind fun v15 =>
  (loop (i_field_solve_L1 v1 v15) BIG (List.replicate (v1.length : Int).toNat 0, 0)).bind fun x16 =>
  (match x16 with
  | .inl y18 =>
    some (y18, true)
  | .inr t => some t)

def i_SolveMatrix (a0 : Int) (a1 : List (List Int)) (a2 : List Int) : Option ((List Int) × Int) :=
  (i_checkMatrices a0 [a1]).bind fun v2 =>
  (if ¬ v2 = 0 then
    some (([] : List Int), v2)
  else
    ((if ¬ (a2.length : Int) = (a1.length : Int) then
      some true
    else
      (i_field_is a0 a2).bind fun v6 =>
      some (!v6)) : Option Bool).bind fun x7 =>
    (if x7 = true then
      some (([] : List Int), 2)
    else
      (i_field_solve a0 a1 a2).bind fun v9 =>
      (if v9.2 = false then
        some (([] : List Int), 4)
      else
        some (v9.1, 0))))

def l_FnExactSolveMatrix (a0 : Int) (a1 : List (List Int)) (a2 : List Int) : Option Bool :=
  (if 1048576 < (a2.length : Int) then
    some true
  else
    (l_szInt64SS a1 1048576).bind fun v3 =>
    (if v3 < 0 then
      some true
    else
      (l_toInt64SS a1).bind fun v6 =>
      (l_toInt64S a2).bind fun v7 =>
      (s_SolveMatrix a0 v6 v7).bind fun v8 =>
      (l_toInt64SS a1).bind fun v9 =>
      (l_toInt64S a2).bind fun v10 =>
      (i_SolveMatrix a0 v9 v10).bind fun v11 =>
      ((l_eqInt64S v11.1 v8.1).bind fun v13 =>
      (if v13 = false then
        some true
      else
        some (!(ieq v11.2 v8.2))) : Option Bool).bind fun x15 =>
      (if x15 = true then
        some false
      else
        (l_toInt64SS a1).bind fun v18 =>
        (l_eqInt64SS v9 v18).bind fun v19 =>
        (if v19 = false then
          some false
        else
          (l_toInt64S a2).bind fun v22 =>
          (l_eqInt64S v10 v22).bind fun v23 =>
          (if v23 = false then
            some false
          else
            (l_markInt64SS v9 1).bind fun v25 =>
            (l_markInt64S v10 v25.1).bind fun v26 =>
            ((if v26.1 < 0 then
              some true
            else
              (l_eqInt64S v11.1 v8.1).bind fun v29 =>
              (if v29 = false then
                some true
              else
                some (!(ieq v11.2 v8.2)))) : Option Bool).bind fun x31 =>
            (if x31 = true then
              some false
            else
              (l_markInt64S v11.1 1).bind fun v33 =>
              (l_heldInt64S v33.2 1).bind fun v34 =>
              (if v34 < 0 then
                some false
              else
                (if ¬ v34 = v33.1 then
                  some false
                else
                  (l_toInt64SS a1).bind fun v39 =>
                  (l_toInt64S a2).bind fun v40 =>
                  (i_SolveMatrix a0 v39 v40).bind fun v41 =>
                  ((l_eqInt64S v41.1 v8.1).bind fun v43 =>
                  (if v43 = false then
                    some true
                  else
                    some (!(ieq v41.2 v8.2))) : Option Bool).bind fun x45 =>
                  (if x45 = true then
                    some false
                  else
                    (l_heldInt64S v33.2 1).bind fun v47 =>
                    (if v47 < 0 then
                      some false
                    else
                      (if ¬ v47 = v33.1 then
                        some false
                      else
                        some true)))))))))))

def l_szTriple (a0_0 : List (List Int)) (a0_1 : List (List Int)) (a0_2 : List (List Int)) (a1 : Int) : Option Int :=
  (l_szInt64SS a0_0 a1).bind fun v1 =>
  (if v1 < 0 then
    some (-1)
  else
    (l_szInt64SS a0_1 v1).bind fun v4 =>
    (if v4 < 0 then
      some (-1)
    else
      (l_szInt64SS a0_2 v4).bind fun v7 =>
      (if v7 < 0 then
        some (-1)
      else
        some v7)))

def l_toTriple (a0_0 : List (List Int)) (a0_1 : List (List Int)) (a0_2 : List (List Int)) : Option ((List (List Int)) × (List (List Int)) × (List (List Int))) :=
  (l_toInt64SS a0_0).bind fun v1 =>
  (l_toInt64SS a0_1).bind fun v2 =>
  (l_toInt64SS a0_2).bind fun v3 =>
  some (v1, v2, v3)

def s_l02Kernel_L0 (v1 : List (List Int)) (s4 : (List Int) × Int) : Option (((List Int) × Int) ⊕ (List Int)) :=
  (if s4.2 < (v1.length : Int) then
    (idx v1 s4.2).bind fun v9 =>
    (s_l02First v9).bind fun v10 =>
    (chk (s4.1.length + [v10].length ≤ 1099511627776)).bind fun _ =>
    some (.inl (s4.1 ++ [v10], w64 (s4.2 + 1)))
  else
    some (.inr s4.1))
def s_l02Kernel_L2 (a0 : Int) (v1 : List (List Int)) (x4 : List Int) (s13 : (List (List Int)) × Int) (s27 : (List Int) × Int) : Option (((List Int) × Int) ⊕ (List Int)) :=
  (if s27.2 < (v1.length : Int) then
    (idx x4 s27.2).bind fun v32 =>
    (idx v1 s27.2).bind fun v33 =>
    (idx v33 s13.2).bind fun v34 =>
    (chk (¬ a0 = 0)).bind fun _ =>
    (idx s27.1 v32).bind fun v36 =>
    some (.inl (s27.1.set v32.toNat ((w64 (a0 - v34)).tmod a0), w64 (s27.2 + 1)))
  else
    some (.inr s27.1))
def s_l02Kernel_L1 (a0 : Int) (v1 : List (List Int)) (v2 : List Int) (x4 : List Int) (s13 : (List (List Int)) × Int) : Option (((List (List Int)) × Int) ⊕ (List (List Int))) :=
  (if s13.2 < (v2.length : Int) then
    ((s_l01Has x4 s13.2).bind fun v21 =>
    (if v21 = true then
      some s13.1
    else
      (chk (0 ≤ (v2.length : Int) ∧ (v2.length : Int) ≤ 1099511627776)).bind fun _ =>
      (some (List.replicate (v2.length : Int).toNat 0)).bind fun l24 =>
      (idx l24 s13.2).bind fun v25 =>
      (loop (s_l02Kernel_L2 a0 v1 x4 s13) BIG (l24.set s13.2.toNat 1, 0)).bind fun x27 =>
      (chk (s13.1.length + [x27].length ≤ 1099511627776)).bind fun _ =>
      some (s13.1 ++ [x27])) : Option (List (List Int))).bind fun x18 =>
    some (.inl (x18, w64 (s13.2 + 1)))
  else
    some (.inr s13.1))
def s_l02Kernel (a0 : Int) (a1 : List (List Int)) : Option (List (List Int)) :=
  (s_l02Basis a0 a1).bind fun v1 =>
  (idx a1 0).bind fun v2 =>
  (loop (s_l02Kernel_L0 v1) BIG ([], 0)).bind fun x4 =>
  (loop (s_l02Kernel_L1 a0 v1 v2 x4) BIG ([], 0)).bind fun x13 =>
  (s_l02Basis a0 x13).bind fun v38 =>
  (s_l01Own2 v38).bind fun v39 =>
  some v39

def s_KernelBasis (a0 : Int) (a1 : List (List Int)) : Option ((List (List Int)) × Int) :=
  (s_l02Is a0 a1).bind fun v2 =>
  (if v2 = false then
    some (([] : List (List Int)), 1)
  else
    (s_l02Kernel a0 a1).bind fun v4 =>
    some (v4, 0))

def s_l12Counts_L2 (a0 : Int) (a1 : List Int) (s5 : (List Int) × Int) (s12 : (List Int) × Int) (s17 : (List Int) × Int) : Option (((List Int) × Int) ⊕ (List Int)) :=
  (if s17.2 < a0 then
    (idx a1 s5.2).bind fun v22 =>
    (s_l01Mod a0 (w64 (s12.2 + (w64 ((w64 (v22 * s17.2)) * s17.2))))).bind fun v23 =>
    (idx s17.1 v23).bind fun v24 =>
    (idx s5.1 s12.2).bind fun v25 =>
    some (.inl (s17.1.set v23.toNat (w64 (v24 + v25)), w64 (s17.2 + 1)))
  else
    some (.inr s17.1))
def s_l12Counts_L1 (a0 : Int) (a1 : List Int) (s5 : (List Int) × Int) (s12 : (List Int) × Int) : Option (((List Int) × Int) ⊕ (List Int)) :=
  (if s12.2 < a0 then
    (loop (s_l12Counts_L2 a0 a1 s5 s12) BIG (s12.1, 0)).bind fun x17 =>
    some (.inl (x17, w64 (s12.2 + 1)))
  else
    some (.inr s12.1))
def s_l12Counts_L0 (a0 : Int) (a1 : List Int) (s5 : (List Int) × Int) : Option (((List Int) × Int) ⊕ (List Int)) :=
  (if s5.2 < (a1.length : Int) then
    (chk (0 ≤ a0 ∧ a0 ≤ 1099511627776)).bind fun _ =>
    (loop (s_l12Counts_L1 a0 a1 s5) BIG (List.replicate a0.toNat 0, 0)).bind fun x12 =>
    some (.inl (x12, w64 (s5.2 + 1)))
  else
    some (.inr s5.1))
def s_l12Counts (a0 : Int) (a1 : List Int) : Option (List Int) :=
  (chk (0 ≤ a0 ∧ a0 ≤ 1099511627776)).bind fun _ =>
  (some (List.replicate a0.toNat 0)).bind fun l2 =>
  (idx l2 0).bind fun v3 =>
  (loop (s_l12Counts_L0 a0 a1) BIG (l2.set 0 1, 0)).bind fun x5 =>
  some x5

def s_l03Pair_L0 (a0_0 : Int) (a0_1 : List Int) (a1 : List Int) (a2 : List Int) (s2 : Int × Int) : Option ((Int × Int) ⊕ Int) :=
  (if s2.2 < (a1.length : Int) then
    (idx a1 s2.2).bind fun v7 =>
    (idx a2 s2.2).bind fun v8 =>
    (chk (¬ a0_0 = 0)).bind fun _ =>
    (idx a0_1 s2.2).bind fun v10 =>
    (chk (¬ a0_0 = 0)).bind fun _ =>
    some (.inl ((w64 (s2.1 + (w64 (((w64 (v7 * v8)).tmod a0_0) * v10)))).tmod a0_0, w64 (s2.2 + 1)))
  else
    some (.inr s2.1))
def s_l03Pair (a0_0 : Int) (a0_1 : List Int) (a1 : List Int) (a2 : List Int) : Option Int :=
  (loop (s_l03Pair_L0 a0_0 a0_1 a1 a2) BIG (0, 0)).bind fun x2 =>
  some x2

def s_l03Isometry_L1 (a0_1 : List Int) (a1_0 : Int) (a1_1 : List Int) (v12 : List (List Int)) (s14 : Int) (s20 : Int) : Option (Int ⊕ (Unit ⊕ (Int ⊕ (Unit ⊕ Bool)))) :=
  (if s20 ≤ s14 then
    ((if s14 = s20 then
      (idx a0_1 s14).bind fun v30 =>
      some v30
    else
      some 0) : Option Int).bind fun x27 =>
    (idx v12 s14).bind fun v31 =>
    (idx v12 s20).bind fun v32 =>
    (s_l03Pair a1_0 a1_1 v31 v32).bind fun v33 =>
    (if ¬ v33 = x27 then
      some (.inr (.inr (.inr (.inr false))))
    else
      some (.inl (w64 (s20 + 1))))
  else
    some (.inr (.inl ())))
def s_l03Isometry_L0 (a0_1 : List Int) (a1_0 : Int) (a1_1 : List Int) (v12 : List (List Int)) (s14 : Int) : Option (Int ⊕ (Unit ⊕ Bool)) :=
  (if s14 < (a0_1.length : Int) then
    (loop (s_l03Isometry_L1 a0_1 a1_0 a1_1 v12 s14) BIG 0).bind fun x20 =>
    (match x20 with
    | .inl y22 =>
      some (.inl (w64 (s14 + 1)))
    | .inr t => some t)
  else
    some (.inr (.inl ())))
def s_l03Isometry (a0_0 : Int) (a0_1 : List Int) (a1_0 : Int) (a1_1 : List Int) (a2 : List (List Int)) : Option Bool :=
  ((if ¬ a0_0 = a1_0 then
    some true
  else
    (if ¬ (a1_1.length : Int) = (a0_1.length : Int) then
      some true
    else
      (if ¬ (a2.length : Int) = (a0_1.length : Int) then
        some true
      else
        (s_l02Is a0_0 a2).bind fun v5 =>
        (if v5 = false then
          some true
        else
          (idx a2 0).bind fun v7 =>
          (if ¬ (v7.length : Int) = (a0_1.length : Int) then
            some true
          else
            (s_l02Det a0_0 a2).bind fun v9 =>
            some (ieq v9 0)))))) : Option Bool).bind fun x10 =>
  (if x10 = true then
    some false
  else
    (s_l02Turn a2).bind fun v12 =>
    (loop (s_l03Isometry_L0 a0_1 a1_0 a1_1 v12) BIG 0).bind fun x14 =>
    (match x14 with
    | .inl y16 =>
      some true
    | .inr t => some t))

def s_IsIsometry (a0_0 : Int) (a0_1 : List Int) (a1_0 : Int) (a1_1 : List Int) (a2 : List (List Int)) : Option (Bool × Int) :=
  ((s_l03Is a0_0 a0_1).bind fun v2 =>
  (if v2 = false then
    some true
  else
    (s_l03Is a1_0 a1_1).bind fun v4 =>
    some (!v4)) : Option Bool).bind fun x5 =>
  (if x5 = true then
    some (false, 1)
  else
    (s_l03Isometry a0_0 a0_1 a1_0 a1_1 a2).bind fun v7 =>
    some (v7, 0))

def s_l08Is (a0_0 : Int) (a0_1 : List Int) (a1 : List (List Int)) : Option Bool :=
  (s_l03Isometry a0_0 a0_1 a0_0 a0_1 a1).bind fun v1 =>
  some v1

def s_IsOrthogonal (a0_0 : Int) (a0_1 : List Int) (a1 : List (List Int)) : Option (Bool × Int) :=
  (s_l03Is a0_0 a0_1).bind fun v2 =>
  (if v2 = false then
    some (false, 1)
  else
    (s_l03Disc a0_0 a0_1).bind fun v5 =>
    (if v5 = 0 then
      some (false, 5)
    else
      (s_l08Is a0_0 a0_1 a1).bind fun v7 =>
      some (v7, 0)))

def i_Space_weighted_L0 (a0_0 : Int) (a0_1 : List Int) (a1 : List Int) (s2 : (List Int) × Int) : Option (((List Int) × Int) ⊕ (List Int)) :=
  (if s2.2 < (a1.length : Int) then
    (idx a1 s2.2).bind fun v7 =>
    (i_Space_field a0_0 a0_1).bind fun v8 =>
    (idx a0_1 s2.2).bind fun v9 =>
    (i_field_num v8 (w64 (v7 * v9))).bind fun v10 =>
    (chk (s2.1.length + [v10].length ≤ 1099511627776)).bind fun _ =>
    some (.inl (s2.1 ++ [v10], w64 (s2.2 + 1)))
  else
    some (.inr s2.1))
def i_Space_weighted (a0_0 : Int) (a0_1 : List Int) (a1 : List Int) : Option (List Int) :=
  (loop (i_Space_weighted_L0 a0_0 a0_1 a1) BIG ([], 0)).bind fun x2 =>
  some x2

def i_Space_pair (a0_0 : Int) (a0_1 : List Int) (a1 : List Int) (a2 : List Int) : Option Int :=
  (i_Space_field a0_0 a0_1).bind fun v1 =>
  (i_Space_weighted a0_0 a0_1 a1).bind fun v2 =>
  (i_field_dot v1 v2 a2).bind fun v3 =>
  some v3

def i_isIsometry_L1 (a0_1 : List Int) (a1_0 : Int) (a1_1 : List Int) (v18 : List (List Int)) (s20 : Int) (v26 : List Int) (s27 : Int) : Option (Int ⊕ (Unit ⊕ (Int ⊕ (Unit ⊕ Bool)))) :=
  (if s27 < (v18.length : Int) then
    (idx v18 s27).bind fun v33 =>
    ((if s20 = s27 then
      (idx a0_1 s20).bind fun v38 =>
      some v38
    else
      some 0) : Option Int).bind fun x35 =>
    (i_Space_pair a1_0 a1_1 v26 v33).bind fun v39 =>
    (if ¬ v39 = x35 then
      some (.inr (.inr (.inr (.inr false))))
    else
      some (.inl (w64 (s27 + 1))))
  else
    some (.inr (.inl ())))
def i_isIsometry_L0 (a0_1 : List Int) (a1_0 : Int) (a1_1 : List Int) (v18 : List (List Int)) (s20 : Int) : Option (Int ⊕ (Unit ⊕ Bool)) :=
  (if s20 < (v18.length : Int) then
    (idx v18 s20).bind fun v26 =>
    (loop (i_isIsometry_L1 a0_1 a1_0 a1_1 v18 s20 v26) BIG 0).bind fun x27 =>
    (match x27 with
    | .inl y29 =>
      some (.inl (w64 (s20 + 1)))
    | .inr t => some t)
  else
    some (.inr (.inl ())))
def i_isIsometry (a0_0 : Int) (a0_1 : List Int) (a1_0 : Int) (a1_1 : List Int) (a2 : List (List Int)) : Option Bool :=
  ((if ¬ a0_0 = a1_0 then
    some true
  else
    (i_Space_dim a0_0 a0_1).bind fun v3 =>
    (i_Space_dim a1_0 a1_1).bind fun v4 =>
    (if ¬ v3 = v4 then
      some true
    else
      (i_Space_field a0_0 a0_1).bind fun v6 =>
      (i_field_isMatrix v6 a2).bind fun v7 =>
      (if v7 = false then
        some true
      else
        (i_Space_dim a0_0 a0_1).bind fun v9 =>
        (if ¬ (a2.length : Int) = v9 then
          some true
        else
          (idx a2 0).bind fun v11 =>
          (i_Space_dim a0_0 a0_1).bind fun v12 =>
          (if ¬ (v11.length : Int) = v12 then
            some true
          else
            (i_Space_field a0_0 a0_1).bind fun v14 =>
            (i_field_determinant v14 a2).bind fun v15 =>
            some (ieq v15 0)))))) : Option Bool).bind fun x16 =>
  (if x16 = true then
    some false
  else
    (i_transpose a2).bind fun v18 =>
    (loop (i_isIsometry_L0 a0_1 a1_0 a1_1 v18) BIG 0).bind fun x20 =>
    (match x20 with
    | .inl y22 =>
      some true
    | .inr t => some t))

def i_IsOrthogonal (a0_0 : Int) (a0_1 : List Int) (a1 : List (List Int)) : Option (Bool × Int) :=
  (i_IsSpace a0_0 a0_1).bind fun v2 =>
  (if v2 = false then
    some (false, 1)
  else
    (i_Space_regular a0_0 a0_1).bind fun v4 =>
    (if v4 = false then
      some (false, 5)
    else
      (i_isIsometry a0_0 a0_1 a0_0 a0_1 a1).bind fun v6 =>
      some (v6, 0)))

def l_FnExactIsOrthogonal (a0_0 : Int) (a0_1 : List Int) (a1 : List (List Int)) : Option Bool :=
  (l_szSpace a0_0 a0_1 1048576).bind fun v1 =>
  (if v1 < 0 then
    some true
  else
    (l_szInt64SS a1 v1).bind fun v4 =>
    (if v4 < 0 then
      some true
    else
      (l_toSpace a0_0 a0_1).bind fun v7 =>
      (l_toInt64SS a1).bind fun v8 =>
      (s_IsOrthogonal v7.1 v7.2 v8).bind fun v9 =>
      (l_toSpace a0_0 a0_1).bind fun v10 =>
      (l_toInt64SS a1).bind fun v11 =>
      (i_IsOrthogonal v10.1 v10.2 v11).bind fun v12 =>
      ((if (v12.1 != v9.1) = true then
        some true
      else
        some (!(ieq v12.2 v9.2))) : Option Bool).bind fun x15 =>
      (if x15 = true then
        some false
      else
        (l_toSpace a0_0 a0_1).bind fun v18 =>
        (l_eqSpace v10.1 v10.2 v18.1 v18.2).bind fun v19 =>
        (if v19 = false then
          some false
        else
          (l_toInt64SS a1).bind fun v22 =>
          (l_eqInt64SS v11 v22).bind fun v23 =>
          (if v23 = false then
            some false
          else
            some true)))))

def s_l12Commutator (a0_0 : Int) (a0_1 : List Int) (a1 : List Int) (a2 : List Int) : Option (List Int) :=
  (s_l11Times a0_0 a0_1 a1 a2).bind fun v1 =>
  (s_l11Times a0_0 a0_1 a2 a1).bind fun v2 =>
  (s_l11Minus a0_0 v1 v2).bind fun v3 =>
  some v3

def s_l12Associator (a0_0 : Int) (a0_1 : List Int) (a1 : List Int) (a2 : List Int) (a3 : List Int) : Option (List Int) :=
  (s_l11Times a0_0 a0_1 a1 a2).bind fun v1 =>
  (s_l11Times a0_0 a0_1 v1 a3).bind fun v2 =>
  (s_l11Times a0_0 a0_1 a2 a3).bind fun v3 =>
  (s_l11Times a0_0 a0_1 a1 v3).bind fun v4 =>
  (s_l11Minus a0_0 v2 v4).bind fun v5 =>
  some v5

def s_l14Inner_L0 (a0_0 : Int) (a0_1 : List Int) (a1 : List Int) (a2 : List Int) (v1 : List Int) (s3 : (List (List Int)) × Int) : Option (((List (List Int)) × Int) ⊕ (List (List Int))) :=
  (s_l11Size a0_0 a0_1).bind fun v6 =>
  (if s3.2 < v6 then
    (s_l11One a0_0 a0_1 s3.2).bind fun v9 =>
    (s_l12Commutator a0_0 a0_1 v1 v9).bind fun v10 =>
    (s_l12Associator a0_0 a0_1 a1 a2 v9).bind fun v11 =>
    (s_l11Scale a0_0 3 v11).bind fun v12 =>
    (s_l11Minus a0_0 v10 v12).bind fun v13 =>
    (chk (s3.1.length + [v13].length ≤ 1099511627776)).bind fun _ =>
    some (.inl (s3.1 ++ [v13], w64 (s3.2 + 1)))
  else
    some (.inr s3.1))
def s_l14Inner (a0_0 : Int) (a0_1 : List Int) (a1 : List Int) (a2 : List Int) : Option (List (List Int)) :=
  (s_l12Commutator a0_0 a0_1 a1 a2).bind fun v1 =>
  (loop (s_l14Inner_L0 a0_0 a0_1 a1 a2 v1) BIG ([], 0)).bind fun x3 =>
  (s_l11Columns x3).bind fun v15 =>
  some v15

def s_InnerDerivation (a0_0 : Int) (a0_1 : List Int) (a1 : List Int) (a2 : List Int) : Option ((List (List Int)) × Int) :=
  (s_l14Elements a0_0 a0_1 [a1, a2]).bind fun v2 =>
  (if ¬ v2 = 0 then
    some (([] : List (List Int)), v2)
  else
    (s_l14Inner a0_0 a0_1 a1 a2).bind fun v4 =>
    some (v4, 0))

def i_Doubling_commutator (a0_0 : Int) (a0_1 : List Int) (a1 : List Int) (a2 : List Int) : Option (List Int) :=
  (i_Doubling_field a0_0 a0_1).bind fun v1 =>
  (i_Doubling_times a0_0 a0_1 a1 a2).bind fun v2 =>
  (i_Doubling_times a0_0 a0_1 a2 a1).bind fun v3 =>
  (i_field_plus v1 v2 v3 (-1)).bind fun v4 =>
  some v4

def i_Doubling_associator (a0_0 : Int) (a0_1 : List Int) (a1 : List Int) (a2 : List Int) (a3 : List Int) : Option (List Int) :=
  (i_Doubling_field a0_0 a0_1).bind fun v1 =>
  (i_Doubling_times a0_0 a0_1 a1 a2).bind fun v2 =>
  (i_Doubling_times a0_0 a0_1 v2 a3).bind fun v3 =>
  (i_Doubling_times a0_0 a0_1 a2 a3).bind fun v4 =>
  (i_Doubling_times a0_0 a0_1 a1 v4).bind fun v5 =>
  (i_field_plus v1 v3 v5 (-1)).bind fun v6 =>
  some v6

def i_InnerDerivation_c1 (a0 : List Int) (a1_0 : Int) (a1_1 : List Int) (a2_0 : List Int) (a3_0 : List Int) : Option (List Int) :=
  (i_Doubling_field a1_0 a1_1).bind fun v1 =>
  (i_Doubling_commutator a1_0 a1_1 a2_0 a3_0).bind fun v2 =>
  (i_Doubling_commutator a1_0 a1_1 v2 a0).bind fun v3 =>
  (i_Doubling_associator a1_0 a1_1 a2_0 a3_0 a0).bind fun v4 =>
  (i_field_plus v1 v3 v4 (-3)).bind fun v5 =>
  some v5

def i_Doubling_matrixOf_of_i_InnerDerivation_c1_L0 (a1_0_0 : Int) (a1_0_1 : List Int) (a1_1_0 : List Int) (a1_2_0 : List Int) (v3 : List (List Int)) (s4 : (List (List Int)) × Int) : Option (((List (List Int)) × Int) ⊕ (List (List Int))) :=
  (if s4.2 < (v3.length : Int) then
    (idx v3 s4.2).bind fun v9 =>
    (i_InnerDerivation_c1 v9 a1_0_0 a1_0_1 a1_1_0 a1_2_0).bind fun v10 =>
    (chk (s4.1.length + [v10].length ≤ 1099511627776)).bind fun _ =>
    some (.inl (s4.1 ++ [v10], w64 (s4.2 + 1)))
  else
    some (.inr s4.1))
def i_Doubling_matrixOf_of_i_InnerDerivation_c1 (a0_0 : Int) (a0_1 : List Int) (a1_0_0 : Int) (a1_0_1 : List Int) (a1_1_0 : List Int) (a1_2_0 : List Int) : Option (List (List Int)) :=
  (i_Doubling_size a0_0 a0_1).bind fun v2 =>
  (i_unit v2).bind fun v3 =>
  (loop (i_Doubling_matrixOf_of_i_InnerDerivation_c1_L0 a1_0_0 a1_0_1 a1_1_0 a1_2_0 v3) BIG ([], 0)).bind fun x4 =>
  (i_transpose x4).bind fun v12 =>
  some v12

def i_InnerDerivation (a0_0 : Int) (a0_1 : List Int) (a1 : List Int) (a2 : List Int) : Option ((List (List Int)) × Int) :=
  (i_checkThree a0_0 a0_1 [a1, a2] ([] : List (List (List Int)))).bind fun v2 =>
  (if ¬ v2 = 0 then
    some (([] : List (List Int)), v2)
  else
    (i_Doubling_matrixOf_of_i_InnerDerivation_c1 a0_0 a0_1 a0_0 a0_1 a1 a2).bind fun v4 =>
    some (v4, 0))

def l_FnExactInnerDerivation (a0_0 : Int) (a0_1 : List Int) (a1 : List Int) (a2 : List Int) : Option Bool :=
  (if 1048576 < (a1.length : Int) then
    some true
  else
    (if 1048576 < (a2.length : Int) then
      some true
    else
      (l_szDoubling a0_0 a0_1 1048576).bind fun v5 =>
      (if v5 < 0 then
        some true
      else
        (l_toDoubling a0_0 a0_1).bind fun v8 =>
        (l_toInt64S a1).bind fun v9 =>
        (l_toInt64S a2).bind fun v10 =>
        (s_InnerDerivation v8.1 v8.2 v9 v10).bind fun v11 =>
        (l_toDoubling a0_0 a0_1).bind fun v12 =>
        (l_toInt64S a1).bind fun v13 =>
        (l_toInt64S a2).bind fun v14 =>
        (i_InnerDerivation v12.1 v12.2 v13 v14).bind fun v15 =>
        ((l_eqInt64SS v15.1 v11.1).bind fun v17 =>
        (if v17 = false then
          some true
        else
          some (!(ieq v15.2 v11.2))) : Option Bool).bind fun x19 =>
        (if x19 = true then
          some false
        else
          (l_toDoubling a0_0 a0_1).bind fun v22 =>
          (l_eqDoubling v12.1 v12.2 v22.1 v22.2).bind fun v23 =>
          (if v23 = false then
            some false
          else
            (l_toInt64S a1).bind fun v26 =>
            (l_eqInt64S v13 v26).bind fun v27 =>
            (if v27 = false then
              some false
            else
              (l_toInt64S a2).bind fun v30 =>
              (l_eqInt64S v14 v30).bind fun v31 =>
              (if v31 = false then
                some false
              else
                (l_markDoubling v12.1 v12.2 1).bind fun v33 =>
                (l_markInt64S v13 v33).bind fun v34 =>
                (l_markInt64S v14 v34.1).bind fun v35 =>
                ((if v35.1 < 0 then
                  some true
                else
                  (l_eqInt64SS v15.1 v11.1).bind fun v38 =>
                  (if v38 = false then
                    some true
                  else
                    some (!(ieq v15.2 v11.2)))) : Option Bool).bind fun x40 =>
                (if x40 = true then
                  some false
                else
                  (l_markInt64SS v15.1 1).bind fun v42 =>
                  (l_heldInt64SS v42.2 1).bind fun v43 =>
                  (if v43 < 0 then
                    some false
                  else
                    (if ¬ v43 = v42.1 then
                      some false
                    else
                      (l_toDoubling a0_0 a0_1).bind fun v48 =>
                      (l_toInt64S a1).bind fun v49 =>
                      (l_toInt64S a2).bind fun v50 =>
                      (i_InnerDerivation v48.1 v48.2 v49 v50).bind fun v51 =>
                      ((l_eqInt64SS v51.1 v11.1).bind fun v53 =>
                      (if v53 = false then
                        some true
                      else
                        some (!(ieq v51.2 v11.2))) : Option Bool).bind fun x55 =>
                      (if x55 = true then
                        some false
                      else
                        (l_heldInt64SS v42.2 1).bind fun v57 =>
                        (if v57 < 0 then
                          some false
                        else
                          (if ¬ v57 = v42.1 then
                            some false
                          else
                            some true)))))))))))))

def s_l08Code (a0_0 : Int) (a0_1 : List Int) (a1 : List (List Int)) : Option Int :=
  (s_IsOrthogonal a0_0 a0_1 a1).bind fun v1 =>
  ((if v1.2 = 0 then
    some (!v1.1)
  else
    some false) : Option Bool).bind fun x4 =>
  ((if x4 = true then
    some 2
  else
    some v1.2) : Option Int).bind fun x5 =>
  some x5

def s_IsProper (a0_0 : Int) (a0_1 : List Int) (a1 : List (List Int)) : Option (Bool × Int) :=
  (s_l08Code a0_0 a0_1 a1).bind fun v1 =>
  (if ¬ v1 = 0 then
    some (false, v1)
  else
    (s_l02Det a0_0 a1).bind fun v4 =>
    some (ieq v4 1, 0))

def i_checkOrthogonal (a0_0 : Int) (a0_1 : List Int) (a1 : List (List Int)) : Option Int :=
  (i_IsSpace a0_0 a0_1).bind fun v2 =>
  (if v2 = false then
    some 1
  else
    (i_Space_regular a0_0 a0_1).bind fun v4 =>
    (if v4 = false then
      some 5
    else
      (i_isIsometry a0_0 a0_1 a0_0 a0_1 a1).bind fun v6 =>
      (if v6 = false then
        some 2
      else
        some 0)))

def i_IsProper (a0_0 : Int) (a0_1 : List Int) (a1 : List (List Int)) : Option (Bool × Int) :=
  (i_checkOrthogonal a0_0 a0_1 a1).bind fun v2 =>
  (if ¬ v2 = 0 then
    some (false, v2)
  else
    (i_Space_field a0_0 a0_1).bind fun v4 =>
    (i_field_determinant v4 a1).bind fun v5 =>
    some (ieq v5 1, 0))

def l_FnExactIsProper (a0_0 : Int) (a0_1 : List Int) (a1 : List (List Int)) : Option Bool :=
  (l_szSpace a0_0 a0_1 1048576).bind fun v1 =>
  (if v1 < 0 then
    some true
  else
    (l_szInt64SS a1 v1).bind fun v4 =>
    (if v4 < 0 then
      some true
    else
      (l_toSpace a0_0 a0_1).bind fun v7 =>
      (l_toInt64SS a1).bind fun v8 =>
      (s_IsProper v7.1 v7.2 v8).bind fun v9 =>
      (l_toSpace a0_0 a0_1).bind fun v10 =>
      (l_toInt64SS a1).bind fun v11 =>
      (i_IsProper v10.1 v10.2 v11).bind fun v12 =>
      ((if (v12.1 != v9.1) = true then
        some true
      else
        some (!(ieq v12.2 v9.2))) : Option Bool).bind fun x15 =>
      (if x15 = true then
        some false
      else
        (l_toSpace a0_0 a0_1).bind fun v18 =>
        (l_eqSpace v10.1 v10.2 v18.1 v18.2).bind fun v19 =>
        (if v19 = false then
          some false
        else
          (l_toInt64SS a1).bind fun v22 =>
          (l_eqInt64SS v11 v22).bind fun v23 =>
          (if v23 = false then
            some false
          else
            some true)))))

end Go.Vam
