import Derived.Test.YtdoimfkonaeceaaFnA
namespace Go.Vam
open Go Go.RowKit
set_option maxRecDepth 100000
set_option linter.unusedSimpArgs false
set_option linter.unusedVariables false

def i_field_doubled_b (self : Int → (List Int) → (List Int) → (List Int) → Option (List Int)) (a0 : Int) (a1 : List Int) (a2 : List Int) (a3 : List Int) : Option (List Int) :=
  (if (a1.length : Int) = 0 then
    (idx a2 0).bind fun v3 =>
    (idx a3 0).bind fun v4 =>
    (i_field_num a0 (w64 (v3 * v4))).bind fun v5 =>
    some [v5]
  else
    (chk (0 ≤ (w64 ((a2.length : Int).tdiv 2)) ∧ (w64 ((a2.length : Int).tdiv 2)) ≤ (a2.length : Int))).bind fun _ =>
    (chk (0 ≤ (w64 ((a2.length : Int).tdiv 2)) ∧ (w64 ((a2.length : Int).tdiv 2)) ≤ (a2.length : Int))).bind fun _ =>
    (chk (0 ≤ (w64 ((a2.length : Int).tdiv 2)) ∧ (w64 ((a2.length : Int).tdiv 2)) ≤ (a3.length : Int))).bind fun _ =>
    (chk (0 ≤ (w64 ((a2.length : Int).tdiv 2)) ∧ (w64 ((a2.length : Int).tdiv 2)) ≤ (a3.length : Int))).bind fun _ =>
    (chk (0 ≤ (w64 ((a1.length : Int) - 1)) ∧ (w64 ((a1.length : Int) - 1)) ≤ (a1.length : Int))).bind fun _ =>
    (self a0 (a1.take (w64 ((a1.length : Int) - 1)).toNat) (a2.take (w64 ((a2.length : Int).tdiv 2)).toNat) (a3.take (w64 ((a2.length : Int).tdiv 2)).toNat)).bind fun v11 =>
    (i_field_conjugate a0 (a3.drop (w64 ((a2.length : Int).tdiv 2)).toNat)).bind fun v12 =>
    (self a0 (a1.take (w64 ((a1.length : Int) - 1)).toNat) v12 (a2.drop (w64 ((a2.length : Int).tdiv 2)).toNat)).bind fun v13 =>
    (idx a1 (w64 ((a1.length : Int) - 1))).bind fun v14 =>
    (i_field_plus a0 v11 v13 v14).bind fun v15 =>
    (self a0 (a1.take (w64 ((a1.length : Int) - 1)).toNat) (a3.drop (w64 ((a2.length : Int).tdiv 2)).toNat) (a2.take (w64 ((a2.length : Int).tdiv 2)).toNat)).bind fun v16 =>
    (i_field_conjugate a0 (a3.take (w64 ((a2.length : Int).tdiv 2)).toNat)).bind fun v17 =>
    (self a0 (a1.take (w64 ((a1.length : Int) - 1)).toNat) (a2.drop (w64 ((a2.length : Int).tdiv 2)).toNat) v17).bind fun v18 =>
    (i_field_plus a0 v16 v18 1).bind fun v19 =>
    (chk (v15.length + v19.length ≤ 1099511627776)).bind fun _ =>
    some (v15 ++ v19))
def i_field_doubled : Nat → Int → (List Int) → (List Int) → (List Int) → Option (List Int)
  | 0 => fun _ _ _ _ => none
  | n + 1 => i_field_doubled_b (i_field_doubled n)

def i_Doubling_times (a0_0 : Int) (a0_1 : List Int) (a1 : List Int) (a2 : List Int) : Option (List Int) :=
  (i_Doubling_field a0_0 a0_1).bind fun v1 =>
  (i_field_doubled BIG v1 a0_1 a1 a2).bind fun v2 =>
  some v2

def l_szSpace (a0_0 : Int) (a0_1 : List Int) (a1 : Int) : Option Int :=
  (l_szInt64S a0_1 a1).bind fun v1 =>
  (if v1 < 0 then
    some (-1)
  else
    some v1)

def l_toSpace (a0_0 : Int) (a0_1 : List Int) : Option (Int × (List Int)) :=
  (l_toInt64S a0_1).bind fun v1 =>
  some (a0_0, v1)

def s_l03Is (a0_0 : Int) (a0_1 : List Int) : Option Bool :=
  ((s_l01Prime a0_0).bind fun v1 =>
  (if v1 = true then
    (s_l01In (a0_1.length : Int) 1 6).bind fun v3 =>
    (if v3 = true then
      (s_l01Numbers a0_0 a0_1).bind fun v5 =>
      some v5
    else
      some false)
  else
    some false) : Option Bool).bind fun x6 =>
  some x6

def s_l03Disc_L0 (a0_0 : Int) (a0_1 : List Int) (s2 : Int × Int) : Option ((Int × Int) ⊕ Int) :=
  (if s2.2 < (a0_1.length : Int) then
    (idx a0_1 s2.2).bind fun v7 =>
    (chk (¬ a0_0 = 0)).bind fun _ =>
    some (.inl ((w64 (s2.1 * v7)).tmod a0_0, w64 (s2.2 + 1)))
  else
    some (.inr s2.1))
def s_l03Disc (a0_0 : Int) (a0_1 : List Int) : Option Int :=
  (loop (s_l03Disc_L0 a0_0 a0_1) BIG (1, 0)).bind fun x2 =>
  some x2

def s_l10Shape (a0_0 : Int) (a0_1 : List Int) (a1 : List (List Int)) : Option Int :=
  (s_l03Is a0_0 a0_1).bind fun v2 =>
  (if v2 = false then
    some 1
  else
    ((s_l02Is a0_0 a1).bind fun v5 =>
    (if v5 = false then
      some true
    else
      (if ¬ (a1.length : Int) = (a0_1.length : Int) then
        some true
      else
        (idx a1 0).bind fun v8 =>
        some (!(ieq (v8.length : Int) (a1.length : Int))))) : Option Bool).bind fun x9 =>
    (if x9 = true then
      some 2
    else
      (s_l03Disc a0_0 a0_1).bind fun v12 =>
      (if v12 = 0 then
        some 5
      else
        some 0)))

def s_l10Skew_L1 (a0_0 : Int) (a0_1 : List Int) (a1 : List (List Int)) (s2 : Int) (s8 : Int) : Option (Int ⊕ (Unit ⊕ (Int ⊕ (Unit ⊕ Bool)))) :=
  (if s8 < (a1.length : Int) then
    (idx a1 s8).bind fun v14 =>
    (idx v14 s2).bind fun v15 =>
    (idx a0_1 s8).bind fun v16 =>
    (idx a1 s2).bind fun v17 =>
    (idx v17 s8).bind fun v18 =>
    (idx a0_1 s2).bind fun v19 =>
    (chk (¬ a0_0 = 0)).bind fun _ =>
    (if ¬ ((w64 ((w64 (v15 * v16)) + (w64 (v18 * v19)))).tmod a0_0) = 0 then
      some (.inr (.inr (.inr (.inr false))))
    else
      some (.inl (w64 (s8 + 1))))
  else
    some (.inr (.inl ())))
def s_l10Skew_L0 (a0_0 : Int) (a0_1 : List Int) (a1 : List (List Int)) (s2 : Int) : Option (Int ⊕ (Unit ⊕ Bool)) :=
  (if s2 < (a1.length : Int) then
    (loop (s_l10Skew_L1 a0_0 a0_1 a1 s2) BIG 0).bind fun x8 =>
    (match x8 with
    | .inl y10 =>
      some (.inl (w64 (s2 + 1)))
    | .inr t => some t)
  else
    some (.inr (.inl ())))
def s_l10Skew (a0_0 : Int) (a0_1 : List Int) (a1 : List (List Int)) : Option Bool :=
  (loop (s_l10Skew_L0 a0_0 a0_1 a1) BIG 0).bind fun x2 =>
  (match x2 with
  | .inl y4 =>
    some true
  | .inr t => some t)

def s_IsSkewMatrix (a0_0 : Int) (a0_1 : List Int) (a1 : List (List Int)) : Option (Bool × Int) :=
  (s_l10Shape a0_0 a0_1 a1).bind fun v1 =>
  (if ¬ v1 = 0 then
    some (false, v1)
  else
    (s_l10Skew a0_0 a0_1 a1).bind fun v4 =>
    some (v4, 0))

def i_length_I (a0 : List Int) : Option Int :=
  some (a0.length : Int)

def i_Space_field (a0_0 : Int) (a0_1 : List Int) : Option Int :=
  some a0_0

def i_IsSpace (a0_0 : Int) (a0_1 : List Int) : Option Bool :=
  ((i_IsPrime a0_0).bind fun v1 =>
  (if v1 = true then
    (i_length_I a0_1).bind fun v3 =>
    (i_inRange v3 1 6).bind fun v4 =>
    (if v4 = true then
      (i_Space_field a0_0 a0_1).bind fun v6 =>
      (i_field_is v6 a0_1).bind fun v7 =>
      some v7
    else
      some false)
  else
    some false) : Option Bool).bind fun x8 =>
  some x8

def i_Space_dim (a0_0 : Int) (a0_1 : List Int) : Option Int :=
  some (a0_1.length : Int)

def i_Space_isFrame (a0_0 : Int) (a0_1 : List Int) (a1 : List (List Int)) : Option Bool :=
  ((i_Space_field a0_0 a0_1).bind fun v1 =>
  (i_field_isMatrix v1 a1).bind fun v2 =>
  (if v2 = true then
    (i_Space_dim a0_0 a0_1).bind fun v4 =>
    (if (a1.length : Int) = v4 then
      (idx a1 0).bind fun v6 =>
      (i_Space_dim a0_0 a0_1).bind fun v7 =>
      some (ieq (v6.length : Int) v7)
    else
      some false)
  else
    some false) : Option Bool).bind fun x8 =>
  some x8

def i_Space_regular (a0_0 : Int) (a0_1 : List Int) : Option Bool :=
  (g_slices_Contains_LI_I a0_1 0).bind fun v1 =>
  some (!v1)

def i_checkFrame (a0_0 : Int) (a0_1 : List Int) (a1 : List (List Int)) : Option Int :=
  (i_IsSpace a0_0 a0_1).bind fun v2 =>
  (if v2 = false then
    some 1
  else
    (i_Space_isFrame a0_0 a0_1 a1).bind fun v4 =>
    (if v4 = false then
      some 2
    else
      (i_Space_regular a0_0 a0_1).bind fun v6 =>
      (if v6 = false then
        some 5
      else
        some 0)))

def i_Space_isSkew_L1 (a0_0 : Int) (a0_1 : List Int) (a1 : List (List Int)) (s2 : Int) (s8 : Int) : Option (Int ⊕ (Unit ⊕ (Int ⊕ (Unit ⊕ Bool)))) :=
  (if s8 < (a1.length : Int) then
    (i_Space_field a0_0 a0_1).bind fun v14 =>
    (idx a0_1 s8).bind fun v15 =>
    (idx a1 s8).bind fun v16 =>
    (idx v16 s2).bind fun v17 =>
    (idx a0_1 s2).bind fun v18 =>
    (idx a1 s2).bind fun v19 =>
    (idx v19 s8).bind fun v20 =>
    (i_field_num v14 (w64 ((w64 (v15 * v17)) + (w64 (v18 * v20))))).bind fun v21 =>
    (if ¬ v21 = 0 then
      some (.inr (.inr (.inr (.inr false))))
    else
      some (.inl (w64 (s8 + 1))))
  else
    some (.inr (.inl ())))
def i_Space_isSkew_L0 (a0_0 : Int) (a0_1 : List Int) (a1 : List (List Int)) (s2 : Int) : Option (Int ⊕ (Unit ⊕ Bool)) :=
  (if s2 < (a1.length : Int) then
    (loop (i_Space_isSkew_L1 a0_0 a0_1 a1 s2) BIG 0).bind fun x8 =>
    (match x8 with
    | .inl y10 =>
      some (.inl (w64 (s2 + 1)))
    | .inr t => some t)
  else
    some (.inr (.inl ())))
def i_Space_isSkew (a0_0 : Int) (a0_1 : List Int) (a1 : List (List Int)) : Option Bool :=
  (loop (i_Space_isSkew_L0 a0_0 a0_1 a1) BIG 0).bind fun x2 =>
  (match x2 with
  | .inl y4 =>
    some true
  | .inr t => some t)

def i_IsSkewMatrix (a0_0 : Int) (a0_1 : List Int) (a1 : List (List Int)) : Option (Bool × Int) :=
  (i_checkFrame a0_0 a0_1 a1).bind fun v2 =>
  (if ¬ v2 = 0 then
    some (false, v2)
  else
    (i_Space_isSkew a0_0 a0_1 a1).bind fun v4 =>
    some (v4, 0))

def l_eqSpace (a0_0 : Int) (a0_1 : List Int) (a1_0 : Int) (a1_1 : List Int) : Option Bool :=
  (if ¬ a0_0 = a1_0 then
    some false
  else
    (l_eqInt64S a0_1 a1_1).bind fun v4 =>
    (if v4 = false then
      some false
    else
      some true))

def l_FnExactIsSkewMatrix (a0_0 : Int) (a0_1 : List Int) (a1 : List (List Int)) : Option Bool :=
  (l_szSpace a0_0 a0_1 1048576).bind fun v1 =>
  (if v1 < 0 then
    some true
  else
    (l_szInt64SS a1 v1).bind fun v4 =>
    (if v4 < 0 then
      some true
    else
      (l_toSpace a0_0 a0_1).bind fun v7 =>
      (l_toInt64SS a1).bind fun v8 =>
      (s_IsSkewMatrix v7.1 v7.2 v8).bind fun v9 =>
      (l_toSpace a0_0 a0_1).bind fun v10 =>
      (l_toInt64SS a1).bind fun v11 =>
      (i_IsSkewMatrix v10.1 v10.2 v11).bind fun v12 =>
      ((if (v12.1 != v9.1) = true then
        some true
      else
        some (!(ieq v12.2 v9.2))) : Option Bool).bind fun x15 =>
      (if x15 = true then
        some false
      else
        (l_toSpace a0_0 a0_1).bind fun v18 =>
        (l_eqSpace v10.1 v10.2 v18.1 v18.2).bind fun v19 =>
        (if v19 = false then
          some false
        else
          (l_toInt64SS a1).bind fun v22 =>
          (l_eqInt64SS v11 v22).bind fun v23 =>
          (if v23 = false then
            some false
          else
            some true)))))

def s_l02Times_L2 (a0 : Int) (a1 : List (List Int)) (a2 : List (List Int)) (s2 : (List (List Int)) × Int) (s8 : (List Int) × Int) (s15 : Int × Int) : Option ((Int × Int) ⊕ Int) :=
  (if s15.2 < (a2.length : Int) then
    (idx a1 s2.2).bind fun v20 =>
    (idx v20 s15.2).bind fun v21 =>
    (idx a2 s15.2).bind fun v22 =>
    (idx v22 s8.2).bind fun v23 =>
    (chk (¬ a0 = 0)).bind fun _ =>
    some (.inl ((w64 (s15.1 + (w64 (v21 * v23)))).tmod a0, w64 (s15.2 + 1)))
  else
    some (.inr s15.1))
def s_l02Times_L1 (a0 : Int) (a1 : List (List Int)) (a2 : List (List Int)) (s2 : (List (List Int)) × Int) (s8 : (List Int) × Int) : Option (((List Int) × Int) ⊕ (List Int)) :=
  (idx a2 0).bind fun v11 =>
  (if s8.2 < (v11.length : Int) then
    (loop (s_l02Times_L2 a0 a1 a2 s2 s8) BIG (0, 0)).bind fun x15 =>
    (chk (s8.1.length + [x15].length ≤ 1099511627776)).bind fun _ =>
    some (.inl (s8.1 ++ [x15], w64 (s8.2 + 1)))
  else
    some (.inr s8.1))
def s_l02Times_L0 (a0 : Int) (a1 : List (List Int)) (a2 : List (List Int)) (s2 : (List (List Int)) × Int) : Option (((List (List Int)) × Int) ⊕ (List (List Int))) :=
  (if s2.2 < (a1.length : Int) then
    (loop (s_l02Times_L1 a0 a1 a2 s2) BIG ([], 0)).bind fun x8 =>
    (chk (s2.1.length + [x8].length ≤ 1099511627776)).bind fun _ =>
    some (.inl (s2.1 ++ [x8], w64 (s2.2 + 1)))
  else
    some (.inr s2.1))
def s_l02Times (a0 : Int) (a1 : List (List Int)) (a2 : List (List Int)) : Option (List (List Int)) :=
  (loop (s_l02Times_L0 a0 a1 a2) BIG ([], 0)).bind fun x2 =>
  some x2

def s_MultiplyMatrices (a0 : Int) (a1 : List (List Int)) (a2 : List (List Int)) : Option ((List (List Int)) × Int) :=
  ((s_l02Is a0 a1).bind fun v2 =>
  (if v2 = false then
    some true
  else
    (s_l02Is a0 a2).bind fun v4 =>
    some (!v4)) : Option Bool).bind fun x5 =>
  (if x5 = true then
    some (([] : List (List Int)), 1)
  else
    (idx a1 0).bind fun v8 =>
    (if ¬ (v8.length : Int) = (a2.length : Int) then
      some (([] : List (List Int)), 2)
    else
      (s_l02Times a0 a1 a2).bind fun v10 =>
      some (v10, 0)))

def i_field_times_L0 (a0 : Int) (a1 : List (List Int)) (v1 : List (List Int)) (s3 : (List (List Int)) × Int) : Option (((List (List Int)) × Int) ⊕ (List (List Int))) :=
  (if s3.2 < (a1.length : Int) then
    (idx a1 s3.2).bind fun v8 =>
    (i_field_apply a0 v1 v8).bind fun v9 =>
    (chk (s3.1.length + [v9].length ≤ 1099511627776)).bind fun _ =>
    some (.inl (s3.1 ++ [v9], w64 (s3.2 + 1)))
  else
    some (.inr s3.1))
def i_field_times (a0 : Int) (a1 : List (List Int)) (a2 : List (List Int)) : Option (List (List Int)) :=
  (i_transpose a2).bind fun v1 =>
  (loop (i_field_times_L0 a0 a1 v1) BIG ([], 0)).bind fun x3 =>
  some x3

def i_MultiplyMatrices (a0 : Int) (a1 : List (List Int)) (a2 : List (List Int)) : Option ((List (List Int)) × Int) :=
  (i_checkMatrices a0 [a1, a2]).bind fun v2 =>
  (if ¬ v2 = 0 then
    some (([] : List (List Int)), v2)
  else
    (idx a1 0).bind fun v5 =>
    (if ¬ (v5.length : Int) = (a2.length : Int) then
      some (([] : List (List Int)), 2)
    else
      (i_field_times a0 a1 a2).bind fun v7 =>
      some (v7, 0)))

def l_FnExactMultiplyMatrices (a0 : Int) (a1 : List (List Int)) (a2 : List (List Int)) : Option Bool :=
  (l_szInt64SS a1 1048576).bind fun v1 =>
  (if v1 < 0 then
    some true
  else
    (l_szInt64SS a2 v1).bind fun v4 =>
    (if v4 < 0 then
      some true
    else
      (l_toInt64SS a1).bind fun v7 =>
      (l_toInt64SS a2).bind fun v8 =>
      (s_MultiplyMatrices a0 v7 v8).bind fun v9 =>
      (l_toInt64SS a1).bind fun v10 =>
      (l_toInt64SS a2).bind fun v11 =>
      (i_MultiplyMatrices a0 v10 v11).bind fun v12 =>
      ((l_eqInt64SS v12.1 v9.1).bind fun v14 =>
      (if v14 = false then
        some true
      else
        some (!(ieq v12.2 v9.2))) : Option Bool).bind fun x16 =>
      (if x16 = true then
        some false
      else
        (l_toInt64SS a1).bind fun v19 =>
        (l_eqInt64SS v10 v19).bind fun v20 =>
        (if v20 = false then
          some false
        else
          (l_toInt64SS a2).bind fun v23 =>
          (l_eqInt64SS v11 v23).bind fun v24 =>
          (if v24 = false then
            some false
          else
            (l_markInt64SS v10 1).bind fun v26 =>
            (l_markInt64SS v11 v26.1).bind fun v27 =>
            ((if v27.1 < 0 then
              some true
            else
              (l_eqInt64SS v12.1 v9.1).bind fun v30 =>
              (if v30 = false then
                some true
              else
                some (!(ieq v12.2 v9.2)))) : Option Bool).bind fun x32 =>
            (if x32 = true then
              some false
            else
              (l_markInt64SS v12.1 1).bind fun v34 =>
              (l_heldInt64SS v34.2 1).bind fun v35 =>
              (if v35 < 0 then
                some false
              else
                (if ¬ v35 = v34.1 then
                  some false
                else
                  (l_toInt64SS a1).bind fun v40 =>
                  (l_toInt64SS a2).bind fun v41 =>
                  (i_MultiplyMatrices a0 v40 v41).bind fun v42 =>
                  ((l_eqInt64SS v42.1 v9.1).bind fun v44 =>
                  (if v44 = false then
                    some true
                  else
                    some (!(ieq v42.2 v9.2))) : Option Bool).bind fun x46 =>
                  (if x46 = true then
                    some false
                  else
                    (l_heldInt64SS v34.2 1).bind fun v48 =>
                    (if v48 < 0 then
                      some false
                    else
                      (if ¬ v48 = v34.1 then
                        some false
                      else
                        some true)))))))))))

def s_l13Is_L0 (a0 : List (List Int)) (s5 : Int) : Option (Int ⊕ (Unit ⊕ Bool)) :=
  (if s5 < (a0.length : Int) then
    (idx a0 s5).bind fun v11 =>
    (if ¬ (v11.length : Int) = (a0.length : Int) then
      some (.inr (.inr false))
    else
      some (.inl (w64 (s5 + 1))))
  else
    some (.inr (.inl ())))
def s_l13Is_L2 (a0 : List (List Int)) (s14 : Int) (s23 : (List Bool) × (List Bool) × Int) : Option (((List Bool) × (List Bool) × Int) ⊕ (Unit ⊕ (Int ⊕ (Unit ⊕ Bool)))) :=
  (if s23.2.2 < (a0.length : Int) then
    ((idx a0 s14).bind fun v30 =>
    (idx v30 s23.2.2).bind fun v31 =>
    (s_l01In v31 0 (w64 ((a0.length : Int) - 1))).bind fun v32 =>
    (if v32 = false then
      some true
    else
      (idx a0 s23.2.2).bind fun v34 =>
      (idx v34 s14).bind fun v35 =>
      (s_l01In v35 0 (w64 ((a0.length : Int) - 1))).bind fun v36 =>
      (if v36 = false then
        some true
      else
        (idx s23.1 v31).bind fun v38 =>
        (if v38 = true then
          some true
        else
          (idx s23.2.1 v35).bind fun v40 =>
          some v40))) : Option Bool).bind fun x41 =>
    (if x41 = true then
      some (.inr (.inr (.inr (.inr false))))
    else
      (idx a0 s14).bind fun v43 =>
      (idx v43 s23.2.2).bind fun v44 =>
      (idx s23.1 v44).bind fun v45 =>
      (idx a0 s23.2.2).bind fun v46 =>
      (idx v46 s14).bind fun v47 =>
      (idx s23.2.1 v47).bind fun v48 =>
      some (.inl (s23.1.set v44.toNat true, s23.2.1.set v47.toNat true, w64 (s23.2.2 + 1))))
  else
    some (.inr (.inl ())))
def s_l13Is_L1 (a0 : List (List Int)) (s14 : Int) : Option (Int ⊕ (Unit ⊕ Bool)) :=
  (if s14 < (a0.length : Int) then
    (chk (0 ≤ (a0.length : Int) ∧ (a0.length : Int) ≤ 1099511627776)).bind fun _ =>
    (chk (0 ≤ (a0.length : Int) ∧ (a0.length : Int) ≤ 1099511627776)).bind fun _ =>
    (loop (s_l13Is_L2 a0 s14) BIG (List.replicate (a0.length : Int).toNat false, List.replicate (a0.length : Int).toNat false, 0)).bind fun x23 =>
    (match x23 with
    | .inl y25 =>
      ((idx a0 0).bind fun v49 =>
      (idx v49 s14).bind fun v50 =>
      (if ¬ v50 = s14 then
        some true
      else
        (idx a0 s14).bind fun v52 =>
        (idx v52 0).bind fun v53 =>
        some (!(ieq v53 s14))) : Option Bool).bind fun x54 =>
      (if x54 = true then
        some (.inr (.inr false))
      else
        some (.inl (w64 (s14 + 1))))
    | .inr t => some t)
  else
    some (.inr (.inl ())))
def s_l13Is (a0 : List (List Int)) : Option Bool :=
  (s_l01In (a0.length : Int) 1 128).bind fun v2 =>
  (if v2 = false then
    some false
  else
    (loop (s_l13Is_L0 a0) BIG 0).bind fun x5 =>
    (match x5 with
    | .inl y7 =>
      (loop (s_l13Is_L1 a0) BIG 0).bind fun x14 =>
      (match x14 with
      | .inl y16 =>
        some true
      | .inr t => some t)
    | .inr t => some t))

def s_l13Associates (a0 : List (List Int)) (a1 : Int) (a2 : Int) (a3 : Int) : Option Bool :=
  (idx a0 a1).bind fun v1 =>
  (idx v1 a2).bind fun v2 =>
  (idx a0 v2).bind fun v3 =>
  (idx v3 a3).bind fun v4 =>
  (idx a0 a2).bind fun v5 =>
  (idx v5 a3).bind fun v6 =>
  (idx v1 v6).bind fun v7 =>
  some (ieq v4 v7)

def s_l13Nucleus_L2 (a0 : List (List Int)) (s2 : (List Int) × Int) (s9 : Bool × Int) (s22 : Bool × Int) : Option ((Bool × Int) ⊕ Bool) :=
  ((if s22.2 < (a0.length : Int) then
    some s22.1
  else
    some false) : Option Bool).bind fun x26 =>
  (if x26 = true then
    ((s_l13Associates a0 s2.2 s9.2 s22.2).bind fun v29 =>
    (if v29 = true then
      (s_l13Associates a0 s9.2 s2.2 s22.2).bind fun v31 =>
      (if v31 = true then
        (s_l13Associates a0 s9.2 s22.2 s2.2).bind fun v33 =>
        some v33
      else
        some false)
    else
      some false) : Option Bool).bind fun x34 =>
    some (.inl (x34, w64 (s22.2 + 1)))
  else
    some (.inr s22.1))
def s_l13Nucleus_L1 (a0 : List (List Int)) (a1 : Bool) (s2 : (List Int) × Int) (s9 : Bool × Int) : Option ((Bool × Int) ⊕ Bool) :=
  ((if s9.2 < (a0.length : Int) then
    some s9.1
  else
    some false) : Option Bool).bind fun x13 =>
  (if x13 = true then
    ((if a1 = false then
      some true
    else
      (idx a0 s2.2).bind fun v17 =>
      (idx v17 s9.2).bind fun v18 =>
      (idx a0 s9.2).bind fun v19 =>
      (idx v19 s2.2).bind fun v20 =>
      some (ieq v18 v20)) : Option Bool).bind fun x21 =>
    (loop (s_l13Nucleus_L2 a0 s2 s9) BIG (x21, 0)).bind fun x22 =>
    some (.inl (x22, w64 (s9.2 + 1)))
  else
    some (.inr s9.1))
def s_l13Nucleus_L0 (a0 : List (List Int)) (a1 : Bool) (s2 : (List Int) × Int) : Option (((List Int) × Int) ⊕ (List Int)) :=
  (if s2.2 < (a0.length : Int) then
    ((loop (s_l13Nucleus_L1 a0 a1 s2) BIG (true, 0)).bind fun x9 =>
    (if x9 = true then
      (chk (s2.1.length + [s2.2].length ≤ 1099511627776)).bind fun _ =>
      some (s2.1 ++ [s2.2])
    else
      some s2.1) : Option (List Int)).bind fun x6 =>
    some (.inl (x6, w64 (s2.2 + 1)))
  else
    some (.inr s2.1))
def s_l13Nucleus (a0 : List (List Int)) (a1 : Bool) : Option (List Int) :=
  (loop (s_l13Nucleus_L0 a0 a1) BIG ([], 0)).bind fun x2 =>
  some x2

def s_LoopCentre (a0 : List (List Int)) : Option ((List Int) × Int) :=
  (s_l13Is a0).bind fun v2 =>
  (if v2 = false then
    some (([] : List Int), 1)
  else
    (s_l13Nucleus a0 true).bind fun v4 =>
    some (v4, 0))

def i_isOnce_L0 (a0 : List Int) (s3 : (List Bool) × Int) : Option (((List Bool) × Int) ⊕ (Unit ⊕ Bool)) :=
  (if s3.2 < (a0.length : Int) then
    (idx a0 s3.2).bind fun v9 =>
    ((i_length_I a0).bind fun v11 =>
    (i_inRange v9 0 (w64 (v11 - 1))).bind fun v12 =>
    (if v12 = false then
      some true
    else
      (idx s3.1 v9).bind fun v14 =>
      some v14) : Option Bool).bind fun x15 =>
    (if x15 = true then
      some (.inr (.inr false))
    else
      (idx s3.1 v9).bind fun v17 =>
      some (.inl (s3.1.set v9.toNat true, w64 (s3.2 + 1))))
  else
    some (.inr (.inl ())))
def i_isOnce (a0 : List Int) : Option Bool :=
  (chk (0 ≤ (a0.length : Int) ∧ (a0.length : Int) ≤ 1099511627776)).bind fun _ =>
  (loop (i_isOnce_L0 a0) BIG (List.replicate (a0.length : Int).toNat false, 0)).bind fun x3 =>
  (match x3 with
  | .inl y5 =>
    some true
  | .inr t => some t)

def i_IsLoop_c1 (a0 : List Int) : Option Bool :=
  (i_isOnce a0).bind fun v1 =>
  some (!v1)

def g_slices_IndexFunc_LLI_LI_of_i_IsLoop_c1_L0 (a0 : List (List Int)) (s2 : Int) : Option (Int ⊕ (Unit ⊕ Int)) :=
  (if s2 < (a0.length : Int) then
    (idx a0 s2).bind fun v8 =>
    (i_IsLoop_c1 v8).bind fun v9 =>
    (if v9 = true then
      some (.inr (.inr s2))
    else
      some (.inl (w64 (s2 + 1))))
  else
    some (.inr (.inl ())))
def g_slices_IndexFunc_LLI_LI_of_i_IsLoop_c1 (a0 : List (List Int)) : Option Int :=
  (loop (g_slices_IndexFunc_LLI_LI_of_i_IsLoop_c1_L0 a0) BIG 0).bind fun x2 =>
  (match x2 with
  | .inl y4 =>
    some (-1)
  | .inr t => some t)

def g_slices_ContainsFunc_LLI_LI_of_i_IsLoop_c1 (a0 : List (List Int)) : Option Bool :=
  (g_slices_IndexFunc_LLI_LI_of_i_IsLoop_c1 a0).bind fun v1 =>
  some (ile 0 v1)

def i_IsLoop_L0 (a0 : List (List Int)) (s6 : Int) : Option (Int ⊕ (Unit ⊕ Bool)) :=
  (if s6 < (a0.length : Int) then
    (idx a0 s6).bind fun v12 =>
    (if ¬ (v12.length : Int) = (a0.length : Int) then
      some (.inr (.inr false))
    else
      some (.inl (w64 (s6 + 1))))
  else
    some (.inr (.inl ())))
def i_IsLoop_L1 (a0 : List (List Int)) (s15 : Int) : Option (Int ⊕ (Unit ⊕ Bool)) :=
  (if s15 < (a0.length : Int) then
    (idx a0 s15).bind fun v21 =>
    ((idx v21 0).bind fun v22 =>
    (if ¬ v22 = s15 then
      some true
    else
      (idx a0 0).bind fun v24 =>
      (idx v24 s15).bind fun v25 =>
      (if ¬ v25 = s15 then
        some true
      else
        (i_isOnce v21).bind fun v27 =>
        some (!v27))) : Option Bool).bind fun x28 =>
    (if x28 = true then
      some (.inr (.inr false))
    else
      some (.inl (w64 (s15 + 1))))
  else
    some (.inr (.inl ())))
def i_IsLoop (a0 : List (List Int)) : Option Bool :=
  ((if (a0.length : Int) < 1 then
    some true
  else
    some (ilt 128 (a0.length : Int))) : Option Bool).bind fun x3 =>
  (if x3 = true then
    some false
  else
    (loop (i_IsLoop_L0 a0) BIG 0).bind fun x6 =>
    (match x6 with
    | .inl y8 =>
      (loop (i_IsLoop_L1 a0) BIG 0).bind fun x15 =>
      (match x15 with
      | .inl y17 =>
        (i_transpose a0).bind fun v30 =>
        (g_slices_ContainsFunc_LLI_LI_of_i_IsLoop_c1 v30).bind fun v31 =>
        some (!v31)
      | .inr t => some t)
    | .inr t => some t))

def i_length_LI (a0 : List (List Int)) : Option Int :=
  some (a0.length : Int)

def i_checkLoop_c1 (a0 : Int) (a1_0 : List (List Int)) : Option Bool :=
  (i_length_LI a1_0).bind fun v1 =>
  (i_inRange a0 0 (w64 (v1 - 1))).bind fun v2 =>
  some (!v2)

def g_slices_IndexFunc_LI_I_of_i_checkLoop_c1_L0 (a0 : List Int) (a1_0_0 : List (List Int)) (s2 : Int) : Option (Int ⊕ (Unit ⊕ Int)) :=
  (if s2 < (a0.length : Int) then
    (idx a0 s2).bind fun v8 =>
    (i_checkLoop_c1 v8 a1_0_0).bind fun v9 =>
    (if v9 = true then
      some (.inr (.inr s2))
    else
      some (.inl (w64 (s2 + 1))))
  else
    some (.inr (.inl ())))
def g_slices_IndexFunc_LI_I_of_i_checkLoop_c1 (a0 : List Int) (a1_0_0 : List (List Int)) : Option Int :=
  (loop (g_slices_IndexFunc_LI_I_of_i_checkLoop_c1_L0 a0 a1_0_0) BIG 0).bind fun x2 =>
  (match x2 with
  | .inl y4 =>
    some (-1)
  | .inr t => some t)

def g_slices_ContainsFunc_LI_I_of_i_checkLoop_c1 (a0 : List Int) (a1_0_0 : List (List Int)) : Option Bool :=
  (g_slices_IndexFunc_LI_I_of_i_checkLoop_c1 a0 a1_0_0).bind fun v1 =>
  some (ile 0 v1)

def i_checkLoop (a0 : List (List Int)) (a1 : List Int) : Option Int :=
  (i_IsLoop a0).bind fun v2 =>
  (if v2 = false then
    some 1
  else
    (g_slices_ContainsFunc_LI_I_of_i_checkLoop_c1 a1 a0).bind fun v5 =>
    (if v5 = true then
      some 2
    else
      some 0))

def i_associates (a0 : List (List Int)) (a1 : Int) (a2 : Int) (a3 : Int) : Option Bool :=
  (idx a0 a1).bind fun v1 =>
  (idx v1 a2).bind fun v2 =>
  (idx a0 v2).bind fun v3 =>
  (idx v3 a3).bind fun v4 =>
  (idx a0 a2).bind fun v5 =>
  (idx v5 a3).bind fun v6 =>
  (idx v1 v6).bind fun v7 =>
  some (ieq v4 v7)

def i_nucleus_L2 (a0 : List (List Int)) (s3 : (List Int) × Int) (s11 : Bool × Int) (v16 : Int) (s17 : Bool × Int) : Option ((Bool × Int) ⊕ Bool) :=
  (if s17.2 < v16 then
    ((if s17.1 = true then
      (i_associates a0 s3.2 s11.2 s17.2).bind fun v23 =>
      (if v23 = true then
        (i_associates a0 s11.2 s3.2 s17.2).bind fun v25 =>
        (if v25 = true then
          (i_associates a0 s11.2 s17.2 s3.2).bind fun v27 =>
          some v27
        else
          some false)
      else
        some false)
    else
      some false) : Option Bool).bind fun x28 =>
    some (.inl (x28, w64 (s17.2 + 1)))
  else
    some (.inr s17.1))
def i_nucleus_L1 (a0 : List (List Int)) (s3 : (List Int) × Int) (v10 : Int) (s11 : Bool × Int) : Option ((Bool × Int) ⊕ Bool) :=
  (if s11.2 < v10 then
    (i_length_LI a0).bind fun v16 =>
    (loop (i_nucleus_L2 a0 s3 s11 v16) BIG (s11.1, 0)).bind fun x17 =>
    some (.inl (x17, w64 (s11.2 + 1)))
  else
    some (.inr s11.1))
def i_nucleus_L0 (a0 : List (List Int)) (v2 : Int) (s3 : (List Int) × Int) : Option (((List Int) × Int) ⊕ (List Int)) :=
  (if s3.2 < v2 then
    ((i_length_LI a0).bind fun v10 =>
    (loop (i_nucleus_L1 a0 s3 v10) BIG (true, 0)).bind fun x11 =>
    (if x11 = true then
      (chk (s3.1.length + [s3.2].length ≤ 1099511627776)).bind fun _ =>
      some (s3.1 ++ [s3.2])
    else
      some s3.1) : Option (List Int)).bind fun x7 =>
    some (.inl (x7, w64 (s3.2 + 1)))
  else
    some (.inr s3.1))
def i_nucleus (a0 : List (List Int)) : Option (List Int) :=
  (i_length_LI a0).bind fun v2 =>
  (loop (i_nucleus_L0 a0 v2) BIG ([], 0)).bind fun x3 =>
  some x3

def i_LoopCentre_c1_L0 (a0 : Int) (a1_0 : List (List Int)) (s2 : Int) : Option (Int ⊕ (Unit ⊕ Bool)) :=
  (if s2 < (a1_0.length : Int) then
    (idx a1_0 a0).bind fun v8 =>
    (idx v8 s2).bind fun v9 =>
    (idx a1_0 s2).bind fun v10 =>
    (idx v10 a0).bind fun v11 =>
    (if ¬ v9 = v11 then
      some (.inr (.inr true))
    else
      some (.inl (w64 (s2 + 1))))
  else
    some (.inr (.inl ())))
def i_LoopCentre_c1 (a0 : Int) (a1_0 : List (List Int)) : Option Bool :=
  (loop (i_LoopCentre_c1_L0 a0 a1_0) BIG 0).bind fun x2 =>
  (match x2 with
  | .inl y4 =>
    some false
  | .inr t => some t)

def g_slices_IndexFunc_LI_I_of_i_LoopCentre_c1_L0 (a0 : List Int) (a1_0_0 : List (List Int)) (s2 : Int) : Option (Int ⊕ (Unit ⊕ Int)) :=
  (if s2 < (a0.length : Int) then
    (idx a0 s2).bind fun v8 =>
    (i_LoopCentre_c1 v8 a1_0_0).bind fun v9 =>
    (if v9 = true then
      some (.inr (.inr s2))
    else
      some (.inl (w64 (s2 + 1))))
  else
    some (.inr (.inl ())))
def g_slices_IndexFunc_LI_I_of_i_LoopCentre_c1 (a0 : List Int) (a1_0_0 : List (List Int)) : Option Int :=
  (loop (g_slices_IndexFunc_LI_I_of_i_LoopCentre_c1_L0 a0 a1_0_0) BIG 0).bind fun x2 =>
  (match x2 with
  | .inl y4 =>
    some (-1)
  | .inr t => some t)

def s_l01Own2_L0 (a0 : List (List Int)) (s2 : (List (List Int)) × Int) : Option (((List (List Int)) × Int) ⊕ (List (List Int))) :=
  (if s2.2 < (a0.length : Int) then
    (idx a0 s2.2).bind fun v7 =>
    (s_l01Own v7).bind fun v8 =>
    (chk (s2.1.length + [v8].length ≤ 1099511627776)).bind fun _ =>
    some (.inl (s2.1 ++ [v8], w64 (s2.2 + 1)))
  else
    some (.inr s2.1))
def s_l01Own2 (a0 : List (List Int)) : Option (List (List Int)) :=
  (loop (s_l01Own2_L0 a0) BIG ([], 0)).bind fun x2 =>
  some x2

def s_l02Basis_L1 (s3 : (List (List Int)) × Int × Int) (s14 : Int) : Option (Int ⊕ Int) :=
  ((if s14 < (s3.1.length : Int) then
    (idx s3.1 s14).bind fun v18 =>
    (idx v18 s3.2.2).bind fun v19 =>
    some (ieq v19 0)
  else
    some false) : Option Bool).bind fun x20 =>
  (if x20 = true then
    some (.inl (w64 (s14 + 1)))
  else
    some (.inr s14))
def s_l02Basis_L2 (a0 : Int) (s3 : (List (List Int)) × Int × Int) (v28 : List Int) (s32 : (List (List Int)) × Int) : Option (((List (List Int)) × Int) ⊕ (List (List Int))) :=
  (if s32.2 < (s32.1.length : Int) then
    ((if ¬ s32.2 = s3.2.1 then
      (idx s32.1 s32.2).bind fun v39 =>
      (idx v39 s3.2.2).bind fun v40 =>
      (chk (¬ a0 = 0)).bind fun _ =>
      (s_l02Plus a0 v39 v28 ((w64 (a0 - v40)).tmod a0)).bind fun v42 =>
      some (s32.1.set s32.2.toNat v42)
    else
      some s32.1) : Option (List (List Int))).bind fun x36 =>
    some (.inl (x36, w64 (s32.2 + 1)))
  else
    some (.inr s32.1))
def s_l02Basis_L0 (a0 : Int) (s3 : (List (List Int)) × Int × Int) : Option (((List (List Int)) × Int × Int) ⊕ ((List (List Int)) × Int)) :=
  ((if 0 < (s3.1.length : Int) then
    (idx s3.1 0).bind fun v7 =>
    some (ilt s3.2.2 (v7.length : Int))
  else
    some false) : Option Bool).bind fun x8 =>
  (if x8 = true then
    ((loop (s_l02Basis_L1 s3) BIG s3.2.1).bind fun x14 =>
    (if x14 = (s3.1.length : Int) then
      some (s3.1, s3.2.1)
    else
      (idx s3.1 x14).bind fun v24 =>
      (idx s3.1 s3.2.1).bind fun v25 =>
      (idx v24 s3.2.2).bind fun v26 =>
      (s_l01Inv a0 v26).bind fun v27 =>
      (s_l02Scale a0 v24 v27).bind fun v28 =>
      (some (s3.1.set x14.toNat v25)).bind fun l29 =>
      (idx l29 s3.2.1).bind fun v30 =>
      (loop (s_l02Basis_L2 a0 s3 v28) BIG (l29.set s3.2.1.toNat v28, 0)).bind fun x32 =>
      some (x32, w64 (s3.2.1 + 1))) : Option ((List (List Int)) × Int)).bind fun x11 =>
    some (.inl (x11.1, x11.2, w64 (s3.2.2 + 1)))
  else
    some (.inr (s3.1, s3.2.1)))
def s_l02Basis (a0 : Int) (a1 : List (List Int)) : Option (List (List Int)) :=
  (s_l01Own2 a1).bind fun v1 =>
  (loop (s_l02Basis_L0 a0) BIG (v1, 0, 0)).bind fun x3 =>
  (chk (0 ≤ x3.2 ∧ x3.2 ≤ (x3.1.length : Int))).bind fun _ =>
  some (x3.1.take x3.2.toNat)

def s_l02Rank (a0 : Int) (a1 : List (List Int)) : Option Int :=
  (s_l02Basis a0 a1).bind fun v1 =>
  some (v1.length : Int)

def s_RankOf (a0 : Int) (a1 : List (List Int)) : Option (Int × Int) :=
  (s_l02Is a0 a1).bind fun v2 =>
  (if v2 = false then
    some (0, 1)
  else
    (s_l02Rank a0 a1).bind fun v4 =>
    some (v4, 0))

def g_slices_Clone_LI_I (a0 : List Int) : Option (List Int) :=
  (chk (a0.length ≤ 1099511627776)).bind fun _ => some a0

def i_cloneRows_L0 (a0 : List (List Int)) (s2 : (List (List Int)) × Int) : Option (((List (List Int)) × Int) ⊕ (List (List Int))) :=
  (if s2.2 < (a0.length : Int) then
    (idx a0 s2.2).bind fun v7 =>
    (g_slices_Clone_LI_I v7).bind fun v8 =>
    (chk (s2.1.length + [v8].length ≤ 1099511627776)).bind fun _ =>
    some (.inl (s2.1 ++ [v8], w64 (s2.2 + 1)))
  else
    some (.inr s2.1))
def i_cloneRows (a0 : List (List Int)) : Option (List (List Int)) :=
  (loop (i_cloneRows_L0 a0) BIG ([], 0)).bind fun x2 =>
  some x2

def i_field_pow_L0 (a0 : Int) (a1 : Int) (a2 : Int) (s2 : Int × Int) : Option ((Int × Int) ⊕ Int) :=
  (if s2.2 < a2 then
    (i_field_num a0 (w64 (s2.1 * a1))).bind fun v7 =>
    some (.inl (v7, w64 (s2.2 + 1)))
  else
    some (.inr s2.1))
def i_field_pow (a0 : Int) (a1 : Int) (a2 : Int) : Option Int :=
  (loop (i_field_pow_L0 a0 a1 a2) BIG (1, 0)).bind fun x2 =>
  some x2

def i_field_inv (a0 : Int) (a1 : Int) : Option Int :=
  (i_field_pow a0 a1 (w64 (a0 - 2))).bind fun v1 =>
  some v1

def i_field_basis_L1 (s3 : (List (List Int)) × Int × Int) (s15 : Int) : Option (Int ⊕ Int) :=
  ((if s15 < (s3.1.length : Int) then
    (idx s3.1 s15).bind fun v19 =>
    (idx v19 s3.2.2).bind fun v20 =>
    some (ieq v20 0)
  else
    some false) : Option Bool).bind fun x21 =>
  (if x21 = true then
    some (.inl (w64 (s15 + 1)))
  else
    some (.inr s15))
def i_field_basis_L2 (a0 : Int) (s3 : (List (List Int)) × Int × Int) (l28 : List (List Int)) (v32 : List Int) (s34 : (List (List Int)) × Int) : Option (((List (List Int)) × Int) ⊕ (List (List Int))) :=
  (if s34.2 < ((l28.set s3.2.1.toNat v32).length : Int) then
    (((if ¬ s34.2 = s3.2.1 then
      (idx s34.1 s34.2).bind fun v41 =>
      (idx v41 s3.2.2).bind fun v42 =>
      some (!(ieq v42 0))
    else
      some false) : Option Bool).bind fun x43 =>
    (if x43 = true then
      (idx s34.1 s34.2).bind fun v45 =>
      (idx s34.1 s3.2.1).bind fun v46 =>
      (idx v45 s3.2.2).bind fun v47 =>
      (i_field_plus a0 v45 v46 (w64 (0 - v47))).bind fun v48 =>
      some (s34.1.set s34.2.toNat v48)
    else
      some s34.1) : Option (List (List Int))).bind fun x38 =>
    some (.inl (x38, w64 (s34.2 + 1)))
  else
    some (.inr s34.1))
def i_field_basis_L0 (a0 : Int) (s3 : (List (List Int)) × Int × Int) : Option (((List (List Int)) × Int × Int) ⊕ ((List (List Int)) × Int)) :=
  ((if 0 < (s3.1.length : Int) then
    (idx s3.1 0).bind fun v7 =>
    (if s3.2.2 < (v7.length : Int) then
      some (ilt s3.2.1 (s3.1.length : Int))
    else
      some false)
  else
    some false) : Option Bool).bind fun x9 =>
  (if x9 = true then
    ((loop (i_field_basis_L1 s3) BIG s3.2.1).bind fun x15 =>
    (if x15 = (s3.1.length : Int) then
      some (s3.1, s3.2.1)
    else
      (idx s3.1 x15).bind fun v25 =>
      (idx s3.1 s3.2.1).bind fun v26 =>
      (idx (s3.1.set s3.2.1.toNat v25) x15).bind fun v27 =>
      (some ((s3.1.set s3.2.1.toNat v25).set x15.toNat v26)).bind fun l28 =>
      (idx l28 s3.2.1).bind fun v29 =>
      (idx v29 s3.2.2).bind fun v30 =>
      (i_field_inv a0 v30).bind fun v31 =>
      (i_field_scaled a0 v29 v31).bind fun v32 =>
      (loop (i_field_basis_L2 a0 s3 l28 v32) BIG (l28.set s3.2.1.toNat v32, 0)).bind fun x34 =>
      some (x34, w64 (s3.2.1 + 1))) : Option ((List (List Int)) × Int)).bind fun x12 =>
    some (.inl (x12.1, x12.2, w64 (s3.2.2 + 1)))
  else
    some (.inr (s3.1, s3.2.1)))
def i_field_basis (a0 : Int) (a1 : List (List Int)) : Option (List (List Int)) :=
  (i_cloneRows a1).bind fun v1 =>
  (loop (i_field_basis_L0 a0) BIG (v1, 0, 0)).bind fun x3 =>
  (chk (0 ≤ x3.2 ∧ x3.2 ≤ (x3.1.length : Int))).bind fun _ =>
  some (x3.1.take x3.2.toNat)

def i_RankOf (a0 : Int) (a1 : List (List Int)) : Option (Int × Int) :=
  (i_checkMatrices a0 [a1]).bind fun v2 =>
  (if ¬ v2 = 0 then
    some (0, v2)
  else
    (i_field_basis a0 a1).bind fun v4 =>
    (i_length_LI v4).bind fun v5 =>
    some (v5, 0))

def l_FnExactRankOf (a0 : Int) (a1 : List (List Int)) : Option Bool :=
  (l_szInt64SS a1 1048576).bind fun v1 =>
  (if v1 < 0 then
    some true
  else
    (l_toInt64SS a1).bind fun v4 =>
    (s_RankOf a0 v4).bind fun v5 =>
    (l_toInt64SS a1).bind fun v6 =>
    (i_RankOf a0 v6).bind fun v7 =>
    ((if ¬ v7.1 = v5.1 then
      some true
    else
      some (!(ieq v7.2 v5.2))) : Option Bool).bind fun x10 =>
    (if x10 = true then
      some false
    else
      (l_toInt64SS a1).bind fun v13 =>
      (l_eqInt64SS v6 v13).bind fun v14 =>
      (if v14 = false then
        some false
      else
        some true)))

def s_l02Det_L1 (s3 : (List (List Int)) × Int × Int) (s10 : Int) : Option (Int ⊕ Int) :=
  ((if s10 < (s3.1.length : Int) then
    (idx s3.1 s10).bind fun v14 =>
    (idx v14 s3.2.2).bind fun v15 =>
    some (ieq v15 0)
  else
    some false) : Option Bool).bind fun x16 =>
  (if x16 = true then
    some (.inl (w64 (s10 + 1)))
  else
    some (.inr s10))
def s_l02Det_L2 (a0 : Int) (s3 : (List (List Int)) × Int × Int) (v32 : Int) (s33 : (List (List Int)) × Int) : Option (((List (List Int)) × Int) ⊕ (List (List Int))) :=
  (if s33.2 < (s33.1.length : Int) then
    (idx s33.1 s33.2).bind fun v38 =>
    (idx s33.1 s3.2.2).bind fun v39 =>
    (idx v38 s3.2.2).bind fun v40 =>
    (chk (¬ a0 = 0)).bind fun _ =>
    (s_l02Plus a0 v38 v39 ((w64 ((w64 (a0 - v40)) * v32)).tmod a0)).bind fun v42 =>
    some (.inl (s33.1.set s33.2.toNat v42, w64 (s33.2 + 1)))
  else
    some (.inr s33.1))
def s_l02Det_L0 (a0 : Int) (s3 : (List (List Int)) × Int × Int) : Option (((List (List Int)) × Int × Int) ⊕ (Int ⊕ Int)) :=
  (if s3.2.2 < (s3.1.length : Int) then
    (loop (s_l02Det_L1 s3) BIG s3.2.2).bind fun x10 =>
    (if x10 = (s3.1.length : Int) then
      some (.inr (.inr 0))
    else
      ((if s3.2.2 < x10 then
        (idx s3.1 x10).bind fun v24 =>
        (idx s3.1 s3.2.2).bind fun v25 =>
        (some (s3.1.set x10.toNat v25)).bind fun l26 =>
        (idx l26 s3.2.2).bind fun v27 =>
        (chk (¬ a0 = 0)).bind fun _ =>
        some (l26.set s3.2.2.toNat v24, (w64 (a0 - s3.2.1)).tmod a0)
      else
        some (s3.1, s3.2.1)) : Option ((List (List Int)) × Int)).bind fun x21 =>
      (idx x21.1 s3.2.2).bind fun v29 =>
      (idx v29 s3.2.2).bind fun v30 =>
      (chk (¬ a0 = 0)).bind fun _ =>
      (s_l01Inv a0 v30).bind fun v32 =>
      (loop (s_l02Det_L2 a0 s3 v32) BIG (x21.1, w64 (s3.2.2 + 1))).bind fun x33 =>
      some (.inl (x33, (w64 (x21.2 * v30)).tmod a0, w64 (s3.2.2 + 1))))
  else
    some (.inr (.inl s3.2.1)))
def s_l02Det (a0 : Int) (a1 : List (List Int)) : Option Int :=
  (s_l01Own2 a1).bind fun v1 =>
  (loop (s_l02Det_L0 a0) BIG (v1, 1, 0)).bind fun x3 =>
  (match x3 with
  | .inl y5 =>
    some y5
  | .inr t => some t)

def s_Determinant (a0 : Int) (a1 : List (List Int)) : Option (Int × Int) :=
  (s_l02Square a0 a1).bind fun v1 =>
  (if ¬ v1 = 0 then
    some (0, v1)
  else
    (s_l02Det a0 a1).bind fun v4 =>
    some (v4, 0))

def i_field_determinant_L1 (s3 : (List (List Int)) × Int × Int) (s10 : Int) : Option (Int ⊕ Int) :=
  ((if s10 < (s3.1.length : Int) then
    (idx s3.1 s10).bind fun v14 =>
    (idx v14 s3.2.2).bind fun v15 =>
    some (ieq v15 0)
  else
    some false) : Option Bool).bind fun x16 =>
  (if x16 = true then
    some (.inl (w64 (s10 + 1)))
  else
    some (.inr s10))
def i_field_determinant_L2 (a0 : Int) (s3 : (List (List Int)) × Int × Int) (s31 : (List (List Int)) × Int) : Option (((List (List Int)) × Int) ⊕ (List (List Int))) :=
  (if s31.2 < (s31.1.length : Int) then
    (idx s31.1 s31.2).bind fun v36 =>
    (idx s31.1 s3.2.2).bind fun v37 =>
    (idx v36 s3.2.2).bind fun v38 =>
    (idx v37 s3.2.2).bind fun v39 =>
    (i_field_inv a0 v39).bind fun v40 =>
    (i_field_plus a0 v36 v37 (w64 ((w64 (0 - v38)) * v40))).bind fun v41 =>
    some (.inl (s31.1.set s31.2.toNat v41, w64 (s31.2 + 1)))
  else
    some (.inr s31.1))
def i_field_determinant_L0 (a0 : Int) (v1 : List (List Int)) (s3 : (List (List Int)) × Int × Int) : Option (((List (List Int)) × Int × Int) ⊕ (Int ⊕ Int)) :=
  (if s3.2.2 < (v1.length : Int) then
    (loop (i_field_determinant_L1 s3) BIG s3.2.2).bind fun x10 =>
    (if x10 = (s3.1.length : Int) then
      some (.inr (.inr 0))
    else
      ((if ¬ x10 = s3.2.2 then
        (idx s3.1 x10).bind fun v24 =>
        (idx s3.1 s3.2.2).bind fun v25 =>
        (idx (s3.1.set s3.2.2.toNat v24) x10).bind fun v26 =>
        (i_field_num a0 (w64 (0 - s3.2.1))).bind fun v27 =>
        some ((s3.1.set s3.2.2.toNat v24).set x10.toNat v25, v27)
      else
        some (s3.1, s3.2.1)) : Option ((List (List Int)) × Int)).bind fun x21 =>
      (idx x21.1 s3.2.2).bind fun v28 =>
      (idx v28 s3.2.2).bind fun v29 =>
      (i_field_num a0 (w64 (x21.2 * v29))).bind fun v30 =>
      (loop (i_field_determinant_L2 a0 s3) BIG (x21.1, w64 (s3.2.2 + 1))).bind fun x31 =>
      some (.inl (x31, v30, w64 (s3.2.2 + 1))))
  else
    some (.inr (.inl s3.2.1)))
def i_field_determinant (a0 : Int) (a1 : List (List Int)) : Option Int :=
  (i_cloneRows a1).bind fun v1 =>
  (loop (i_field_determinant_L0 a0 v1) BIG (v1, 1, 0)).bind fun x3 =>
  (match x3 with
  | .inl y5 =>
    some y5
  | .inr t => some t)

def i_Determinant (a0 : Int) (a1 : List (List Int)) : Option (Int × Int) :=
  (i_checkSquare a0 a1).bind fun v2 =>
  (if ¬ v2 = 0 then
    some (0, v2)
  else
    (i_field_determinant a0 a1).bind fun v4 =>
    some (v4, 0))

def l_FnExactDeterminant (a0 : Int) (a1 : List (List Int)) : Option Bool :=
  (l_szInt64SS a1 1048576).bind fun v1 =>
  (if v1 < 0 then
    some true
  else
    (l_toInt64SS a1).bind fun v4 =>
    (s_Determinant a0 v4).bind fun v5 =>
    (l_toInt64SS a1).bind fun v6 =>
    (i_Determinant a0 v6).bind fun v7 =>
    ((if ¬ v7.1 = v5.1 then
      some true
    else
      some (!(ieq v7.2 v5.2))) : Option Bool).bind fun x10 =>
    (if x10 = true then
      some false
    else
      (l_toInt64SS a1).bind fun v13 =>
      (l_eqInt64SS v6 v13).bind fun v14 =>
      (if v14 = false then
        some false
      else
        some true)))

def s_l04Size (a0_0 : Int) (a0_1 : List Int) : Option Int :=
  (chk (0 ≤ (IntKind.u64.wrap ((a0_1.length : Int))))).bind fun _ =>
  some (shl .i64 1 (IntKind.u64.wrap ((a0_1.length : Int))))

def s_l04Zero (a0_0 : Int) (a0_1 : List Int) : Option (List Int) :=
  (s_l04Size a0_0 a0_1).bind fun v1 =>
  (chk (0 ≤ v1 ∧ v1 ≤ 1099511627776)).bind fun _ =>
  some (List.replicate v1.toNat 0)

def s_BivectorOfMatrix_L1 (a0_0 : Int) (a0_1 : List Int) (a1 : List (List Int)) (s13 : (List Int) × Int) (s18 : (List Int) × Int) : Option (((List Int) × Int) ⊕ (List Int)) :=
  (if s18.2 < (a1.length : Int) then
    (chk (0 ≤ (IntKind.u64.wrap (s13.2)))).bind fun _ =>
    (chk (0 ≤ (IntKind.u64.wrap (s18.2)))).bind fun _ =>
    (idx a1 s13.2).bind fun v25 =>
    (idx v25 s18.2).bind fun v26 =>
    (idx a0_1 s18.2).bind fun v27 =>
    (s_l01Inv a0_0 v27).bind fun v28 =>
    (chk (¬ a0_0 = 0)).bind fun _ =>
    (idx s18.1 (w64 ((shl .i64 1 (IntKind.u64.wrap (s13.2))) + (shl .i64 1 (IntKind.u64.wrap (s18.2)))))).bind fun v30 =>
    some (.inl (s18.1.set (w64 ((shl .i64 1 (IntKind.u64.wrap (s13.2))) + (shl .i64 1 (IntKind.u64.wrap (s18.2))))).toNat ((w64 (v26 * v28)).tmod a0_0), w64 (s18.2 + 1)))
  else
    some (.inr s18.1))
def s_BivectorOfMatrix_L0 (a0_0 : Int) (a0_1 : List Int) (a1 : List (List Int)) (s13 : (List Int) × Int) : Option (((List Int) × Int) ⊕ (List Int)) :=
  (if s13.2 < (a1.length : Int) then
    (loop (s_BivectorOfMatrix_L1 a0_0 a0_1 a1 s13) BIG (s13.1, w64 (s13.2 + 1))).bind fun x18 =>
    some (.inl (x18, w64 (s13.2 + 1)))
  else
    some (.inr s13.1))
def s_BivectorOfMatrix (a0_0 : Int) (a0_1 : List Int) (a1 : List (List Int)) : Option ((List Int) × Int) :=
  (s_l10Shape a0_0 a0_1 a1).bind fun v1 =>
  ((if v1 = 0 then
    (s_l10Skew a0_0 a0_1 a1).bind fun v4 =>
    some (!v4)
  else
    some false) : Option Bool).bind fun x5 =>
  ((if x5 = true then
    some 5
  else
    some v1) : Option Int).bind fun x6 =>
  (if ¬ x6 = 0 then
    some (([] : List Int), x6)
  else
    (s_l04Zero a0_0 a0_1).bind fun v11 =>
    (loop (s_BivectorOfMatrix_L0 a0_0 a0_1 a1) BIG (v11, 0)).bind fun x13 =>
    some (x13, 0))

def i_Space_nothing (a0_0 : Int) (a0_1 : List Int) : Option (List Int) :=
  (i_Space_dim a0_0 a0_1).bind fun v1 =>
  (chk (0 ≤ v1)).bind fun _ =>
  (chk (0 ≤ (shl .i64 1 v1) ∧ (shl .i64 1 v1) ≤ 1099511627776)).bind fun _ =>
  some (List.replicate (shl .i64 1 v1).toNat 0)

def i_BivectorOfMatrix_L1 (a0_0 : Int) (a0_1 : List Int) (a1 : List (List Int)) (s9 : (List Int) × Int) (s14 : (List Int) × Int) : Option (((List Int) × Int) ⊕ (List Int)) :=
  (if s14.2 < (a1.length : Int) then
    (chk (0 ≤ s9.2)).bind fun _ =>
    (chk (0 ≤ s14.2)).bind fun _ =>
    (i_Space_field a0_0 a0_1).bind fun v21 =>
    (idx a1 s9.2).bind fun v22 =>
    (idx v22 s14.2).bind fun v23 =>
    (i_Space_field a0_0 a0_1).bind fun v24 =>
    (idx a0_1 s14.2).bind fun v25 =>
    (i_field_inv v24 v25).bind fun v26 =>
    (i_field_num v21 (w64 (v23 * v26))).bind fun v27 =>
    (idx s14.1 (bor .i64 (shl .i64 1 s9.2) (shl .i64 1 s14.2))).bind fun v28 =>
    some (.inl (s14.1.set (bor .i64 (shl .i64 1 s9.2) (shl .i64 1 s14.2)).toNat v27, w64 (s14.2 + 1)))
  else
    some (.inr s14.1))
def i_BivectorOfMatrix_L0 (a0_0 : Int) (a0_1 : List Int) (a1 : List (List Int)) (s9 : (List Int) × Int) : Option (((List Int) × Int) ⊕ (List Int)) :=
  (if s9.2 < (a1.length : Int) then
    (loop (i_BivectorOfMatrix_L1 a0_0 a0_1 a1 s9) BIG (s9.1, w64 (s9.2 + 1))).bind fun x14 =>
    some (.inl (x14, w64 (s9.2 + 1)))
  else
    some (.inr s9.1))
def i_BivectorOfMatrix (a0_0 : Int) (a0_1 : List Int) (a1 : List (List Int)) : Option ((List Int) × Int) :=
  (i_checkFrame a0_0 a0_1 a1).bind fun v2 =>
  (if ¬ v2 = 0 then
    some (([] : List Int), v2)
  else
    (i_Space_isSkew a0_0 a0_1 a1).bind fun v5 =>
    (if v5 = false then
      some (([] : List Int), 5)
    else
      (i_Space_nothing a0_0 a0_1).bind fun v7 =>
      (loop (i_BivectorOfMatrix_L0 a0_0 a0_1 a1) BIG (v7, 0)).bind fun x9 =>
      some (x9, 0)))

def l_markSpace (a0_0 : Int) (a0_1 : List Int) (a1 : Int) : Option Int :=
  (l_markInt64S a0_1 a1).bind fun v1 =>
  some v1.1

def l_FnExactBivectorOfMatrix (a0_0 : Int) (a0_1 : List Int) (a1 : List (List Int)) : Option Bool :=
  (l_szSpace a0_0 a0_1 1048576).bind fun v1 =>
  (if v1 < 0 then
    some true
  else
    (l_szInt64SS a1 v1).bind fun v4 =>
    (if v4 < 0 then
      some true
    else
      (l_toSpace a0_0 a0_1).bind fun v7 =>
      (l_toInt64SS a1).bind fun v8 =>
      (s_BivectorOfMatrix v7.1 v7.2 v8).bind fun v9 =>
      (l_toSpace a0_0 a0_1).bind fun v10 =>
      (l_toInt64SS a1).bind fun v11 =>
      (i_BivectorOfMatrix v10.1 v10.2 v11).bind fun v12 =>
      ((l_eqInt64S v12.1 v9.1).bind fun v14 =>
      (if v14 = false then
        some true
      else
        some (!(ieq v12.2 v9.2))) : Option Bool).bind fun x16 =>
      (if x16 = true then
        some false
      else
        (l_toSpace a0_0 a0_1).bind fun v19 =>
        (l_eqSpace v10.1 v10.2 v19.1 v19.2).bind fun v20 =>
        (if v20 = false then
          some false
        else
          (l_toInt64SS a1).bind fun v23 =>
          (l_eqInt64SS v11 v23).bind fun v24 =>
          (if v24 = false then
            some false
          else
            (l_markSpace v10.1 v10.2 1).bind fun v26 =>
            (l_markInt64SS v11 v26).bind fun v27 =>
            ((if v27.1 < 0 then
              some true
            else
              (l_eqInt64S v12.1 v9.1).bind fun v30 =>
              (if v30 = false then
                some true
              else
                some (!(ieq v12.2 v9.2)))) : Option Bool).bind fun x32 =>
            (if x32 = true then
              some false
            else
              (l_markInt64S v12.1 1).bind fun v34 =>
              (l_heldInt64S v34.2 1).bind fun v35 =>
              (if v35 < 0 then
                some false
              else
                (if ¬ v35 = v34.1 then
                  some false
                else
                  (l_toSpace a0_0 a0_1).bind fun v40 =>
                  (l_toInt64SS a1).bind fun v41 =>
                  (i_BivectorOfMatrix v40.1 v40.2 v41).bind fun v42 =>
                  ((l_eqInt64S v42.1 v9.1).bind fun v44 =>
                  (if v44 = false then
                    some true
                  else
                    some (!(ieq v42.2 v9.2))) : Option Bool).bind fun x46 =>
                  (if x46 = true then
                    some false
                  else
                    (l_heldInt64S v34.2 1).bind fun v48 =>
                    (if v48 < 0 then
                      some false
                    else
                      (if ¬ v48 = v34.1 then
                        some false
                      else
                        some true)))))))))))

def l_big (a0 : List Int) : Option Bool :=
  some (ilt 4096 (a0.length : Int))

def s_l14Matrix_L0 (a0_0 : Int) (a0_1 : List Int) (a1 : List (List Int)) (s2 : Int) : Option (Int ⊕ (Unit ⊕ Bool)) :=
  (if s2 < (a1.length : Int) then
    (idx a1 s2).bind fun v8 =>
    (s_l11Element a0_0 a0_1 v8).bind fun v9 =>
    (if v9 = false then
      some (.inr (.inr false))
    else
      some (.inl (w64 (s2 + 1))))
  else
    some (.inr (.inl ())))
def s_l14Matrix (a0_0 : Int) (a0_1 : List Int) (a1 : List (List Int)) : Option Bool :=
  (loop (s_l14Matrix_L0 a0_0 a0_1 a1) BIG 0).bind fun x2 =>
  (match x2 with
  | .inl y4 =>
    (s_l11Size a0_0 a0_1).bind fun v11 =>
    some (ieq (a1.length : Int) v11)
  | .inr t => some t)

def s_l14Two_L0 (a0_0 : Int) (a0_1 : List Int) (a1 : List (List (List Int))) (s5 : Int) : Option (Int ⊕ (Unit ⊕ Int)) :=
  (if s5 < (a1.length : Int) then
    (idx a1 s5).bind fun v11 =>
    (s_l14Matrix a0_0 a0_1 v11).bind fun v12 =>
    (if v12 = false then
      some (.inr (.inr 2))
    else
      some (.inl (w64 (s5 + 1))))
  else
    some (.inr (.inl ())))
def s_l14Two (a0_0 : Int) (a0_1 : List Int) (a1 : List (List (List Int))) : Option Int :=
  (s_l14Code a0_0 a0_1).bind fun v2 =>
  (if ¬ v2 = 0 then
    some v2
  else
    (loop (s_l14Two_L0 a0_0 a0_1 a1) BIG 0).bind fun x5 =>
    (match x5 with
    | .inl y7 =>
      some 0
    | .inr t => some t))

def s_l14Apply_L1 (a1 : List (List Int)) (a2 : List Int) (s2 : (List Int) × Int) (s8 : Int × Int) : Option ((Int × Int) ⊕ Int) :=
  (if s8.2 < (a2.length : Int) then
    (idx a1 s2.2).bind fun v13 =>
    (idx v13 s8.2).bind fun v14 =>
    (idx a2 s8.2).bind fun v15 =>
    some (.inl (w64 (s8.1 + (w64 (v14 * v15))), w64 (s8.2 + 1)))
  else
    some (.inr s8.1))
def s_l14Apply_L0 (a0 : Int) (a1 : List (List Int)) (a2 : List Int) (s2 : (List Int) × Int) : Option (((List Int) × Int) ⊕ (List Int)) :=
  (if s2.2 < (a1.length : Int) then
    (loop (s_l14Apply_L1 a1 a2 s2) BIG (0, 0)).bind fun x8 =>
    (s_l01Mod a0 x8).bind fun v16 =>
    (chk (s2.1.length + [v16].length ≤ 1099511627776)).bind fun _ =>
    some (.inl (s2.1 ++ [v16], w64 (s2.2 + 1)))
  else
    some (.inr s2.1))
def s_l14Apply (a0 : Int) (a1 : List (List Int)) (a2 : List Int) : Option (List Int) :=
  (loop (s_l14Apply_L0 a0 a1 a2) BIG ([], 0)).bind fun x2 =>
  some x2

def s_MatrixImage (a0_0 : Int) (a0_1 : List Int) (a1 : List (List Int)) (a2 : List Int) : Option ((List Int) × Int) :=
  (s_l14Two a0_0 a0_1 [a1]).bind fun v1 =>
  ((if v1 = 0 then
    (s_l11Code a0_0 a0_1 [a2]).bind fun v6 =>
    some v6
  else
    some v1) : Option Int).bind fun x3 =>
  (if ¬ x3 = 0 then
    some (([] : List Int), x3)
  else
    (s_l14Apply a0_0 a1 a2).bind fun v9 =>
    some (v9, 0))

def i_MatrixImage (a0_0 : Int) (a0_1 : List Int) (a1 : List (List Int)) (a2 : List Int) : Option ((List Int) × Int) :=
  (i_checkThree a0_0 a0_1 [a2] [a1]).bind fun v2 =>
  (if ¬ v2 = 0 then
    some (([] : List Int), v2)
  else
    (i_Doubling_field a0_0 a0_1).bind fun v4 =>
    (i_field_apply v4 a1 a2).bind fun v5 =>
    some (v5, 0))

def l_eqDoubling (a0_0 : Int) (a0_1 : List Int) (a1_0 : Int) (a1_1 : List Int) : Option Bool :=
  (if ¬ a0_0 = a1_0 then
    some false
  else
    (l_eqInt64S a0_1 a1_1).bind fun v4 =>
    (if v4 = false then
      some false
    else
      some true))

def l_markDoubling (a0_0 : Int) (a0_1 : List Int) (a1 : Int) : Option Int :=
  (l_markInt64S a0_1 a1).bind fun v1 =>
  some v1.1

def l_FnExactMatrixImage (a0_0 : Int) (a0_1 : List Int) (a1 : List (List Int)) (a2 : List Int) : Option Bool :=
  (if 1048576 < (a2.length : Int) then
    some true
  else
    (l_szDoubling a0_0 a0_1 1048576).bind fun v3 =>
    (if v3 < 0 then
      some true
    else
      (l_szInt64SS a1 v3).bind fun v6 =>
      (if v6 < 0 then
        some true
      else
        (l_toDoubling a0_0 a0_1).bind fun v9 =>
        (l_toInt64SS a1).bind fun v10 =>
        (l_toInt64S a2).bind fun v11 =>
        (s_MatrixImage v9.1 v9.2 v10 v11).bind fun v12 =>
        (l_toDoubling a0_0 a0_1).bind fun v13 =>
        (l_toInt64SS a1).bind fun v14 =>
        (l_toInt64S a2).bind fun v15 =>
        (i_MatrixImage v13.1 v13.2 v14 v15).bind fun v16 =>
        ((l_eqInt64S v16.1 v12.1).bind fun v18 =>
        (if v18 = false then
          some true
        else
          some (!(ieq v16.2 v12.2))) : Option Bool).bind fun x20 =>
        (if x20 = true then
          some false
        else
          (l_toDoubling a0_0 a0_1).bind fun v23 =>
          (l_eqDoubling v13.1 v13.2 v23.1 v23.2).bind fun v24 =>
          (if v24 = false then
            some false
          else
            (l_toInt64SS a1).bind fun v27 =>
            (l_eqInt64SS v14 v27).bind fun v28 =>
            (if v28 = false then
              some false
            else
              (l_toInt64S a2).bind fun v31 =>
              (l_eqInt64S v15 v31).bind fun v32 =>
              (if v32 = false then
                some false
              else
                (l_markDoubling v13.1 v13.2 1).bind fun v34 =>
                (l_markInt64SS v14 v34).bind fun v35 =>
                (l_markInt64S v15 v35.1).bind fun v36 =>
                ((if v36.1 < 0 then
                  some true
                else
                  (l_eqInt64S v16.1 v12.1).bind fun v39 =>
                  (if v39 = false then
                    some true
                  else
                    some (!(ieq v16.2 v12.2)))) : Option Bool).bind fun x41 =>
                (if x41 = true then
                  some false
                else
                  (l_markInt64S v16.1 1).bind fun v43 =>
                  (l_heldInt64S v43.2 1).bind fun v44 =>
                  (if v44 < 0 then
                    some false
                  else
                    (if ¬ v44 = v43.1 then
                      some false
                    else
                      (l_toDoubling a0_0 a0_1).bind fun v49 =>
                      (l_toInt64SS a1).bind fun v50 =>
                      (l_toInt64S a2).bind fun v51 =>
                      (i_MatrixImage v49.1 v49.2 v50 v51).bind fun v52 =>
                      ((l_eqInt64S v52.1 v12.1).bind fun v54 =>
                      (if v54 = false then
                        some true
                      else
                        some (!(ieq v52.2 v12.2))) : Option Bool).bind fun x56 =>
                      (if x56 = true then
                        some false
                      else
                        (l_heldInt64S v43.2 1).bind fun v58 =>
                        (if v58 < 0 then
                          some false
                        else
                          (if ¬ v58 = v43.1 then
                            some false
                          else
                            some true)))))))))))))

def s_l02Unit_L0 (a0 : Int) (s2 : (List (List Int)) × Int) : Option (((List (List Int)) × Int) ⊕ (List (List Int))) :=
  (if s2.2 < a0 then
    (chk (0 ≤ a0 ∧ a0 ≤ 1099511627776)).bind fun _ =>
    (some (List.replicate a0.toNat 0)).bind fun l8 =>
    (idx l8 s2.2).bind fun v9 =>
    (chk (s2.1.length + [l8.set s2.2.toNat 1].length ≤ 1099511627776)).bind fun _ =>
    some (.inl (s2.1 ++ [l8.set s2.2.toNat 1], w64 (s2.2 + 1)))
  else
    some (.inr s2.1))
def s_l02Unit (a0 : Int) : Option (List (List Int)) :=
  (loop (s_l02Unit_L0 a0) BIG ([], 0)).bind fun x2 =>
  some x2

def s_PowerMatrix_L0 (a0 : Int) (s14 : Int × (List (List Int)) × (List (List Int))) : Option ((Int × (List (List Int)) × (List (List Int))) ⊕ (List (List Int))) :=
  (if 0 < s14.1 then
    ((if (s14.1.tmod 2) = 1 then
      (s_l02Times a0 s14.2.1 s14.2.2).bind fun v23 =>
      some v23
    else
      some s14.2.1) : Option (List (List Int))).bind fun x20 =>
    (s_l02Times a0 s14.2.2 s14.2.2).bind fun v24 =>
    some (.inl (w64 (s14.1.tdiv 2), x20, v24))
  else
    some (.inr s14.2.1))
def s_PowerMatrix (a0 : Int) (a1 : List (List Int)) (a2 : Int) : Option ((List (List Int)) × Int) :=
  (s_l02Square a0 a1).bind fun v1 =>
  ((if v1 = 0 then
    (s_l01In a2 0 1000).bind fun v4 =>
    some (!v4)
  else
    some false) : Option Bool).bind fun x5 =>
  ((if x5 = true then
    some 2
  else
    some v1) : Option Int).bind fun x6 =>
  (if ¬ x6 = 0 then
    some (([] : List (List Int)), x6)
  else
    (s_l02Unit (a1.length : Int)).bind fun v11 =>
    (s_l01Own2 a1).bind fun v12 =>
    (loop (s_PowerMatrix_L0 a0) BIG (a2, v11, v12)).bind fun x14 =>
    some (x14, 0))

def i_PowerMatrix_L0 (a0 : Int) (s10 : Int × (List (List Int)) × (List (List Int))) : Option ((Int × (List (List Int)) × (List (List Int))) ⊕ (List (List Int))) :=
  (if 0 < s10.1 then
    ((if (s10.1.tmod 2) = 1 then
      (i_field_times a0 s10.2.1 s10.2.2).bind fun v19 =>
      some v19
    else
      some s10.2.1) : Option (List (List Int))).bind fun x16 =>
    (i_field_times a0 s10.2.2 s10.2.2).bind fun v20 =>
    some (.inl (w64 (s10.1.tdiv 2), x16, v20))
  else
    some (.inr s10.2.1))
def i_PowerMatrix (a0 : Int) (a1 : List (List Int)) (a2 : Int) : Option ((List (List Int)) × Int) :=
  (i_checkSquare a0 a1).bind fun v2 =>
  (if ¬ v2 = 0 then
    some (([] : List (List Int)), v2)
  else
    (i_inRange a2 0 1000).bind fun v5 =>
    (if v5 = false then
      some (([] : List (List Int)), 2)
    else
      (i_unit (a1.length : Int)).bind fun v7 =>
      (i_cloneRows a1).bind fun v8 =>
      (loop (i_PowerMatrix_L0 a0) BIG (a2, v7, v8)).bind fun x10 =>
      some (x10, 0)))

end Go.Vam
