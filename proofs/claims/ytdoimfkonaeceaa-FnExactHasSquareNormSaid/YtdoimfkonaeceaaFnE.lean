import Derived.Test.YtdoimfkonaeceaaFnD
namespace Go.Vam
open Go Go.RowKit
set_option maxRecDepth 100000
set_option linter.unusedSimpArgs false
set_option linter.unusedVariables false

def s_l08Decompose_L0 (a0_0 : Int) (a0_1 : List Int) (s2 : (List (List Int)) × (List (List Int)) × Int) : Option (((List (List Int)) × (List (List Int)) × Int) ⊕ (List (List Int))) :=
  (if s2.2.2 < (a0_1.length : Int) then
    ((s_l02Turn s2.1).bind fun v9 =>
    (idx v9 s2.2.2).bind fun v10 =>
    (chk (0 ≤ (a0_1.length : Int) ∧ (a0_1.length : Int) ≤ 1099511627776)).bind fun _ =>
    (some (List.replicate (a0_1.length : Int).toNat 0)).bind fun l12 =>
    (idx l12 s2.2.2).bind fun v13 =>
    (s_l01Same v10 (l12.set s2.2.2.toNat 1)).bind fun v15 =>
    (if v15 = true then
      some (s2.1, s2.2.1)
    else
      (s_l02Plus a0_0 v10 (l12.set s2.2.2.toNat 1) (w64 (a0_0 - 1))).bind fun v17 =>
      (s_l03Pair a0_0 a0_1 v17 v17).bind fun v19 =>
      (if ¬ v19 = 0 then
        (chk (s2.2.1.length + [v17].length ≤ 1099511627776)).bind fun _ =>
        (s_l08Reflection a0_0 a0_1 v17).bind fun v22 =>
        (s_l02Times a0_0 v22 s2.1).bind fun v23 =>
        some (v23, s2.2.1 ++ [v17])
      else
        (s_l02Plus a0_0 v10 (l12.set s2.2.2.toNat 1) 1).bind fun v24 =>
        (chk (s2.2.1.length + [v24, l12.set s2.2.2.toNat 1].length ≤ 1099511627776)).bind fun _ =>
        (s_l08Reflection a0_0 a0_1 (l12.set s2.2.2.toNat 1)).bind fun v26 =>
        (s_l08Reflection a0_0 a0_1 v24).bind fun v27 =>
        (s_l02Times a0_0 v27 s2.1).bind fun v28 =>
        (s_l02Times a0_0 v26 v28).bind fun v29 =>
        some (v29, s2.2.1 ++ [v24, l12.set s2.2.2.toNat 1]))) : Option ((List (List Int)) × (List (List Int)))).bind fun x7 =>
    some (.inl (x7.1, x7.2, w64 (s2.2.2 + 1)))
  else
    some (.inr s2.2.1))
def s_l08Decompose (a0_0 : Int) (a0_1 : List Int) (a1 : List (List Int)) : Option (List (List Int)) :=
  (loop (s_l08Decompose_L0 a0_0 a0_1) BIG (a1, [], 0)).bind fun x2 =>
  some x2

def s_l01Root_L0 (a0 : Int) (a1 : Int) (s2 : Int) : Option (Int ⊕ (Unit ⊕ Int)) :=
  (if s2 < a0 then
    (chk (¬ a0 = 0)).bind fun _ =>
    (if ((w64 (s2 * s2)).tmod a0) = a1 then
      some (.inr (.inr s2))
    else
      some (.inl (w64 (s2 + 1))))
  else
    some (.inr (.inl ())))
def s_l01Root (a0 : Int) (a1 : Int) : Option Int :=
  (loop (s_l01Root_L0 a0 a1) BIG 0).bind fun x2 =>
  (match x2 with
  | .inl y4 =>
    some (-1)
  | .inr t => some t)

def s_HasSquareNorm_L0 (a0_0 : Int) (a0_1 : List Int) (v4 : List (List Int)) (s6 : Int × Int) : Option ((Int × Int) ⊕ Int) :=
  (if s6.2 < (v4.length : Int) then
    (idx v4 s6.2).bind fun v11 =>
    (s_l03Pair a0_0 a0_1 v11 v11).bind fun v12 =>
    (chk (¬ a0_0 = 0)).bind fun _ =>
    some (.inl ((w64 (s6.1 * v12)).tmod a0_0, w64 (s6.2 + 1)))
  else
    some (.inr s6.1))
def s_HasSquareNorm (a0_0 : Int) (a0_1 : List Int) (a1 : List (List Int)) : Option (Bool × Int) :=
  (s_l08Code a0_0 a0_1 a1).bind fun v1 =>
  (if ¬ v1 = 0 then
    some (false, v1)
  else
    (s_l08Decompose a0_0 a0_1 a1).bind fun v4 =>
    (loop (s_HasSquareNorm_L0 a0_0 a0_1 v4) BIG (1, 0)).bind fun x6 =>
    (s_l01Root a0_0 x6).bind fun v14 =>
    some (ile 0 v14, 0))

def i_Space_norm (a0_0 : Int) (a0_1 : List Int) (a1 : List Int) : Option Int :=
  (i_Space_pair a0_0 a0_1 a1 a1).bind fun v1 =>
  some v1

def i_Space_reflected (a0_0 : Int) (a0_1 : List Int) (a1 : List Int) (a2 : List Int) : Option (List Int) :=
  (i_Space_field a0_0 a0_1).bind fun v1 =>
  (i_Space_pair a0_0 a0_1 a1 a2).bind fun v2 =>
  (i_Space_field a0_0 a0_1).bind fun v3 =>
  (i_Space_norm a0_0 a0_1 a1).bind fun v4 =>
  (i_field_inv v3 v4).bind fun v5 =>
  (i_field_plus v1 a2 a1 (w64 ((w64 ((-2) * v2)) * v5))).bind fun v6 =>
  some v6

def i_Space_reflection_c1 (a0 : List Int) (a1_0 : Int) (a1_1 : List Int) (a2_0 : List Int) : Option (List Int) :=
  (i_Space_reflected a1_0 a1_1 a2_0 a0).bind fun v1 =>
  some v1

def i_Space_matrixBy_of_i_Space_reflection_c1_L0 (a1_0_0 : Int) (a1_0_1 : List Int) (a1_1_0 : List Int) (v3 : List (List Int)) (s4 : (List (List Int)) × Int) : Option (((List (List Int)) × Int) ⊕ (List (List Int))) :=
  (if s4.2 < (v3.length : Int) then
    (idx v3 s4.2).bind fun v9 =>
    (i_Space_reflection_c1 v9 a1_0_0 a1_0_1 a1_1_0).bind fun v10 =>
    (chk (s4.1.length + [v10].length ≤ 1099511627776)).bind fun _ =>
    some (.inl (s4.1 ++ [v10], w64 (s4.2 + 1)))
  else
    some (.inr s4.1))
def i_Space_matrixBy_of_i_Space_reflection_c1 (a0_0 : Int) (a0_1 : List Int) (a1_0_0 : Int) (a1_0_1 : List Int) (a1_1_0 : List Int) : Option (List (List Int)) :=
  (i_Space_dim a0_0 a0_1).bind fun v2 =>
  (i_unit v2).bind fun v3 =>
  (loop (i_Space_matrixBy_of_i_Space_reflection_c1_L0 a1_0_0 a1_0_1 a1_1_0 v3) BIG ([], 0)).bind fun x4 =>
  (i_transpose x4).bind fun v12 =>
  some v12

def i_Space_reflection (a0_0 : Int) (a0_1 : List Int) (a1 : List Int) : Option (List (List Int)) :=
  (i_Space_matrixBy_of_i_Space_reflection_c1 a0_0 a0_1 a0_0 a0_1 a1).bind fun v1 =>
  some v1

def i_Space_decomposition_L0 (a0_0 : Int) (a0_1 : List Int) (v3 : List (List Int)) (s4 : (List (List Int)) × (List (List Int)) × Int) : Option (((List (List Int)) × (List (List Int)) × Int) ⊕ (List (List Int))) :=
  (if s4.2.2 < (v3.length : Int) then
    ((idx v3 s4.2.2).bind fun v11 =>
    (i_transpose s4.1).bind fun v12 =>
    (idx v12 s4.2.2).bind fun v13 =>
    (i_Space_field a0_0 a0_1).bind fun v14 =>
    (i_field_plus v14 v13 v11 (-1)).bind fun v15 =>
    (i_isZero v15).bind fun v16 =>
    (if v16 = true then
      some (s4.1, s4.2.1)
    else
      (i_Space_norm a0_0 a0_1 v15).bind fun v18 =>
      (if ¬ v18 = 0 then
        (chk (s4.2.1.length + [v15].length ≤ 1099511627776)).bind fun _ =>
        (i_Space_field a0_0 a0_1).bind fun v21 =>
        (i_Space_reflection a0_0 a0_1 v15).bind fun v22 =>
        (i_field_times v21 v22 s4.1).bind fun v23 =>
        some (v23, s4.2.1 ++ [v15])
      else
        (i_Space_field a0_0 a0_1).bind fun v24 =>
        (i_field_plus v24 v13 v11 1).bind fun v25 =>
        (chk (s4.2.1.length + [v25, v11].length ≤ 1099511627776)).bind fun _ =>
        (i_Space_field a0_0 a0_1).bind fun v27 =>
        (i_Space_reflection a0_0 a0_1 v11).bind fun v28 =>
        (i_Space_field a0_0 a0_1).bind fun v29 =>
        (i_Space_reflection a0_0 a0_1 v25).bind fun v30 =>
        (i_field_times v29 v30 s4.1).bind fun v31 =>
        (i_field_times v27 v28 v31).bind fun v32 =>
        some (v32, s4.2.1 ++ [v25, v11]))) : Option ((List (List Int)) × (List (List Int)))).bind fun x9 =>
    some (.inl (x9.1, x9.2, w64 (s4.2.2 + 1)))
  else
    some (.inr s4.2.1))
def i_Space_decomposition (a0_0 : Int) (a0_1 : List Int) (a1 : List (List Int)) : Option (List (List Int)) :=
  (i_Space_dim a0_0 a0_1).bind fun v2 =>
  (i_unit v2).bind fun v3 =>
  (loop (i_Space_decomposition_L0 a0_0 a0_1 v3) BIG (a1, [], 0)).bind fun x4 =>
  some x4

def i_field_root_L0 (a0 : Int) (a1 : Int) (s2 : Int) : Option (Int ⊕ (Unit ⊕ (Int × Bool))) :=
  (if s2 < a0 then
    (i_field_num a0 (w64 (s2 * s2))).bind fun v8 =>
    (if v8 = a1 then
      some (.inr (.inr (s2, true)))
    else
      some (.inl (w64 (s2 + 1))))
  else
    some (.inr (.inl ())))
def i_field_root (a0 : Int) (a1 : Int) : Option (Int × Bool) :=
  (loop (i_field_root_L0 a0 a1) BIG 0).bind fun x2 =>
  (match x2 with
  | .inl y4 =>
    some (0, false)
  | .inr t => some t)

def i_field_isSquare (a0 : Int) (a1 : Int) : Option Bool :=
  (i_field_root a0 a1).bind fun v1 =>
  some v1.2

def i_HasSquareNorm_L0 (a0_0 : Int) (a0_1 : List Int) (v5 : List (List Int)) (s6 : Int × Int) : Option ((Int × Int) ⊕ Int) :=
  (if s6.2 < (v5.length : Int) then
    (idx v5 s6.2).bind fun v11 =>
    (i_Space_field a0_0 a0_1).bind fun v12 =>
    (i_Space_norm a0_0 a0_1 v11).bind fun v13 =>
    (i_field_num v12 (w64 (s6.1 * v13))).bind fun v14 =>
    some (.inl (v14, w64 (s6.2 + 1)))
  else
    some (.inr s6.1))
def i_HasSquareNorm (a0_0 : Int) (a0_1 : List Int) (a1 : List (List Int)) : Option (Bool × Int) :=
  (i_checkOrthogonal a0_0 a0_1 a1).bind fun v2 =>
  (if ¬ v2 = 0 then
    some (false, v2)
  else
    (i_Space_decomposition a0_0 a0_1 a1).bind fun v5 =>
    (loop (i_HasSquareNorm_L0 a0_0 a0_1 v5) BIG (1, 0)).bind fun x6 =>
    (i_Space_field a0_0 a0_1).bind fun v15 =>
    (i_field_isSquare v15 x6).bind fun v16 =>
    some (v16, 0))

def l_FnExactHasSquareNorm (a0_0 : Int) (a0_1 : List Int) (a1 : List (List Int)) : Option Bool :=
  (l_szSpace a0_0 a0_1 1048576).bind fun v1 =>
  (if v1 < 0 then
    some true
  else
    (l_szInt64SS a1 v1).bind fun v4 =>
    (if v4 < 0 then
      some true
    else
      (l_toSpace a0_0 a0_1).bind fun v7 =>
      (l_toInt64SS a1).bind fun v8 =>
      (s_HasSquareNorm v7.1 v7.2 v8).bind fun v9 =>
      (l_toSpace a0_0 a0_1).bind fun v10 =>
      (l_toInt64SS a1).bind fun v11 =>
      (i_HasSquareNorm v10.1 v10.2 v11).bind fun v12 =>
      ((if (v12.1 != v9.1) = true then
        some true
      else
        some (!(ieq v12.2 v9.2))) : Option Bool).bind fun x15 =>
      (if x15 = true then
        some false
      else
        (l_toSpace a0_0 a0_1).bind fun v18 =>
        (l_eqSpace v10.1 v10.2 v18.1 v18.2).bind fun v19 =>
        (if v19 = false then
          some false
        else
          (l_toInt64SS a1).bind fun v22 =>
          (l_eqInt64SS v11 v22).bind fun v23 =>
          (if v23 = false then
            some false
          else
            some true)))))

def s_DecomposeOrthogonal (a0_0 : Int) (a0_1 : List Int) (a1 : List (List Int)) : Option ((List (List Int)) × Int) :=
  (s_l08Code a0_0 a0_1 a1).bind fun v1 =>
  (if ¬ v1 = 0 then
    some (([] : List (List Int)), v1)
  else
    (s_l08Decompose a0_0 a0_1 a1).bind fun v4 =>
    some (v4, 0))

def i_DecomposeOrthogonal (a0_0 : Int) (a0_1 : List Int) (a1 : List (List Int)) : Option ((List (List Int)) × Int) :=
  (i_checkOrthogonal a0_0 a0_1 a1).bind fun v2 =>
  (if ¬ v2 = 0 then
    some (([] : List (List Int)), v2)
  else
    (i_Space_decomposition a0_0 a0_1 a1).bind fun v4 =>
    some (v4, 0))

end Go.Vam
