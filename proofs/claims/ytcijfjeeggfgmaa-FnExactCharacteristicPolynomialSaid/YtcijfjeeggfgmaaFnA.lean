import Derived.Test.YtcijfjeeggfgmaaVamT
namespace Go.Vam
open Go Go.RowKit
set_option maxRecDepth 100000
set_option linter.unusedSimpArgs false
set_option linter.unusedVariables false

def l_szInt64S (a0 : List Int) (a1 : Int) : Option Int :=
  (if (w64 (a1 - (a0.length : Int))) < 0 then
    some (-1)
  else
    some (w64 (a1 - (a0.length : Int))))

def l_szInt64SS_L0 (a0 : List (List Int)) (s4 : Int × Int) : Option ((Int × Int) ⊕ (Int ⊕ Int)) :=
  (if s4.2 < (a0.length : Int) then
    (idx a0 s4.2).bind fun v10 =>
    (l_szInt64S v10 s4.1).bind fun v11 =>
    (if v11 < 0 then
      some (.inr (.inr (-1)))
    else
      some (.inl (v11, w64 (s4.2 + 1))))
  else
    some (.inr (.inl s4.1)))
def l_szInt64SS (a0 : List (List Int)) (a1 : Int) : Option Int :=
  (if (w64 (a1 - (a0.length : Int))) < 0 then
    some (-1)
  else
    (loop (l_szInt64SS_L0 a0) BIG (w64 (a1 - (a0.length : Int)), 0)).bind fun x4 =>
    (match x4 with
    | .inl y6 =>
      some y6
    | .inr t => some t))

def l_toInt64S_L0 (a0 : List Int) (s3 : (List Int) × Int) : Option (((List Int) × Int) ⊕ (List Int)) :=
  (if s3.2 < (a0.length : Int) then
    (idx a0 s3.2).bind fun v8 =>
    (idx s3.1 s3.2).bind fun v9 =>
    some (.inl (s3.1.set s3.2.toNat v8, w64 (s3.2 + 1)))
  else
    some (.inr s3.1))
def l_toInt64S (a0 : List Int) : Option (List Int) :=
  (chk (0 ≤ (a0.length : Int) ∧ (a0.length : Int) ≤ 1099511627776)).bind fun _ =>
  (loop (l_toInt64S_L0 a0) BIG (List.replicate (a0.length : Int).toNat 0, 0)).bind fun x3 =>
  some x3

def l_toInt64SS_L0 (a0 : List (List Int)) (s3 : (List (List Int)) × Int) : Option (((List (List Int)) × Int) ⊕ (List (List Int))) :=
  (if s3.2 < (a0.length : Int) then
    (idx a0 s3.2).bind fun v8 =>
    (l_toInt64S v8).bind fun v9 =>
    (idx s3.1 s3.2).bind fun v10 =>
    some (.inl (s3.1.set s3.2.toNat v9, w64 (s3.2 + 1)))
  else
    some (.inr s3.1))
def l_toInt64SS (a0 : List (List Int)) : Option (List (List Int)) :=
  (chk (0 ≤ (a0.length : Int) ∧ (a0.length : Int) ≤ 1099511627776)).bind fun _ =>
  (loop (l_toInt64SS_L0 a0) BIG (List.replicate (a0.length : Int).toNat [], 0)).bind fun x3 =>
  some x3

def s_l01Prime (a0 : Int) : Option Bool :=
  ((if a0 = 3 then
    some true
  else
    (if a0 = 5 then
      some true
    else
      (if a0 = 7 then
        some true
      else
        (if a0 = 11 then
          some true
        else
          some (ieq a0 13))))) : Option Bool).bind fun x5 =>
  some x5

def s_l01In (a0 : Int) (a1 : Int) (a2 : Int) : Option Bool :=
  ((if a1 ≤ a0 then
    some (ile a0 a2)
  else
    some false) : Option Bool).bind fun x2 =>
  some x2

def s_l01Numbers_L0 (a0 : Int) (a1 : List Int) (s2 : Int) : Option (Int ⊕ (Unit ⊕ Bool)) :=
  (if s2 < (a1.length : Int) then
    (idx a1 s2).bind fun v8 =>
    (s_l01In v8 0 (w64 (a0 - 1))).bind fun v9 =>
    (if v9 = false then
      some (.inr (.inr false))
    else
      some (.inl (w64 (s2 + 1))))
  else
    some (.inr (.inl ())))
def s_l01Numbers (a0 : Int) (a1 : List Int) : Option Bool :=
  (loop (s_l01Numbers_L0 a0 a1) BIG 0).bind fun x2 =>
  (match x2 with
  | .inl y4 =>
    some true
  | .inr t => some t)

def s_l02Is_L0 (a0 : Int) (a1 : List (List Int)) (s11 : Int) : Option (Int ⊕ (Unit ⊕ Bool)) :=
  (if s11 < (a1.length : Int) then
    ((idx a1 s11).bind fun v17 =>
    (idx a1 0).bind fun v18 =>
    (if ¬ (v17.length : Int) = (v18.length : Int) then
      some true
    else
      (s_l01Numbers a0 v17).bind fun v20 =>
      some (!v20)) : Option Bool).bind fun x21 =>
    (if x21 = true then
      some (.inr (.inr false))
    else
      some (.inl (w64 (s11 + 1))))
  else
    some (.inr (.inl ())))
def s_l02Is (a0 : Int) (a1 : List (List Int)) : Option Bool :=
  ((s_l01Prime a0).bind fun v2 =>
  (if v2 = false then
    some true
  else
    (if (a1.length : Int) < 1 then
      some true
    else
      (if 16 < (a1.length : Int) then
        some true
      else
        (idx a1 0).bind fun v6 =>
        (if (v6.length : Int) < 1 then
          some true
        else
          some (ilt 16 (v6.length : Int)))))) : Option Bool).bind fun x8 =>
  (if x8 = true then
    some false
  else
    (loop (s_l02Is_L0 a0 a1) BIG 0).bind fun x11 =>
    (match x11 with
    | .inl y13 =>
      some true
    | .inr t => some t))

def i_IsPrime (a0 : Int) : Option Bool :=
  ((if a0 = 3 then
    some (ieq a0 3)
  else
    (if a0 = 5 then
      some (ieq a0 5)
    else
      (if a0 = 7 then
        some (ieq a0 7)
      else
        (if a0 = 11 then
          some (ieq a0 11)
        else
          some (ieq a0 13))))) : Option Bool).bind fun x3 =>
  (if x3 = true then
    some true
  else
    some false)

def i_inRange (a0 : Int) (a1 : Int) (a2 : Int) : Option Bool :=
  ((if a1 ≤ a0 then
    some (ile a0 a2)
  else
    some false) : Option Bool).bind fun x2 =>
  some x2

def i_field_is_L0 (a0 : Int) (a1 : List Int) (s2 : Int) : Option (Int ⊕ (Unit ⊕ Bool)) :=
  (if s2 < (a1.length : Int) then
    (idx a1 s2).bind fun v8 =>
    (i_inRange v8 0 (w64 (a0 - 1))).bind fun v9 =>
    (if v9 = false then
      some (.inr (.inr false))
    else
      some (.inl (w64 (s2 + 1))))
  else
    some (.inr (.inl ())))
def i_field_is (a0 : Int) (a1 : List Int) : Option Bool :=
  (loop (i_field_is_L0 a0 a1) BIG 0).bind fun x2 =>
  (match x2 with
  | .inl y4 =>
    some true
  | .inr t => some t)

def i_field_isTable_L0 (a0 : Int) (a1 : List (List Int)) (s4 : Int) : Option (Int ⊕ (Unit ⊕ Bool)) :=
  (if s4 < (a1.length : Int) then
    (idx a1 s4).bind fun v10 =>
    ((idx a1 0).bind fun v11 =>
    (if ¬ (v10.length : Int) = (v11.length : Int) then
      some true
    else
      (if (v10.length : Int) < 1 then
        some true
      else
        (if 16 < (v10.length : Int) then
          some true
        else
          (i_field_is a0 v10).bind fun v15 =>
          some (!v15)))) : Option Bool).bind fun x16 =>
    (if x16 = true then
      some (.inr (.inr false))
    else
      some (.inl (w64 (s4 + 1))))
  else
    some (.inr (.inl ())))
def i_field_isTable (a0 : Int) (a1 : List (List Int)) : Option Bool :=
  (if 16 < (a1.length : Int) then
    some false
  else
    (loop (i_field_isTable_L0 a0 a1) BIG 0).bind fun x4 =>
    (match x4 with
    | .inl y6 =>
      some true
    | .inr t => some t))

def i_field_isMatrix (a0 : Int) (a1 : List (List Int)) : Option Bool :=
  ((if 0 < (a1.length : Int) then
    (i_field_isTable a0 a1).bind fun v2 =>
    some v2
  else
    some false) : Option Bool).bind fun x3 =>
  some x3

def l_eqInt64S_L0 (a0 : List Int) (a1 : List Int) (s4 : Int) : Option (Int ⊕ (Unit ⊕ Bool)) :=
  (if s4 < (a0.length : Int) then
    (idx a0 s4).bind fun v10 =>
    (idx a1 s4).bind fun v11 =>
    (if ¬ v10 = v11 then
      some (.inr (.inr false))
    else
      some (.inl (w64 (s4 + 1))))
  else
    some (.inr (.inl ())))
def l_eqInt64S (a0 : List Int) (a1 : List Int) : Option Bool :=
  (if ¬ (a0.length : Int) = (a1.length : Int) then
    some false
  else
    (loop (l_eqInt64S_L0 a0 a1) BIG 0).bind fun x4 =>
    (match x4 with
    | .inl y6 =>
      some true
    | .inr t => some t))

def l_eqInt64SS_L0 (a0 : List (List Int)) (a1 : List (List Int)) (s4 : Int) : Option (Int ⊕ (Unit ⊕ Bool)) :=
  (if s4 < (a0.length : Int) then
    (idx a0 s4).bind fun v10 =>
    (idx a1 s4).bind fun v11 =>
    (l_eqInt64S v10 v11).bind fun v12 =>
    (if v12 = false then
      some (.inr (.inr false))
    else
      some (.inl (w64 (s4 + 1))))
  else
    some (.inr (.inl ())))
def l_eqInt64SS (a0 : List (List Int)) (a1 : List (List Int)) : Option Bool :=
  (if ¬ (a0.length : Int) = (a1.length : Int) then
    some false
  else
    (loop (l_eqInt64SS_L0 a0 a1) BIG 0).bind fun x4 =>
    (match x4 with
    | .inl y6 =>
      some true
    | .inr t => some t))

def s_l02Square (a0 : Int) (a1 : List (List Int)) : Option Int :=
  (s_l02Is a0 a1).bind fun v2 =>
  (if v2 = false then
    some 1
  else
    (idx a1 0).bind fun v5 =>
    (if ¬ (a1.length : Int) = (v5.length : Int) then
      some 2
    else
      some 0))

def i_checkMatrices_c1 (a0 : List (List Int)) (a1_0 : Int) : Option Bool :=
  (i_field_isMatrix a1_0 a0).bind fun v1 =>
  some (!v1)

def g_slices_IndexFunc_LLLI_LLI_of_i_checkMatrices_c1_L0 (a0 : List (List (List Int))) (a1_0_0 : Int) (s2 : Int) : Option (Int ⊕ (Unit ⊕ Int)) :=
  (if s2 < (a0.length : Int) then
    (idx a0 s2).bind fun v8 =>
    (i_checkMatrices_c1 v8 a1_0_0).bind fun v9 =>
    (if v9 = true then
      some (.inr (.inr s2))
    else
      some (.inl (w64 (s2 + 1))))
  else
    some (.inr (.inl ())))
def g_slices_IndexFunc_LLLI_LLI_of_i_checkMatrices_c1 (a0 : List (List (List Int))) (a1_0_0 : Int) : Option Int :=
  (loop (g_slices_IndexFunc_LLLI_LLI_of_i_checkMatrices_c1_L0 a0 a1_0_0) BIG 0).bind fun x2 =>
  (match x2 with
  | .inl y4 =>
    some (-1)
  | .inr t => some t)

def g_slices_ContainsFunc_LLLI_LLI_of_i_checkMatrices_c1 (a0 : List (List (List Int))) (a1_0_0 : Int) : Option Bool :=
  (g_slices_IndexFunc_LLLI_LLI_of_i_checkMatrices_c1 a0 a1_0_0).bind fun v1 =>
  some (ile 0 v1)

def i_checkMatrices (a0 : Int) (a1 : List (List (List Int))) : Option Int :=
  ((i_IsPrime a0).bind fun v2 =>
  (if v2 = false then
    some true
  else
    (g_slices_ContainsFunc_LLLI_LLI_of_i_checkMatrices_c1 a1 a0).bind fun v4 =>
    some v4) : Option Bool).bind fun x5 =>
  (if x5 = true then
    some 1
  else
    some 0)

def i_checkSquare (a0 : Int) (a1 : List (List Int)) : Option Int :=
  (i_checkMatrices a0 [a1]).bind fun v2 =>
  (if ¬ v2 = 0 then
    some v2
  else
    (idx a1 0).bind fun v5 =>
    (if ¬ (a1.length : Int) = (v5.length : Int) then
      some 2
    else
      some 0))

def i_field_num (a0 : Int) (a1 : Int) : Option Int :=
  (chk (¬ a0 = 0)).bind fun _ =>
  (chk (¬ a0 = 0)).bind fun _ =>
  some ((w64 ((a1.tmod a0) + a0)).tmod a0)

def l_markInt64S_L0 (s2 : (List Int) × Int × Int) : Option (((List Int) × Int × Int) ⊕ ((List Int) × Int)) :=
  (if s2.2.2 < (s2.1.length : Int) then
    (idx s2.1 s2.2.2).bind fun v7 =>
    some (.inl (s2.1.set s2.2.2.toNat s2.2.1, w64 (s2.2.1 + 1), w64 (s2.2.2 + 1)))
  else
    some (.inr (s2.1, s2.2.1)))
def l_markInt64S (a0 : List Int) (a1 : Int) : Option (Int × (List Int)) :=
  (loop l_markInt64S_L0 BIG (a0, a1, 0)).bind fun x2 =>
  some (x2.2, x2.1)

def l_markInt64SS_L0 (s2 : (List (List Int)) × Int × Int) : Option (((List (List Int)) × Int × Int) ⊕ ((List (List Int)) × Int)) :=
  (if s2.2.2 < (s2.1.length : Int) then
    (idx s2.1 s2.2.2).bind fun v7 =>
    (l_markInt64S v7 s2.2.1).bind fun v8 =>
    some (.inl (s2.1.set s2.2.2.toNat v8.2, v8.1, w64 (s2.2.2 + 1)))
  else
    some (.inr (s2.1, s2.2.1)))
def l_markInt64SS (a0 : List (List Int)) (a1 : Int) : Option (Int × (List (List Int))) :=
  (loop l_markInt64SS_L0 BIG (a0, a1, 0)).bind fun x2 =>
  some (x2.2, x2.1)

def l_heldInt64S_L0 (a0 : List Int) (s2 : Int × Int) : Option ((Int × Int) ⊕ (Int ⊕ Int)) :=
  (if s2.2 < (a0.length : Int) then
    (idx a0 s2.2).bind fun v9 =>
    (if ¬ v9 = s2.1 then
      some (.inr (.inr (-1)))
    else
      some (.inl (w64 (s2.1 + 1), w64 (s2.2 + 1))))
  else
    some (.inr (.inl s2.1)))
def l_heldInt64S (a0 : List Int) (a1 : Int) : Option Int :=
  (loop (l_heldInt64S_L0 a0) BIG (a1, 0)).bind fun x2 =>
  (match x2 with
  | .inl y4 =>
    some y4
  | .inr t => some t)

def s_l02Plus_L0 (a0 : Int) (a1 : List Int) (a2 : List Int) (a3 : Int) (s2 : (List Int) × Int) : Option (((List Int) × Int) ⊕ (List Int)) :=
  (if s2.2 < (a1.length : Int) then
    (idx a1 s2.2).bind fun v7 =>
    (idx a2 s2.2).bind fun v8 =>
    (chk (¬ a0 = 0)).bind fun _ =>
    (chk (s2.1.length + [(w64 (v7 + (w64 (a3 * v8)))).tmod a0].length ≤ 1099511627776)).bind fun _ =>
    some (.inl (s2.1 ++ [(w64 (v7 + (w64 (a3 * v8)))).tmod a0], w64 (s2.2 + 1)))
  else
    some (.inr s2.1))
def s_l02Plus (a0 : Int) (a1 : List Int) (a2 : List Int) (a3 : Int) : Option (List Int) :=
  (loop (s_l02Plus_L0 a0 a1 a2 a3) BIG ([], 0)).bind fun x2 =>
  some x2

def i_field_plus_L0 (a0 : Int) (a1 : List Int) (a2 : List Int) (a3 : Int) (s2 : (List Int) × Int) : Option (((List Int) × Int) ⊕ (List Int)) :=
  (if s2.2 < (a1.length : Int) then
    (idx a1 s2.2).bind fun v7 =>
    (idx a2 s2.2).bind fun v8 =>
    (i_field_num a0 (w64 (v7 + (w64 (a3 * v8))))).bind fun v9 =>
    (chk (s2.1.length + [v9].length ≤ 1099511627776)).bind fun _ =>
    some (.inl (s2.1 ++ [v9], w64 (s2.2 + 1)))
  else
    some (.inr s2.1))
def i_field_plus (a0 : Int) (a1 : List Int) (a2 : List Int) (a3 : Int) : Option (List Int) :=
  (loop (i_field_plus_L0 a0 a1 a2 a3) BIG ([], 0)).bind fun x2 =>
  some x2

def s_l01Own (a0 : List Int) : Option (List Int) :=
  (chk (([] : List Int).length + a0.length ≤ 1099511627776)).bind fun _ =>
  some (([] : List Int) ++ a0)

def s_l01Inv_L0 (a0 : Int) (a1 : Int) (s2 : Int) : Option (Int ⊕ Int) :=
  (chk (¬ a0 = 0)).bind fun _ =>
  (if ¬ ((w64 (a1 * s2)).tmod a0) = 1 then
    some (.inl (w64 (s2 + 1)))
  else
    some (.inr s2))
def s_l01Inv (a0 : Int) (a1 : Int) : Option Int :=
  (loop (s_l01Inv_L0 a0 a1) BIG 1).bind fun x2 =>
  some x2

end Go.Vam
