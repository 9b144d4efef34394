import Derived.Test.YtcijfjeeggfgmaaVamT
import Derived.Test.YtcijfjeeggfgmaaVamV
import Derived.Test.YtcijfjeeggfgmaaVamY
import Derived.Test.YtcijfjeeggfgmaaVamZ
namespace Go.Vam
open Go Go.RowKit
set_option maxRecDepth 100000
set_option linter.unusedSimpArgs false
set_option linter.unusedVariables false

def l_szInt64S (a0 : List Int) (a1 : Int) : Option Int :=
  (if (w64 (a1 - (a0.length : Int))) < 0 then
    some (-1)
  else
    some (w64 (a1 - (a0.length : Int))))

def l_szInt64SS_L0 (a0 : List (List Int)) (s4 : Int × Int) : Option ((Int × Int) ⊕ (Int ⊕ Int)) :=
  (if s4.2 < (a0.length : Int) then
    (idx a0 s4.2).bind fun v10 =>
    (l_szInt64S v10 s4.1).bind fun v11 =>
    (if v11 < 0 then
      some (.inr (.inr (-1)))
    else
      some (.inl (v11, w64 (s4.2 + 1))))
  else
    some (.inr (.inl s4.1)))
def l_szInt64SS (a0 : List (List Int)) (a1 : Int) : Option Int :=
  (if (w64 (a1 - (a0.length : Int))) < 0 then
    some (-1)
  else
    (loop (l_szInt64SS_L0 a0) BIG (w64 (a1 - (a0.length : Int)), 0)).bind fun x4 =>
    (match x4 with
    | .inl y6 =>
      some y6
    | .inr t => some t))

def l_toInt64S_L0 (a0 : List Int) (s3 : (List Int) × Int) : Option (((List Int) × Int) ⊕ (List Int)) :=
  (if s3.2 < (a0.length : Int) then
    (idx a0 s3.2).bind fun v8 =>
    (idx s3.1 s3.2).bind fun v9 =>
    some (.inl (s3.1.set s3.2.toNat v8, w64 (s3.2 + 1)))
  else
    some (.inr s3.1))
def l_toInt64S (a0 : List Int) : Option (List Int) :=
  (chk (0 ≤ (a0.length : Int) ∧ (a0.length : Int) ≤ 1099511627776)).bind fun _ =>
  (loop (l_toInt64S_L0 a0) BIG (List.replicate (a0.length : Int).toNat 0, 0)).bind fun x3 =>
  some x3

def l_toInt64SS_L0 (a0 : List (List Int)) (s3 : (List (List Int)) × Int) : Option (((List (List Int)) × Int) ⊕ (List (List Int))) :=
  (if s3.2 < (a0.length : Int) then
    (idx a0 s3.2).bind fun v8 =>
    (l_toInt64S v8).bind fun v9 =>
    (idx s3.1 s3.2).bind fun v10 =>
    some (.inl (s3.1.set s3.2.toNat v9, w64 (s3.2 + 1)))
  else
    some (.inr s3.1))
def l_toInt64SS (a0 : List (List Int)) : Option (List (List Int)) :=
  (chk (0 ≤ (a0.length : Int) ∧ (a0.length : Int) ≤ 1099511627776)).bind fun _ =>
  (loop (l_toInt64SS_L0 a0) BIG (List.replicate (a0.length : Int).toNat [], 0)).bind fun x3 =>
  some x3

def s_l01Prime (a0 : Int) : Option Bool :=
  ((if a0 = 3 then
    some true
  else
    (if a0 = 5 then
      some true
    else
      (if a0 = 7 then
        some true
      else
        (if a0 = 11 then
          some true
        else
          some (ieq a0 13))))) : Option Bool).bind fun x5 =>
  some x5

def s_l01In (a0 : Int) (a1 : Int) (a2 : Int) : Option Bool :=
  ((if a1 ≤ a0 then
    some (ile a0 a2)
  else
    some false) : Option Bool).bind fun x2 =>
  some x2

def s_l01Numbers_L0 (a0 : Int) (a1 : List Int) (s2 : Int) : Option (Int ⊕ (Unit ⊕ Bool)) :=
  (if s2 < (a1.length : Int) then
    (idx a1 s2).bind fun v8 =>
    (s_l01In v8 0 (w64 (a0 - 1))).bind fun v9 =>
    (if v9 = false then
      some (.inr (.inr false))
    else
      some (.inl (w64 (s2 + 1))))
  else
    some (.inr (.inl ())))
def s_l01Numbers (a0 : Int) (a1 : List Int) : Option Bool :=
  (loop (s_l01Numbers_L0 a0 a1) BIG 0).bind fun x2 =>
  (match x2 with
  | .inl y4 =>
    some true
  | .inr t => some t)

def s_l02Is_L0 (a0 : Int) (a1 : List (List Int)) (s11 : Int) : Option (Int ⊕ (Unit ⊕ Bool)) :=
  (if s11 < (a1.length : Int) then
    ((idx a1 s11).bind fun v17 =>
    (idx a1 0).bind fun v18 =>
    (if ¬ (v17.length : Int) = (v18.length : Int) then
      some true
    else
      (s_l01Numbers a0 v17).bind fun v20 =>
      some (!v20)) : Option Bool).bind fun x21 =>
    (if x21 = true then
      some (.inr (.inr false))
    else
      some (.inl (w64 (s11 + 1))))
  else
    some (.inr (.inl ())))
def s_l02Is (a0 : Int) (a1 : List (List Int)) : Option Bool :=
  ((s_l01Prime a0).bind fun v2 =>
  (if v2 = false then
    some true
  else
    (if (a1.length : Int) < 1 then
      some true
    else
      (if 16 < (a1.length : Int) then
        some true
      else
        (idx a1 0).bind fun v6 =>
        (if (v6.length : Int) < 1 then
          some true
        else
          some (ilt 16 (v6.length : Int)))))) : Option Bool).bind fun x8 =>
  (if x8 = true then
    some false
  else
    (loop (s_l02Is_L0 a0 a1) BIG 0).bind fun x11 =>
    (match x11 with
    | .inl y13 =>
      some true
    | .inr t => some t))

def i_IsPrime (a0 : Int) : Option Bool :=
  ((if a0 = 3 then
    some (ieq a0 3)
  else
    (if a0 = 5 then
      some (ieq a0 5)
    else
      (if a0 = 7 then
        some (ieq a0 7)
      else
        (if a0 = 11 then
          some (ieq a0 11)
        else
          some (ieq a0 13))))) : Option Bool).bind fun x3 =>
  (if x3 = true then
    some true
  else
    some false)

def i_inRange (a0 : Int) (a1 : Int) (a2 : Int) : Option Bool :=
  ((if a1 ≤ a0 then
    some (ile a0 a2)
  else
    some false) : Option Bool).bind fun x2 =>
  some x2

def i_field_is_L0 (a0 : Int) (a1 : List Int) (s2 : Int) : Option (Int ⊕ (Unit ⊕ Bool)) :=
  (if s2 < (a1.length : Int) then
    (idx a1 s2).bind fun v8 =>
    (i_inRange v8 0 (w64 (a0 - 1))).bind fun v9 =>
    (if v9 = false then
      some (.inr (.inr false))
    else
      some (.inl (w64 (s2 + 1))))
  else
    some (.inr (.inl ())))
def i_field_is (a0 : Int) (a1 : List Int) : Option Bool :=
  (loop (i_field_is_L0 a0 a1) BIG 0).bind fun x2 =>
  (match x2 with
  | .inl y4 =>
    some true
  | .inr t => some t)

def i_field_isTable_L0 (a0 : Int) (a1 : List (List Int)) (s4 : Int) : Option (Int ⊕ (Unit ⊕ Bool)) :=
  (if s4 < (a1.length : Int) then
    (idx a1 s4).bind fun v10 =>
    ((idx a1 0).bind fun v11 =>
    (if ¬ (v10.length : Int) = (v11.length : Int) then
      some true
    else
      (if (v10.length : Int) < 1 then
        some true
      else
        (if 16 < (v10.length : Int) then
          some true
        else
          (i_field_is a0 v10).bind fun v15 =>
          some (!v15)))) : Option Bool).bind fun x16 =>
    (if x16 = true then
      some (.inr (.inr false))
    else
      some (.inl (w64 (s4 + 1))))
  else
    some (.inr (.inl ())))
def i_field_isTable (a0 : Int) (a1 : List (List Int)) : Option Bool :=
  (if 16 < (a1.length : Int) then
    some false
  else
    (loop (i_field_isTable_L0 a0 a1) BIG 0).bind fun x4 =>
    (match x4 with
    | .inl y6 =>
      some true
    | .inr t => some t))

def i_field_isMatrix (a0 : Int) (a1 : List (List Int)) : Option Bool :=
  ((if 0 < (a1.length : Int) then
    (i_field_isTable a0 a1).bind fun v2 =>
    some v2
  else
    some false) : Option Bool).bind fun x3 =>
  some x3

def l_eqInt64S_L0 (a0 : List Int) (a1 : List Int) (s4 : Int) : Option (Int ⊕ (Unit ⊕ Bool)) :=
  (if s4 < (a0.length : Int) then
    (idx a0 s4).bind fun v10 =>
    (idx a1 s4).bind fun v11 =>
    (if ¬ v10 = v11 then
      some (.inr (.inr false))
    else
      some (.inl (w64 (s4 + 1))))
  else
    some (.inr (.inl ())))
def l_eqInt64S (a0 : List Int) (a1 : List Int) : Option Bool :=
  (if ¬ (a0.length : Int) = (a1.length : Int) then
    some false
  else
    (loop (l_eqInt64S_L0 a0 a1) BIG 0).bind fun x4 =>
    (match x4 with
    | .inl y6 =>
      some true
    | .inr t => some t))

def l_eqInt64SS_L0 (a0 : List (List Int)) (a1 : List (List Int)) (s4 : Int) : Option (Int ⊕ (Unit ⊕ Bool)) :=
  (if s4 < (a0.length : Int) then
    (idx a0 s4).bind fun v10 =>
    (idx a1 s4).bind fun v11 =>
    (l_eqInt64S v10 v11).bind fun v12 =>
    (if v12 = false then
      some (.inr (.inr false))
    else
      some (.inl (w64 (s4 + 1))))
  else
    some (.inr (.inl ())))
def l_eqInt64SS (a0 : List (List Int)) (a1 : List (List Int)) : Option Bool :=
  (if ¬ (a0.length : Int) = (a1.length : Int) then
    some false
  else
    (loop (l_eqInt64SS_L0 a0 a1) BIG 0).bind fun x4 =>
    (match x4 with
    | .inl y6 =>
      some true
    | .inr t => some t))

def i_field_num (a0 : Int) (a1 : Int) : Option Int :=
  (chk (¬ a0 = 0)).bind fun _ =>
  (chk (¬ a0 = 0)).bind fun _ =>
  some ((w64 ((a1.tmod a0) + a0)).tmod a0)

def s_l02Turn_L1 (a0 : List (List Int)) (s2 : (List (List Int)) × Int) (s9 : (List Int) × Int) : Option (((List Int) × Int) ⊕ (List Int)) :=
  (if s9.2 < (a0.length : Int) then
    (idx a0 s9.2).bind fun v14 =>
    (idx v14 s2.2).bind fun v15 =>
    (chk (s9.1.length + [v15].length ≤ 1099511627776)).bind fun _ =>
    some (.inl (s9.1 ++ [v15], w64 (s9.2 + 1)))
  else
    some (.inr s9.1))
def s_l02Turn_L0 (a0 : List (List Int)) (s2 : (List (List Int)) × Int) : Option (((List (List Int)) × Int) ⊕ (List (List Int))) :=
  (idx a0 0).bind fun v5 =>
  (if s2.2 < (v5.length : Int) then
    (loop (s_l02Turn_L1 a0 s2) BIG ([], 0)).bind fun x9 =>
    (chk (s2.1.length + [x9].length ≤ 1099511627776)).bind fun _ =>
    some (.inl (s2.1 ++ [x9], w64 (s2.2 + 1)))
  else
    some (.inr s2.1))
def s_l02Turn (a0 : List (List Int)) : Option (List (List Int)) :=
  (loop (s_l02Turn_L0 a0) BIG ([], 0)).bind fun x2 =>
  some x2

def i_transpose_L1 (a0 : List (List Int)) (s3 : (List (List Int)) × Int) (s9 : (List Int) × Int) : Option (((List Int) × Int) ⊕ (List Int)) :=
  (if s9.2 < (a0.length : Int) then
    (idx a0 s9.2).bind fun v14 =>
    (idx v14 s3.2).bind fun v15 =>
    (chk (s9.1.length + [v15].length ≤ 1099511627776)).bind fun _ =>
    some (.inl (s9.1 ++ [v15], w64 (s9.2 + 1)))
  else
    some (.inr s9.1))
def i_transpose_L0 (a0 : List (List Int)) (v2 : List Int) (s3 : (List (List Int)) × Int) : Option (((List (List Int)) × Int) ⊕ (List (List Int))) :=
  (if s3.2 < (v2.length : Int) then
    (loop (i_transpose_L1 a0 s3) BIG ([], 0)).bind fun x9 =>
    (chk (s3.1.length + [x9].length ≤ 1099511627776)).bind fun _ =>
    some (.inl (s3.1 ++ [x9], w64 (s3.2 + 1)))
  else
    some (.inr s3.1))
def i_transpose (a0 : List (List Int)) : Option (List (List Int)) :=
  (idx a0 0).bind fun v2 =>
  (loop (i_transpose_L0 a0 v2) BIG ([], 0)).bind fun x3 =>
  some x3

def l_markInt64S_L0 (s2 : (List Int) × Int × Int) : Option (((List Int) × Int × Int) ⊕ ((List Int) × Int)) :=
  (if s2.2.2 < (s2.1.length : Int) then
    (idx s2.1 s2.2.2).bind fun v7 =>
    some (.inl (s2.1.set s2.2.2.toNat s2.2.1, w64 (s2.2.1 + 1), w64 (s2.2.2 + 1)))
  else
    some (.inr (s2.1, s2.2.1)))
def l_markInt64S (a0 : List Int) (a1 : Int) : Option (Int × (List Int)) :=
  (loop l_markInt64S_L0 BIG (a0, a1, 0)).bind fun x2 =>
  some (x2.2, x2.1)

def l_markInt64SS_L0 (s2 : (List (List Int)) × Int × Int) : Option (((List (List Int)) × Int × Int) ⊕ ((List (List Int)) × Int)) :=
  (if s2.2.2 < (s2.1.length : Int) then
    (idx s2.1 s2.2.2).bind fun v7 =>
    (l_markInt64S v7 s2.2.1).bind fun v8 =>
    some (.inl (s2.1.set s2.2.2.toNat v8.2, v8.1, w64 (s2.2.2 + 1)))
  else
    some (.inr (s2.1, s2.2.1)))
def l_markInt64SS (a0 : List (List Int)) (a1 : Int) : Option (Int × (List (List Int))) :=
  (loop l_markInt64SS_L0 BIG (a0, a1, 0)).bind fun x2 =>
  some (x2.2, x2.1)

def l_heldInt64S_L0 (a0 : List Int) (s2 : Int × Int) : Option ((Int × Int) ⊕ (Int ⊕ Int)) :=
  (if s2.2 < (a0.length : Int) then
    (idx a0 s2.2).bind fun v9 =>
    (if ¬ v9 = s2.1 then
      some (.inr (.inr (-1)))
    else
      some (.inl (w64 (s2.1 + 1), w64 (s2.2 + 1))))
  else
    some (.inr (.inl s2.1)))
def l_heldInt64S (a0 : List Int) (a1 : Int) : Option Int :=
  (loop (l_heldInt64S_L0 a0) BIG (a1, 0)).bind fun x2 =>
  (match x2 with
  | .inl y4 =>
    some y4
  | .inr t => some t)

def l_heldInt64SS_L0 (a0 : List (List Int)) (s2 : Int × Int) : Option ((Int × Int) ⊕ (Int ⊕ Int)) :=
  (if s2.2 < (a0.length : Int) then
    (idx a0 s2.2).bind fun v8 =>
    (l_heldInt64S v8 s2.1).bind fun v9 =>
    (if v9 < 0 then
      some (.inr (.inr (-1)))
    else
      some (.inl (v9, w64 (s2.2 + 1))))
  else
    some (.inr (.inl s2.1)))
def l_heldInt64SS (a0 : List (List Int)) (a1 : Int) : Option Int :=
  (loop (l_heldInt64SS_L0 a0) BIG (a1, 0)).bind fun x2 =>
  (match x2 with
  | .inl y4 =>
    some y4
  | .inr t => some t)

def i_field_dot_L0 (a1 : List Int) (a2 : List Int) (s2 : Int × Int) : Option ((Int × Int) ⊕ Int) :=
  (if s2.2 < (a1.length : Int) then
    (idx a1 s2.2).bind fun v7 =>
    (idx a2 s2.2).bind fun v8 =>
    some (.inl (w64 (s2.1 + (w64 (v7 * v8))), w64 (s2.2 + 1)))
  else
    some (.inr s2.1))
def i_field_dot (a0 : Int) (a1 : List Int) (a2 : List Int) : Option Int :=
  (loop (i_field_dot_L0 a1 a2) BIG (0, 0)).bind fun x2 =>
  (i_field_num a0 x2).bind fun v9 =>
  some v9

def i_field_apply_L0 (a0 : Int) (a1 : List (List Int)) (a2 : List Int) (s2 : (List Int) × Int) : Option (((List Int) × Int) ⊕ (List Int)) :=
  (if s2.2 < (a1.length : Int) then
    (idx a1 s2.2).bind fun v7 =>
    (i_field_dot a0 v7 a2).bind fun v8 =>
    (chk (s2.1.length + [v8].length ≤ 1099511627776)).bind fun _ =>
    some (.inl (s2.1 ++ [v8], w64 (s2.2 + 1)))
  else
    some (.inr s2.1))
def i_field_apply (a0 : Int) (a1 : List (List Int)) (a2 : List Int) : Option (List Int) :=
  (loop (i_field_apply_L0 a0 a1 a2) BIG ([], 0)).bind fun x2 =>
  some x2

def s_l02Plus_L0 (a0 : Int) (a1 : List Int) (a2 : List Int) (a3 : Int) (s2 : (List Int) × Int) : Option (((List Int) × Int) ⊕ (List Int)) :=
  (if s2.2 < (a1.length : Int) then
    (idx a1 s2.2).bind fun v7 =>
    (idx a2 s2.2).bind fun v8 =>
    (chk (¬ a0 = 0)).bind fun _ =>
    (chk (s2.1.length + [(w64 (v7 + (w64 (a3 * v8)))).tmod a0].length ≤ 1099511627776)).bind fun _ =>
    some (.inl (s2.1 ++ [(w64 (v7 + (w64 (a3 * v8)))).tmod a0], w64 (s2.2 + 1)))
  else
    some (.inr s2.1))
def s_l02Plus (a0 : Int) (a1 : List Int) (a2 : List Int) (a3 : Int) : Option (List Int) :=
  (loop (s_l02Plus_L0 a0 a1 a2 a3) BIG ([], 0)).bind fun x2 =>
  some x2

def i_field_plus_L0 (a0 : Int) (a1 : List Int) (a2 : List Int) (a3 : Int) (s2 : (List Int) × Int) : Option (((List Int) × Int) ⊕ (List Int)) :=
  (if s2.2 < (a1.length : Int) then
    (idx a1 s2.2).bind fun v7 =>
    (idx a2 s2.2).bind fun v8 =>
    (i_field_num a0 (w64 (v7 + (w64 (a3 * v8))))).bind fun v9 =>
    (chk (s2.1.length + [v9].length ≤ 1099511627776)).bind fun _ =>
    some (.inl (s2.1 ++ [v9], w64 (s2.2 + 1)))
  else
    some (.inr s2.1))
def i_field_plus (a0 : Int) (a1 : List Int) (a2 : List Int) (a3 : Int) : Option (List Int) :=
  (loop (i_field_plus_L0 a0 a1 a2 a3) BIG ([], 0)).bind fun x2 =>
  some x2

def s_l01Own (a0 : List Int) : Option (List Int) :=
  (chk (([] : List Int).length + a0.length ≤ 1099511627776)).bind fun _ =>
  some (([] : List Int) ++ a0)

def s_l01Inv_L0 (a0 : Int) (a1 : Int) (s2 : Int) : Option (Int ⊕ Int) :=
  (chk (¬ a0 = 0)).bind fun _ =>
  (if ¬ ((w64 (a1 * s2)).tmod a0) = 1 then
    some (.inl (w64 (s2 + 1)))
  else
    some (.inr s2))
def s_l01Inv (a0 : Int) (a1 : Int) : Option Int :=
  (loop (s_l01Inv_L0 a0 a1) BIG 1).bind fun x2 =>
  some x2

def s_l01Same_L0 (a0 : List Int) (a1 : List Int) (s4 : Int) : Option (Int ⊕ (Unit ⊕ Bool)) :=
  (if s4 < (a0.length : Int) then
    (idx a0 s4).bind fun v10 =>
    (idx a1 s4).bind fun v11 =>
    (if ¬ v10 = v11 then
      some (.inr (.inr false))
    else
      some (.inl (w64 (s4 + 1))))
  else
    some (.inr (.inl ())))
def s_l01Same (a0 : List Int) (a1 : List Int) : Option Bool :=
  (if ¬ (a0.length : Int) = (a1.length : Int) then
    some false
  else
    (loop (s_l01Same_L0 a0 a1) BIG 0).bind fun x4 =>
    (match x4 with
    | .inl y6 =>
      some true
    | .inr t => some t))

def s_l12First_L0 (a0 : List Int) (s2 : Int) : Option (Int ⊕ Int) :=
  ((if s2 < (a0.length : Int) then
    (idx a0 s2).bind fun v6 =>
    some (ieq v6 0)
  else
    some false) : Option Bool).bind fun x7 =>
  (if x7 = true then
    some (.inl (w64 (s2 + 1)))
  else
    some (.inr s2))
def s_l12First (a0 : List Int) : Option Int :=
  (loop (s_l12First_L0 a0) BIG 0).bind fun x2 =>
  some x2

def g_slices_Index_LI_I_L0 (a0 : List Int) (a1 : Int) (s2 : Int) : Option (Int ⊕ (Unit ⊕ Int)) :=
  (if s2 < (a0.length : Int) then
    (idx a0 s2).bind fun v8 =>
    (if a1 = v8 then
      some (.inr (.inr s2))
    else
      some (.inl (w64 (s2 + 1))))
  else
    some (.inr (.inl ())))
def g_slices_Index_LI_I (a0 : List Int) (a1 : Int) : Option Int :=
  (loop (g_slices_Index_LI_I_L0 a0 a1) BIG 0).bind fun x2 =>
  (match x2 with
  | .inl y4 =>
    some (-1)
  | .inr t => some t)

def g_slices_Contains_LI_I (a0 : List Int) (a1 : Int) : Option Bool :=
  (g_slices_Index_LI_I a0 a1).bind fun v1 =>
  some (ile 0 v1)

def i_unit_L0 (a0 : Int) (s2 : (List (List Int)) × Int) : Option (((List (List Int)) × Int) ⊕ (List (List Int))) :=
  (if s2.2 < a0 then
    (chk (0 ≤ a0 ∧ a0 ≤ 1099511627776)).bind fun _ =>
    (some (List.replicate a0.toNat 0)).bind fun l8 =>
    (idx l8 s2.2).bind fun v9 =>
    (chk (s2.1.length + [l8.set s2.2.toNat 1].length ≤ 1099511627776)).bind fun _ =>
    some (.inl (s2.1 ++ [l8.set s2.2.toNat 1], w64 (s2.2 + 1)))
  else
    some (.inr s2.1))
def i_unit (a0 : Int) : Option (List (List Int)) :=
  (loop (i_unit_L0 a0) BIG ([], 0)).bind fun x2 =>
  some x2

end Go.Vam

namespace Go.Vam
open Go Go.RowKit
set_option maxRecDepth 100000
set_option linter.unusedSimpArgs false
set_option linter.unusedVariables false

def l_szSpace (a0_0 : Int) (a0_1 : List Int) (a1 : Int) : Option Int :=
  (l_szInt64S a0_1 a1).bind fun v1 =>
  (if v1 < 0 then
    some (-1)
  else
    some v1)

def l_toSpace (a0_0 : Int) (a0_1 : List Int) : Option (Int × (List Int)) :=
  (l_toInt64S a0_1).bind fun v1 =>
  some (a0_0, v1)

def s_l03Is (a0_0 : Int) (a0_1 : List Int) : Option Bool :=
  ((s_l01Prime a0_0).bind fun v1 =>
  (if v1 = true then
    (s_l01In (a0_1.length : Int) 1 6).bind fun v3 =>
    (if v3 = true then
      (s_l01Numbers a0_0 a0_1).bind fun v5 =>
      some v5
    else
      some false)
  else
    some false) : Option Bool).bind fun x6 =>
  some x6

def s_l03Disc_L0 (a0_0 : Int) (a0_1 : List Int) (s2 : Int × Int) : Option ((Int × Int) ⊕ Int) :=
  (if s2.2 < (a0_1.length : Int) then
    (idx a0_1 s2.2).bind fun v7 =>
    (chk (¬ a0_0 = 0)).bind fun _ =>
    some (.inl ((w64 (s2.1 * v7)).tmod a0_0, w64 (s2.2 + 1)))
  else
    some (.inr s2.1))
def s_l03Disc (a0_0 : Int) (a0_1 : List Int) : Option Int :=
  (loop (s_l03Disc_L0 a0_0 a0_1) BIG (1, 0)).bind fun x2 =>
  some x2

def i_length_I (a0 : List Int) : Option Int :=
  some (a0.length : Int)

def i_Space_field (a0_0 : Int) (a0_1 : List Int) : Option Int :=
  some a0_0

def i_IsSpace (a0_0 : Int) (a0_1 : List Int) : Option Bool :=
  ((i_IsPrime a0_0).bind fun v1 =>
  (if v1 = true then
    (i_length_I a0_1).bind fun v3 =>
    (i_inRange v3 1 6).bind fun v4 =>
    (if v4 = true then
      (i_Space_field a0_0 a0_1).bind fun v6 =>
      (i_field_is v6 a0_1).bind fun v7 =>
      some v7
    else
      some false)
  else
    some false) : Option Bool).bind fun x8 =>
  some x8

def i_Space_dim (a0_0 : Int) (a0_1 : List Int) : Option Int :=
  some (a0_1.length : Int)

def i_Space_regular (a0_0 : Int) (a0_1 : List Int) : Option Bool :=
  (g_slices_Contains_LI_I a0_1 0).bind fun v1 =>
  some (!v1)

def l_eqSpace (a0_0 : Int) (a0_1 : List Int) (a1_0 : Int) (a1_1 : List Int) : Option Bool :=
  (if ¬ a0_0 = a1_0 then
    some false
  else
    (l_eqInt64S a0_1 a1_1).bind fun v4 =>
    (if v4 = false then
      some false
    else
      some true))

def s_l02Times_L2 (a0 : Int) (a1 : List (List Int)) (a2 : List (List Int)) (s2 : (List (List Int)) × Int) (s8 : (List Int) × Int) (s15 : Int × Int) : Option ((Int × Int) ⊕ Int) :=
  (if s15.2 < (a2.length : Int) then
    (idx a1 s2.2).bind fun v20 =>
    (idx v20 s15.2).bind fun v21 =>
    (idx a2 s15.2).bind fun v22 =>
    (idx v22 s8.2).bind fun v23 =>
    (chk (¬ a0 = 0)).bind fun _ =>
    some (.inl ((w64 (s15.1 + (w64 (v21 * v23)))).tmod a0, w64 (s15.2 + 1)))
  else
    some (.inr s15.1))
def s_l02Times_L1 (a0 : Int) (a1 : List (List Int)) (a2 : List (List Int)) (s2 : (List (List Int)) × Int) (s8 : (List Int) × Int) : Option (((List Int) × Int) ⊕ (List Int)) :=
  (idx a2 0).bind fun v11 =>
  (if s8.2 < (v11.length : Int) then
    (loop (s_l02Times_L2 a0 a1 a2 s2 s8) BIG (0, 0)).bind fun x15 =>
    (chk (s8.1.length + [x15].length ≤ 1099511627776)).bind fun _ =>
    some (.inl (s8.1 ++ [x15], w64 (s8.2 + 1)))
  else
    some (.inr s8.1))
def s_l02Times_L0 (a0 : Int) (a1 : List (List Int)) (a2 : List (List Int)) (s2 : (List (List Int)) × Int) : Option (((List (List Int)) × Int) ⊕ (List (List Int))) :=
  (if s2.2 < (a1.length : Int) then
    (loop (s_l02Times_L1 a0 a1 a2 s2) BIG ([], 0)).bind fun x8 =>
    (chk (s2.1.length + [x8].length ≤ 1099511627776)).bind fun _ =>
    some (.inl (s2.1 ++ [x8], w64 (s2.2 + 1)))
  else
    some (.inr s2.1))
def s_l02Times (a0 : Int) (a1 : List (List Int)) (a2 : List (List Int)) : Option (List (List Int)) :=
  (loop (s_l02Times_L0 a0 a1 a2) BIG ([], 0)).bind fun x2 =>
  some x2

def i_field_times_L0 (a0 : Int) (a1 : List (List Int)) (v1 : List (List Int)) (s3 : (List (List Int)) × Int) : Option (((List (List Int)) × Int) ⊕ (List (List Int))) :=
  (if s3.2 < (a1.length : Int) then
    (idx a1 s3.2).bind fun v8 =>
    (i_field_apply a0 v1 v8).bind fun v9 =>
    (chk (s3.1.length + [v9].length ≤ 1099511627776)).bind fun _ =>
    some (.inl (s3.1 ++ [v9], w64 (s3.2 + 1)))
  else
    some (.inr s3.1))
def i_field_times (a0 : Int) (a1 : List (List Int)) (a2 : List (List Int)) : Option (List (List Int)) :=
  (i_transpose a2).bind fun v1 =>
  (loop (i_field_times_L0 a0 a1 v1) BIG ([], 0)).bind fun x3 =>
  some x3

def s_l01Own2_L0 (a0 : List (List Int)) (s2 : (List (List Int)) × Int) : Option (((List (List Int)) × Int) ⊕ (List (List Int))) :=
  (if s2.2 < (a0.length : Int) then
    (idx a0 s2.2).bind fun v7 =>
    (s_l01Own v7).bind fun v8 =>
    (chk (s2.1.length + [v8].length ≤ 1099511627776)).bind fun _ =>
    some (.inl (s2.1 ++ [v8], w64 (s2.2 + 1)))
  else
    some (.inr s2.1))
def s_l01Own2 (a0 : List (List Int)) : Option (List (List Int)) :=
  (loop (s_l01Own2_L0 a0) BIG ([], 0)).bind fun x2 =>
  some x2

def g_slices_Clone_LI_I (a0 : List Int) : Option (List Int) :=
  (chk (a0.length ≤ 1099511627776)).bind fun _ => some a0

def i_cloneRows_L0 (a0 : List (List Int)) (s2 : (List (List Int)) × Int) : Option (((List (List Int)) × Int) ⊕ (List (List Int))) :=
  (if s2.2 < (a0.length : Int) then
    (idx a0 s2.2).bind fun v7 =>
    (g_slices_Clone_LI_I v7).bind fun v8 =>
    (chk (s2.1.length + [v8].length ≤ 1099511627776)).bind fun _ =>
    some (.inl (s2.1 ++ [v8], w64 (s2.2 + 1)))
  else
    some (.inr s2.1))
def i_cloneRows (a0 : List (List Int)) : Option (List (List Int)) :=
  (loop (i_cloneRows_L0 a0) BIG ([], 0)).bind fun x2 =>
  some x2

def i_field_pow_L0 (a0 : Int) (a1 : Int) (a2 : Int) (s2 : Int × Int) : Option ((Int × Int) ⊕ Int) :=
  (if s2.2 < a2 then
    (i_field_num a0 (w64 (s2.1 * a1))).bind fun v7 =>
    some (.inl (v7, w64 (s2.2 + 1)))
  else
    some (.inr s2.1))
def i_field_pow (a0 : Int) (a1 : Int) (a2 : Int) : Option Int :=
  (loop (i_field_pow_L0 a0 a1 a2) BIG (1, 0)).bind fun x2 =>
  some x2

def i_field_inv (a0 : Int) (a1 : Int) : Option Int :=
  (i_field_pow a0 a1 (w64 (a0 - 2))).bind fun v1 =>
  some v1

def s_l02Det_L1 (s3 : (List (List Int)) × Int × Int) (s10 : Int) : Option (Int ⊕ Int) :=
  ((if s10 < (s3.1.length : Int) then
    (idx s3.1 s10).bind fun v14 =>
    (idx v14 s3.2.2).bind fun v15 =>
    some (ieq v15 0)
  else
    some false) : Option Bool).bind fun x16 =>
  (if x16 = true then
    some (.inl (w64 (s10 + 1)))
  else
    some (.inr s10))
def s_l02Det_L2 (a0 : Int) (s3 : (List (List Int)) × Int × Int) (v32 : Int) (s33 : (List (List Int)) × Int) : Option (((List (List Int)) × Int) ⊕ (List (List Int))) :=
  (if s33.2 < (s33.1.length : Int) then
    (idx s33.1 s33.2).bind fun v38 =>
    (idx s33.1 s3.2.2).bind fun v39 =>
    (idx v38 s3.2.2).bind fun v40 =>
    (chk (¬ a0 = 0)).bind fun _ =>
    (s_l02Plus a0 v38 v39 ((w64 ((w64 (a0 - v40)) * v32)).tmod a0)).bind fun v42 =>
    some (.inl (s33.1.set s33.2.toNat v42, w64 (s33.2 + 1)))
  else
    some (.inr s33.1))
def s_l02Det_L0 (a0 : Int) (s3 : (List (List Int)) × Int × Int) : Option (((List (List Int)) × Int × Int) ⊕ (Int ⊕ Int)) :=
  (if s3.2.2 < (s3.1.length : Int) then
    (loop (s_l02Det_L1 s3) BIG s3.2.2).bind fun x10 =>
    (if x10 = (s3.1.length : Int) then
      some (.inr (.inr 0))
    else
      ((if s3.2.2 < x10 then
        (idx s3.1 x10).bind fun v24 =>
        (idx s3.1 s3.2.2).bind fun v25 =>
        (some (s3.1.set x10.toNat v25)).bind fun l26 =>
        (idx l26 s3.2.2).bind fun v27 =>
        (chk (¬ a0 = 0)).bind fun _ =>
        some (l26.set s3.2.2.toNat v24, (w64 (a0 - s3.2.1)).tmod a0)
      else
        some (s3.1, s3.2.1)) : Option ((List (List Int)) × Int)).bind fun x21 =>
      (idx x21.1 s3.2.2).bind fun v29 =>
      (idx v29 s3.2.2).bind fun v30 =>
      (chk (¬ a0 = 0)).bind fun _ =>
      (s_l01Inv a0 v30).bind fun v32 =>
      (loop (s_l02Det_L2 a0 s3 v32) BIG (x21.1, w64 (s3.2.2 + 1))).bind fun x33 =>
      some (.inl (x33, (w64 (x21.2 * v30)).tmod a0, w64 (s3.2.2 + 1))))
  else
    some (.inr (.inl s3.2.1)))
def s_l02Det (a0 : Int) (a1 : List (List Int)) : Option Int :=
  (s_l01Own2 a1).bind fun v1 =>
  (loop (s_l02Det_L0 a0) BIG (v1, 1, 0)).bind fun x3 =>
  (match x3 with
  | .inl y5 =>
    some y5
  | .inr t => some t)

def i_field_determinant_L1 (s3 : (List (List Int)) × Int × Int) (s10 : Int) : Option (Int ⊕ Int) :=
  ((if s10 < (s3.1.length : Int) then
    (idx s3.1 s10).bind fun v14 =>
    (idx v14 s3.2.2).bind fun v15 =>
    some (ieq v15 0)
  else
    some false) : Option Bool).bind fun x16 =>
  (if x16 = true then
    some (.inl (w64 (s10 + 1)))
  else
    some (.inr s10))
def i_field_determinant_L2 (a0 : Int) (s3 : (List (List Int)) × Int × Int) (s31 : (List (List Int)) × Int) : Option (((List (List Int)) × Int) ⊕ (List (List Int))) :=
  (if s31.2 < (s31.1.length : Int) then
    (idx s31.1 s31.2).bind fun v36 =>
    (idx s31.1 s3.2.2).bind fun v37 =>
    (idx v36 s3.2.2).bind fun v38 =>
    (idx v37 s3.2.2).bind fun v39 =>
    (i_field_inv a0 v39).bind fun v40 =>
    (i_field_plus a0 v36 v37 (w64 ((w64 (0 - v38)) * v40))).bind fun v41 =>
    some (.inl (s31.1.set s31.2.toNat v41, w64 (s31.2 + 1)))
  else
    some (.inr s31.1))
def i_field_determinant_L0 (a0 : Int) (v1 : List (List Int)) (s3 : (List (List Int)) × Int × Int) : Option (((List (List Int)) × Int × Int) ⊕ (Int ⊕ Int)) :=
  (if s3.2.2 < (v1.length : Int) then
    (loop (i_field_determinant_L1 s3) BIG s3.2.2).bind fun x10 =>
    (if x10 = (s3.1.length : Int) then
      some (.inr (.inr 0))
    else
      ((if ¬ x10 = s3.2.2 then
        (idx s3.1 x10).bind fun v24 =>
        (idx s3.1 s3.2.2).bind fun v25 =>
        (idx (s3.1.set s3.2.2.toNat v24) x10).bind fun v26 =>
        (i_field_num a0 (w64 (0 - s3.2.1))).bind fun v27 =>
        some ((s3.1.set s3.2.2.toNat v24).set x10.toNat v25, v27)
      else
        some (s3.1, s3.2.1)) : Option ((List (List Int)) × Int)).bind fun x21 =>
      (idx x21.1 s3.2.2).bind fun v28 =>
      (idx v28 s3.2.2).bind fun v29 =>
      (i_field_num a0 (w64 (x21.2 * v29))).bind fun v30 =>
      (loop (i_field_determinant_L2 a0 s3) BIG (x21.1, w64 (s3.2.2 + 1))).bind fun x31 =>
      some (.inl (x31, v30, w64 (s3.2.2 + 1))))
  else
    some (.inr (.inl s3.2.1)))
def i_field_determinant (a0 : Int) (a1 : List (List Int)) : Option Int :=
  (i_cloneRows a1).bind fun v1 =>
  (loop (i_field_determinant_L0 a0 v1) BIG (v1, 1, 0)).bind fun x3 =>
  (match x3 with
  | .inl y5 =>
    some y5
  | .inr t => some t)

def l_markSpace (a0_0 : Int) (a0_1 : List Int) (a1 : Int) : Option Int :=
  (l_markInt64S a0_1 a1).bind fun v1 =>
  some v1.1

end Go.Vam

namespace Go.Vam
open Go Go.RowKit
set_option maxRecDepth 100000
set_option linter.unusedSimpArgs false
set_option linter.unusedVariables false

def s_l02First_L0 (a0 : List Int) (s2 : Int) : Option (Int ⊕ (Unit ⊕ Int)) :=
  (if s2 < (a0.length : Int) then
    (idx a0 s2).bind fun v8 =>
    (if ¬ v8 = 0 then
      some (.inr (.inr s2))
    else
      some (.inl (w64 (s2 + 1))))
  else
    some (.inr (.inl ())))
def s_l02First (a0 : List Int) : Option Int :=
  (loop (s_l02First_L0 a0) BIG 0).bind fun x2 =>
  (match x2 with
  | .inl y4 =>
    some (-1)
  | .inr t => some t)

def i_lead_L0 (a0 : List Int) (s2 : Int) : Option (Int ⊕ Int) :=
  ((if s2 < (a0.length : Int) then
    (idx a0 s2).bind fun v6 =>
    some (ieq v6 0)
  else
    some false) : Option Bool).bind fun x7 =>
  (if x7 = true then
    some (.inl (w64 (s2 + 1)))
  else
    some (.inr s2))
def i_lead (a0 : List Int) : Option Int :=
  (loop (i_lead_L0 a0) BIG 0).bind fun x2 =>
  some x2

def s_l03Pair_L0 (a0_0 : Int) (a0_1 : List Int) (a1 : List Int) (a2 : List Int) (s2 : Int × Int) : Option ((Int × Int) ⊕ Int) :=
  (if s2.2 < (a1.length : Int) then
    (idx a1 s2.2).bind fun v7 =>
    (idx a2 s2.2).bind fun v8 =>
    (chk (¬ a0_0 = 0)).bind fun _ =>
    (idx a0_1 s2.2).bind fun v10 =>
    (chk (¬ a0_0 = 0)).bind fun _ =>
    some (.inl ((w64 (s2.1 + (w64 (((w64 (v7 * v8)).tmod a0_0) * v10)))).tmod a0_0, w64 (s2.2 + 1)))
  else
    some (.inr s2.1))
def s_l03Pair (a0_0 : Int) (a0_1 : List Int) (a1 : List Int) (a2 : List Int) : Option Int :=
  (loop (s_l03Pair_L0 a0_0 a0_1 a1 a2) BIG (0, 0)).bind fun x2 =>
  some x2

def s_l03Isometry_L1 (a0_1 : List Int) (a1_0 : Int) (a1_1 : List Int) (v12 : List (List Int)) (s14 : Int) (s20 : Int) : Option (Int ⊕ (Unit ⊕ (Int ⊕ (Unit ⊕ Bool)))) :=
  (if s20 ≤ s14 then
    ((if s14 = s20 then
      (idx a0_1 s14).bind fun v30 =>
      some v30
    else
      some 0) : Option Int).bind fun x27 =>
    (idx v12 s14).bind fun v31 =>
    (idx v12 s20).bind fun v32 =>
    (s_l03Pair a1_0 a1_1 v31 v32).bind fun v33 =>
    (if ¬ v33 = x27 then
      some (.inr (.inr (.inr (.inr false))))
    else
      some (.inl (w64 (s20 + 1))))
  else
    some (.inr (.inl ())))
def s_l03Isometry_L0 (a0_1 : List Int) (a1_0 : Int) (a1_1 : List Int) (v12 : List (List Int)) (s14 : Int) : Option (Int ⊕ (Unit ⊕ Bool)) :=
  (if s14 < (a0_1.length : Int) then
    (loop (s_l03Isometry_L1 a0_1 a1_0 a1_1 v12 s14) BIG 0).bind fun x20 =>
    (match x20 with
    | .inl y22 =>
      some (.inl (w64 (s14 + 1)))
    | .inr t => some t)
  else
    some (.inr (.inl ())))
def s_l03Isometry (a0_0 : Int) (a0_1 : List Int) (a1_0 : Int) (a1_1 : List Int) (a2 : List (List Int)) : Option Bool :=
  ((if ¬ a0_0 = a1_0 then
    some true
  else
    (if ¬ (a1_1.length : Int) = (a0_1.length : Int) then
      some true
    else
      (if ¬ (a2.length : Int) = (a0_1.length : Int) then
        some true
      else
        (s_l02Is a0_0 a2).bind fun v5 =>
        (if v5 = false then
          some true
        else
          (idx a2 0).bind fun v7 =>
          (if ¬ (v7.length : Int) = (a0_1.length : Int) then
            some true
          else
            (s_l02Det a0_0 a2).bind fun v9 =>
            some (ieq v9 0)))))) : Option Bool).bind fun x10 =>
  (if x10 = true then
    some false
  else
    (s_l02Turn a2).bind fun v12 =>
    (loop (s_l03Isometry_L0 a0_1 a1_0 a1_1 v12) BIG 0).bind fun x14 =>
    (match x14 with
    | .inl y16 =>
      some true
    | .inr t => some t))

def s_l08Is (a0_0 : Int) (a0_1 : List Int) (a1 : List (List Int)) : Option Bool :=
  (s_l03Isometry a0_0 a0_1 a0_0 a0_1 a1).bind fun v1 =>
  some v1

def s_IsOrthogonal (a0_0 : Int) (a0_1 : List Int) (a1 : List (List Int)) : Option (Bool × Int) :=
  (s_l03Is a0_0 a0_1).bind fun v2 =>
  (if v2 = false then
    some (false, 1)
  else
    (s_l03Disc a0_0 a0_1).bind fun v5 =>
    (if v5 = 0 then
      some (false, 5)
    else
      (s_l08Is a0_0 a0_1 a1).bind fun v7 =>
      some (v7, 0)))

def i_Space_weighted_L0 (a0_0 : Int) (a0_1 : List Int) (a1 : List Int) (s2 : (List Int) × Int) : Option (((List Int) × Int) ⊕ (List Int)) :=
  (if s2.2 < (a1.length : Int) then
    (idx a1 s2.2).bind fun v7 =>
    (i_Space_field a0_0 a0_1).bind fun v8 =>
    (idx a0_1 s2.2).bind fun v9 =>
    (i_field_num v8 (w64 (v7 * v9))).bind fun v10 =>
    (chk (s2.1.length + [v10].length ≤ 1099511627776)).bind fun _ =>
    some (.inl (s2.1 ++ [v10], w64 (s2.2 + 1)))
  else
    some (.inr s2.1))
def i_Space_weighted (a0_0 : Int) (a0_1 : List Int) (a1 : List Int) : Option (List Int) :=
  (loop (i_Space_weighted_L0 a0_0 a0_1 a1) BIG ([], 0)).bind fun x2 =>
  some x2

def i_Space_pair (a0_0 : Int) (a0_1 : List Int) (a1 : List Int) (a2 : List Int) : Option Int :=
  (i_Space_field a0_0 a0_1).bind fun v1 =>
  (i_Space_weighted a0_0 a0_1 a1).bind fun v2 =>
  (i_field_dot v1 v2 a2).bind fun v3 =>
  some v3

def i_isIsometry_L1 (a0_1 : List Int) (a1_0 : Int) (a1_1 : List Int) (v18 : List (List Int)) (s20 : Int) (v26 : List Int) (s27 : Int) : Option (Int ⊕ (Unit ⊕ (Int ⊕ (Unit ⊕ Bool)))) :=
  (if s27 < (v18.length : Int) then
    (idx v18 s27).bind fun v33 =>
    ((if s20 = s27 then
      (idx a0_1 s20).bind fun v38 =>
      some v38
    else
      some 0) : Option Int).bind fun x35 =>
    (i_Space_pair a1_0 a1_1 v26 v33).bind fun v39 =>
    (if ¬ v39 = x35 then
      some (.inr (.inr (.inr (.inr false))))
    else
      some (.inl (w64 (s27 + 1))))
  else
    some (.inr (.inl ())))
def i_isIsometry_L0 (a0_1 : List Int) (a1_0 : Int) (a1_1 : List Int) (v18 : List (List Int)) (s20 : Int) : Option (Int ⊕ (Unit ⊕ Bool)) :=
  (if s20 < (v18.length : Int) then
    (idx v18 s20).bind fun v26 =>
    (loop (i_isIsometry_L1 a0_1 a1_0 a1_1 v18 s20 v26) BIG 0).bind fun x27 =>
    (match x27 with
    | .inl y29 =>
      some (.inl (w64 (s20 + 1)))
    | .inr t => some t)
  else
    some (.inr (.inl ())))
def i_isIsometry (a0_0 : Int) (a0_1 : List Int) (a1_0 : Int) (a1_1 : List Int) (a2 : List (List Int)) : Option Bool :=
  ((if ¬ a0_0 = a1_0 then
    some true
  else
    (i_Space_dim a0_0 a0_1).bind fun v3 =>
    (i_Space_dim a1_0 a1_1).bind fun v4 =>
    (if ¬ v3 = v4 then
      some true
    else
      (i_Space_field a0_0 a0_1).bind fun v6 =>
      (i_field_isMatrix v6 a2).bind fun v7 =>
      (if v7 = false then
        some true
      else
        (i_Space_dim a0_0 a0_1).bind fun v9 =>
        (if ¬ (a2.length : Int) = v9 then
          some true
        else
          (idx a2 0).bind fun v11 =>
          (i_Space_dim a0_0 a0_1).bind fun v12 =>
          (if ¬ (v11.length : Int) = v12 then
            some true
          else
            (i_Space_field a0_0 a0_1).bind fun v14 =>
            (i_field_determinant v14 a2).bind fun v15 =>
            some (ieq v15 0)))))) : Option Bool).bind fun x16 =>
  (if x16 = true then
    some false
  else
    (i_transpose a2).bind fun v18 =>
    (loop (i_isIsometry_L0 a0_1 a1_0 a1_1 v18) BIG 0).bind fun x20 =>
    (match x20 with
    | .inl y22 =>
      some true
    | .inr t => some t))

def s_l08Code (a0_0 : Int) (a0_1 : List Int) (a1 : List (List Int)) : Option Int :=
  (s_IsOrthogonal a0_0 a0_1 a1).bind fun v1 =>
  ((if v1.2 = 0 then
    some (!v1.1)
  else
    some false) : Option Bool).bind fun x4 =>
  ((if x4 = true then
    some 2
  else
    some v1.2) : Option Int).bind fun x5 =>
  some x5

def i_checkOrthogonal (a0_0 : Int) (a0_1 : List Int) (a1 : List (List Int)) : Option Int :=
  (i_IsSpace a0_0 a0_1).bind fun v2 =>
  (if v2 = false then
    some 1
  else
    (i_Space_regular a0_0 a0_1).bind fun v4 =>
    (if v4 = false then
      some 5
    else
      (i_isIsometry a0_0 a0_1 a0_0 a0_1 a1).bind fun v6 =>
      (if v6 = false then
        some 2
      else
        some 0)))

end Go.Vam

namespace Go.Vam
open Go Go.RowKit
set_option maxRecDepth 100000
set_option linter.unusedSimpArgs false
set_option linter.unusedVariables false

def i_isZero (a0 : List Int) : Option Bool :=
  (i_lead a0).bind fun v1 =>
  some (ieq v1 (a0.length : Int))

def s_l07Reflect (a0_0 : Int) (a0_1 : List Int) (a1 : List Int) (a2 : List Int) : Option (List Int) :=
  (s_l03Pair a0_0 a0_1 a1 a2).bind fun v1 =>
  (chk (¬ a0_0 = 0)).bind fun _ =>
  (s_l03Pair a0_0 a0_1 a1 a1).bind fun v3 =>
  (s_l01Inv a0_0 v3).bind fun v4 =>
  (chk (¬ a0_0 = 0)).bind fun _ =>
  (chk (¬ a0_0 = 0)).bind fun _ =>
  (s_l02Plus a0_0 a2 a1 ((w64 (a0_0 - ((w64 (((w64 (2 * v1)).tmod a0_0) * v4)).tmod a0_0))).tmod a0_0)).bind fun v7 =>
  some v7

def s_l08Reflection_L0 (a0_0 : Int) (a0_1 : List Int) (a1 : List Int) (s2 : (List (List Int)) × Int) : Option (((List (List Int)) × Int) ⊕ (List (List Int))) :=
  (if s2.2 < (a0_1.length : Int) then
    (chk (0 ≤ (a0_1.length : Int) ∧ (a0_1.length : Int) ≤ 1099511627776)).bind fun _ =>
    (some (List.replicate (a0_1.length : Int).toNat 0)).bind fun l8 =>
    (idx l8 s2.2).bind fun v9 =>
    (s_l07Reflect a0_0 a0_1 a1 (l8.set s2.2.toNat 1)).bind fun v10 =>
    (chk (s2.1.length + [v10].length ≤ 1099511627776)).bind fun _ =>
    some (.inl (s2.1 ++ [v10], w64 (s2.2 + 1)))
  else
    some (.inr s2.1))
def s_l08Reflection (a0_0 : Int) (a0_1 : List Int) (a1 : List Int) : Option (List (List Int)) :=
  (loop (s_l08Reflection_L0 a0_0 a0_1 a1) BIG ([], 0)).bind fun x2 =>
  (s_l02Turn x2).bind fun v12 =>
  some v12

end Go.Vam

namespace Go.Vam
open Go Go.RowKit
set_option maxRecDepth 100000
set_option linter.unusedSimpArgs false
set_option linter.unusedVariables false

def s_l08Decompose_L0 (a0_0 : Int) (a0_1 : List Int) (s2 : (List (List Int)) × (List (List Int)) × Int) : Option (((List (List Int)) × (List (List Int)) × Int) ⊕ (List (List Int))) :=
  (if s2.2.2 < (a0_1.length : Int) then
    ((s_l02Turn s2.1).bind fun v9 =>
    (idx v9 s2.2.2).bind fun v10 =>
    (chk (0 ≤ (a0_1.length : Int) ∧ (a0_1.length : Int) ≤ 1099511627776)).bind fun _ =>
    (some (List.replicate (a0_1.length : Int).toNat 0)).bind fun l12 =>
    (idx l12 s2.2.2).bind fun v13 =>
    (s_l01Same v10 (l12.set s2.2.2.toNat 1)).bind fun v15 =>
    (if v15 = true then
      some (s2.1, s2.2.1)
    else
      (s_l02Plus a0_0 v10 (l12.set s2.2.2.toNat 1) (w64 (a0_0 - 1))).bind fun v17 =>
      (s_l03Pair a0_0 a0_1 v17 v17).bind fun v19 =>
      (if ¬ v19 = 0 then
        (chk (s2.2.1.length + [v17].length ≤ 1099511627776)).bind fun _ =>
        (s_l08Reflection a0_0 a0_1 v17).bind fun v22 =>
        (s_l02Times a0_0 v22 s2.1).bind fun v23 =>
        some (v23, s2.2.1 ++ [v17])
      else
        (s_l02Plus a0_0 v10 (l12.set s2.2.2.toNat 1) 1).bind fun v24 =>
        (chk (s2.2.1.length + [v24, l12.set s2.2.2.toNat 1].length ≤ 1099511627776)).bind fun _ =>
        (s_l08Reflection a0_0 a0_1 (l12.set s2.2.2.toNat 1)).bind fun v26 =>
        (s_l08Reflection a0_0 a0_1 v24).bind fun v27 =>
        (s_l02Times a0_0 v27 s2.1).bind fun v28 =>
        (s_l02Times a0_0 v26 v28).bind fun v29 =>
        some (v29, s2.2.1 ++ [v24, l12.set s2.2.2.toNat 1]))) : Option ((List (List Int)) × (List (List Int)))).bind fun x7 =>
    some (.inl (x7.1, x7.2, w64 (s2.2.2 + 1)))
  else
    some (.inr s2.2.1))
def s_l08Decompose (a0_0 : Int) (a0_1 : List Int) (a1 : List (List Int)) : Option (List (List Int)) :=
  (loop (s_l08Decompose_L0 a0_0 a0_1) BIG (a1, [], 0)).bind fun x2 =>
  some x2

def i_Space_norm (a0_0 : Int) (a0_1 : List Int) (a1 : List Int) : Option Int :=
  (i_Space_pair a0_0 a0_1 a1 a1).bind fun v1 =>
  some v1

def i_Space_reflected (a0_0 : Int) (a0_1 : List Int) (a1 : List Int) (a2 : List Int) : Option (List Int) :=
  (i_Space_field a0_0 a0_1).bind fun v1 =>
  (i_Space_pair a0_0 a0_1 a1 a2).bind fun v2 =>
  (i_Space_field a0_0 a0_1).bind fun v3 =>
  (i_Space_norm a0_0 a0_1 a1).bind fun v4 =>
  (i_field_inv v3 v4).bind fun v5 =>
  (i_field_plus v1 a2 a1 (w64 ((w64 ((-2) * v2)) * v5))).bind fun v6 =>
  some v6

def i_Space_reflection_c1 (a0 : List Int) (a1_0 : Int) (a1_1 : List Int) (a2_0 : List Int) : Option (List Int) :=
  (i_Space_reflected a1_0 a1_1 a2_0 a0).bind fun v1 =>
  some v1

def i_Space_matrixBy_of_i_Space_reflection_c1_L0 (a1_0_0 : Int) (a1_0_1 : List Int) (a1_1_0 : List Int) (v3 : List (List Int)) (s4 : (List (List Int)) × Int) : Option (((List (List Int)) × Int) ⊕ (List (List Int))) :=
  (if s4.2 < (v3.length : Int) then
    (idx v3 s4.2).bind fun v9 =>
    (i_Space_reflection_c1 v9 a1_0_0 a1_0_1 a1_1_0).bind fun v10 =>
    (chk (s4.1.length + [v10].length ≤ 1099511627776)).bind fun _ =>
    some (.inl (s4.1 ++ [v10], w64 (s4.2 + 1)))
  else
    some (.inr s4.1))
def i_Space_matrixBy_of_i_Space_reflection_c1 (a0_0 : Int) (a0_1 : List Int) (a1_0_0 : Int) (a1_0_1 : List Int) (a1_1_0 : List Int) : Option (List (List Int)) :=
  (i_Space_dim a0_0 a0_1).bind fun v2 =>
  (i_unit v2).bind fun v3 =>
  (loop (i_Space_matrixBy_of_i_Space_reflection_c1_L0 a1_0_0 a1_0_1 a1_1_0 v3) BIG ([], 0)).bind fun x4 =>
  (i_transpose x4).bind fun v12 =>
  some v12

def i_Space_reflection (a0_0 : Int) (a0_1 : List Int) (a1 : List Int) : Option (List (List Int)) :=
  (i_Space_matrixBy_of_i_Space_reflection_c1 a0_0 a0_1 a0_0 a0_1 a1).bind fun v1 =>
  some v1

def i_Space_decomposition_L0 (a0_0 : Int) (a0_1 : List Int) (v3 : List (List Int)) (s4 : (List (List Int)) × (List (List Int)) × Int) : Option (((List (List Int)) × (List (List Int)) × Int) ⊕ (List (List Int))) :=
  (if s4.2.2 < (v3.length : Int) then
    ((idx v3 s4.2.2).bind fun v11 =>
    (i_transpose s4.1).bind fun v12 =>
    (idx v12 s4.2.2).bind fun v13 =>
    (i_Space_field a0_0 a0_1).bind fun v14 =>
    (i_field_plus v14 v13 v11 (-1)).bind fun v15 =>
    (i_isZero v15).bind fun v16 =>
    (if v16 = true then
      some (s4.1, s4.2.1)
    else
      (i_Space_norm a0_0 a0_1 v15).bind fun v18 =>
      (if ¬ v18 = 0 then
        (chk (s4.2.1.length + [v15].length ≤ 1099511627776)).bind fun _ =>
        (i_Space_field a0_0 a0_1).bind fun v21 =>
        (i_Space_reflection a0_0 a0_1 v15).bind fun v22 =>
        (i_field_times v21 v22 s4.1).bind fun v23 =>
        some (v23, s4.2.1 ++ [v15])
      else
        (i_Space_field a0_0 a0_1).bind fun v24 =>
        (i_field_plus v24 v13 v11 1).bind fun v25 =>
        (chk (s4.2.1.length + [v25, v11].length ≤ 1099511627776)).bind fun _ =>
        (i_Space_field a0_0 a0_1).bind fun v27 =>
        (i_Space_reflection a0_0 a0_1 v11).bind fun v28 =>
        (i_Space_field a0_0 a0_1).bind fun v29 =>
        (i_Space_reflection a0_0 a0_1 v25).bind fun v30 =>
        (i_field_times v29 v30 s4.1).bind fun v31 =>
        (i_field_times v27 v28 v31).bind fun v32 =>
        some (v32, s4.2.1 ++ [v25, v11]))) : Option ((List (List Int)) × (List (List Int)))).bind fun x9 =>
    some (.inl (x9.1, x9.2, w64 (s4.2.2 + 1)))
  else
    some (.inr s4.2.1))
def i_Space_decomposition (a0_0 : Int) (a0_1 : List Int) (a1 : List (List Int)) : Option (List (List Int)) :=
  (i_Space_dim a0_0 a0_1).bind fun v2 =>
  (i_unit v2).bind fun v3 =>
  (loop (i_Space_decomposition_L0 a0_0 a0_1 v3) BIG (a1, [], 0)).bind fun x4 =>
  some x4

def s_DecomposeOrthogonal (a0_0 : Int) (a0_1 : List Int) (a1 : List (List Int)) : Option ((List (List Int)) × Int) :=
  (s_l08Code a0_0 a0_1 a1).bind fun v1 =>
  (if ¬ v1 = 0 then
    some (([] : List (List Int)), v1)
  else
    (s_l08Decompose a0_0 a0_1 a1).bind fun v4 =>
    some (v4, 0))

def i_DecomposeOrthogonal (a0_0 : Int) (a0_1 : List Int) (a1 : List (List Int)) : Option ((List (List Int)) × Int) :=
  (i_checkOrthogonal a0_0 a0_1 a1).bind fun v2 =>
  (if ¬ v2 = 0 then
    some (([] : List (List Int)), v2)
  else
    (i_Space_decomposition a0_0 a0_1 a1).bind fun v4 =>
    some (v4, 0))

end Go.Vam

namespace Go.Vam
open Go Go.RowKit
set_option maxRecDepth 100000
set_option linter.unusedSimpArgs false
set_option linter.unusedVariables false

end Go.Vam

namespace Go.Vam
open Go Go.RowKit
set_option maxRecDepth 100000
set_option linter.unusedSimpArgs false
set_option linter.unusedVariables false

end Go.Vam

namespace Go.Vam
open Go Go.RowKit
set_option maxRecDepth 100000
set_option linter.unusedSimpArgs false
set_option linter.unusedVariables false

end Go.Vam

namespace Go.Vam
open Go Go.RowKit
set_option maxRecDepth 100000
set_option linter.unusedSimpArgs false
set_option linter.unusedVariables false



end Go.Vam

namespace Go.Vam
open Go Go.RowKit
set_option maxRecDepth 100000
set_option linter.unusedSimpArgs false
set_option linter.unusedVariables false

end Go.Vam

namespace Go.Vam
open Go Go.RowKit
set_option maxRecDepth 100000
set_option linter.unusedSimpArgs false
set_option linter.unusedVariables false

end Go.Vam

namespace Go.Vam
open Go Go.RowKit
set_option maxRecDepth 100000
set_option linter.unusedSimpArgs false
set_option linter.unusedVariables false

end Go.Vam

namespace Go.Vam
open Go Go.RowKit
set_option maxRecDepth 100000
set_option linter.unusedSimpArgs false
set_option linter.unusedVariables false

end Go.Vam

namespace Go.Vam
open Go Go.RowKit
set_option maxRecDepth 100000
set_option linter.unusedSimpArgs false
set_option linter.unusedVariables false

end Go.Vam

namespace Go.Vam
open Go Go.RowKit
set_option maxRecDepth 100000
set_option linter.unusedSimpArgs false
set_option linter.unusedVariables false

end Go.Vam

namespace Go.Vam
open Go Go.RowKit
set_option maxRecDepth 100000
set_option linter.unusedSimpArgs false
set_option linter.unusedVariables false

end Go.Vam

namespace Go.Vam
open Go Go.RowKit
set_option maxRecDepth 100000
set_option linter.unusedSimpArgs false
set_option linter.unusedVariables false

def l_FnExactDecomposeOrthogonal (a0_0 : Int) (a0_1 : List Int) (a1 : List (List Int)) : Option Bool :=
  (l_szSpace a0_0 a0_1 1048576).bind fun v1 =>
  (if v1 < 0 then
    some true
  else
    (l_szInt64SS a1 v1).bind fun v4 =>
    (if v4 < 0 then
      some true
    else
      (l_toSpace a0_0 a0_1).bind fun v7 =>
      (l_toInt64SS a1).bind fun v8 =>
      (s_DecomposeOrthogonal v7.1 v7.2 v8).bind fun v9 =>
      (l_toSpace a0_0 a0_1).bind fun v10 =>
      (l_toInt64SS a1).bind fun v11 =>
      (i_DecomposeOrthogonal v10.1 v10.2 v11).bind fun v12 =>
      ((l_eqInt64SS v12.1 v9.1).bind fun v14 =>
      (if v14 = false then
        some true
      else
        some (!(ieq v12.2 v9.2))) : Option Bool).bind fun x16 =>
      (if x16 = true then
        some false
      else
        (l_toSpace a0_0 a0_1).bind fun v19 =>
        (l_eqSpace v10.1 v10.2 v19.1 v19.2).bind fun v20 =>
        (if v20 = false then
          some false
        else
          (l_toInt64SS a1).bind fun v23 =>
          (l_eqInt64SS v11 v23).bind fun v24 =>
          (if v24 = false then
            some false
          else
            (l_markSpace v10.1 v10.2 1).bind fun v26 =>
            (l_markInt64SS v11 v26).bind fun v27 =>
            ((if v27.1 < 0 then
              some true
            else
              (l_eqInt64SS v12.1 v9.1).bind fun v30 =>
              (if v30 = false then
                some true
              else
                some (!(ieq v12.2 v9.2)))) : Option Bool).bind fun x32 =>
            (if x32 = true then
              some false
            else
              (l_markInt64SS v12.1 1).bind fun v34 =>
              (l_heldInt64SS v34.2 1).bind fun v35 =>
              (if v35 < 0 then
                some false
              else
                (if ¬ v35 = v34.1 then
                  some false
                else
                  (l_toSpace a0_0 a0_1).bind fun v40 =>
                  (l_toInt64SS a1).bind fun v41 =>
                  (i_DecomposeOrthogonal v40.1 v40.2 v41).bind fun v42 =>
                  ((l_eqInt64SS v42.1 v9.1).bind fun v44 =>
                  (if v44 = false then
                    some true
                  else
                    some (!(ieq v42.2 v9.2))) : Option Bool).bind fun x46 =>
                  (if x46 = true then
                    some false
                  else
                    (l_heldInt64SS v34.2 1).bind fun v48 =>
                    (if v48 < 0 then
                      some false
                    else
                      (if ¬ v48 = v34.1 then
                        some false
                      else
                        some true)))))))))))

end Go.Vam
