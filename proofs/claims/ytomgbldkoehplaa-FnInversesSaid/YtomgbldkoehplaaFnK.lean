import Derived.Test.YtomgbldkoehplaaFnJ
import Derived.Test.YtomgbldkoehplaaVamY
namespace Go.Vam
open Go Go.RowKit
set_option maxRecDepth 100000
set_option linter.unusedSimpArgs false
set_option linter.unusedVariables false

def s_DrawInverseMatrix (a0 : List Int) : Option (Int × (List (List Int))) :=
  (s_l02DrawSquare a0).bind fun v1 =>
  some (v1.1, v1.2)

def l_unit5_L0 (a0 : Int) (s2 : (List (List Int)) × Int) : Option (((List (List Int)) × Int) ⊕ (List (List Int))) :=
  (if s2.2 < a0 then
    (chk (0 ≤ a0 ∧ a0 ≤ 1099511627776)).bind fun _ =>
    (some (List.replicate a0.toNat 0)).bind fun l8 =>
    (idx l8 s2.2).bind fun v9 =>
    (chk (s2.1.length + [l8.set s2.2.toNat 1].length ≤ 1099511627776)).bind fun _ =>
    some (.inl (s2.1 ++ [l8.set s2.2.toNat 1], w64 (s2.2 + 1)))
  else
    some (.inr s2.1))
def l_unit5 (a0 : Int) : Option (List (List Int)) :=
  (loop (l_unit5_L0 a0) BIG ([], 0)).bind fun x2 =>
  some x2

def l_FnInverses (a0 : List Int) : Option Bool :=
  (l_big a0).bind fun v2 =>
  (if v2 = true then
    some true
  else
    (s_DrawInverseMatrix a0).bind fun v4 =>
    (i_InverseMatrix v4.1 v4.2).bind fun v5 =>
    (s_InverseMatrix v4.1 v4.2).bind fun v6 =>
    ((if ¬ v5.2 = v6.2 then
      some true
    else
      (l_likeRows5 v5.1 v6.1).bind fun v9 =>
      some (!v9)) : Option Bool).bind fun x10 =>
    (if x10 = true then
      some false
    else
      ((if v5.2 = 1 then
        some true
      else
        some (ieq v5.2 2)) : Option Bool).bind fun x14 =>
      (if x14 = true then
        some true
      else
        (i_Determinant v4.1 v4.2).bind fun v16 =>
        ((if ¬ v16.2 = 0 then
          some true
        else
          some ((!(ieq v16.1 0)) != (ieq v5.2 0))) : Option Bool).bind fun x19 =>
        (if x19 = true then
          some false
        else
          (l_roll a0 833).bind fun v21 =>
          (g_p_laws_dice_below v21.1 v21.2.1 v21.2.2 20).bind fun v22 =>
          (g_p_laws_dice_below v22.2.1 v22.2.2.1 v22.2.2.2 20).bind fun v23 =>
          (i_PowerMatrix v4.1 v4.2 v22.1).bind fun v24 =>
          (i_PowerMatrix v4.1 v4.2 v23.1).bind fun v25 =>
          (i_PowerMatrix v4.1 v4.2 (w64 (v22.1 + v23.1))).bind fun v26 =>
          (i_MultiplyMatrices v4.1 v24.1 v25.1).bind fun v27 =>
          ((if ¬ v24.2 = 0 then
            some true
          else
            (if ¬ v25.2 = 0 then
              some true
            else
              (if ¬ v26.2 = 0 then
                some true
              else
                (if ¬ v27.2 = 0 then
                  some true
                else
                  (l_likeRows5 v27.1 v26.1).bind fun v33 =>
                  some (!v33))))) : Option Bool).bind fun x34 =>
          (if x34 = true then
            some false
          else
            (if ¬ v5.2 = 0 then
              some (ieq v5.2 5)
            else
              (i_MultiplyMatrices v4.1 v4.2 v5.1).bind fun v38 =>
              (i_MultiplyMatrices v4.1 v5.1 v4.2).bind fun v39 =>
              ((if v38.2 = 0 then
                (if v39.2 = 0 then
                  (l_unit5 (v4.2.length : Int)).bind fun v42 =>
                  (l_likeRows5 v38.1 v42).bind fun v43 =>
                  (if v43 = true then
                    (l_unit5 (v4.2.length : Int)).bind fun v45 =>
                    (l_likeRows5 v39.1 v45).bind fun v46 =>
                    some v46
                  else
                    some false)
                else
                  some false)
              else
                some false) : Option Bool).bind fun x47 =>
              some x47))))))

end Go.Vam
