import Derived.Test.YtomgbldkoehplaaFnM
import Derived.Test.YtomgbldkoehplaaVamZ
namespace Go.Vam
open Go Go.RowKit
set_option maxRecDepth 100000
set_option linter.unusedSimpArgs false
set_option linter.unusedVariables false

def g_slices_DeleteFunc_LI_I_of_i_LoopCentre_c1_L0 (a1_0_0 : List (List Int)) (s5 : (List Int) × Int × Int) : Option (((List Int) × Int × Int) ⊕ ((List Int) × Int)) :=
  (if s5.2.2 < (s5.1.length : Int) then
    ((idx s5.1 s5.2.2).bind fun v11 =>
    (i_LoopCentre_c1 v11 a1_0_0).bind fun v12 =>
    (if v12 = false then
      (idx s5.1 s5.2.1).bind fun v14 =>
      some (s5.1.set s5.2.1.toNat v11, w64 (s5.2.1 + 1))
    else
      some (s5.1, s5.2.1)) : Option ((List Int) × Int)).bind fun x9 =>
    some (.inl (x9.1, x9.2, w64 (s5.2.2 + 1)))
  else
    some (.inr (s5.1, s5.2.1)))
def g_slices_DeleteFunc_LI_I_of_i_LoopCentre_c1 (a0 : List Int) (a1_0_0 : List (List Int)) : Option (List Int) :=
  (g_slices_IndexFunc_LI_I_of_i_LoopCentre_c1 a0 a1_0_0).bind fun v1 =>
  (if v1 = (-1) then
    some a0
  else
    (loop (g_slices_DeleteFunc_LI_I_of_i_LoopCentre_c1_L0 a1_0_0) BIG (a0, v1, w64 (v1 + 1))).bind fun x5 =>
    (chk (0 ≤ x5.2 ∧ x5.2 ≤ (x5.1.length : Int))).bind fun _ =>
    (chk (0 ≤ x5.2 ∧ x5.2 ≤ (x5.1.length : Int))).bind fun _ =>
    some (x5.1.take x5.2.toNat))

def i_LoopCentre (a0 : List (List Int)) : Option ((List Int) × Int) :=
  (i_checkLoop a0 ([] : List Int)).bind fun v2 =>
  (if ¬ v2 = 0 then
    some (([] : List Int), v2)
  else
    (i_nucleus a0).bind fun v4 =>
    (g_slices_DeleteFunc_LI_I_of_i_LoopCentre_c1 v4 a0).bind fun v5 =>
    some (v5, 0))

def l_FnExactLoopCentre (a0 : List (List Int)) : Option Bool :=
  (l_szInt64SS a0 1048576).bind fun v1 =>
  (if v1 < 0 then
    some true
  else
    (l_toInt64SS a0).bind fun v4 =>
    (s_LoopCentre v4).bind fun v5 =>
    (l_toInt64SS a0).bind fun v6 =>
    (i_LoopCentre v6).bind fun v7 =>
    ((l_eqInt64S v7.1 v5.1).bind fun v9 =>
    (if v9 = false then
      some true
    else
      some (!(ieq v7.2 v5.2))) : Option Bool).bind fun x11 =>
    (if x11 = true then
      some false
    else
      (l_toInt64SS a0).bind fun v14 =>
      (l_eqInt64SS v6 v14).bind fun v15 =>
      (if v15 = false then
        some false
      else
        (l_markInt64SS v6 1).bind fun v17 =>
        ((if v17.1 < 0 then
          some true
        else
          (l_eqInt64S v7.1 v5.1).bind fun v20 =>
          (if v20 = false then
            some true
          else
            some (!(ieq v7.2 v5.2)))) : Option Bool).bind fun x22 =>
        (if x22 = true then
          some false
        else
          (l_markInt64S v7.1 1).bind fun v24 =>
          (l_heldInt64S v24.2 1).bind fun v25 =>
          (if v25 < 0 then
            some false
          else
            (if ¬ v25 = v24.1 then
              some false
            else
              (l_toInt64SS a0).bind fun v30 =>
              (i_LoopCentre v30).bind fun v31 =>
              ((l_eqInt64S v31.1 v5.1).bind fun v33 =>
              (if v33 = false then
                some true
              else
                some (!(ieq v31.2 v5.2))) : Option Bool).bind fun x35 =>
              (if x35 = true then
                some false
              else
                (l_heldInt64S v24.2 1).bind fun v37 =>
                (if v37 < 0 then
                  some false
                else
                  (if ¬ v37 = v24.1 then
                    some false
                  else
                    some true)))))))))

end Go.Vam
