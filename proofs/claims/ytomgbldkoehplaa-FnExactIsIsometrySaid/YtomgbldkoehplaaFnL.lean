import Derived.Test.YtomgbldkoehplaaFnK
import Derived.Test.YtomgbldkoehplaaVamZ
namespace Go.Vam
open Go Go.RowKit
set_option maxRecDepth 100000
set_option linter.unusedSimpArgs false
set_option linter.unusedVariables false

def i_checkSpaces_c1 (a0_0 : Int) (a0_1 : List Int) : Option Bool :=
  (i_IsSpace a0_0 a0_1).bind fun v1 =>
  some (!v1)

def g_slices_IndexFunc_Limpl_Space_impl_Space_of_i_checkSpaces_c1_L0 (a0 : List (Int × (List Int))) (s2 : Int) : Option (Int ⊕ (Unit ⊕ Int)) :=
  (if s2 < (a0.length : Int) then
    (idx a0 s2).bind fun v8 =>
    (i_checkSpaces_c1 v8.1 v8.2).bind fun v9 =>
    (if v9 = true then
      some (.inr (.inr s2))
    else
      some (.inl (w64 (s2 + 1))))
  else
    some (.inr (.inl ())))
def g_slices_IndexFunc_Limpl_Space_impl_Space_of_i_checkSpaces_c1 (a0 : List (Int × (List Int))) : Option Int :=
  (loop (g_slices_IndexFunc_Limpl_Space_impl_Space_of_i_checkSpaces_c1_L0 a0) BIG 0).bind fun x2 =>
  (match x2 with
  | .inl y4 =>
    some (-1)
  | .inr t => some t)

def g_slices_ContainsFunc_Limpl_Space_impl_Space_of_i_checkSpaces_c1 (a0 : List (Int × (List Int))) : Option Bool :=
  (g_slices_IndexFunc_Limpl_Space_impl_Space_of_i_checkSpaces_c1 a0).bind fun v1 =>
  some (ile 0 v1)

def i_checkSpaces (a0 : List (Int × (List Int))) : Option Int :=
  (g_slices_ContainsFunc_Limpl_Space_impl_Space_of_i_checkSpaces_c1 a0).bind fun v2 =>
  (if v2 = true then
    some 1
  else
    some 0)

def i_IsIsometry (a0_0 : Int) (a0_1 : List Int) (a1_0 : Int) (a1_1 : List Int) (a2 : List (List Int)) : Option (Bool × Int) :=
  (i_checkSpaces [(a0_0, a0_1), (a1_0, a1_1)]).bind fun v2 =>
  (if ¬ v2 = 0 then
    some (false, v2)
  else
    (i_isIsometry a0_0 a0_1 a1_0 a1_1 a2).bind fun v4 =>
    some (v4, 0))

def l_FnExactIsIsometry (a0_0 : Int) (a0_1 : List Int) (a1_0 : Int) (a1_1 : List Int) (a2 : List (List Int)) : Option Bool :=
  (l_szSpace a0_0 a0_1 1048576).bind fun v1 =>
  (if v1 < 0 then
    some true
  else
    (l_szSpace a1_0 a1_1 v1).bind fun v4 =>
    (if v4 < 0 then
      some true
    else
      (l_szInt64SS a2 v4).bind fun v7 =>
      (if v7 < 0 then
        some true
      else
        (l_toSpace a0_0 a0_1).bind fun v10 =>
        (l_toSpace a1_0 a1_1).bind fun v11 =>
        (l_toInt64SS a2).bind fun v12 =>
        (s_IsIsometry v10.1 v10.2 v11.1 v11.2 v12).bind fun v13 =>
        (l_toSpace a0_0 a0_1).bind fun v14 =>
        (l_toSpace a1_0 a1_1).bind fun v15 =>
        (l_toInt64SS a2).bind fun v16 =>
        (i_IsIsometry v14.1 v14.2 v15.1 v15.2 v16).bind fun v17 =>
        ((if (v17.1 != v13.1) = true then
          some true
        else
          some (!(ieq v17.2 v13.2))) : Option Bool).bind fun x20 =>
        (if x20 = true then
          some false
        else
          (l_toSpace a0_0 a0_1).bind fun v23 =>
          (l_eqSpace v14.1 v14.2 v23.1 v23.2).bind fun v24 =>
          (if v24 = false then
            some false
          else
            (l_toSpace a1_0 a1_1).bind fun v27 =>
            (l_eqSpace v15.1 v15.2 v27.1 v27.2).bind fun v28 =>
            (if v28 = false then
              some false
            else
              (l_toInt64SS a2).bind fun v31 =>
              (l_eqInt64SS v16 v31).bind fun v32 =>
              (if v32 = false then
                some false
              else
                some true)))))))

end Go.Vam
