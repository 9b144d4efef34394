import Derived.Test.YtomgbldkoehplaaFnC
namespace Go.Vam
open Go Go.RowKit
set_option maxRecDepth 100000
set_option linter.unusedSimpArgs false
set_option linter.unusedVariables false

def i_column_L0 (a0 : List (List Int)) (a1 : Int) (s2 : (List Int) × Int) : Option (((List Int) × Int) ⊕ (List Int)) :=
  (if s2.2 < (a0.length : Int) then
    (idx a0 s2.2).bind fun v7 =>
    (idx v7 a1).bind fun v8 =>
    (chk (s2.1.length + [v8].length ≤ 1099511627776)).bind fun _ =>
    some (.inl (s2.1 ++ [v8], w64 (s2.2 + 1)))
  else
    some (.inr s2.1))
def i_column (a0 : List (List Int)) (a1 : Int) : Option (List Int) :=
  (loop (i_column_L0 a0 a1) BIG ([], 0)).bind fun x2 =>
  some x2

def g_slices_Equal_LI_I_L0 (a0 : List Int) (a1 : List Int) (s4 : Int) : Option (Int ⊕ (Unit ⊕ Bool)) :=
  (if s4 < (a0.length : Int) then
    (idx a0 s4).bind fun v10 =>
    (idx a1 s4).bind fun v11 =>
    (if ¬ v10 = v11 then
      some (.inr (.inr false))
    else
      some (.inl (w64 (s4 + 1))))
  else
    some (.inr (.inl ())))
def g_slices_Equal_LI_I (a0 : List Int) (a1 : List Int) : Option Bool :=
  (if ¬ (a0.length : Int) = (a1.length : Int) then
    some false
  else
    (loop (g_slices_Equal_LI_I_L0 a0 a1) BIG 0).bind fun x4 =>
    (match x4 with
    | .inl y6 =>
      some true
    | .inr t => some t))

def i_Doubling_isAutomorphism_L1 (a0_0 : Int) (a0_1 : List Int) (a1 : List (List Int)) (v1 : Int) (s8 : Int) (v14 : List Int) (v16 : List (List Int)) (s17 : Int) : Option (Int ⊕ (Unit ⊕ (Int ⊕ (Unit ⊕ Bool)))) :=
  (if s17 < (v16.length : Int) then
    (idx v16 s17).bind fun v23 =>
    (i_Doubling_times a0_0 a0_1 v14 v23).bind fun v24 =>
    (i_field_apply v1 a1 v24).bind fun v25 =>
    (i_column a1 s8).bind fun v26 =>
    (i_column a1 s17).bind fun v27 =>
    (i_Doubling_times a0_0 a0_1 v26 v27).bind fun v28 =>
    (g_slices_Equal_LI_I v25 v28).bind fun v29 =>
    (if v29 = false then
      some (.inr (.inr (.inr (.inr false))))
    else
      some (.inl (w64 (s17 + 1))))
  else
    some (.inr (.inl ())))
def i_Doubling_isAutomorphism_L0 (a0_0 : Int) (a0_1 : List Int) (a1 : List (List Int)) (v1 : Int) (v7 : List (List Int)) (s8 : Int) : Option (Int ⊕ (Unit ⊕ Bool)) :=
  (if s8 < (v7.length : Int) then
    (idx v7 s8).bind fun v14 =>
    (i_Doubling_size a0_0 a0_1).bind fun v15 =>
    (i_unit v15).bind fun v16 =>
    (loop (i_Doubling_isAutomorphism_L1 a0_0 a0_1 a1 v1 s8 v14 v16) BIG 0).bind fun x17 =>
    (match x17 with
    | .inl y19 =>
      some (.inl (w64 (s8 + 1)))
    | .inr t => some t)
  else
    some (.inr (.inl ())))
def i_Doubling_isAutomorphism (a0_0 : Int) (a0_1 : List Int) (a1 : List (List Int)) : Option Bool :=
  (i_Doubling_field a0_0 a0_1).bind fun v1 =>
  (i_field_determinant v1 a1).bind fun v3 =>
  (if v3 = 0 then
    some false
  else
    (i_Doubling_size a0_0 a0_1).bind fun v6 =>
    (i_unit v6).bind fun v7 =>
    (loop (i_Doubling_isAutomorphism_L0 a0_0 a0_1 a1 v1 v7) BIG 0).bind fun x8 =>
    (match x8 with
    | .inl y10 =>
      some true
    | .inr t => some t))

end Go.Vam
