import Derived.Test.YtcijfjeeggfgmaaFnA
namespace Go.Vam
open Go Go.RowKit
set_option maxRecDepth 100000
set_option linter.unusedSimpArgs false
set_option linter.unusedVariables false

def s_l01Own2_L0 (a0 : List (List Int)) (s2 : (List (List Int)) × Int) : Option (((List (List Int)) × Int) ⊕ (List (List Int))) :=
  (if s2.2 < (a0.length : Int) then
    (idx a0 s2.2).bind fun v7 =>
    (s_l01Own v7).bind fun v8 =>
    (chk (s2.1.length + [v8].length ≤ 1099511627776)).bind fun _ =>
    some (.inl (s2.1 ++ [v8], w64 (s2.2 + 1)))
  else
    some (.inr s2.1))
def s_l01Own2 (a0 : List (List Int)) : Option (List (List Int)) :=
  (loop (s_l01Own2_L0 a0) BIG ([], 0)).bind fun x2 =>
  some x2

def g_slices_Clone_LI_I (a0 : List Int) : Option (List Int) :=
  (chk (a0.length ≤ 1099511627776)).bind fun _ => some a0

def i_cloneRows_L0 (a0 : List (List Int)) (s2 : (List (List Int)) × Int) : Option (((List (List Int)) × Int) ⊕ (List (List Int))) :=
  (if s2.2 < (a0.length : Int) then
    (idx a0 s2.2).bind fun v7 =>
    (g_slices_Clone_LI_I v7).bind fun v8 =>
    (chk (s2.1.length + [v8].length ≤ 1099511627776)).bind fun _ =>
    some (.inl (s2.1 ++ [v8], w64 (s2.2 + 1)))
  else
    some (.inr s2.1))
def i_cloneRows (a0 : List (List Int)) : Option (List (List Int)) :=
  (loop (i_cloneRows_L0 a0) BIG ([], 0)).bind fun x2 =>
  some x2

def i_field_pow_L0 (a0 : Int) (a1 : Int) (a2 : Int) (s2 : Int × Int) : Option ((Int × Int) ⊕ Int) :=
  (if s2.2 < a2 then
    (i_field_num a0 (w64 (s2.1 * a1))).bind fun v7 =>
    some (.inl (v7, w64 (s2.2 + 1)))
  else
    some (.inr s2.1))
def i_field_pow (a0 : Int) (a1 : Int) (a2 : Int) : Option Int :=
  (loop (i_field_pow_L0 a0 a1 a2) BIG (1, 0)).bind fun x2 =>
  some x2

def i_field_inv (a0 : Int) (a1 : Int) : Option Int :=
  (i_field_pow a0 a1 (w64 (a0 - 2))).bind fun v1 =>
  some v1

end Go.Vam
