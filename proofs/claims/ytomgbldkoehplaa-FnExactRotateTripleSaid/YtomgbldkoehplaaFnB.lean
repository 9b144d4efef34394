import Derived.Test.YtomgbldkoehplaaFnA
namespace Go.Vam
open Go Go.RowKit
set_option maxRecDepth 100000
set_option linter.unusedSimpArgs false
set_option linter.unusedVariables false

def s_l01Own2_L0 (a0 : List (List Int)) (s2 : (List (List Int)) × Int) : Option (((List (List Int)) × Int) ⊕ (List (List Int))) :=
  (if s2.2 < (a0.length : Int) then
    (idx a0 s2.2).bind fun v7 =>
    (s_l01Own v7).bind fun v8 =>
    (chk (s2.1.length + [v8].length ≤ 1099511627776)).bind fun _ =>
    some (.inl (s2.1 ++ [v8], w64 (s2.2 + 1)))
  else
    some (.inr s2.1))
def s_l01Own2 (a0 : List (List Int)) : Option (List (List Int)) :=
  (loop (s_l01Own2_L0 a0) BIG ([], 0)).bind fun x2 =>
  some x2

def g_slices_Clone_LI_I (a0 : List Int) : Option (List Int) :=
  (chk (a0.length ≤ 1099511627776)).bind fun _ => some a0

def i_cloneRows_L0 (a0 : List (List Int)) (s2 : (List (List Int)) × Int) : Option (((List (List Int)) × Int) ⊕ (List (List Int))) :=
  (if s2.2 < (a0.length : Int) then
    (idx a0 s2.2).bind fun v7 =>
    (g_slices_Clone_LI_I v7).bind fun v8 =>
    (chk (s2.1.length + [v8].length ≤ 1099511627776)).bind fun _ =>
    some (.inl (s2.1 ++ [v8], w64 (s2.2 + 1)))
  else
    some (.inr s2.1))
def i_cloneRows (a0 : List (List Int)) : Option (List (List Int)) :=
  (loop (i_cloneRows_L0 a0) BIG ([], 0)).bind fun x2 =>
  some x2

def s_l14Matrix_L0 (a0_0 : Int) (a0_1 : List Int) (a1 : List (List Int)) (s2 : Int) : Option (Int ⊕ (Unit ⊕ Bool)) :=
  (if s2 < (a1.length : Int) then
    (idx a1 s2).bind fun v8 =>
    (s_l11Element a0_0 a0_1 v8).bind fun v9 =>
    (if v9 = false then
      some (.inr (.inr false))
    else
      some (.inl (w64 (s2 + 1))))
  else
    some (.inr (.inl ())))
def s_l14Matrix (a0_0 : Int) (a0_1 : List Int) (a1 : List (List Int)) : Option Bool :=
  (loop (s_l14Matrix_L0 a0_0 a0_1 a1) BIG 0).bind fun x2 =>
  (match x2 with
  | .inl y4 =>
    (s_l11Size a0_0 a0_1).bind fun v11 =>
    some (ieq (a1.length : Int) v11)
  | .inr t => some t)

def l_eqDoubling (a0_0 : Int) (a0_1 : List Int) (a1_0 : Int) (a1_1 : List Int) : Option Bool :=
  (if ¬ a0_0 = a1_0 then
    some false
  else
    (l_eqInt64S a0_1 a1_1).bind fun v4 =>
    (if v4 = false then
      some false
    else
      some true))

def l_markDoubling (a0_0 : Int) (a0_1 : List Int) (a1 : Int) : Option Int :=
  (l_markInt64S a0_1 a1).bind fun v1 =>
  some v1.1

end Go.Vam
