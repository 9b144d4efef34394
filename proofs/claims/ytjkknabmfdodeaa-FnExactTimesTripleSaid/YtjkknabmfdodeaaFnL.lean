import Derived.Test.YtjkknabmfdodeaaFnK
import Derived.Test.YtjkknabmfdodeaaVamZ
namespace Go.Vam
open Go Go.RowKit
set_option maxRecDepth 100000
set_option linter.unusedSimpArgs false
set_option linter.unusedVariables false

def s_l15Code_L0 (a0_0 : Int) (a0_1 : List Int) (a1 : List ((List (List Int)) × (List (List Int)) × (List (List Int)))) (s5 : Int) : Option (Int ⊕ (Unit ⊕ Int)) :=
  (if s5 < (a1.length : Int) then
    ((idx a1 s5).bind fun v11 =>
    (s_l14Matrix a0_0 a0_1 v11.1).bind fun v12 =>
    (if v12 = false then
      some true
    else
      (s_l14Matrix a0_0 a0_1 v11.2.1).bind fun v14 =>
      (if v14 = false then
        some true
      else
        (s_l14Matrix a0_0 a0_1 v11.2.2).bind fun v16 =>
        some (!v16))) : Option Bool).bind fun x17 =>
    (if x17 = true then
      some (.inr (.inr 2))
    else
      some (.inl (w64 (s5 + 1))))
  else
    some (.inr (.inl ())))
def s_l15Code (a0_0 : Int) (a0_1 : List Int) (a1 : List ((List (List Int)) × (List (List Int)) × (List (List Int)))) : Option Int :=
  (s_l14Code a0_0 a0_1).bind fun v2 =>
  (if ¬ v2 = 0 then
    some v2
  else
    (loop (s_l15Code_L0 a0_0 a0_1 a1) BIG 0).bind fun x5 =>
    (match x5 with
    | .inl y7 =>
      some 0
    | .inr t => some t))

def i_checkTriples_L0 (a1 : List ((List (List Int)) × (List (List Int)) × (List (List Int)))) (s2 : (List (List (List Int))) × Int) : Option (((List (List (List Int))) × Int) ⊕ (List (List (List Int)))) :=
  (if s2.2 < (a1.length : Int) then
    (idx a1 s2.2).bind fun v7 =>
    (chk (s2.1.length + [v7.1, v7.2.1, v7.2.2].length ≤ 1099511627776)).bind fun _ =>
    some (.inl (s2.1 ++ [v7.1, v7.2.1, v7.2.2], w64 (s2.2 + 1)))
  else
    some (.inr s2.1))
def i_checkTriples (a0_0 : Int) (a0_1 : List Int) (a1 : List ((List (List Int)) × (List (List Int)) × (List (List Int)))) : Option Int :=
  (loop (i_checkTriples_L0 a1) BIG ([], 0)).bind fun x2 =>
  (i_checkThree a0_0 a0_1 ([] : List (List Int)) x2).bind fun v9 =>
  some v9

end Go.Vam
