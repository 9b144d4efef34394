import Derived.Test.YtomgbldkoehplaaFnC
namespace Go.Vam
open Go Go.RowKit
set_option maxRecDepth 100000
set_option linter.unusedSimpArgs false
set_option linter.unusedVariables false

def s_l02Inverse_L0 (a1 : List (List Int)) (v1 : List (List Int)) (s3 : (List (List Int)) × Int) : Option (((List (List Int)) × Int) ⊕ (List (List Int))) :=
  (if s3.2 < (a1.length : Int) then
    (idx a1 s3.2).bind fun v8 =>
    (s_l01Own v8).bind fun v9 =>
    (idx v1 s3.2).bind fun v10 =>
    (chk (v9.length + v10.length ≤ 1099511627776)).bind fun _ =>
    (chk (s3.1.length + [v9 ++ v10].length ≤ 1099511627776)).bind fun _ =>
    some (.inl (s3.1 ++ [v9 ++ v10], w64 (s3.2 + 1)))
  else
    some (.inr s3.1))
def s_l02Inverse_L1 (a1 : List (List Int)) (v13 : List (List Int)) (s15 : (List (List Int)) × Int) : Option (((List (List Int)) × Int) ⊕ (List (List Int))) :=
  (if s15.2 < (v13.length : Int) then
    (idx v13 s15.2).bind fun v20 =>
    (chk (0 ≤ (a1.length : Int) ∧ (a1.length : Int) ≤ (v20.length : Int))).bind fun _ =>
    (s_l01Own (v20.drop (a1.length : Int).toNat)).bind fun v22 =>
    (chk (s15.1.length + [v22].length ≤ 1099511627776)).bind fun _ =>
    some (.inl (s15.1 ++ [v22], w64 (s15.2 + 1)))
  else
    some (.inr s15.1))
def s_l02Inverse (a0 : Int) (a1 : List (List Int)) : Option (List (List Int)) :=
  (s_l02Unit (a1.length : Int)).bind fun v1 =>
  (loop (s_l02Inverse_L0 a1 v1) BIG ([], 0)).bind fun x3 =>
  (s_l02Basis a0 x3).bind fun v13 =>
  (loop (s_l02Inverse_L1 a1 v13) BIG ([], 0)).bind fun x15 =>
  some x15

def s_InverseMatrix (a0 : Int) (a1 : List (List Int)) : Option ((List (List Int)) × Int) :=
  (s_l02Square a0 a1).bind fun v1 =>
  ((if v1 = 0 then
    (s_l02Det a0 a1).bind fun v4 =>
    some (ieq v4 0)
  else
    some false) : Option Bool).bind fun x5 =>
  ((if x5 = true then
    some 5
  else
    some v1) : Option Int).bind fun x6 =>
  (if ¬ x6 = 0 then
    some (([] : List (List Int)), x6)
  else
    (s_l02Inverse a0 a1).bind fun v11 =>
    some (v11, 0))

end Go.Vam
