import Derived.Test.YtjkknabmfdodeaaFnA
namespace Go.Vam
open Go Go.RowKit
set_option maxRecDepth 100000
set_option linter.unusedSimpArgs false
set_option linter.unusedVariables false

def i_field_times_L0 (a0 : Int) (a1 : List (List Int)) (v1 : List (List Int)) (s3 : (List (List Int)) × Int) : Option (((List (List Int)) × Int) ⊕ (List (List Int))) :=
  (if s3.2 < (a1.length : Int) then
    (idx a1 s3.2).bind fun v8 =>
    (i_field_apply a0 v1 v8).bind fun v9 =>
    (chk (s3.1.length + [v9].length ≤ 1099511627776)).bind fun _ =>
    some (.inl (s3.1 ++ [v9], w64 (s3.2 + 1)))
  else
    some (.inr s3.1))
def i_field_times (a0 : Int) (a1 : List (List Int)) (a2 : List (List Int)) : Option (List (List Int)) :=
  (i_transpose a2).bind fun v1 =>
  (loop (i_field_times_L0 a0 a1 v1) BIG ([], 0)).bind fun x3 =>
  some x3

def s_l14Matrix_L0 (a0_0 : Int) (a0_1 : List Int) (a1 : List (List Int)) (s2 : Int) : Option (Int ⊕ (Unit ⊕ Bool)) :=
  (if s2 < (a1.length : Int) then
    (idx a1 s2).bind fun v8 =>
    (s_l11Element a0_0 a0_1 v8).bind fun v9 =>
    (if v9 = false then
      some (.inr (.inr false))
    else
      some (.inl (w64 (s2 + 1))))
  else
    some (.inr (.inl ())))
def s_l14Matrix (a0_0 : Int) (a0_1 : List Int) (a1 : List (List Int)) : Option Bool :=
  (loop (s_l14Matrix_L0 a0_0 a0_1 a1) BIG 0).bind fun x2 =>
  (match x2 with
  | .inl y4 =>
    (s_l11Size a0_0 a0_1).bind fun v11 =>
    some (ieq (a1.length : Int) v11)
  | .inr t => some t)

def s_l14Apply_L1 (a1 : List (List Int)) (a2 : List Int) (s2 : (List Int) × Int) (s8 : Int × Int) : Option ((Int × Int) ⊕ Int) :=
  (if s8.2 < (a2.length : Int) then
    (idx a1 s2.2).bind fun v13 =>
    (idx v13 s8.2).bind fun v14 =>
    (idx a2 s8.2).bind fun v15 =>
    some (.inl (w64 (s8.1 + (w64 (v14 * v15))), w64 (s8.2 + 1)))
  else
    some (.inr s8.1))
def s_l14Apply_L0 (a0 : Int) (a1 : List (List Int)) (a2 : List Int) (s2 : (List Int) × Int) : Option (((List Int) × Int) ⊕ (List Int)) :=
  (if s2.2 < (a1.length : Int) then
    (loop (s_l14Apply_L1 a1 a2 s2) BIG (0, 0)).bind fun x8 =>
    (s_l01Mod a0 x8).bind fun v16 =>
    (chk (s2.1.length + [v16].length ≤ 1099511627776)).bind fun _ =>
    some (.inl (s2.1 ++ [v16], w64 (s2.2 + 1)))
  else
    some (.inr s2.1))
def s_l14Apply (a0 : Int) (a1 : List (List Int)) (a2 : List Int) : Option (List Int) :=
  (loop (s_l14Apply_L0 a0 a1 a2) BIG ([], 0)).bind fun x2 =>
  some x2

def l_eqDoubling (a0_0 : Int) (a0_1 : List Int) (a1_0 : Int) (a1_1 : List Int) : Option Bool :=
  (if ¬ a0_0 = a1_0 then
    some false
  else
    (l_eqInt64S a0_1 a1_1).bind fun v4 =>
    (if v4 = false then
      some false
    else
      some true))

def l_markDoubling (a0_0 : Int) (a0_1 : List Int) (a1 : Int) : Option Int :=
  (l_markInt64S a0_1 a1).bind fun v1 =>
  some v1.1

end Go.Vam
