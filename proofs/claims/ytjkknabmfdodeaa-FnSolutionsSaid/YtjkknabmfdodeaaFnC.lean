import Derived.Test.YtjkknabmfdodeaaFnB
namespace Go.Vam
open Go Go.RowKit
set_option maxRecDepth 100000
set_option linter.unusedSimpArgs false
set_option linter.unusedVariables false

def s_l02First_L0 (a0 : List Int) (s2 : Int) : Option (Int ⊕ (Unit ⊕ Int)) :=
  (if s2 < (a0.length : Int) then
    (idx a0 s2).bind fun v8 =>
    (if ¬ v8 = 0 then
      some (.inr (.inr s2))
    else
      some (.inl (w64 (s2 + 1))))
  else
    some (.inr (.inl ())))
def s_l02First (a0 : List Int) : Option Int :=
  (loop (s_l02First_L0 a0) BIG 0).bind fun x2 =>
  (match x2 with
  | .inl y4 =>
    some (-1)
  | .inr t => some t)

def s_l02Solve_L0 (a1 : List (List Int)) (a2 : List Int) (s2 : (List (List Int)) × Int) : Option (((List (List Int)) × Int) ⊕ (List (List Int))) :=
  (if s2.2 < (a1.length : Int) then
    (idx a1 s2.2).bind fun v7 =>
    (s_l01Own v7).bind fun v8 =>
    (idx a2 s2.2).bind fun v9 =>
    (chk (v8.length + [v9].length ≤ 1099511627776)).bind fun _ =>
    (chk (s2.1.length + [v8 ++ [v9]].length ≤ 1099511627776)).bind fun _ =>
    some (.inl (s2.1 ++ [v8 ++ [v9]], w64 (s2.2 + 1)))
  else
    some (.inr s2.1))
def s_l02Solve_L1 (v12 : List (List Int)) (v13 : List Int) (s16 : (List Int) × Int) : Option (((List Int) × Int) ⊕ ((List Int) ⊕ ((List Int) × Bool))) :=
  (if s16.2 < (v12.length : Int) then
    (idx v12 s16.2).bind fun v22 =>
    (s_l02First v22).bind fun v23 =>
    (if v23 = (v13.length : Int) then
      some (.inr (.inr (([] : List Int), false)))
    else
      (idx v22 (v13.length : Int)).bind fun v26 =>
      (idx s16.1 v23).bind fun v27 =>
      some (.inl (s16.1.set v23.toNat v26, w64 (s16.2 + 1))))
  else
    some (.inr (.inl s16.1)))
def s_l02Solve (a0 : Int) (a1 : List (List Int)) (a2 : List Int) : Option ((List Int) × Bool) :=
  (loop (s_l02Solve_L0 a1 a2) BIG ([], 0)).bind fun x2 =>
  (s_l02Basis a0 x2).bind fun v12 =>
  (idx a1 0).bind fun v13 =>
  (chk (0 ≤ (v13.length : Int) ∧ (v13.length : Int) ≤ 1099511627776)).bind fun _ =>
  (loop (s_l02Solve_L1 v12 v13) BIG (List.replicate (v13.length : Int).toNat 0, 0)).bind fun x16 =>
  (match x16 with
  | .inl y18 =>
    some (y18, true)
  | .inr t => some t)

def s_SolveMatrix (a0 : Int) (a1 : List (List Int)) (a2 : List Int) : Option ((List Int) × Int) :=
  (s_l02Is a0 a1).bind fun v2 =>
  (if v2 = false then
    some (([] : List Int), 1)
  else
    ((if ¬ (a2.length : Int) = (a1.length : Int) then
      some true
    else
      (s_l01Numbers a0 a2).bind fun v6 =>
      some (!v6)) : Option Bool).bind fun x7 =>
    (if x7 = true then
      some (([] : List Int), 2)
    else
      (s_l02Solve a0 a1 a2).bind fun v9 =>
      (if v9.2 = false then
        some (([] : List Int), 4)
      else
        some (v9.1, 0))))

def i_lead_L0 (a0 : List Int) (s2 : Int) : Option (Int ⊕ Int) :=
  ((if s2 < (a0.length : Int) then
    (idx a0 s2).bind fun v6 =>
    some (ieq v6 0)
  else
    some false) : Option Bool).bind fun x7 =>
  (if x7 = true then
    some (.inl (w64 (s2 + 1)))
  else
    some (.inr s2))
def i_lead (a0 : List Int) : Option Int :=
  (loop (i_lead_L0 a0) BIG 0).bind fun x2 =>
  some x2

def i_field_solve_L0 (a1 : List (List Int)) (a2 : List Int) (s3 : (List (List Int)) × Int) : Option (((List (List Int)) × Int) ⊕ (List (List Int))) :=
  (if s3.2 < (a1.length : Int) then
    (idx a1 s3.2).bind fun v8 =>
    (g_slices_Clone_LI_I v8).bind fun v9 =>
    (idx a2 s3.2).bind fun v10 =>
    (chk (v9.length + [v10].length ≤ 1099511627776)).bind fun _ =>
    (chk (s3.1.length + [v9 ++ [v10]].length ≤ 1099511627776)).bind fun _ =>
    some (.inl (s3.1 ++ [v9 ++ [v10]], w64 (s3.2 + 1)))
  else
    some (.inr s3.1))
def i_field_solve_L1 (v1 : List Int) (v15 : List (List Int)) (s16 : (List Int) × Int) : Option (((List Int) × Int) ⊕ ((List Int) ⊕ ((List Int) × Bool))) :=
  (if s16.2 < (v15.length : Int) then
    (idx v15 s16.2).bind fun v22 =>
    (i_lead v22).bind fun v23 =>
    (if v23 = (v1.length : Int) then
      some (.inr (.inr (([] : List Int), false)))
    else
      (idx v22 (v1.length : Int)).bind fun v26 =>
      (idx s16.1 v23).bind fun v27 =>
      some (.inl (s16.1.set v23.toNat v26, w64 (s16.2 + 1))))
  else
    some (.inr (.inl s16.1)))
def i_field_solve (a0 : Int) (a1 : List (List Int)) (a2 : List Int) : Option ((List Int) × Bool) :=
  (idx a1 0).bind fun v1 =>
  (loop (i_field_solve_L0 a1 a2) BIG ([], 0)).bind fun x3 =>
  (chk (0 ≤ (v1.length : Int) ∧ (v1.length : Int) ≤ 1099511627776)).bind fun _ =>
  (i_field_basis a0 x3).bind fun v15 =>
  (loop (i_field_solve_L1 v1 v15) BIG (List.replicate (v1.length : Int).toNat 0, 0)).bind fun x16 =>
  (match x16 with
  | .inl y18 =>
    some (y18, true)
  | .inr t => some t)

def i_SolveMatrix (a0 : Int) (a1 : List (List Int)) (a2 : List Int) : Option ((List Int) × Int) :=
  (i_checkMatrices a0 [a1]).bind fun v2 =>
  (if ¬ v2 = 0 then
    some (([] : List Int), v2)
  else
    ((if ¬ (a2.length : Int) = (a1.length : Int) then
      some true
    else
      (i_field_is a0 a2).bind fun v6 =>
      some (!v6)) : Option Bool).bind fun x7 =>
    (if x7 = true then
      some (([] : List Int), 2)
    else
      (i_field_solve a0 a1 a2).bind fun v9 =>
      (if v9.2 = false then
        some (([] : List Int), 4)
      else
        some (v9.1, 0))))

end Go.Vam
