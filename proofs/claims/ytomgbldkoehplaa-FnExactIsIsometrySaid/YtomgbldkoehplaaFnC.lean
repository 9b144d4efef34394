import Derived.Test.YtomgbldkoehplaaFnB
namespace Go.Vam
open Go Go.RowKit
set_option maxRecDepth 100000
set_option linter.unusedSimpArgs false
set_option linter.unusedVariables false

def s_l02First_L0 (a0 : List Int) (s2 : Int) : Option (Int ⊕ (Unit ⊕ Int)) :=
  (if s2 < (a0.length : Int) then
    (idx a0 s2).bind fun v8 =>
    (if ¬ v8 = 0 then
      some (.inr (.inr s2))
    else
      some (.inl (w64 (s2 + 1))))
  else
    some (.inr (.inl ())))
def s_l02First (a0 : List Int) : Option Int :=
  (loop (s_l02First_L0 a0) BIG 0).bind fun x2 =>
  (match x2 with
  | .inl y4 =>
    some (-1)
  | .inr t => some t)

def i_lead_L0 (a0 : List Int) (s2 : Int) : Option (Int ⊕ Int) :=
  ((if s2 < (a0.length : Int) then
    (idx a0 s2).bind fun v6 =>
    some (ieq v6 0)
  else
    some false) : Option Bool).bind fun x7 =>
  (if x7 = true then
    some (.inl (w64 (s2 + 1)))
  else
    some (.inr s2))
def i_lead (a0 : List Int) : Option Int :=
  (loop (i_lead_L0 a0) BIG 0).bind fun x2 =>
  some x2

def s_l03Pair_L0 (a0_0 : Int) (a0_1 : List Int) (a1 : List Int) (a2 : List Int) (s2 : Int × Int) : Option ((Int × Int) ⊕ Int) :=
  (if s2.2 < (a1.length : Int) then
    (idx a1 s2.2).bind fun v7 =>
    (idx a2 s2.2).bind fun v8 =>
    (chk (¬ a0_0 = 0)).bind fun _ =>
    (idx a0_1 s2.2).bind fun v10 =>
    (chk (¬ a0_0 = 0)).bind fun _ =>
    some (.inl ((w64 (s2.1 + (w64 (((w64 (v7 * v8)).tmod a0_0) * v10)))).tmod a0_0, w64 (s2.2 + 1)))
  else
    some (.inr s2.1))
def s_l03Pair (a0_0 : Int) (a0_1 : List Int) (a1 : List Int) (a2 : List Int) : Option Int :=
  (loop (s_l03Pair_L0 a0_0 a0_1 a1 a2) BIG (0, 0)).bind fun x2 =>
  some x2

def s_l03Isometry_L1 (a0_1 : List Int) (a1_0 : Int) (a1_1 : List Int) (v12 : List (List Int)) (s14 : Int) (s20 : Int) : Option (Int ⊕ (Unit ⊕ (Int ⊕ (Unit ⊕ Bool)))) :=
  (if s20 ≤ s14 then
    ((if s14 = s20 then
      (idx a0_1 s14).bind fun v30 =>
      some v30
    else
      some 0) : Option Int).bind fun x27 =>
    (idx v12 s14).bind fun v31 =>
    (idx v12 s20).bind fun v32 =>
    (s_l03Pair a1_0 a1_1 v31 v32).bind fun v33 =>
    (if ¬ v33 = x27 then
      some (.inr (.inr (.inr (.inr false))))
    else
      some (.inl (w64 (s20 + 1))))
  else
    some (.inr (.inl ())))
def s_l03Isometry_L0 (a0_1 : List Int) (a1_0 : Int) (a1_1 : List Int) (v12 : List (List Int)) (s14 : Int) : Option (Int ⊕ (Unit ⊕ Bool)) :=
  (if s14 < (a0_1.length : Int) then
    (loop (s_l03Isometry_L1 a0_1 a1_0 a1_1 v12 s14) BIG 0).bind fun x20 =>
    (match x20 with
    | .inl y22 =>
      some (.inl (w64 (s14 + 1)))
    | .inr t => some t)
  else
    some (.inr (.inl ())))
def s_l03Isometry (a0_0 : Int) (a0_1 : List Int) (a1_0 : Int) (a1_1 : List Int) (a2 : List (List Int)) : Option Bool :=
  ((if ¬ a0_0 = a1_0 then
    some true
  else
    (if ¬ (a1_1.length : Int) = (a0_1.length : Int) then
      some true
    else
      (if ¬ (a2.length : Int) = (a0_1.length : Int) then
        some true
      else
        (s_l02Is a0_0 a2).bind fun v5 =>
        (if v5 = false then
          some true
        else
          (idx a2 0).bind fun v7 =>
          (if ¬ (v7.length : Int) = (a0_1.length : Int) then
            some true
          else
            (s_l02Det a0_0 a2).bind fun v9 =>
            some (ieq v9 0)))))) : Option Bool).bind fun x10 =>
  (if x10 = true then
    some false
  else
    (s_l02Turn a2).bind fun v12 =>
    (loop (s_l03Isometry_L0 a0_1 a1_0 a1_1 v12) BIG 0).bind fun x14 =>
    (match x14 with
    | .inl y16 =>
      some true
    | .inr t => some t))

def s_IsIsometry (a0_0 : Int) (a0_1 : List Int) (a1_0 : Int) (a1_1 : List Int) (a2 : List (List Int)) : Option (Bool × Int) :=
  ((s_l03Is a0_0 a0_1).bind fun v2 =>
  (if v2 = false then
    some true
  else
    (s_l03Is a1_0 a1_1).bind fun v4 =>
    some (!v4)) : Option Bool).bind fun x5 =>
  (if x5 = true then
    some (false, 1)
  else
    (s_l03Isometry a0_0 a0_1 a1_0 a1_1 a2).bind fun v7 =>
    some (v7, 0))

def i_Space_weighted_L0 (a0_0 : Int) (a0_1 : List Int) (a1 : List Int) (s2 : (List Int) × Int) : Option (((List Int) × Int) ⊕ (List Int)) :=
  (if s2.2 < (a1.length : Int) then
    (idx a1 s2.2).bind fun v7 =>
    (i_Space_field a0_0 a0_1).bind fun v8 =>
    (idx a0_1 s2.2).bind fun v9 =>
    (i_field_num v8 (w64 (v7 * v9))).bind fun v10 =>
    (chk (s2.1.length + [v10].length ≤ 1099511627776)).bind fun _ =>
    some (.inl (s2.1 ++ [v10], w64 (s2.2 + 1)))
  else
    some (.inr s2.1))
def i_Space_weighted (a0_0 : Int) (a0_1 : List Int) (a1 : List Int) : Option (List Int) :=
  (loop (i_Space_weighted_L0 a0_0 a0_1 a1) BIG ([], 0)).bind fun x2 =>
  some x2

def i_Space_pair (a0_0 : Int) (a0_1 : List Int) (a1 : List Int) (a2 : List Int) : Option Int :=
  (i_Space_field a0_0 a0_1).bind fun v1 =>
  (i_Space_weighted a0_0 a0_1 a1).bind fun v2 =>
  (i_field_dot v1 v2 a2).bind fun v3 =>
  some v3

def i_isIsometry_L1 (a0_1 : List Int) (a1_0 : Int) (a1_1 : List Int) (v18 : List (List Int)) (s20 : Int) (v26 : List Int) (s27 : Int) : Option (Int ⊕ (Unit ⊕ (Int ⊕ (Unit ⊕ Bool)))) :=
  (if s27 < (v18.length : Int) then
    (idx v18 s27).bind fun v33 =>
    ((if s20 = s27 then
      (idx a0_1 s20).bind fun v38 =>
      some v38
    else
      some 0) : Option Int).bind fun x35 =>
    (i_Space_pair a1_0 a1_1 v26 v33).bind fun v39 =>
    (if ¬ v39 = x35 then
      some (.inr (.inr (.inr (.inr false))))
    else
      some (.inl (w64 (s27 + 1))))
  else
    some (.inr (.inl ())))
def i_isIsometry_L0 (a0_1 : List Int) (a1_0 : Int) (a1_1 : List Int) (v18 : List (List Int)) (s20 : Int) : Option (Int ⊕ (Unit ⊕ Bool)) :=
  (if s20 < (v18.length : Int) then
    (idx v18 s20).bind fun v26 =>
    (loop (i_isIsometry_L1 a0_1 a1_0 a1_1 v18 s20 v26) BIG 0).bind fun x27 =>
    (match x27 with
    | .inl y29 =>
      some (.inl (w64 (s20 + 1)))
    | .inr t => some t)
  else
    some (.inr (.inl ())))
def i_isIsometry (a0_0 : Int) (a0_1 : List Int) (a1_0 : Int) (a1_1 : List Int) (a2 : List (List Int)) : Option Bool :=
  ((if ¬ a0_0 = a1_0 then
    some true
  else
    (i_Space_dim a0_0 a0_1).bind fun v3 =>
    (i_Space_dim a1_0 a1_1).bind fun v4 =>
    (if ¬ v3 = v4 then
      some true
    else
      (i_Space_field a0_0 a0_1).bind fun v6 =>
      (i_field_isMatrix v6 a2).bind fun v7 =>
      (if v7 = false then
        some true
      else
        (i_Space_dim a0_0 a0_1).bind fun v9 =>
        (if ¬ (a2.length : Int) = v9 then
          some true
        else
          (idx a2 0).bind fun v11 =>
          (i_Space_dim a0_0 a0_1).bind fun v12 =>
          (if ¬ (v11.length : Int) = v12 then
            some true
          else
            (i_Space_field a0_0 a0_1).bind fun v14 =>
            (i_field_determinant v14 a2).bind fun v15 =>
            some (ieq v15 0)))))) : Option Bool).bind fun x16 =>
  (if x16 = true then
    some false
  else
    (i_transpose a2).bind fun v18 =>
    (loop (i_isIsometry_L0 a0_1 a1_0 a1_1 v18) BIG 0).bind fun x20 =>
    (match x20 with
    | .inl y22 =>
      some true
    | .inr t => some t))

end Go.Vam
