import Derived.Test.YtcijfjeeggfgmaaVamT
import Derived.Test.YtcijfjeeggfgmaaVamV
import Derived.Test.YtcijfjeeggfgmaaVamY
import Derived.Test.YtcijfjeeggfgmaaVamZ
import Derived.Test.YtcijfjeeggfgmaaVamAM
namespace Go.Vam
open Go Go.RowKit
set_option maxRecDepth 100000
set_option linter.unusedSimpArgs false
set_option linter.unusedVariables false

def s_l01Prime (a0 : Int) : Option Bool :=
  ((if a0 = 3 then
    some true
  else
    (if a0 = 5 then
      some true
    else
      (if a0 = 7 then
        some true
      else
        (if a0 = 11 then
          some true
        else
          some (ieq a0 13))))) : Option Bool).bind fun x5 =>
  some x5

def s_l01In (a0 : Int) (a1 : Int) (a2 : Int) : Option Bool :=
  ((if a1 ≤ a0 then
    some (ile a0 a2)
  else
    some false) : Option Bool).bind fun x2 =>
  some x2

def s_l01Numbers_L0 (a0 : Int) (a1 : List Int) (s2 : Int) : Option (Int ⊕ (Unit ⊕ Bool)) :=
  (if s2 < (a1.length : Int) then
    (idx a1 s2).bind fun v8 =>
    (s_l01In v8 0 (w64 (a0 - 1))).bind fun v9 =>
    (if v9 = false then
      some (.inr (.inr false))
    else
      some (.inl (w64 (s2 + 1))))
  else
    some (.inr (.inl ())))
def s_l01Numbers (a0 : Int) (a1 : List Int) : Option Bool :=
  (loop (s_l01Numbers_L0 a0 a1) BIG 0).bind fun x2 =>
  (match x2 with
  | .inl y4 =>
    some true
  | .inr t => some t)

def s_l02Is_L0 (a0 : Int) (a1 : List (List Int)) (s11 : Int) : Option (Int ⊕ (Unit ⊕ Bool)) :=
  (if s11 < (a1.length : Int) then
    ((idx a1 s11).bind fun v17 =>
    (idx a1 0).bind fun v18 =>
    (if ¬ (v17.length : Int) = (v18.length : Int) then
      some true
    else
      (s_l01Numbers a0 v17).bind fun v20 =>
      some (!v20)) : Option Bool).bind fun x21 =>
    (if x21 = true then
      some (.inr (.inr false))
    else
      some (.inl (w64 (s11 + 1))))
  else
    some (.inr (.inl ())))
def s_l02Is (a0 : Int) (a1 : List (List Int)) : Option Bool :=
  ((s_l01Prime a0).bind fun v2 =>
  (if v2 = false then
    some true
  else
    (if (a1.length : Int) < 1 then
      some true
    else
      (if 16 < (a1.length : Int) then
        some true
      else
        (idx a1 0).bind fun v6 =>
        (if (v6.length : Int) < 1 then
          some true
        else
          some (ilt 16 (v6.length : Int)))))) : Option Bool).bind fun x8 =>
  (if x8 = true then
    some false
  else
    (loop (s_l02Is_L0 a0 a1) BIG 0).bind fun x11 =>
    (match x11 with
    | .inl y13 =>
      some true
    | .inr t => some t))

def i_IsPrime (a0 : Int) : Option Bool :=
  ((if a0 = 3 then
    some (ieq a0 3)
  else
    (if a0 = 5 then
      some (ieq a0 5)
    else
      (if a0 = 7 then
        some (ieq a0 7)
      else
        (if a0 = 11 then
          some (ieq a0 11)
        else
          some (ieq a0 13))))) : Option Bool).bind fun x3 =>
  (if x3 = true then
    some true
  else
    some false)

def i_inRange (a0 : Int) (a1 : Int) (a2 : Int) : Option Bool :=
  ((if a1 ≤ a0 then
    some (ile a0 a2)
  else
    some false) : Option Bool).bind fun x2 =>
  some x2

def i_field_is_L0 (a0 : Int) (a1 : List Int) (s2 : Int) : Option (Int ⊕ (Unit ⊕ Bool)) :=
  (if s2 < (a1.length : Int) then
    (idx a1 s2).bind fun v8 =>
    (i_inRange v8 0 (w64 (a0 - 1))).bind fun v9 =>
    (if v9 = false then
      some (.inr (.inr false))
    else
      some (.inl (w64 (s2 + 1))))
  else
    some (.inr (.inl ())))
def i_field_is (a0 : Int) (a1 : List Int) : Option Bool :=
  (loop (i_field_is_L0 a0 a1) BIG 0).bind fun x2 =>
  (match x2 with
  | .inl y4 =>
    some true
  | .inr t => some t)

def i_field_isTable_L0 (a0 : Int) (a1 : List (List Int)) (s4 : Int) : Option (Int ⊕ (Unit ⊕ Bool)) :=
  (if s4 < (a1.length : Int) then
    (idx a1 s4).bind fun v10 =>
    ((idx a1 0).bind fun v11 =>
    (if ¬ (v10.length : Int) = (v11.length : Int) then
      some true
    else
      (if (v10.length : Int) < 1 then
        some true
      else
        (if 16 < (v10.length : Int) then
          some true
        else
          (i_field_is a0 v10).bind fun v15 =>
          some (!v15)))) : Option Bool).bind fun x16 =>
    (if x16 = true then
      some (.inr (.inr false))
    else
      some (.inl (w64 (s4 + 1))))
  else
    some (.inr (.inl ())))
def i_field_isTable (a0 : Int) (a1 : List (List Int)) : Option Bool :=
  (if 16 < (a1.length : Int) then
    some false
  else
    (loop (i_field_isTable_L0 a0 a1) BIG 0).bind fun x4 =>
    (match x4 with
    | .inl y6 =>
      some true
    | .inr t => some t))

def i_field_isMatrix (a0 : Int) (a1 : List (List Int)) : Option Bool :=
  ((if 0 < (a1.length : Int) then
    (i_field_isTable a0 a1).bind fun v2 =>
    some v2
  else
    some false) : Option Bool).bind fun x3 =>
  some x3

def s_l02Square (a0 : Int) (a1 : List (List Int)) : Option Int :=
  (s_l02Is a0 a1).bind fun v2 =>
  (if v2 = false then
    some 1
  else
    (idx a1 0).bind fun v5 =>
    (if ¬ (a1.length : Int) = (v5.length : Int) then
      some 2
    else
      some 0))

def i_checkMatrices_c1 (a0 : List (List Int)) (a1_0 : Int) : Option Bool :=
  (i_field_isMatrix a1_0 a0).bind fun v1 =>
  some (!v1)

def g_slices_IndexFunc_LLLI_LLI_of_i_checkMatrices_c1_L0 (a0 : List (List (List Int))) (a1_0_0 : Int) (s2 : Int) : Option (Int ⊕ (Unit ⊕ Int)) :=
  (if s2 < (a0.length : Int) then
    (idx a0 s2).bind fun v8 =>
    (i_checkMatrices_c1 v8 a1_0_0).bind fun v9 =>
    (if v9 = true then
      some (.inr (.inr s2))
    else
      some (.inl (w64 (s2 + 1))))
  else
    some (.inr (.inl ())))
def g_slices_IndexFunc_LLLI_LLI_of_i_checkMatrices_c1 (a0 : List (List (List Int))) (a1_0_0 : Int) : Option Int :=
  (loop (g_slices_IndexFunc_LLLI_LLI_of_i_checkMatrices_c1_L0 a0 a1_0_0) BIG 0).bind fun x2 =>
  (match x2 with
  | .inl y4 =>
    some (-1)
  | .inr t => some t)

def g_slices_ContainsFunc_LLLI_LLI_of_i_checkMatrices_c1 (a0 : List (List (List Int))) (a1_0_0 : Int) : Option Bool :=
  (g_slices_IndexFunc_LLLI_LLI_of_i_checkMatrices_c1 a0 a1_0_0).bind fun v1 =>
  some (ile 0 v1)

def i_checkMatrices (a0 : Int) (a1 : List (List (List Int))) : Option Int :=
  ((i_IsPrime a0).bind fun v2 =>
  (if v2 = false then
    some true
  else
    (g_slices_ContainsFunc_LLLI_LLI_of_i_checkMatrices_c1 a1 a0).bind fun v4 =>
    some v4) : Option Bool).bind fun x5 =>
  (if x5 = true then
    some 1
  else
    some 0)

def i_checkSquare (a0 : Int) (a1 : List (List Int)) : Option Int :=
  (i_checkMatrices a0 [a1]).bind fun v2 =>
  (if ¬ v2 = 0 then
    some v2
  else
    (idx a1 0).bind fun v5 =>
    (if ¬ (a1.length : Int) = (v5.length : Int) then
      some 2
    else
      some 0))

def i_field_num (a0 : Int) (a1 : Int) : Option Int :=
  (chk (¬ a0 = 0)).bind fun _ =>
  (chk (¬ a0 = 0)).bind fun _ =>
  some ((w64 ((a1.tmod a0) + a0)).tmod a0)

def i_field_trace_L0 (a1 : List (List Int)) (s2 : Int × Int) : Option ((Int × Int) ⊕ Int) :=
  (if s2.2 < (a1.length : Int) then
    (idx a1 s2.2).bind fun v7 =>
    (idx v7 s2.2).bind fun v8 =>
    some (.inl (w64 (s2.1 + v8), w64 (s2.2 + 1)))
  else
    some (.inr s2.1))
def i_field_trace (a0 : Int) (a1 : List (List Int)) : Option Int :=
  (loop (i_field_trace_L0 a1) BIG (0, 0)).bind fun x2 =>
  (i_field_num a0 x2).bind fun v9 =>
  some v9

def i_TraceOf (a0 : Int) (a1 : List (List Int)) : Option (Int × Int) :=
  (i_checkSquare a0 a1).bind fun v2 =>
  (if ¬ v2 = 0 then
    some (0, v2)
  else
    (i_field_trace a0 a1).bind fun v4 =>
    some (v4, 0))

def i_transpose_L1 (a0 : List (List Int)) (s3 : (List (List Int)) × Int) (s9 : (List Int) × Int) : Option (((List Int) × Int) ⊕ (List Int)) :=
  (if s9.2 < (a0.length : Int) then
    (idx a0 s9.2).bind fun v14 =>
    (idx v14 s3.2).bind fun v15 =>
    (chk (s9.1.length + [v15].length ≤ 1099511627776)).bind fun _ =>
    some (.inl (s9.1 ++ [v15], w64 (s9.2 + 1)))
  else
    some (.inr s9.1))
def i_transpose_L0 (a0 : List (List Int)) (v2 : List Int) (s3 : (List (List Int)) × Int) : Option (((List (List Int)) × Int) ⊕ (List (List Int))) :=
  (if s3.2 < (v2.length : Int) then
    (loop (i_transpose_L1 a0 s3) BIG ([], 0)).bind fun x9 =>
    (chk (s3.1.length + [x9].length ≤ 1099511627776)).bind fun _ =>
    some (.inl (s3.1 ++ [x9], w64 (s3.2 + 1)))
  else
    some (.inr s3.1))
def i_transpose (a0 : List (List Int)) : Option (List (List Int)) :=
  (idx a0 0).bind fun v2 =>
  (loop (i_transpose_L0 a0 v2) BIG ([], 0)).bind fun x3 =>
  some x3

def i_field_dot_L0 (a1 : List Int) (a2 : List Int) (s2 : Int × Int) : Option ((Int × Int) ⊕ Int) :=
  (if s2.2 < (a1.length : Int) then
    (idx a1 s2.2).bind fun v7 =>
    (idx a2 s2.2).bind fun v8 =>
    some (.inl (w64 (s2.1 + (w64 (v7 * v8))), w64 (s2.2 + 1)))
  else
    some (.inr s2.1))
def i_field_dot (a0 : Int) (a1 : List Int) (a2 : List Int) : Option Int :=
  (loop (i_field_dot_L0 a1 a2) BIG (0, 0)).bind fun x2 =>
  (i_field_num a0 x2).bind fun v9 =>
  some v9

def i_field_apply_L0 (a0 : Int) (a1 : List (List Int)) (a2 : List Int) (s2 : (List Int) × Int) : Option (((List Int) × Int) ⊕ (List Int)) :=
  (if s2.2 < (a1.length : Int) then
    (idx a1 s2.2).bind fun v7 =>
    (i_field_dot a0 v7 a2).bind fun v8 =>
    (chk (s2.1.length + [v8].length ≤ 1099511627776)).bind fun _ =>
    some (.inl (s2.1 ++ [v8], w64 (s2.2 + 1)))
  else
    some (.inr s2.1))
def i_field_apply (a0 : Int) (a1 : List (List Int)) (a2 : List Int) : Option (List Int) :=
  (loop (i_field_apply_L0 a0 a1 a2) BIG ([], 0)).bind fun x2 =>
  some x2

def s_l02Plus_L0 (a0 : Int) (a1 : List Int) (a2 : List Int) (a3 : Int) (s2 : (List Int) × Int) : Option (((List Int) × Int) ⊕ (List Int)) :=
  (if s2.2 < (a1.length : Int) then
    (idx a1 s2.2).bind fun v7 =>
    (idx a2 s2.2).bind fun v8 =>
    (chk (¬ a0 = 0)).bind fun _ =>
    (chk (s2.1.length + [(w64 (v7 + (w64 (a3 * v8)))).tmod a0].length ≤ 1099511627776)).bind fun _ =>
    some (.inl (s2.1 ++ [(w64 (v7 + (w64 (a3 * v8)))).tmod a0], w64 (s2.2 + 1)))
  else
    some (.inr s2.1))
def s_l02Plus (a0 : Int) (a1 : List Int) (a2 : List Int) (a3 : Int) : Option (List Int) :=
  (loop (s_l02Plus_L0 a0 a1 a2 a3) BIG ([], 0)).bind fun x2 =>
  some x2

def i_field_plus_L0 (a0 : Int) (a1 : List Int) (a2 : List Int) (a3 : Int) (s2 : (List Int) × Int) : Option (((List Int) × Int) ⊕ (List Int)) :=
  (if s2.2 < (a1.length : Int) then
    (idx a1 s2.2).bind fun v7 =>
    (idx a2 s2.2).bind fun v8 =>
    (i_field_num a0 (w64 (v7 + (w64 (a3 * v8))))).bind fun v9 =>
    (chk (s2.1.length + [v9].length ≤ 1099511627776)).bind fun _ =>
    some (.inl (s2.1 ++ [v9], w64 (s2.2 + 1)))
  else
    some (.inr s2.1))
def i_field_plus (a0 : Int) (a1 : List Int) (a2 : List Int) (a3 : Int) : Option (List Int) :=
  (loop (i_field_plus_L0 a0 a1 a2 a3) BIG ([], 0)).bind fun x2 =>
  some x2

def s_l02Scale_L0 (a0 : Int) (a1 : List Int) (a2 : Int) (s2 : (List Int) × Int) : Option (((List Int) × Int) ⊕ (List Int)) :=
  (if s2.2 < (a1.length : Int) then
    (idx a1 s2.2).bind fun v7 =>
    (chk (¬ a0 = 0)).bind fun _ =>
    (chk (s2.1.length + [(w64 (v7 * a2)).tmod a0].length ≤ 1099511627776)).bind fun _ =>
    some (.inl (s2.1 ++ [(w64 (v7 * a2)).tmod a0], w64 (s2.2 + 1)))
  else
    some (.inr s2.1))
def s_l02Scale (a0 : Int) (a1 : List Int) (a2 : Int) : Option (List Int) :=
  (loop (s_l02Scale_L0 a0 a1 a2) BIG ([], 0)).bind fun x2 =>
  some x2

def s_l01Own (a0 : List Int) : Option (List Int) :=
  (chk (([] : List Int).length + a0.length ≤ 1099511627776)).bind fun _ =>
  some (([] : List Int) ++ a0)

def s_l01Inv_L0 (a0 : Int) (a1 : Int) (s2 : Int) : Option (Int ⊕ Int) :=
  (chk (¬ a0 = 0)).bind fun _ =>
  (if ¬ ((w64 (a1 * s2)).tmod a0) = 1 then
    some (.inl (w64 (s2 + 1)))
  else
    some (.inr s2))
def s_l01Inv (a0 : Int) (a1 : Int) : Option Int :=
  (loop (s_l01Inv_L0 a0 a1) BIG 1).bind fun x2 =>
  some x2

def s_l12First_L0 (a0 : List Int) (s2 : Int) : Option (Int ⊕ Int) :=
  ((if s2 < (a0.length : Int) then
    (idx a0 s2).bind fun v6 =>
    some (ieq v6 0)
  else
    some false) : Option Bool).bind fun x7 =>
  (if x7 = true then
    some (.inl (w64 (s2 + 1)))
  else
    some (.inr s2))
def s_l12First (a0 : List Int) : Option Int :=
  (loop (s_l12First_L0 a0) BIG 0).bind fun x2 =>
  some x2

def i_unit_L0 (a0 : Int) (s2 : (List (List Int)) × Int) : Option (((List (List Int)) × Int) ⊕ (List (List Int))) :=
  (if s2.2 < a0 then
    (chk (0 ≤ a0 ∧ a0 ≤ 1099511627776)).bind fun _ =>
    (some (List.replicate a0.toNat 0)).bind fun l8 =>
    (idx l8 s2.2).bind fun v9 =>
    (chk (s2.1.length + [l8.set s2.2.toNat 1].length ≤ 1099511627776)).bind fun _ =>
    some (.inl (s2.1 ++ [l8.set s2.2.toNat 1], w64 (s2.2 + 1)))
  else
    some (.inr s2.1))
def i_unit (a0 : Int) : Option (List (List Int)) :=
  (loop (i_unit_L0 a0) BIG ([], 0)).bind fun x2 =>
  some x2

end Go.Vam

namespace Go.Vam
open Go Go.RowKit
set_option maxRecDepth 100000
set_option linter.unusedSimpArgs false
set_option linter.unusedVariables false

def i_field_times_L0 (a0 : Int) (a1 : List (List Int)) (v1 : List (List Int)) (s3 : (List (List Int)) × Int) : Option (((List (List Int)) × Int) ⊕ (List (List Int))) :=
  (if s3.2 < (a1.length : Int) then
    (idx a1 s3.2).bind fun v8 =>
    (i_field_apply a0 v1 v8).bind fun v9 =>
    (chk (s3.1.length + [v9].length ≤ 1099511627776)).bind fun _ =>
    some (.inl (s3.1 ++ [v9], w64 (s3.2 + 1)))
  else
    some (.inr s3.1))
def i_field_times (a0 : Int) (a1 : List (List Int)) (a2 : List (List Int)) : Option (List (List Int)) :=
  (i_transpose a2).bind fun v1 =>
  (loop (i_field_times_L0 a0 a1 v1) BIG ([], 0)).bind fun x3 =>
  some x3

def s_l01Own2_L0 (a0 : List (List Int)) (s2 : (List (List Int)) × Int) : Option (((List (List Int)) × Int) ⊕ (List (List Int))) :=
  (if s2.2 < (a0.length : Int) then
    (idx a0 s2.2).bind fun v7 =>
    (s_l01Own v7).bind fun v8 =>
    (chk (s2.1.length + [v8].length ≤ 1099511627776)).bind fun _ =>
    some (.inl (s2.1 ++ [v8], w64 (s2.2 + 1)))
  else
    some (.inr s2.1))
def s_l01Own2 (a0 : List (List Int)) : Option (List (List Int)) :=
  (loop (s_l01Own2_L0 a0) BIG ([], 0)).bind fun x2 =>
  some x2

def g_slices_Clone_LI_I (a0 : List Int) : Option (List Int) :=
  (chk (a0.length ≤ 1099511627776)).bind fun _ => some a0

def i_cloneRows_L0 (a0 : List (List Int)) (s2 : (List (List Int)) × Int) : Option (((List (List Int)) × Int) ⊕ (List (List Int))) :=
  (if s2.2 < (a0.length : Int) then
    (idx a0 s2.2).bind fun v7 =>
    (g_slices_Clone_LI_I v7).bind fun v8 =>
    (chk (s2.1.length + [v8].length ≤ 1099511627776)).bind fun _ =>
    some (.inl (s2.1 ++ [v8], w64 (s2.2 + 1)))
  else
    some (.inr s2.1))
def i_cloneRows (a0 : List (List Int)) : Option (List (List Int)) :=
  (loop (i_cloneRows_L0 a0) BIG ([], 0)).bind fun x2 =>
  some x2

def i_field_pow_L0 (a0 : Int) (a1 : Int) (a2 : Int) (s2 : Int × Int) : Option ((Int × Int) ⊕ Int) :=
  (if s2.2 < a2 then
    (i_field_num a0 (w64 (s2.1 * a1))).bind fun v7 =>
    some (.inl (v7, w64 (s2.2 + 1)))
  else
    some (.inr s2.1))
def i_field_pow (a0 : Int) (a1 : Int) (a2 : Int) : Option Int :=
  (loop (i_field_pow_L0 a0 a1 a2) BIG (1, 0)).bind fun x2 =>
  some x2

def i_field_inv (a0 : Int) (a1 : Int) : Option Int :=
  (i_field_pow a0 a1 (w64 (a0 - 2))).bind fun v1 =>
  some v1

def s_l02Det_L1 (s3 : (List (List Int)) × Int × Int) (s10 : Int) : Option (Int ⊕ Int) :=
  ((if s10 < (s3.1.length : Int) then
    (idx s3.1 s10).bind fun v14 =>
    (idx v14 s3.2.2).bind fun v15 =>
    some (ieq v15 0)
  else
    some false) : Option Bool).bind fun x16 =>
  (if x16 = true then
    some (.inl (w64 (s10 + 1)))
  else
    some (.inr s10))
def s_l02Det_L2 (a0 : Int) (s3 : (List (List Int)) × Int × Int) (v32 : Int) (s33 : (List (List Int)) × Int) : Option (((List (List Int)) × Int) ⊕ (List (List Int))) :=
  (if s33.2 < (s33.1.length : Int) then
    (idx s33.1 s33.2).bind fun v38 =>
    (idx s33.1 s3.2.2).bind fun v39 =>
    (idx v38 s3.2.2).bind fun v40 =>
    (chk (¬ a0 = 0)).bind fun _ =>
    (s_l02Plus a0 v38 v39 ((w64 ((w64 (a0 - v40)) * v32)).tmod a0)).bind fun v42 =>
    some (.inl (s33.1.set s33.2.toNat v42, w64 (s33.2 + 1)))
  else
    some (.inr s33.1))
def s_l02Det_L0 (a0 : Int) (s3 : (List (List Int)) × Int × Int) : Option (((List (List Int)) × Int × Int) ⊕ (Int ⊕ Int)) :=
  (if s3.2.2 < (s3.1.length : Int) then
    (loop (s_l02Det_L1 s3) BIG s3.2.2).bind fun x10 =>
    (if x10 = (s3.1.length : Int) then
      some (.inr (.inr 0))
    else
      ((if s3.2.2 < x10 then
        (idx s3.1 x10).bind fun v24 =>
        (idx s3.1 s3.2.2).bind fun v25 =>
        (some (s3.1.set x10.toNat v25)).bind fun l26 =>
        (idx l26 s3.2.2).bind fun v27 =>
        (chk (¬ a0 = 0)).bind fun _ =>
        some (l26.set s3.2.2.toNat v24, (w64 (a0 - s3.2.1)).tmod a0)
      else
        some (s3.1, s3.2.1)) : Option ((List (List Int)) × Int)).bind fun x21 =>
      (idx x21.1 s3.2.2).bind fun v29 =>
      (idx v29 s3.2.2).bind fun v30 =>
      (chk (¬ a0 = 0)).bind fun _ =>
      (s_l01Inv a0 v30).bind fun v32 =>
      (loop (s_l02Det_L2 a0 s3 v32) BIG (x21.1, w64 (s3.2.2 + 1))).bind fun x33 =>
      some (.inl (x33, (w64 (x21.2 * v30)).tmod a0, w64 (s3.2.2 + 1))))
  else
    some (.inr (.inl s3.2.1)))
def s_l02Det (a0 : Int) (a1 : List (List Int)) : Option Int :=
  (s_l01Own2 a1).bind fun v1 =>
  (loop (s_l02Det_L0 a0) BIG (v1, 1, 0)).bind fun x3 =>
  (match x3 with
  | .inl y5 =>
    some y5
  | .inr t => some t)

def i_field_determinant_L1 (s3 : (List (List Int)) × Int × Int) (s10 : Int) : Option (Int ⊕ Int) :=
  ((if s10 < (s3.1.length : Int) then
    (idx s3.1 s10).bind fun v14 =>
    (idx v14 s3.2.2).bind fun v15 =>
    some (ieq v15 0)
  else
    some false) : Option Bool).bind fun x16 =>
  (if x16 = true then
    some (.inl (w64 (s10 + 1)))
  else
    some (.inr s10))
def i_field_determinant_L2 (a0 : Int) (s3 : (List (List Int)) × Int × Int) (s31 : (List (List Int)) × Int) : Option (((List (List Int)) × Int) ⊕ (List (List Int))) :=
  (if s31.2 < (s31.1.length : Int) then
    (idx s31.1 s31.2).bind fun v36 =>
    (idx s31.1 s3.2.2).bind fun v37 =>
    (idx v36 s3.2.2).bind fun v38 =>
    (idx v37 s3.2.2).bind fun v39 =>
    (i_field_inv a0 v39).bind fun v40 =>
    (i_field_plus a0 v36 v37 (w64 ((w64 (0 - v38)) * v40))).bind fun v41 =>
    some (.inl (s31.1.set s31.2.toNat v41, w64 (s31.2 + 1)))
  else
    some (.inr s31.1))
def i_field_determinant_L0 (a0 : Int) (v1 : List (List Int)) (s3 : (List (List Int)) × Int × Int) : Option (((List (List Int)) × Int × Int) ⊕ (Int ⊕ Int)) :=
  (if s3.2.2 < (v1.length : Int) then
    (loop (i_field_determinant_L1 s3) BIG s3.2.2).bind fun x10 =>
    (if x10 = (s3.1.length : Int) then
      some (.inr (.inr 0))
    else
      ((if ¬ x10 = s3.2.2 then
        (idx s3.1 x10).bind fun v24 =>
        (idx s3.1 s3.2.2).bind fun v25 =>
        (idx (s3.1.set s3.2.2.toNat v24) x10).bind fun v26 =>
        (i_field_num a0 (w64 (0 - s3.2.1))).bind fun v27 =>
        some ((s3.1.set s3.2.2.toNat v24).set x10.toNat v25, v27)
      else
        some (s3.1, s3.2.1)) : Option ((List (List Int)) × Int)).bind fun x21 =>
      (idx x21.1 s3.2.2).bind fun v28 =>
      (idx v28 s3.2.2).bind fun v29 =>
      (i_field_num a0 (w64 (x21.2 * v29))).bind fun v30 =>
      (loop (i_field_determinant_L2 a0 s3) BIG (x21.1, w64 (s3.2.2 + 1))).bind fun x31 =>
      some (.inl (x31, v30, w64 (s3.2.2 + 1))))
  else
    some (.inr (.inl s3.2.1)))
def i_field_determinant (a0 : Int) (a1 : List (List Int)) : Option Int :=
  (i_cloneRows a1).bind fun v1 =>
  (loop (i_field_determinant_L0 a0 v1) BIG (v1, 1, 0)).bind fun x3 =>
  (match x3 with
  | .inl y5 =>
    some y5
  | .inr t => some t)

def i_Determinant (a0 : Int) (a1 : List (List Int)) : Option (Int × Int) :=
  (i_checkSquare a0 a1).bind fun v2 =>
  (if ¬ v2 = 0 then
    some (0, v2)
  else
    (i_field_determinant a0 a1).bind fun v4 =>
    some (v4, 0))

def l_big (a0 : List Int) : Option Bool :=
  some (ilt 4096 (a0.length : Int))

def i_PowerMatrix_L0 (a0 : Int) (s10 : Int × (List (List Int)) × (List (List Int))) : Option ((Int × (List (List Int)) × (List (List Int))) ⊕ (List (List Int))) :=
  (if 0 < s10.1 then
    ((if (s10.1.tmod 2) = 1 then
      (i_field_times a0 s10.2.1 s10.2.2).bind fun v19 =>
      some v19
    else
      some s10.2.1) : Option (List (List Int))).bind fun x16 =>
    (i_field_times a0 s10.2.2 s10.2.2).bind fun v20 =>
    some (.inl (w64 (s10.1.tdiv 2), x16, v20))
  else
    some (.inr s10.2.1))
def i_PowerMatrix (a0 : Int) (a1 : List (List Int)) (a2 : Int) : Option ((List (List Int)) × Int) :=
  (i_checkSquare a0 a1).bind fun v2 =>
  (if ¬ v2 = 0 then
    some (([] : List (List Int)), v2)
  else
    (i_inRange a2 0 1000).bind fun v5 =>
    (if v5 = false then
      some (([] : List (List Int)), 2)
    else
      (i_unit (a1.length : Int)).bind fun v7 =>
      (i_cloneRows a1).bind fun v8 =>
      (loop (i_PowerMatrix_L0 a0) BIG (a2, v7, v8)).bind fun x10 =>
      some (x10, 0)))

end Go.Vam

namespace Go.Vam
open Go Go.RowKit
set_option maxRecDepth 100000
set_option linter.unusedSimpArgs false
set_option linter.unusedVariables false

def s_l02First_L0 (a0 : List Int) (s2 : Int) : Option (Int ⊕ (Unit ⊕ Int)) :=
  (if s2 < (a0.length : Int) then
    (idx a0 s2).bind fun v8 =>
    (if ¬ v8 = 0 then
      some (.inr (.inr s2))
    else
      some (.inl (w64 (s2 + 1))))
  else
    some (.inr (.inl ())))
def s_l02First (a0 : List Int) : Option Int :=
  (loop (s_l02First_L0 a0) BIG 0).bind fun x2 =>
  (match x2 with
  | .inl y4 =>
    some (-1)
  | .inr t => some t)

def i_lead_L0 (a0 : List Int) (s2 : Int) : Option (Int ⊕ Int) :=
  ((if s2 < (a0.length : Int) then
    (idx a0 s2).bind fun v6 =>
    some (ieq v6 0)
  else
    some false) : Option Bool).bind fun x7 =>
  (if x7 = true then
    some (.inl (w64 (s2 + 1)))
  else
    some (.inr s2))
def i_lead (a0 : List Int) : Option Int :=
  (loop (i_lead_L0 a0) BIG 0).bind fun x2 =>
  some x2

end Go.Vam

namespace Go.Vam
open Go Go.RowKit
set_option maxRecDepth 100000
set_option linter.unusedSimpArgs false
set_option linter.unusedVariables false

end Go.Vam

namespace Go.Vam
open Go Go.RowKit
set_option maxRecDepth 100000
set_option linter.unusedSimpArgs false
set_option linter.unusedVariables false

end Go.Vam

namespace Go.Vam
open Go Go.RowKit
set_option maxRecDepth 100000
set_option linter.unusedSimpArgs false
set_option linter.unusedVariables false

end Go.Vam

namespace Go.Vam
open Go Go.RowKit
set_option maxRecDepth 100000
set_option linter.unusedSimpArgs false
set_option linter.unusedVariables false

def s_l01From_L0 (a0 : List Int) (s2 : (List Int) × Int × Int × Int) : Option (((List Int) × Int × Int × Int) ⊕ ((List Int) × Int × Int)) :=
  ((if s2.2.2.2 < (a0.length : Int) then
    some (ilt s2.2.2.2 4096)
  else
    some false) : Option Bool).bind fun x6 =>
  (if x6 = true then
    (idx a0 s2.2.2.2).bind fun v9 =>
    some (.inl (s2.1, s2.2.1, IntKind.u64.wrap ((IntKind.u64.wrap ((IntKind.u64.wrap (s2.2.2.1 * 1099511628211)) + (IntKind.u64.wrap (v9)))) + 11), w64 (s2.2.2.2 + 1)))
  else
    some (.inr (s2.1, s2.2.1, s2.2.2.1)))
def s_l01From (a0 : List Int) : Option ((List Int) × Int × Int) :=
  (loop (s_l01From_L0 a0) BIG (a0, 0, IntKind.u64.wrap (4409 + (IntKind.u64.wrap ((a0.length : Int)))), 0)).bind fun x2 =>
  some (x2.1, x2.2.1, x2.2.2)

def s_l01Next (a0_0 : List Int) (a0_1 : Int) (a0_2 : Int) (a1 : Int) : Option (Int × ((List Int) × Int × Int)) :=
  (if a1 < 1 then
    some (0, (a0_0, a0_1, a0_2))
  else
    ((if a0_1 < (a0_0.length : Int) then
      (idx a0_0 a0_1).bind fun v7 =>
      some (a0_0, w64 (a0_1 + 1), IntKind.u64.wrap ((IntKind.u64.wrap (a0_2 * 6364136223846793005)) + 1442695040888963407), w64 ((w64 (band .u64 (shr .u64 (IntKind.u64.wrap ((IntKind.u64.wrap (a0_2 * 6364136223846793005)) + 1442695040888963407)) 33) 16777215)) + (w64 (v7))))
    else
      some (a0_0, a0_1, IntKind.u64.wrap ((IntKind.u64.wrap (a0_2 * 6364136223846793005)) + 1442695040888963407), w64 (band .u64 (shr .u64 (IntKind.u64.wrap ((IntKind.u64.wrap (a0_2 * 6364136223846793005)) + 1442695040888963407)) 33) 16777215))) : Option ((List Int) × Int × Int × Int)).bind fun x4 =>
    (chk (¬ a1 = 0)).bind fun _ =>
    some (x4.2.2.2.tmod a1, (x4.1, x4.2.1, x4.2.2.1)))

def s_l01Pick (a0_0 : List Int) (a0_1 : Int) (a0_2 : Int) (a1 : List Int) : Option (Int × ((List Int) × Int × Int)) :=
  (s_l01Next a0_0 a0_1 a0_2 (a1.length : Int)).bind fun v1 =>
  (idx a1 v1.1).bind fun v2 =>
  some (v2, (v1.2.1, v1.2.2.1, v1.2.2.2))

def s_l02Size (a0_0 : List Int) (a0_1 : Int) (a0_2 : Int) : Option (Int × ((List Int) × Int × Int)) :=
  (s_l01Next a0_0 a0_1 a0_2 3).bind fun v1 =>
  (s_l01Next v1.2.1 v1.2.2.1 v1.2.2.2 4).bind fun v2 =>
  (s_l01Next v2.2.1 v2.2.2.1 v2.2.2.2 6).bind fun v3 =>
  (s_l01Pick v3.2.1 v3.2.2.1 v3.2.2.2 [v1.1, v2.1, v3.1]).bind fun v4 =>
  some (w64 (1 + v4.1), (v4.2.1, v4.2.2.1, v4.2.2.2))

def s_l01DrawPrime (a0_0 : List Int) (a0_1 : Int) (a0_2 : Int) : Option (Int × ((List Int) × Int × Int)) :=
  (s_l01Pick a0_0 a0_1 a0_2 [3, 5, 7, 11, 13, 3, 5, 7]).bind fun v1 =>
  some (v1.1, (v1.2.1, v1.2.2.1, v1.2.2.2))

def s_l01Bad (a0_0 : List Int) (a0_1 : Int) (a0_2 : Int) : Option (Int × ((List Int) × Int × Int)) :=
  (s_l01Next a0_0 a0_1 a0_2 24).bind fun v2 =>
  (if v2.1 = 0 then
    (s_l01Pick v2.2.1 v2.2.2.1 v2.2.2.2 [2, 9, 17, 1, 0, -3]).bind fun v4 =>
    some (v4.1, (v4.2.1, v4.2.2.1, v4.2.2.2))
  else
    (s_l01DrawPrime v2.2.1 v2.2.2.1 v2.2.2.2).bind fun v5 =>
    some (v5.1, (v5.2.1, v5.2.2.1, v5.2.2.2)))

def s_l01List_L0 (a1 : Int) (s2 : (List Int) × Int × Int × Int × (List Int)) : Option (((List Int) × Int × Int × Int × (List Int)) ⊕ ((List Int) × Int × Int × (List Int))) :=
  (if 0 < s2.2.2.2.1 then
    (s_l01Next s2.1 s2.2.1 s2.2.2.1 a1).bind fun v7 =>
    (chk (s2.2.2.2.2.length + [v7.1].length ≤ 1099511627776)).bind fun _ =>
    some (.inl (v7.2.1, v7.2.2.1, v7.2.2.2, w64 (s2.2.2.2.1 - 1), s2.2.2.2.2 ++ [v7.1]))
  else
    some (.inr (s2.1, s2.2.1, s2.2.2.1, s2.2.2.2.2)))
def s_l01List (a0_0 : List Int) (a0_1 : Int) (a0_2 : Int) (a1 : Int) (a2 : Int) : Option ((List Int) × ((List Int) × Int × Int)) :=
  (loop (s_l01List_L0 a1) BIG (a0_0, a0_1, a0_2, a2, [])).bind fun x2 =>
  some (x2.2.2.2, (x2.1, x2.2.1, x2.2.2.1))

def s_l02Draw_L0 (a1 : Int) (a2 : Int) (a3 : Int) (s2 : (List Int) × Int × Int × (List (List Int)) × Int) : Option (((List Int) × Int × Int × (List (List Int)) × Int) ⊕ ((List Int) × Int × Int × (List (List Int)))) :=
  (if s2.2.2.2.2 < a2 then
    (s_l01List s2.1 s2.2.1 s2.2.2.1 a1 a3).bind fun v7 =>
    ((if 0 < s2.2.2.2.2 then
      (s_l01Next v7.2.1 v7.2.2.1 v7.2.2.2 4).bind fun v10 =>
      some (v10.2.1, v10.2.2.1, v10.2.2.2, ieq v10.1 0)
    else
      some (v7.2.1, v7.2.2.1, v7.2.2.2, false)) : Option ((List Int) × Int × Int × Bool)).bind fun x11 =>
    ((if x11.2.2.2 = true then
      (s_l01Next x11.1 x11.2.1 x11.2.2.1 s2.2.2.2.2).bind fun v15 =>
      (idx s2.2.2.2.1 v15.1).bind fun v16 =>
      (s_l01Next v15.2.1 v15.2.2.1 v15.2.2.2 a1).bind fun v17 =>
      (s_l02Scale a1 v16 v17.1).bind fun v18 =>
      (s_l01Next v17.2.1 v17.2.2.1 v17.2.2.2 s2.2.2.2.2).bind fun v19 =>
      (idx s2.2.2.2.1 v19.1).bind fun v20 =>
      (s_l01Next v19.2.1 v19.2.2.1 v19.2.2.2 a1).bind fun v21 =>
      (s_l02Plus a1 v18 v20 v21.1).bind fun v22 =>
      some (v21.2.1, v21.2.2.1, v21.2.2.2, v22)
    else
      some (x11.1, x11.2.1, x11.2.2.1, v7.1)) : Option ((List Int) × Int × Int × (List Int))).bind fun x12 =>
    (chk (s2.2.2.2.1.length + [x12.2.2.2].length ≤ 1099511627776)).bind fun _ =>
    some (.inl (x12.1, x12.2.1, x12.2.2.1, s2.2.2.2.1 ++ [x12.2.2.2], w64 (s2.2.2.2.2 + 1)))
  else
    some (.inr (s2.1, s2.2.1, s2.2.2.1, s2.2.2.2.1)))
def s_l02Draw (a0_0 : List Int) (a0_1 : Int) (a0_2 : Int) (a1 : Int) (a2 : Int) (a3 : Int) : Option ((List (List Int)) × ((List Int) × Int × Int)) :=
  (loop (s_l02Draw_L0 a1 a2 a3) BIG (a0_0, a0_1, a0_2, [], 0)).bind fun x2 =>
  some (x2.2.2.2, (x2.1, x2.2.1, x2.2.2.1))

def s_l02Spoil (a0_0 : List Int) (a0_1 : Int) (a0_2 : Int) (a1 : Int) (a2 : Int) : Option ((Int × (List (List Int))) × ((List Int) × Int × Int)) :=
  (s_l01Bad a0_0 a0_1 a0_2).bind fun v1 =>
  (s_l01Prime v1.1).bind fun v3 =>
  (if v3 = false then
    some ((v1.1, [[1]]), (v1.2.1, v1.2.2.1, v1.2.2.2))
  else
    (s_l02Draw v1.2.1 v1.2.2.1 v1.2.2.2 v1.1 a1 a2).bind fun v5 =>
    (s_l01Next v5.2.1 v5.2.2.1 v5.2.2.2 36).bind fun v7 =>
    ((if v7.1 = 0 then
      (idx v5.1 0).bind fun v11 =>
      (s_l01Pick v7.2.1 v7.2.2.1 v7.2.2.2 [-1, v1.1]).bind fun v12 =>
      (idx v11 0).bind fun v13 =>
      some (v12.2.1, v12.2.2.1, v12.2.2.2, v5.1.set 0 (v11.set 0 v12.1))
    else
      (if v7.1 = 1 then
        (idx v5.1 0).bind fun v15 =>
        (chk (v15.length + [0].length ≤ 1099511627776)).bind fun _ =>
        some (v7.2.1, v7.2.2.1, v7.2.2.2, v5.1.set 0 (v15 ++ [0]))
      else
        (if v7.1 = 2 then
          some (v7.2.1, v7.2.2.1, v7.2.2.2, [])
        else
          (if v7.1 = 3 then
            (s_l02Draw v7.2.1 v7.2.2.1 v7.2.2.2 v1.1 17 2).bind fun v19 =>
            some (v19.2.1, v19.2.2.1, v19.2.2.2, v19.1)
          else
            (if v7.1 = 4 then
              (s_l02Draw v7.2.1 v7.2.2.1 v7.2.2.2 v1.1 2 17).bind fun v21 =>
              some (v21.2.1, v21.2.2.1, v21.2.2.2, v21.1)
            else
              some (v7.2.1, v7.2.2.1, v7.2.2.2, v5.1)))))) : Option ((List Int) × Int × Int × (List (List Int)))).bind fun x8 =>
    some ((v1.1, x8.2.2.2), (x8.1, x8.2.1, x8.2.2.1)))

def l_likeInts_L0 (a0 : List Int) (a1 : List Int) (s4 : Int) : Option (Int ⊕ (Unit ⊕ Bool)) :=
  (if s4 < (a0.length : Int) then
    (idx a0 s4).bind fun v10 =>
    (idx a1 s4).bind fun v11 =>
    (if ¬ v10 = v11 then
      some (.inr (.inr false))
    else
      some (.inl (w64 (s4 + 1))))
  else
    some (.inr (.inl ())))
def l_likeInts (a0 : List Int) (a1 : List Int) : Option Bool :=
  (if ¬ (a0.length : Int) = (a1.length : Int) then
    some false
  else
    (loop (l_likeInts_L0 a0 a1) BIG 0).bind fun x4 =>
    (match x4 with
    | .inl y6 =>
      some true
    | .inr t => some t))

def l_mod5 (a0 : Int) (a1 : Int) : Option Int :=
  (chk (¬ a0 = 0)).bind fun _ =>
  (chk (¬ a0 = 0)).bind fun _ =>
  some ((w64 ((a1.tmod a0) + a0)).tmod a0)

def s_l02DrawSquare (a0 : List Int) : Option (Int × (List (List Int))) :=
  (s_l01From a0).bind fun v1 =>
  (s_l02Size v1.1 v1.2.1 v1.2.2).bind fun v2 =>
  (s_l01Next v2.2.1 v2.2.2.1 v2.2.2.2 24).bind fun v4 =>
  ((if v4.1 = 0 then
    some (w64 (v2.1 + 1))
  else
    some v2.1) : Option Int).bind fun x5 =>
  (s_l02Spoil v4.2.1 v4.2.2.1 v4.2.2.2 v2.1 x5).bind fun v8 =>
  some (v8.1.1, v8.1.2)

def s_DrawCharacteristicPolynomial (a0 : List Int) : Option (Int × (List (List Int))) :=
  (s_l02DrawSquare a0).bind fun v1 =>
  some (v1.1, v1.2)

end Go.Vam

namespace Go.Vam
open Go Go.RowKit
set_option maxRecDepth 100000
set_option linter.unusedSimpArgs false
set_option linter.unusedVariables false

def l_zero5_L0 (a0 : List Int) (s2 : Int) : Option (Int ⊕ (Unit ⊕ Bool)) :=
  (if s2 < (a0.length : Int) then
    (idx a0 s2).bind fun v8 =>
    (if ¬ v8 = 0 then
      some (.inr (.inr false))
    else
      some (.inl (w64 (s2 + 1))))
  else
    some (.inr (.inl ())))
def l_zero5 (a0 : List Int) : Option Bool :=
  (loop (l_zero5_L0 a0) BIG 0).bind fun x2 =>
  (match x2 with
  | .inl y4 =>
    some true
  | .inr t => some t)

end Go.Vam

namespace Go.Vam
open Go Go.RowKit
set_option maxRecDepth 100000
set_option linter.unusedSimpArgs false
set_option linter.unusedVariables false



end Go.Vam

namespace Go.Vam
open Go Go.RowKit
set_option maxRecDepth 100000
set_option linter.unusedSimpArgs false
set_option linter.unusedVariables false

end Go.Vam

namespace Go.Vam
open Go Go.RowKit
set_option maxRecDepth 100000
set_option linter.unusedSimpArgs false
set_option linter.unusedVariables false

end Go.Vam

namespace Go.Vam
open Go Go.RowKit
set_option maxRecDepth 100000
set_option linter.unusedSimpArgs false
set_option linter.unusedVariables false

end Go.Vam

namespace Go.Vam
open Go Go.RowKit
set_option maxRecDepth 100000
set_option linter.unusedSimpArgs false
set_option linter.unusedVariables false

end Go.Vam

namespace Go.Vam
open Go Go.RowKit
set_option maxRecDepth 100000
set_option linter.unusedSimpArgs false
set_option linter.unusedVariables false

end Go.Vam

namespace Go.Vam
open Go Go.RowKit
set_option maxRecDepth 100000
set_option linter.unusedSimpArgs false
set_option linter.unusedVariables false

end Go.Vam

namespace Go.Vam
open Go Go.RowKit
set_option maxRecDepth 100000
set_option linter.unusedSimpArgs false
set_option linter.unusedVariables false

def s_l02Char_L1 (v1 : List (List Int)) (s3 : (List (List Int)) × Int) (s11 : Int) : Option (Int ⊕ Int) :=
  ((if s11 < (v1.length : Int) then
    (idx s3.1 s11).bind fun v15 =>
    (idx v15 s3.2).bind fun v16 =>
    some (ieq v16 0)
  else
    some false) : Option Bool).bind fun x17 =>
  (if x17 = true then
    some (.inl (w64 (s11 + 1)))
  else
    some (.inr s11))
def s_l02Char_L2 (v1 : List (List Int)) (s3 : (List (List Int)) × Int) (x11 : Int) (s28 : (List (List Int)) × Int) : Option (((List (List Int)) × Int) ⊕ (List (List Int))) :=
  (if s28.2 < (v1.length : Int) then
    (idx s28.1 s28.2).bind fun v33 =>
    (idx v33 x11).bind fun v34 =>
    (idx v33 (w64 (s3.2 + 1))).bind fun v35 =>
    (some (v33.set x11.toNat v35)).bind fun l36 =>
    (idx l36 (w64 (s3.2 + 1))).bind fun v37 =>
    some (.inl ((s28.1.set s28.2.toNat l36).set s28.2.toNat (l36.set (w64 (s3.2 + 1)).toNat v34), w64 (s28.2 + 1)))
  else
    some (.inr s28.1))
def s_l02Char_L4 (a0 : Int) (v1 : List (List Int)) (s3 : (List (List Int)) × Int) (v40 : Int) (s41 : (List (List Int)) × Int) (v47 : Int) (s52 : (List (List Int)) × Int) : Option (((List (List Int)) × Int) ⊕ (List (List Int))) :=
  (if s52.2 < (v1.length : Int) then
    (idx s52.1 s52.2).bind fun v57 =>
    (idx v57 (w64 (s3.2 + 1))).bind fun v58 =>
    (idx v57 s41.2).bind fun v59 =>
    (chk (¬ a0 = 0)).bind fun _ =>
    some (.inl (s52.1.set s52.2.toNat (v57.set (w64 (s3.2 + 1)).toNat ((w64 (v58 + (w64 (((w64 (v47 * v40)).tmod a0) * v59)))).tmod a0)), w64 (s52.2 + 1)))
  else
    some (.inr s52.1))
def s_l02Char_L3 (a0 : Int) (v1 : List (List Int)) (s3 : (List (List Int)) × Int) (v40 : Int) (s41 : (List (List Int)) × Int) : Option (((List (List Int)) × Int) ⊕ (List (List Int))) :=
  (if s41.2 < (v1.length : Int) then
    (idx s41.1 s41.2).bind fun v46 =>
    (idx v46 s3.2).bind fun v47 =>
    (chk (¬ a0 = 0)).bind fun _ =>
    (idx s41.1 (w64 (s3.2 + 1))).bind fun v49 =>
    (chk (¬ a0 = 0)).bind fun _ =>
    (s_l02Plus a0 v46 v49 ((w64 (a0 - ((w64 (v47 * v40)).tmod a0))).tmod a0)).bind fun v51 =>
    (loop (s_l02Char_L4 a0 v1 s3 v40 s41 v47) BIG (s41.1.set s41.2.toNat v51, 0)).bind fun x52 =>
    some (.inl (x52, w64 (s41.2 + 1)))
  else
    some (.inr s41.1))
def s_l02Char_L0 (a0 : Int) (v1 : List (List Int)) (s3 : (List (List Int)) × Int) : Option (((List (List Int)) × Int) ⊕ (List (List Int))) :=
  (if (w64 (s3.2 + 2)) < (v1.length : Int) then
    ((loop (s_l02Char_L1 v1 s3) BIG (w64 (s3.2 + 1))).bind fun x11 =>
    (if x11 = (v1.length : Int) then
      some s3.1
    else
      ((if (w64 (s3.2 + 1)) < x11 then
        (idx s3.1 x11).bind fun v25 =>
        (idx s3.1 (w64 (s3.2 + 1))).bind fun v26 =>
        (idx (s3.1.set x11.toNat v26) (w64 (s3.2 + 1))).bind fun v27 =>
        (loop (s_l02Char_L2 v1 s3 x11) BIG ((s3.1.set x11.toNat v26).set (w64 (s3.2 + 1)).toNat v25, 0)).bind fun x28 =>
        some x28
      else
        some s3.1) : Option (List (List Int))).bind fun x22 =>
      (idx x22 (w64 (s3.2 + 1))).bind fun v38 =>
      (idx v38 s3.2).bind fun v39 =>
      (s_l01Inv a0 v39).bind fun v40 =>
      (loop (s_l02Char_L3 a0 v1 s3 v40) BIG (x22, w64 (s3.2 + 2))).bind fun x41 =>
      some x41) : Option (List (List Int))).bind fun x8 =>
    some (.inl (x8, w64 (s3.2 + 1)))
  else
    some (.inr s3.1))
def s_l02Char_L6 (a0 : Int) (x3 : List (List Int)) (s62 : (List (List Int)) × Int) (s76 : (List Int) × Int × Int) : Option (((List Int) × Int × Int) ⊕ (List Int)) :=
  (if 0 ≤ s76.2.2 then
    (idx x3 (w64 (s76.2.2 + 1))).bind fun v81 =>
    (idx v81 s76.2.2).bind fun v82 =>
    (chk (¬ a0 = 0)).bind fun _ =>
    (idx s62.1 s76.2.2).bind fun v84 =>
    (s_l01Own v84).bind fun v85 =>
    (chk (0 ≤ (w64 ((s76.1.length : Int) - (v84.length : Int))) ∧ v85.length + (w64 ((s76.1.length : Int) - (v84.length : Int))).toNat ≤ 1099511627776)).bind fun _ =>
    (idx x3 s76.2.2).bind fun v87 =>
    (idx v87 s62.2).bind fun v88 =>
    (chk (¬ a0 = 0)).bind fun _ =>
    (chk (¬ a0 = 0)).bind fun _ =>
    (s_l02Plus a0 s76.1 (v85 ++ List.replicate (w64 ((s76.1.length : Int) - (v84.length : Int))).toNat 0) ((w64 (a0 - ((w64 (((w64 (s76.2.1 * v82)).tmod a0) * v88)).tmod a0))).tmod a0)).bind fun v91 =>
    some (.inl (v91, (w64 (s76.2.1 * v82)).tmod a0, w64 (s76.2.2 - 1)))
  else
    some (.inr s76.1))
def s_l02Char_L5 (a0 : Int) (v1 : List (List Int)) (x3 : List (List Int)) (s62 : (List (List Int)) × Int) : Option (((List (List Int)) × Int) ⊕ (List (List Int))) :=
  (if s62.2 < (v1.length : Int) then
    (idx s62.1 s62.2).bind fun v67 =>
    (chk ([0].length + v67.length ≤ 1099511627776)).bind fun _ =>
    (s_l01Own v67).bind fun v69 =>
    (chk (v69.length + [0].length ≤ 1099511627776)).bind fun _ =>
    (idx x3 s62.2).bind fun v71 =>
    (idx v71 s62.2).bind fun v72 =>
    (chk (¬ a0 = 0)).bind fun _ =>
    (s_l02Plus a0 ([0] ++ v67) (v69 ++ [0]) ((w64 (a0 - v72)).tmod a0)).bind fun v74 =>
    (loop (s_l02Char_L6 a0 x3 s62) BIG (v74, 1, w64 (s62.2 - 1))).bind fun x76 =>
    (chk (s62.1.length + [x76].length ≤ 1099511627776)).bind fun _ =>
    some (.inl (s62.1 ++ [x76], w64 (s62.2 + 1)))
  else
    some (.inr s62.1))
def s_l02Char (a0 : Int) (a1 : List (List Int)) : Option (List Int) :=
  (s_l01Own2 a1).bind fun v1 =>
  (loop (s_l02Char_L0 a0 v1) BIG (v1, 0)).bind fun x3 =>
  (loop (s_l02Char_L5 a0 v1 x3) BIG ([[1]], 0)).bind fun x62 =>
  (idx x62 (v1.length : Int)).bind fun v93 =>
  some v93

def s_CharacteristicPolynomial (a0 : Int) (a1 : List (List Int)) : Option ((List Int) × Int) :=
  (s_l02Square a0 a1).bind fun v1 =>
  (if ¬ v1 = 0 then
    some (([] : List Int), v1)
  else
    (s_l02Char a0 a1).bind fun v4 =>
    some (v4, 0))

def i_field_added_L0 (a0 : Int) (a2 : List Int) (a3 : Int) (s3 : (List Int) × Int) : Option (((List Int) × Int) ⊕ (List Int)) :=
  (if s3.2 < (a2.length : Int) then
    (idx a2 s3.2).bind fun v8 =>
    (idx s3.1 s3.2).bind fun v9 =>
    (i_field_num a0 (w64 (v9 + (w64 (a3 * v8))))).bind fun v10 =>
    some (.inl (s3.1.set s3.2.toNat v10, w64 (s3.2 + 1)))
  else
    some (.inr s3.1))
def i_field_added (a0 : Int) (a1 : List Int) (a2 : List Int) (a3 : Int) : Option (List Int) :=
  (g_slices_Clone_LI_I a1).bind fun v1 =>
  (loop (i_field_added_L0 a0 a2 a3) BIG (v1, 0)).bind fun x3 =>
  some x3

def i_field_characteristic_L1 (a1 : List (List Int)) (s4 : (List (List Int)) × Int) (s12 : Int) : Option (Int ⊕ Int) :=
  ((if s12 < (a1.length : Int) then
    (idx s4.1 s12).bind fun v16 =>
    (idx v16 (w64 (s4.2 - 1))).bind fun v17 =>
    some (ieq v17 0)
  else
    some false) : Option Bool).bind fun x18 =>
  (if x18 = true then
    some (.inl (w64 (s12 + 1)))
  else
    some (.inr s12))
def i_field_characteristic_L2 (s4 : (List (List Int)) × Int) (x12 : Int) (s26 : (List (List Int)) × Int × Int) : Option (((List (List Int)) × Int × Int) ⊕ (List (List Int))) :=
  (if s26.2.2 < s26.2.1 then
    (idx s26.1 s26.2.2).bind fun v31 =>
    (idx v31 s4.2).bind fun v32 =>
    (idx v31 x12).bind fun v33 =>
    (idx (v31.set x12.toNat v32) s4.2).bind fun v34 =>
    some (.inl ((s26.1.set s26.2.2.toNat (v31.set x12.toNat v32)).set s26.2.2.toNat ((v31.set x12.toNat v32).set s4.2.toNat v33), s26.2.1, w64 (s26.2.2 + 1)))
  else
    some (.inr s26.1))
def i_field_characteristic_L4 (a0 : Int) (s4 : (List (List Int)) × Int) (s35 : (List (List Int)) × Int) (v45 : Int) (s47 : (List (List Int)) × Int × Int) : Option (((List (List Int)) × Int × Int) ⊕ (List (List Int))) :=
  (if s47.2.2 < s47.2.1 then
    (idx s47.1 s47.2.2).bind fun v52 =>
    (idx v52 s4.2).bind fun v53 =>
    (idx v52 s35.2).bind fun v54 =>
    (i_field_num a0 (w64 (v53 + (w64 (v45 * v54))))).bind fun v55 =>
    some (.inl (s47.1.set s47.2.2.toNat (v52.set s4.2.toNat v55), s47.2.1, w64 (s47.2.2 + 1)))
  else
    some (.inr s47.1))
def i_field_characteristic_L3 (a0 : Int) (a1 : List (List Int)) (s4 : (List (List Int)) × Int) (s35 : (List (List Int)) × Int) : Option (((List (List Int)) × Int) ⊕ (List (List Int))) :=
  (if s35.2 < (a1.length : Int) then
    (idx s35.1 s35.2).bind fun v40 =>
    (idx v40 (w64 (s4.2 - 1))).bind fun v41 =>
    (idx s35.1 s4.2).bind fun v42 =>
    (idx v42 (w64 (s4.2 - 1))).bind fun v43 =>
    (i_field_inv a0 v43).bind fun v44 =>
    (i_field_num a0 (w64 (v41 * v44))).bind fun v45 =>
    (i_field_plus a0 v40 v42 (w64 (0 - v45))).bind fun v46 =>
    (loop (i_field_characteristic_L4 a0 s4 s35 v45) BIG (s35.1.set s35.2.toNat v46, ((s35.1.set s35.2.toNat v46).length : Int), 0)).bind fun x47 =>
    some (.inl (x47, w64 (s35.2 + 1)))
  else
    some (.inr s35.1))
def i_field_characteristic_L0 (a0 : Int) (a1 : List (List Int)) (s4 : (List (List Int)) × Int) : Option (((List (List Int)) × Int) ⊕ (List (List Int))) :=
  (if s4.2 < (w64 ((a1.length : Int) - 1)) then
    ((loop (i_field_characteristic_L1 a1 s4) BIG s4.2).bind fun x12 =>
    (if x12 = (a1.length : Int) then
      some s4.1
    else
      (idx s4.1 s4.2).bind fun v22 =>
      (idx s4.1 x12).bind fun v23 =>
      (idx (s4.1.set x12.toNat v22) s4.2).bind fun v24 =>
      (loop (i_field_characteristic_L2 s4 x12) BIG ((s4.1.set x12.toNat v22).set s4.2.toNat v23, (((s4.1.set x12.toNat v22).set s4.2.toNat v23).length : Int), 0)).bind fun x26 =>
      (loop (i_field_characteristic_L3 a0 a1 s4) BIG (x26, w64 (s4.2 + 1))).bind fun x35 =>
      some x35) : Option (List (List Int))).bind fun x9 =>
    some (.inl (x9, w64 (s4.2 + 1)))
  else
    some (.inr s4.1))
def i_field_characteristic_L6 (a0 : Int) (x4 : List (List Int)) (s57 : (List (List Int)) × Int) (s68 : (List Int) × Int × Int) : Option (((List Int) × Int × Int) ⊕ (List Int)) :=
  (if s68.2.2 < s57.2 then
    (idx x4 (w64 (s57.2 - s68.2.2))).bind fun v73 =>
    (idx v73 (w64 ((w64 (s57.2 - s68.2.2)) - 1))).bind fun v74 =>
    (i_field_num a0 (w64 (s68.2.1 * v74))).bind fun v75 =>
    (idx s57.1 (w64 ((w64 (s57.2 - s68.2.2)) - 1))).bind fun v76 =>
    (idx x4 (w64 ((w64 (s57.2 - s68.2.2)) - 1))).bind fun v77 =>
    (idx v77 (w64 (s57.2 - 1))).bind fun v78 =>
    (i_field_added a0 s68.1 v76 (w64 ((w64 (0 - v75)) * v78))).bind fun v79 =>
    some (.inl (v79, v75, w64 (s68.2.2 + 1)))
  else
    some (.inr s68.1))
def i_field_characteristic_L5 (a0 : Int) (a1 : List (List Int)) (x4 : List (List Int)) (s57 : (List (List Int)) × Int) : Option (((List (List Int)) × Int) ⊕ (List (List Int))) :=
  (if s57.2 ≤ (a1.length : Int) then
    (idx s57.1 (w64 (s57.2 - 1))).bind fun v62 =>
    (chk ([0].length + v62.length ≤ 1099511627776)).bind fun _ =>
    (idx x4 (w64 (s57.2 - 1))).bind fun v64 =>
    (idx v64 (w64 (s57.2 - 1))).bind fun v65 =>
    (i_field_added a0 ([0] ++ v62) v62 (w64 (0 - v65))).bind fun v66 =>
    (loop (i_field_characteristic_L6 a0 x4 s57) BIG (v66, 1, 1)).bind fun x68 =>
    (chk (s57.1.length + [x68].length ≤ 1099511627776)).bind fun _ =>
    some (.inl (s57.1 ++ [x68], w64 (s57.2 + 1)))
  else
    some (.inr s57.1))
def i_field_characteristic (a0 : Int) (a1 : List (List Int)) : Option (List Int) :=
  (chk (0 ≤ (w64 ((a1.length : Int) + 1)) ∧ (w64 ((a1.length : Int) + 1)) ≤ 1099511627776)).bind fun _ =>
  (i_cloneRows a1).bind fun v2 =>
  (loop (i_field_characteristic_L0 a0 a1) BIG (v2, 1)).bind fun x4 =>
  (loop (i_field_characteristic_L5 a0 a1 x4) BIG ([[1]], 1)).bind fun x57 =>
  (idx x57 (a1.length : Int)).bind fun v81 =>
  some (v81.take (List.replicate (w64 ((a1.length : Int) + 1)).toNat 0).length ++ (List.replicate (w64 ((a1.length : Int) + 1)).toNat 0).drop v81.length)

def i_CharacteristicPolynomial (a0 : Int) (a1 : List (List Int)) : Option ((List Int) × Int) :=
  (i_checkSquare a0 a1).bind fun v2 =>
  (if ¬ v2 = 0 then
    some (([] : List Int), v2)
  else
    (i_field_characteristic a0 a1).bind fun v4 =>
    some (v4, 0))

def l_plus5_L0 (a0 : Int) (a1 : List Int) (a2 : List Int) (a3 : Int) (s4 : (List Int) × Int) : Option (((List Int) × Int) ⊕ (List Int)) :=
  (if s4.2 < (a1.length : Int) then
    (idx a1 s4.2).bind fun v9 =>
    (idx a2 s4.2).bind fun v10 =>
    (l_mod5 a0 (w64 (v9 + (w64 (a3 * v10))))).bind fun v11 =>
    (chk (s4.1.length + [v11].length ≤ 1099511627776)).bind fun _ =>
    some (.inl (s4.1 ++ [v11], w64 (s4.2 + 1)))
  else
    some (.inr s4.1))
def l_plus5 (a0 : Int) (a1 : List Int) (a2 : List Int) (a3 : Int) : Option (List Int) :=
  (if ¬ (a1.length : Int) = (a2.length : Int) then
    some ([] : List Int)
  else
    (loop (l_plus5_L0 a0 a1 a2 a3) BIG ([], 0)).bind fun x4 =>
    some x4)

def l_FnCharacteristics_L0 (v4 : Int × (List (List Int))) (s36 : (List (List Int)) × Int) : Option (((List (List Int)) × Int) ⊕ (List (List Int))) :=
  (if s36.2 < (v4.2.length : Int) then
    (chk (0 ≤ (v4.2.length : Int) ∧ (v4.2.length : Int) ≤ 1099511627776)).bind fun _ =>
    (idx s36.1 s36.2).bind fun v42 =>
    some (.inl (s36.1.set s36.2.toNat (List.replicate (v4.2.length : Int).toNat 0), w64 (s36.2 + 1)))
  else
    some (.inr s36.1))
def l_FnCharacteristics_L2 (v4 : Int × (List (List Int))) (v5 : (List Int) × Int) (s44 : (List (List Int)) × Int) (v50 : (List (List Int)) × Int) (s55 : (List (List Int)) × Int) : Option (((List (List Int)) × Int) ⊕ ((List (List Int)) ⊕ (((List (List Int)) × Int) ⊕ ((List (List Int)) ⊕ Bool)))) :=
  (if s55.2 < (v4.2.length : Int) then
    (idx s55.1 s55.2).bind fun v61 =>
    (idx v50.1 s55.2).bind fun v62 =>
    (idx v5.1 s44.2).bind fun v63 =>
    (l_plus5 v4.1 v61 v62 v63).bind fun v64 =>
    (if ¬ (v64.length : Int) = (v4.2.length : Int) then
      some (.inr (.inr (.inr (.inr false))))
    else
      some (.inl (s55.1.set s55.2.toNat v64, w64 (s55.2 + 1))))
  else
    some (.inr (.inl s55.1)))
def l_FnCharacteristics_L1 (v4 : Int × (List (List Int))) (v5 : (List Int) × Int) (s44 : (List (List Int)) × Int) : Option (((List (List Int)) × Int) ⊕ ((List (List Int)) ⊕ Bool)) :=
  (if s44.2 ≤ (v4.2.length : Int) then
    (i_PowerMatrix v4.1 v4.2 s44.2).bind fun v50 =>
    ((if ¬ v50.2 = 0 then
      some true
    else
      some (!(ieq (v50.1.length : Int) (v4.2.length : Int)))) : Option Bool).bind fun x53 =>
    (if x53 = true then
      some (.inr (.inr false))
    else
      (loop (l_FnCharacteristics_L2 v4 v5 s44 v50) BIG (s44.1, 0)).bind fun x55 =>
      (match x55 with
      | .inl y57 =>
        some (.inl (y57, w64 (s44.2 + 1)))
      | .inr t => some t))
  else
    some (.inr (.inl s44.1)))
def l_FnCharacteristics_L3 (v4 : Int × (List (List Int))) (y46 : List (List Int)) (s68 : Int) : Option (Int ⊕ (Unit ⊕ Bool)) :=
  (if s68 < (v4.2.length : Int) then
    (idx y46 s68).bind fun v74 =>
    (l_zero5 v74).bind fun v75 =>
    (if v75 = false then
      some (.inr (.inr false))
    else
      some (.inl (w64 (s68 + 1))))
  else
    some (.inr (.inl ())))
def l_FnCharacteristics (a0 : List Int) : Option Bool :=
  (l_big a0).bind fun v2 =>
  (if v2 = true then
    some true
  else
    (s_DrawCharacteristicPolynomial a0).bind fun v4 =>
    (i_CharacteristicPolynomial v4.1 v4.2).bind fun v5 =>
    (s_CharacteristicPolynomial v4.1 v4.2).bind fun v6 =>
    ((if ¬ v5.2 = v6.2 then
      some true
    else
      (l_likeInts v5.1 v6.1).bind fun v9 =>
      some (!v9)) : Option Bool).bind fun x10 =>
    (if x10 = true then
      some false
    else
      (if ¬ v5.2 = 0 then
        some true
      else
        (i_TraceOf v4.1 v4.2).bind fun v14 =>
        (i_Determinant v4.1 v4.2).bind fun v15 =>
        ((if ¬ v14.2 = 0 then
          some true
        else
          (if ¬ v15.2 = 0 then
            some true
          else
            (if ¬ (v5.1.length : Int) = (w64 ((v4.2.length : Int) + 1)) then
              some true
            else
              (idx v5.1 (v4.2.length : Int)).bind fun v20 =>
              (if ¬ v20 = 1 then
                some true
              else
                (idx v5.1 (w64 ((v4.2.length : Int) - 1))).bind fun v22 =>
                (l_mod5 v4.1 (w64 (0 - v14.1))).bind fun v23 =>
                some (!(ieq v22 v23)))))) : Option Bool).bind fun x24 =>
        (if x24 = true then
          some false
        else
          ((if ((v4.2.length : Int).tmod 2) = 1 then
            (l_mod5 v4.1 (w64 (0 - v15.1))).bind fun v30 =>
            some v30
          else
            some v15.1) : Option Int).bind fun x27 =>
          (idx v5.1 0).bind fun v32 =>
          (if ¬ v32 = x27 then
            some false
          else
            (chk (0 ≤ (v4.2.length : Int) ∧ (v4.2.length : Int) ≤ 1099511627776)).bind fun _ =>
            (loop (l_FnCharacteristics_L0 v4) BIG (List.replicate (v4.2.length : Int).toNat [], 0)).bind fun x36 =>
            (loop (l_FnCharacteristics_L1 v4 v5) BIG (x36, 0)).bind fun x44 =>
            (match x44 with
            | .inl y46 =>
              (loop (l_FnCharacteristics_L3 v4 y46) BIG 0).bind fun x68 =>
              (match x68 with
              | .inl y70 =>
                some true
              | .inr t => some t)
            | .inr t => some t))))))

end Go.Vam

namespace Go.Vam
open Go Go.RowKit
set_option maxRecDepth 100000
set_option linter.unusedSimpArgs false
set_option linter.unusedVariables false

end Go.Vam

namespace Go.Vam
open Go Go.RowKit
set_option maxRecDepth 100000
set_option linter.unusedSimpArgs false
set_option linter.unusedVariables false

end Go.Vam
