import Derived.Test.YtalfgfpgenlokaaVamT
import Derived.Test.YtalfgfpgenlokaaVamV
import Derived.Test.YtalfgfpgenlokaaVamY
import Derived.Test.YtalfgfpgenlokaaVamZ
import Derived.Test.YtalfgfpgenlokaaVamAM
import Derived.Test.YtalfgfpgenlokaaVamAN
namespace Go.Vam
open Go Go.RowKit
set_option maxRecDepth 100000
set_option linter.unusedSimpArgs false
set_option linter.unusedVariables false

def s_l01Prime (a0 : Int) : Option Bool :=
 ((if a0 = 3 then
  some true
 else
  (if a0 = 5 then
   some true
  else
   (if a0 = 7 then
    some true
   else
    (if a0 = 11 then
     some true
    else
     some (ieq a0 13))))) : Option Bool).bind fun x5 =>
 some x5

def s_l01In (a0 : Int) (a1 : Int) (a2 : Int) : Option Bool :=
 ((if a1 ≤ a0 then
  some (ile a0 a2)
 else
  some false) : Option Bool).bind fun x2 =>
 some x2

def s_l01Numbers_L0 (a0 : Int) (a1 : List Int) (s2 : Int) : Option (Int ⊕ (Unit ⊕ Bool)) :=
 (if s2 < (a1.length : Int) then
  (idx a1 s2).bind fun v8 =>
  (s_l01In v8 0 (w64 (a0 - 1))).bind fun v9 =>
  (if v9 = false then
   some (.inr (.inr false))
  else
   some (.inl (w64 (s2 + 1))))
 else
  some (.inr (.inl ())))
def s_l01Numbers (a0 : Int) (a1 : List Int) : Option Bool :=
 (loop (s_l01Numbers_L0 a0 a1) BIG 0).bind fun x2 =>
 (match x2 with
 | .inl y4 =>
  some true
 | .inr t => some t)

def s_l02Is_L0 (a0 : Int) (a1 : List (List Int)) (s11 : Int) : Option (Int ⊕ (Unit ⊕ Bool)) :=
 (if s11 < (a1.length : Int) then
  ((idx a1 s11).bind fun v17 =>
  (idx a1 0).bind fun v18 =>
  (if ¬ (v17.length : Int) = (v18.length : Int) then
   some true
  else
   (s_l01Numbers a0 v17).bind fun v20 =>
   some (!v20)) : Option Bool).bind fun x21 =>
  (if x21 = true then
   some (.inr (.inr false))
  else
   some (.inl (w64 (s11 + 1))))
 else
  some (.inr (.inl ())))
def s_l02Is (a0 : Int) (a1 : List (List Int)) : Option Bool :=
 ((s_l01Prime a0).bind fun v2 =>
 (if v2 = false then
  some true
 else
  (if (a1.length : Int) < 1 then
   some true
  else
   (if 16 < (a1.length : Int) then
    some true
   else
    (idx a1 0).bind fun v6 =>
    (if (v6.length : Int) < 1 then
     some true
    else
     some (ilt 16 (v6.length : Int)))))) : Option Bool).bind fun x8 =>
 (if x8 = true then
  some false
 else
  (loop (s_l02Is_L0 a0 a1) BIG 0).bind fun x11 =>
  (match x11 with
  | .inl y13 =>
   some true
  | .inr t => some t))

def i_IsPrime (a0 : Int) : Option Bool :=
 ((if a0 = 3 then
  some (ieq a0 3)
 else
  (if a0 = 5 then
   some (ieq a0 5)
  else
   (if a0 = 7 then
    some (ieq a0 7)
   else
    (if a0 = 11 then
     some (ieq a0 11)
    else
     some (ieq a0 13))))) : Option Bool).bind fun x3 =>
 (if x3 = true then
  some true
 else
  some false)

def i_inRange (a0 : Int) (a1 : Int) (a2 : Int) : Option Bool :=
 ((if a1 ≤ a0 then
  some (ile a0 a2)
 else
  some false) : Option Bool).bind fun x2 =>
 some x2

def i_field_is_L0 (a0 : Int) (a1 : List Int) (s2 : Int) : Option (Int ⊕ (Unit ⊕ Bool)) :=
 (if s2 < (a1.length : Int) then
  (idx a1 s2).bind fun v8 =>
  (i_inRange v8 0 (w64 (a0 - 1))).bind fun v9 =>
  (if v9 = false then
   some (.inr (.inr false))
  else
   some (.inl (w64 (s2 + 1))))
 else
  some (.inr (.inl ())))
def i_field_is (a0 : Int) (a1 : List Int) : Option Bool :=
 (loop (i_field_is_L0 a0 a1) BIG 0).bind fun x2 =>
 (match x2 with
 | .inl y4 =>
  some true
 | .inr t => some t)

def i_field_isTable_L0 (a0 : Int) (a1 : List (List Int)) (s4 : Int) : Option (Int ⊕ (Unit ⊕ Bool)) :=
 (if s4 < (a1.length : Int) then
  (idx a1 s4).bind fun v10 =>
  ((idx a1 0).bind fun v11 =>
  (if ¬ (v10.length : Int) = (v11.length : Int) then
   some true
  else
   (if (v10.length : Int) < 1 then
    some true
   else
    (if 16 < (v10.length : Int) then
     some true
    else
     (i_field_is a0 v10).bind fun v15 =>
     some (!v15)))) : Option Bool).bind fun x16 =>
  (if x16 = true then
   some (.inr (.inr false))
  else
   some (.inl (w64 (s4 + 1))))
 else
  some (.inr (.inl ())))
def i_field_isTable (a0 : Int) (a1 : List (List Int)) : Option Bool :=
 (if 16 < (a1.length : Int) then
  some false
 else
  (loop (i_field_isTable_L0 a0 a1) BIG 0).bind fun x4 =>
  (match x4 with
  | .inl y6 =>
   some true
  | .inr t => some t))

def i_field_isMatrix (a0 : Int) (a1 : List (List Int)) : Option Bool :=
 ((if 0 < (a1.length : Int) then
  (i_field_isTable a0 a1).bind fun v2 =>
  some v2
 else
  some false) : Option Bool).bind fun x3 =>
 some x3

def i_checkMatrices_c1 (a0 : List (List Int)) (a1_0 : Int) : Option Bool :=
 (i_field_isMatrix a1_0 a0).bind fun v1 =>
 some (!v1)

def g_slices_IndexFunc_LLLI_LLI_of_i_checkMatrices_c1_L0 (a0 : List (List (List Int))) (a1_0_0 : Int) (s2 : Int) : Option (Int ⊕ (Unit ⊕ Int)) :=
 (if s2 < (a0.length : Int) then
  (idx a0 s2).bind fun v8 =>
  (i_checkMatrices_c1 v8 a1_0_0).bind fun v9 =>
  (if v9 = true then
   some (.inr (.inr s2))
  else
   some (.inl (w64 (s2 + 1))))
 else
  some (.inr (.inl ())))
def g_slices_IndexFunc_LLLI_LLI_of_i_checkMatrices_c1 (a0 : List (List (List Int))) (a1_0_0 : Int) : Option Int :=
 (loop (g_slices_IndexFunc_LLLI_LLI_of_i_checkMatrices_c1_L0 a0 a1_0_0) BIG 0).bind fun x2 =>
 (match x2 with
 | .inl y4 =>
  some (-1)
 | .inr t => some t)

def g_slices_ContainsFunc_LLLI_LLI_of_i_checkMatrices_c1 (a0 : List (List (List Int))) (a1_0_0 : Int) : Option Bool :=
 (g_slices_IndexFunc_LLLI_LLI_of_i_checkMatrices_c1 a0 a1_0_0).bind fun v1 =>
 some (ile 0 v1)

def i_checkMatrices (a0 : Int) (a1 : List (List (List Int))) : Option Int :=
 ((i_IsPrime a0).bind fun v2 =>
 (if v2 = false then
  some true
 else
  (g_slices_ContainsFunc_LLLI_LLI_of_i_checkMatrices_c1 a1 a0).bind fun v4 =>
  some v4) : Option Bool).bind fun x5 =>
 (if x5 = true then
  some 1
 else
  some 0)

def i_field_num (a0 : Int) (a1 : Int) : Option Int :=
 (chk (¬ a0 = 0)).bind fun _ =>
 (chk (¬ a0 = 0)).bind fun _ =>
 some ((w64 ((a1.tmod a0) + a0)).tmod a0)

def s_l02Turn_L1 (a0 : List (List Int)) (s2 : (List (List Int)) × Int) (s9 : (List Int) × Int) : Option (((List Int) × Int) ⊕ (List Int)) :=
 (if s9.2 < (a0.length : Int) then
  (idx a0 s9.2).bind fun v14 =>
  (idx v14 s2.2).bind fun v15 =>
  (chk (s9.1.length + [v15].length ≤ 1099511627776)).bind fun _ =>
  some (.inl (s9.1 ++ [v15],w64 (s9.2 + 1)))
 else
  some (.inr s9.1))
def s_l02Turn_L0 (a0 : List (List Int)) (s2 : (List (List Int)) × Int) : Option (((List (List Int)) × Int) ⊕ (List (List Int))) :=
 (idx a0 0).bind fun v5 =>
 (if s2.2 < (v5.length : Int) then
  (loop (s_l02Turn_L1 a0 s2) BIG ([],0)).bind fun x9 =>
  (chk (s2.1.length + [x9].length ≤ 1099511627776)).bind fun _ =>
  some (.inl (s2.1 ++ [x9],w64 (s2.2 + 1)))
 else
  some (.inr s2.1))
def s_l02Turn (a0 : List (List Int)) : Option (List (List Int)) :=
 (loop (s_l02Turn_L0 a0) BIG ([],0)).bind fun x2 =>
 some x2

def i_transpose_L1 (a0 : List (List Int)) (s3 : (List (List Int)) × Int) (s9 : (List Int) × Int) : Option (((List Int) × Int) ⊕ (List Int)) :=
 (if s9.2 < (a0.length : Int) then
  (idx a0 s9.2).bind fun v14 =>
  (idx v14 s3.2).bind fun v15 =>
  (chk (s9.1.length + [v15].length ≤ 1099511627776)).bind fun _ =>
  some (.inl (s9.1 ++ [v15],w64 (s9.2 + 1)))
 else
  some (.inr s9.1))
def i_transpose_L0 (a0 : List (List Int)) (v2 : List Int) (s3 : (List (List Int)) × Int) : Option (((List (List Int)) × Int) ⊕ (List (List Int))) :=
 (if s3.2 < (v2.length : Int) then
  (loop (i_transpose_L1 a0 s3) BIG ([],0)).bind fun x9 =>
  (chk (s3.1.length + [x9].length ≤ 1099511627776)).bind fun _ =>
  some (.inl (s3.1 ++ [x9],w64 (s3.2 + 1)))
 else
  some (.inr s3.1))
def i_transpose (a0 : List (List Int)) : Option (List (List Int)) :=
 (idx a0 0).bind fun v2 =>
 (loop (i_transpose_L0 a0 v2) BIG ([],0)).bind fun x3 =>
 some x3

def i_field_dot_L0 (a1 : List Int) (a2 : List Int) (s2 : Int × Int) : Option ((Int × Int) ⊕ Int) :=
 (if s2.2 < (a1.length : Int) then
  (idx a1 s2.2).bind fun v7 =>
  (idx a2 s2.2).bind fun v8 =>
  some (.inl (w64 (s2.1 + (w64 (v7 * v8))),w64 (s2.2 + 1)))
 else
  some (.inr s2.1))
def i_field_dot (a0 : Int) (a1 : List Int) (a2 : List Int) : Option Int :=
 (loop (i_field_dot_L0 a1 a2) BIG (0,0)).bind fun x2 =>
 (i_field_num a0 x2).bind fun v9 =>
 some v9

def i_field_apply_L0 (a0 : Int) (a1 : List (List Int)) (a2 : List Int) (s2 : (List Int) × Int) : Option (((List Int) × Int) ⊕ (List Int)) :=
 (if s2.2 < (a1.length : Int) then
  (idx a1 s2.2).bind fun v7 =>
  (i_field_dot a0 v7 a2).bind fun v8 =>
  (chk (s2.1.length + [v8].length ≤ 1099511627776)).bind fun _ =>
  some (.inl (s2.1 ++ [v8],w64 (s2.2 + 1)))
 else
  some (.inr s2.1))
def i_field_apply (a0 : Int) (a1 : List (List Int)) (a2 : List Int) : Option (List Int) :=
 (loop (i_field_apply_L0 a0 a1 a2) BIG ([],0)).bind fun x2 =>
 some x2

def s_l02Plus_L0 (a0 : Int) (a1 : List Int) (a2 : List Int) (a3 : Int) (s2 : (List Int) × Int) : Option (((List Int) × Int) ⊕ (List Int)) :=
 (if s2.2 < (a1.length : Int) then
  (idx a1 s2.2).bind fun v7 =>
  (idx a2 s2.2).bind fun v8 =>
  (chk (¬ a0 = 0)).bind fun _ =>
  (chk (s2.1.length + [(w64 (v7 + (w64 (a3 * v8)))).tmod a0].length ≤ 1099511627776)).bind fun _ =>
  some (.inl (s2.1 ++ [(w64 (v7 + (w64 (a3 * v8)))).tmod a0],w64 (s2.2 + 1)))
 else
  some (.inr s2.1))
def s_l02Plus (a0 : Int) (a1 : List Int) (a2 : List Int) (a3 : Int) : Option (List Int) :=
 (loop (s_l02Plus_L0 a0 a1 a2 a3) BIG ([],0)).bind fun x2 =>
 some x2

def i_field_plus_L0 (a0 : Int) (a1 : List Int) (a2 : List Int) (a3 : Int) (s2 : (List Int) × Int) : Option (((List Int) × Int) ⊕ (List Int)) :=
 (if s2.2 < (a1.length : Int) then
  (idx a1 s2.2).bind fun v7 =>
  (idx a2 s2.2).bind fun v8 =>
  (i_field_num a0 (w64 (v7 + (w64 (a3 * v8))))).bind fun v9 =>
  (chk (s2.1.length + [v9].length ≤ 1099511627776)).bind fun _ =>
  some (.inl (s2.1 ++ [v9],w64 (s2.2 + 1)))
 else
  some (.inr s2.1))
def i_field_plus (a0 : Int) (a1 : List Int) (a2 : List Int) (a3 : Int) : Option (List Int) :=
 (loop (i_field_plus_L0 a0 a1 a2 a3) BIG ([],0)).bind fun x2 =>
 some x2

def s_l01Own (a0 : List Int) : Option (List Int) :=
 (chk (([] : List Int).length + a0.length ≤ 1099511627776)).bind fun _ =>
 some (([] : List Int) ++ a0)

def s_l01Inv_L0 (a0 : Int) (a1 : Int) (s2 : Int) : Option (Int ⊕ Int) :=
 (chk (¬ a0 = 0)).bind fun _ =>
 (if ¬ ((w64 (a1 * s2)).tmod a0) = 1 then
  some (.inl (w64 (s2 + 1)))
 else
  some (.inr s2))
def s_l01Inv (a0 : Int) (a1 : Int) : Option Int :=
 (loop (s_l01Inv_L0 a0 a1) BIG 1).bind fun x2 =>
 some x2

def s_l12First_L0 (a0 : List Int) (s2 : Int) : Option (Int ⊕ Int) :=
 ((if s2 < (a0.length : Int) then
  (idx a0 s2).bind fun v6 =>
  some (ieq v6 0)
 else
  some false) : Option Bool).bind fun x7 =>
 (if x7 = true then
  some (.inl (w64 (s2 + 1)))
 else
  some (.inr s2))
def s_l12First (a0 : List Int) : Option Int :=
 (loop (s_l12First_L0 a0) BIG 0).bind fun x2 =>
 some x2

def g_slices_Index_LI_I_L0 (a0 : List Int) (a1 : Int) (s2 : Int) : Option (Int ⊕ (Unit ⊕ Int)) :=
 (if s2 < (a0.length : Int) then
  (idx a0 s2).bind fun v8 =>
  (if a1 = v8 then
   some (.inr (.inr s2))
  else
   some (.inl (w64 (s2 + 1))))
 else
  some (.inr (.inl ())))
def g_slices_Index_LI_I (a0 : List Int) (a1 : Int) : Option Int :=
 (loop (g_slices_Index_LI_I_L0 a0 a1) BIG 0).bind fun x2 =>
 (match x2 with
 | .inl y4 =>
  some (-1)
 | .inr t => some t)

def g_slices_Contains_LI_I (a0 : List Int) (a1 : Int) : Option Bool :=
 (g_slices_Index_LI_I a0 a1).bind fun v1 =>
 some (ile 0 v1)

def g_slices_Clone_LLI_LI (a0 : List (List Int)) : Option (List (List Int)) :=
 (chk (a0.length ≤ 1099511627776)).bind fun _ => some a0

end Go.Vam

namespace Go.Vam
open Go Go.RowKit
set_option maxRecDepth 100000
set_option linter.unusedSimpArgs false
set_option linter.unusedVariables false

def s_l03Is (a0_0 : Int) (a0_1 : List Int) : Option Bool :=
 ((s_l01Prime a0_0).bind fun v1 =>
 (if v1 = true then
  (s_l01In (a0_1.length : Int) 1 6).bind fun v3 =>
  (if v3 = true then
   (s_l01Numbers a0_0 a0_1).bind fun v5 =>
   some v5
  else
   some false)
 else
  some false) : Option Bool).bind fun x6 =>
 some x6

def s_l03Disc_L0 (a0_0 : Int) (a0_1 : List Int) (s2 : Int × Int) : Option ((Int × Int) ⊕ Int) :=
 (if s2.2 < (a0_1.length : Int) then
  (idx a0_1 s2.2).bind fun v7 =>
  (chk (¬ a0_0 = 0)).bind fun _ =>
  some (.inl ((w64 (s2.1 * v7)).tmod a0_0,w64 (s2.2 + 1)))
 else
  some (.inr s2.1))
def s_l03Disc (a0_0 : Int) (a0_1 : List Int) : Option Int :=
 (loop (s_l03Disc_L0 a0_0 a0_1) BIG (1,0)).bind fun x2 =>
 some x2

def i_length_I (a0 : List Int) : Option Int :=
 some (a0.length : Int)

def i_Space_field (a0_0 : Int) (a0_1 : List Int) : Option Int :=
 some a0_0

def i_IsSpace (a0_0 : Int) (a0_1 : List Int) : Option Bool :=
 ((i_IsPrime a0_0).bind fun v1 =>
 (if v1 = true then
  (i_length_I a0_1).bind fun v3 =>
  (i_inRange v3 1 6).bind fun v4 =>
  (if v4 = true then
   (i_Space_field a0_0 a0_1).bind fun v6 =>
   (i_field_is v6 a0_1).bind fun v7 =>
   some v7
  else
   some false)
 else
  some false) : Option Bool).bind fun x8 =>
 some x8

def i_Space_dim (a0_0 : Int) (a0_1 : List Int) : Option Int :=
 some (a0_1.length : Int)

def i_Space_regular (a0_0 : Int) (a0_1 : List Int) : Option Bool :=
 (g_slices_Contains_LI_I a0_1 0).bind fun v1 =>
 some (!v1)

def i_field_times_L0 (a0 : Int) (a1 : List (List Int)) (v1 : List (List Int)) (s3 : (List (List Int)) × Int) : Option (((List (List Int)) × Int) ⊕ (List (List Int))) :=
 (if s3.2 < (a1.length : Int) then
  (idx a1 s3.2).bind fun v8 =>
  (i_field_apply a0 v1 v8).bind fun v9 =>
  (chk (s3.1.length + [v9].length ≤ 1099511627776)).bind fun _ =>
  some (.inl (s3.1 ++ [v9],w64 (s3.2 + 1)))
 else
  some (.inr s3.1))
def i_field_times (a0 : Int) (a1 : List (List Int)) (a2 : List (List Int)) : Option (List (List Int)) :=
 (i_transpose a2).bind fun v1 =>
 (loop (i_field_times_L0 a0 a1 v1) BIG ([],0)).bind fun x3 =>
 some x3

def i_MultiplyMatrices (a0 : Int) (a1 : List (List Int)) (a2 : List (List Int)) : Option ((List (List Int)) × Int) :=
 (i_checkMatrices a0 [a1,a2]).bind fun v2 =>
 (if ¬ v2 = 0 then
  some (([] : List (List Int)),v2)
 else
  (idx a1 0).bind fun v5 =>
  (if ¬ (v5.length : Int) = (a2.length : Int) then
   some (([] : List (List Int)),2)
  else
   (i_field_times a0 a1 a2).bind fun v7 =>
   some (v7,0)))

def s_l01Own2_L0 (a0 : List (List Int)) (s2 : (List (List Int)) × Int) : Option (((List (List Int)) × Int) ⊕ (List (List Int))) :=
 (if s2.2 < (a0.length : Int) then
  (idx a0 s2.2).bind fun v7 =>
  (s_l01Own v7).bind fun v8 =>
  (chk (s2.1.length + [v8].length ≤ 1099511627776)).bind fun _ =>
  some (.inl (s2.1 ++ [v8],w64 (s2.2 + 1)))
 else
  some (.inr s2.1))
def s_l01Own2 (a0 : List (List Int)) : Option (List (List Int)) :=
 (loop (s_l01Own2_L0 a0) BIG ([],0)).bind fun x2 =>
 some x2

def g_slices_Clone_LI_I (a0 : List Int) : Option (List Int) :=
 (chk (a0.length ≤ 1099511627776)).bind fun _ => some a0

def i_cloneRows_L0 (a0 : List (List Int)) (s2 : (List (List Int)) × Int) : Option (((List (List Int)) × Int) ⊕ (List (List Int))) :=
 (if s2.2 < (a0.length : Int) then
  (idx a0 s2.2).bind fun v7 =>
  (g_slices_Clone_LI_I v7).bind fun v8 =>
  (chk (s2.1.length + [v8].length ≤ 1099511627776)).bind fun _ =>
  some (.inl (s2.1 ++ [v8],w64 (s2.2 + 1)))
 else
  some (.inr s2.1))
def i_cloneRows (a0 : List (List Int)) : Option (List (List Int)) :=
 (loop (i_cloneRows_L0 a0) BIG ([],0)).bind fun x2 =>
 some x2

def i_field_pow_L0 (a0 : Int) (a1 : Int) (a2 : Int) (s2 : Int × Int) : Option ((Int × Int) ⊕ Int) :=
 (if s2.2 < a2 then
  (i_field_num a0 (w64 (s2.1 * a1))).bind fun v7 =>
  some (.inl (v7,w64 (s2.2 + 1)))
 else
  some (.inr s2.1))
def i_field_pow (a0 : Int) (a1 : Int) (a2 : Int) : Option Int :=
 (loop (i_field_pow_L0 a0 a1 a2) BIG (1,0)).bind fun x2 =>
 some x2

def i_field_inv (a0 : Int) (a1 : Int) : Option Int :=
 (i_field_pow a0 a1 (w64 (a0 - 2))).bind fun v1 =>
 some v1

def s_l02Det_L1 (s3 : (List (List Int)) × Int × Int) (s10 : Int) : Option (Int ⊕ Int) :=
 ((if s10 < (s3.1.length : Int) then
  (idx s3.1 s10).bind fun v14 =>
  (idx v14 s3.2.2).bind fun v15 =>
  some (ieq v15 0)
 else
  some false) : Option Bool).bind fun x16 =>
 (if x16 = true then
  some (.inl (w64 (s10 + 1)))
 else
  some (.inr s10))
def s_l02Det_L2 (a0 : Int) (s3 : (List (List Int)) × Int × Int) (v32 : Int) (s33 : (List (List Int)) × Int) : Option (((List (List Int)) × Int) ⊕ (List (List Int))) :=
 (if s33.2 < (s33.1.length : Int) then
  (idx s33.1 s33.2).bind fun v38 =>
  (idx s33.1 s3.2.2).bind fun v39 =>
  (idx v38 s3.2.2).bind fun v40 =>
  (chk (¬ a0 = 0)).bind fun _ =>
  (s_l02Plus a0 v38 v39 ((w64 ((w64 (a0 - v40)) * v32)).tmod a0)).bind fun v42 =>
  some (.inl (s33.1.set s33.2.toNat v42,w64 (s33.2 + 1)))
 else
  some (.inr s33.1))
def s_l02Det_L0 (a0 : Int) (s3 : (List (List Int)) × Int × Int) : Option (((List (List Int)) × Int × Int) ⊕ (Int ⊕ Int)) :=
 (if s3.2.2 < (s3.1.length : Int) then
  (loop (s_l02Det_L1 s3) BIG s3.2.2).bind fun x10 =>
  (if x10 = (s3.1.length : Int) then
   some (.inr (.inr 0))
  else
   ((if s3.2.2 < x10 then
    (idx s3.1 x10).bind fun v24 =>
    (idx s3.1 s3.2.2).bind fun v25 =>
    (some (s3.1.set x10.toNat v25)).bind fun l26 =>
    (idx l26 s3.2.2).bind fun v27 =>
    (chk (¬ a0 = 0)).bind fun _ =>
    some (l26.set s3.2.2.toNat v24,(w64 (a0 - s3.2.1)).tmod a0)
   else
    some (s3.1,s3.2.1)) : Option ((List (List Int)) × Int)).bind fun x21 =>
   (idx x21.1 s3.2.2).bind fun v29 =>
   (idx v29 s3.2.2).bind fun v30 =>
   (chk (¬ a0 = 0)).bind fun _ =>
   (s_l01Inv a0 v30).bind fun v32 =>
   (loop (s_l02Det_L2 a0 s3 v32) BIG (x21.1,w64 (s3.2.2 + 1))).bind fun x33 =>
   some (.inl (x33,(w64 (x21.2 * v30)).tmod a0,w64 (s3.2.2 + 1))))
 else
  some (.inr (.inl s3.2.1)))
def s_l02Det (a0 : Int) (a1 : List (List Int)) : Option Int :=
 (s_l01Own2 a1).bind fun v1 =>
 (loop (s_l02Det_L0 a0) BIG (v1,1,0)).bind fun x3 =>
 (match x3 with
 | .inl y5 =>
  some y5
 | .inr t => some t)

def i_field_determinant_L1 (s3 : (List (List Int)) × Int × Int) (s10 : Int) : Option (Int ⊕ Int) :=
 ((if s10 < (s3.1.length : Int) then
  (idx s3.1 s10).bind fun v14 =>
  (idx v14 s3.2.2).bind fun v15 =>
  some (ieq v15 0)
 else
  some false) : Option Bool).bind fun x16 =>
 (if x16 = true then
  some (.inl (w64 (s10 + 1)))
 else
  some (.inr s10))
def i_field_determinant_L2 (a0 : Int) (s3 : (List (List Int)) × Int × Int) (s31 : (List (List Int)) × Int) : Option (((List (List Int)) × Int) ⊕ (List (List Int))) :=
 (if s31.2 < (s31.1.length : Int) then
  (idx s31.1 s31.2).bind fun v36 =>
  (idx s31.1 s3.2.2).bind fun v37 =>
  (idx v36 s3.2.2).bind fun v38 =>
  (idx v37 s3.2.2).bind fun v39 =>
  (i_field_inv a0 v39).bind fun v40 =>
  (i_field_plus a0 v36 v37 (w64 ((w64 (0 - v38)) * v40))).bind fun v41 =>
  some (.inl (s31.1.set s31.2.toNat v41,w64 (s31.2 + 1)))
 else
  some (.inr s31.1))
def i_field_determinant_L0 (a0 : Int) (v1 : List (List Int)) (s3 : (List (List Int)) × Int × Int) : Option (((List (List Int)) × Int × Int) ⊕ (Int ⊕ Int)) :=
 (if s3.2.2 < (v1.length : Int) then
  (loop (i_field_determinant_L1 s3) BIG s3.2.2).bind fun x10 =>
  (if x10 = (s3.1.length : Int) then
   some (.inr (.inr 0))
  else
   ((if ¬ x10 = s3.2.2 then
    (idx s3.1 x10).bind fun v24 =>
    (idx s3.1 s3.2.2).bind fun v25 =>
    (idx (s3.1.set s3.2.2.toNat v24) x10).bind fun v26 =>
    (i_field_num a0 (w64 (0 - s3.2.1))).bind fun v27 =>
    some ((s3.1.set s3.2.2.toNat v24).set x10.toNat v25,v27)
   else
    some (s3.1,s3.2.1)) : Option ((List (List Int)) × Int)).bind fun x21 =>
   (idx x21.1 s3.2.2).bind fun v28 =>
   (idx v28 s3.2.2).bind fun v29 =>
   (i_field_num a0 (w64 (x21.2 * v29))).bind fun v30 =>
   (loop (i_field_determinant_L2 a0 s3) BIG (x21.1,w64 (s3.2.2 + 1))).bind fun x31 =>
   some (.inl (x31,v30,w64 (s3.2.2 + 1))))
 else
  some (.inr (.inl s3.2.1)))
def i_field_determinant (a0 : Int) (a1 : List (List Int)) : Option Int :=
 (i_cloneRows a1).bind fun v1 =>
 (loop (i_field_determinant_L0 a0 v1) BIG (v1,1,0)).bind fun x3 =>
 (match x3 with
 | .inl y5 =>
  some y5
 | .inr t => some t)

def l_big (a0 : List Int) : Option Bool :=
 some (ilt 4096 (a0.length : Int))

end Go.Vam

namespace Go.Vam
open Go Go.RowKit
set_option maxRecDepth 100000
set_option linter.unusedSimpArgs false
set_option linter.unusedVariables false

def s_l02First_L0 (a0 : List Int) (s2 : Int) : Option (Int ⊕ (Unit ⊕ Int)) :=
 (if s2 < (a0.length : Int) then
  (idx a0 s2).bind fun v8 =>
  (if ¬ v8 = 0 then
   some (.inr (.inr s2))
  else
   some (.inl (w64 (s2 + 1))))
 else
  some (.inr (.inl ())))
def s_l02First (a0 : List Int) : Option Int :=
 (loop (s_l02First_L0 a0) BIG 0).bind fun x2 =>
 (match x2 with
 | .inl y4 =>
  some (-1)
 | .inr t => some t)

def i_lead_L0 (a0 : List Int) (s2 : Int) : Option (Int ⊕ Int) :=
 ((if s2 < (a0.length : Int) then
  (idx a0 s2).bind fun v6 =>
  some (ieq v6 0)
 else
  some false) : Option Bool).bind fun x7 =>
 (if x7 = true then
  some (.inl (w64 (s2 + 1)))
 else
  some (.inr s2))
def i_lead (a0 : List Int) : Option Int :=
 (loop (i_lead_L0 a0) BIG 0).bind fun x2 =>
 some x2

def s_l03Pair_L0 (a0_0 : Int) (a0_1 : List Int) (a1 : List Int) (a2 : List Int) (s2 : Int × Int) : Option ((Int × Int) ⊕ Int) :=
 (if s2.2 < (a1.length : Int) then
  (idx a1 s2.2).bind fun v7 =>
  (idx a2 s2.2).bind fun v8 =>
  (chk (¬ a0_0 = 0)).bind fun _ =>
  (idx a0_1 s2.2).bind fun v10 =>
  (chk (¬ a0_0 = 0)).bind fun _ =>
  some (.inl ((w64 (s2.1 + (w64 (((w64 (v7 * v8)).tmod a0_0) * v10)))).tmod a0_0,w64 (s2.2 + 1)))
 else
  some (.inr s2.1))
def s_l03Pair (a0_0 : Int) (a0_1 : List Int) (a1 : List Int) (a2 : List Int) : Option Int :=
 (loop (s_l03Pair_L0 a0_0 a0_1 a1 a2) BIG (0,0)).bind fun x2 =>
 some x2

def s_l03Isometry_L1 (a0_1 : List Int) (a1_0 : Int) (a1_1 : List Int) (v12 : List (List Int)) (s14 : Int) (s20 : Int) : Option (Int ⊕ (Unit ⊕ (Int ⊕ (Unit ⊕ Bool)))) :=
 (if s20 ≤ s14 then
  ((if s14 = s20 then
   (idx a0_1 s14).bind fun v30 =>
   some v30
  else
   some 0) : Option Int).bind fun x27 =>
  (idx v12 s14).bind fun v31 =>
  (idx v12 s20).bind fun v32 =>
  (s_l03Pair a1_0 a1_1 v31 v32).bind fun v33 =>
  (if ¬ v33 = x27 then
   some (.inr (.inr (.inr (.inr false))))
  else
   some (.inl (w64 (s20 + 1))))
 else
  some (.inr (.inl ())))
def s_l03Isometry_L0 (a0_1 : List Int) (a1_0 : Int) (a1_1 : List Int) (v12 : List (List Int)) (s14 : Int) : Option (Int ⊕ (Unit ⊕ Bool)) :=
 (if s14 < (a0_1.length : Int) then
  (loop (s_l03Isometry_L1 a0_1 a1_0 a1_1 v12 s14) BIG 0).bind fun x20 =>
  (match x20 with
  | .inl y22 =>
   some (.inl (w64 (s14 + 1)))
  | .inr t => some t)
 else
  some (.inr (.inl ())))
def s_l03Isometry (a0_0 : Int) (a0_1 : List Int) (a1_0 : Int) (a1_1 : List Int) (a2 : List (List Int)) : Option Bool :=
 ((if ¬ a0_0 = a1_0 then
  some true
 else
  (if ¬ (a1_1.length : Int) = (a0_1.length : Int) then
   some true
  else
   (if ¬ (a2.length : Int) = (a0_1.length : Int) then
    some true
   else
    (s_l02Is a0_0 a2).bind fun v5 =>
    (if v5 = false then
     some true
    else
     (idx a2 0).bind fun v7 =>
     (if ¬ (v7.length : Int) = (a0_1.length : Int) then
      some true
     else
      (s_l02Det a0_0 a2).bind fun v9 =>
      some (ieq v9 0)))))) : Option Bool).bind fun x10 =>
 (if x10 = true then
  some false
 else
  (s_l02Turn a2).bind fun v12 =>
  (loop (s_l03Isometry_L0 a0_1 a1_0 a1_1 v12) BIG 0).bind fun x14 =>
  (match x14 with
  | .inl y16 =>
   some true
  | .inr t => some t))

def i_Space_weighted_L0 (a0_0 : Int) (a0_1 : List Int) (a1 : List Int) (s2 : (List Int) × Int) : Option (((List Int) × Int) ⊕ (List Int)) :=
 (if s2.2 < (a1.length : Int) then
  (idx a1 s2.2).bind fun v7 =>
  (i_Space_field a0_0 a0_1).bind fun v8 =>
  (idx a0_1 s2.2).bind fun v9 =>
  (i_field_num v8 (w64 (v7 * v9))).bind fun v10 =>
  (chk (s2.1.length + [v10].length ≤ 1099511627776)).bind fun _ =>
  some (.inl (s2.1 ++ [v10],w64 (s2.2 + 1)))
 else
  some (.inr s2.1))
def i_Space_weighted (a0_0 : Int) (a0_1 : List Int) (a1 : List Int) : Option (List Int) :=
 (loop (i_Space_weighted_L0 a0_0 a0_1 a1) BIG ([],0)).bind fun x2 =>
 some x2

def i_Space_pair (a0_0 : Int) (a0_1 : List Int) (a1 : List Int) (a2 : List Int) : Option Int :=
 (i_Space_field a0_0 a0_1).bind fun v1 =>
 (i_Space_weighted a0_0 a0_1 a1).bind fun v2 =>
 (i_field_dot v1 v2 a2).bind fun v3 =>
 some v3

def i_isIsometry_L1 (a0_1 : List Int) (a1_0 : Int) (a1_1 : List Int) (v18 : List (List Int)) (s20 : Int) (v26 : List Int) (s27 : Int) : Option (Int ⊕ (Unit ⊕ (Int ⊕ (Unit ⊕ Bool)))) :=
 (if s27 < (v18.length : Int) then
  (idx v18 s27).bind fun v33 =>
  ((if s20 = s27 then
   (idx a0_1 s20).bind fun v38 =>
   some v38
  else
   some 0) : Option Int).bind fun x35 =>
  (i_Space_pair a1_0 a1_1 v26 v33).bind fun v39 =>
  (if ¬ v39 = x35 then
   some (.inr (.inr (.inr (.inr false))))
  else
   some (.inl (w64 (s27 + 1))))
 else
  some (.inr (.inl ())))
def i_isIsometry_L0 (a0_1 : List Int) (a1_0 : Int) (a1_1 : List Int) (v18 : List (List Int)) (s20 : Int) : Option (Int ⊕ (Unit ⊕ Bool)) :=
 (if s20 < (v18.length : Int) then
  (idx v18 s20).bind fun v26 =>
  (loop (i_isIsometry_L1 a0_1 a1_0 a1_1 v18 s20 v26) BIG 0).bind fun x27 =>
  (match x27 with
  | .inl y29 =>
   some (.inl (w64 (s20 + 1)))
  | .inr t => some t)
 else
  some (.inr (.inl ())))
def i_isIsometry (a0_0 : Int) (a0_1 : List Int) (a1_0 : Int) (a1_1 : List Int) (a2 : List (List Int)) : Option Bool :=
 ((if ¬ a0_0 = a1_0 then
  some true
 else
  (i_Space_dim a0_0 a0_1).bind fun v3 =>
  (i_Space_dim a1_0 a1_1).bind fun v4 =>
  (if ¬ v3 = v4 then
   some true
  else
   (i_Space_field a0_0 a0_1).bind fun v6 =>
   (i_field_isMatrix v6 a2).bind fun v7 =>
   (if v7 = false then
    some true
   else
    (i_Space_dim a0_0 a0_1).bind fun v9 =>
    (if ¬ (a2.length : Int) = v9 then
     some true
    else
     (idx a2 0).bind fun v11 =>
     (i_Space_dim a0_0 a0_1).bind fun v12 =>
     (if ¬ (v11.length : Int) = v12 then
      some true
     else
      (i_Space_field a0_0 a0_1).bind fun v14 =>
      (i_field_determinant v14 a2).bind fun v15 =>
      some (ieq v15 0)))))) : Option Bool).bind fun x16 =>
 (if x16 = true then
  some false
 else
  (i_transpose a2).bind fun v18 =>
  (loop (i_isIsometry_L0 a0_1 a1_0 a1_1 v18) BIG 0).bind fun x20 =>
  (match x20 with
  | .inl y22 =>
   some true
  | .inr t => some t))

def i_checkOrthogonal (a0_0 : Int) (a0_1 : List Int) (a1 : List (List Int)) : Option Int :=
 (i_IsSpace a0_0 a0_1).bind fun v2 =>
 (if v2 = false then
  some 1
 else
  (i_Space_regular a0_0 a0_1).bind fun v4 =>
  (if v4 = false then
   some 5
  else
   (i_isIsometry a0_0 a0_1 a0_0 a0_1 a1).bind fun v6 =>
   (if v6 = false then
    some 2
   else
    some 0)))

def i_IsProper (a0_0 : Int) (a0_1 : List Int) (a1 : List (List Int)) : Option (Bool × Int) :=
 (i_checkOrthogonal a0_0 a0_1 a1).bind fun v2 =>
 (if ¬ v2 = 0 then
  some (false,v2)
 else
  (i_Space_field a0_0 a0_1).bind fun v4 =>
  (i_field_determinant v4 a1).bind fun v5 =>
  some (ieq v5 1,0))

end Go.Vam

namespace Go.Vam
open Go Go.RowKit
set_option maxRecDepth 100000
set_option linter.unusedSimpArgs false
set_option linter.unusedVariables false

end Go.Vam

namespace Go.Vam
open Go Go.RowKit
set_option maxRecDepth 100000
set_option linter.unusedSimpArgs false
set_option linter.unusedVariables false

def s_l01Root_L0 (a0 : Int) (a1 : Int) (s2 : Int) : Option (Int ⊕ (Unit ⊕ Int)) :=
 (if s2 < a0 then
  (chk (¬ a0 = 0)).bind fun _ =>
  (if ((w64 (s2 * s2)).tmod a0) = a1 then
   some (.inr (.inr s2))
  else
   some (.inl (w64 (s2 + 1))))
 else
  some (.inr (.inl ())))
def s_l01Root (a0 : Int) (a1 : Int) : Option Int :=
 (loop (s_l01Root_L0 a0 a1) BIG 0).bind fun x2 =>
 (match x2 with
 | .inl y4 =>
  some (-1)
 | .inr t => some t)

def i_Space_norm (a0_0 : Int) (a0_1 : List Int) (a1 : List Int) : Option Int :=
 (i_Space_pair a0_0 a0_1 a1 a1).bind fun v1 =>
 some v1

def i_field_root_L0 (a0 : Int) (a1 : Int) (s2 : Int) : Option (Int ⊕ (Unit ⊕ (Int × Bool))) :=
 (if s2 < a0 then
  (i_field_num a0 (w64 (s2 * s2))).bind fun v8 =>
  (if v8 = a1 then
   some (.inr (.inr (s2,true)))
  else
   some (.inl (w64 (s2 + 1))))
 else
  some (.inr (.inl ())))
def i_field_root (a0 : Int) (a1 : Int) : Option (Int × Bool) :=
 (loop (i_field_root_L0 a0 a1) BIG 0).bind fun x2 =>
 (match x2 with
 | .inl y4 =>
  some (0,false)
 | .inr t => some t)

def i_field_isSquare (a0 : Int) (a1 : Int) : Option Bool :=
 (i_field_root a0 a1).bind fun v1 =>
 some v1.2

end Go.Vam

namespace Go.Vam
open Go Go.RowKit
set_option maxRecDepth 100000
set_option linter.unusedSimpArgs false
set_option linter.unusedVariables false

end Go.Vam

namespace Go.Vam
open Go Go.RowKit
set_option maxRecDepth 100000
set_option linter.unusedSimpArgs false
set_option linter.unusedVariables false

def s_l01From_L0 (a0 : List Int) (s2 : (List Int) × Int × Int × Int) : Option (((List Int) × Int × Int × Int) ⊕ ((List Int) × Int × Int)) :=
 ((if s2.2.2.2 < (a0.length : Int) then
  some (ilt s2.2.2.2 4096)
 else
  some false) : Option Bool).bind fun x6 =>
 (if x6 = true then
  (idx a0 s2.2.2.2).bind fun v9 =>
  some (.inl (s2.1,s2.2.1,IntKind.u64.wrap ((IntKind.u64.wrap ((IntKind.u64.wrap (s2.2.2.1 * 1099511628211)) + (IntKind.u64.wrap (v9)))) + 11),w64 (s2.2.2.2 + 1)))
 else
  some (.inr (s2.1,s2.2.1,s2.2.2.1)))
def s_l01From (a0 : List Int) : Option ((List Int) × Int × Int) :=
 (loop (s_l01From_L0 a0) BIG (a0,0,IntKind.u64.wrap (4409 + (IntKind.u64.wrap ((a0.length : Int)))),0)).bind fun x2 =>
 some (x2.1,x2.2.1,x2.2.2)

def s_l01Next (a0_0 : List Int) (a0_1 : Int) (a0_2 : Int) (a1 : Int) : Option (Int × ((List Int) × Int × Int)) :=
 (if a1 < 1 then
  some (0,(a0_0,a0_1,a0_2))
 else
  ((if a0_1 < (a0_0.length : Int) then
   (idx a0_0 a0_1).bind fun v7 =>
   some (a0_0,w64 (a0_1 + 1),IntKind.u64.wrap ((IntKind.u64.wrap (a0_2 * 6364136223846793005)) + 1442695040888963407),w64 ((w64 (band .u64 (shr .u64 (IntKind.u64.wrap ((IntKind.u64.wrap (a0_2 * 6364136223846793005)) + 1442695040888963407)) 33) 16777215)) + (w64 (v7))))
  else
   some (a0_0,a0_1,IntKind.u64.wrap ((IntKind.u64.wrap (a0_2 * 6364136223846793005)) + 1442695040888963407),w64 (band .u64 (shr .u64 (IntKind.u64.wrap ((IntKind.u64.wrap (a0_2 * 6364136223846793005)) + 1442695040888963407)) 33) 16777215))) : Option ((List Int) × Int × Int × Int)).bind fun x4 =>
  (chk (¬ a1 = 0)).bind fun _ =>
  some (x4.2.2.2.tmod a1,(x4.1,x4.2.1,x4.2.2.1)))

def s_l01Pick (a0_0 : List Int) (a0_1 : Int) (a0_2 : Int) (a1 : List Int) : Option (Int × ((List Int) × Int × Int)) :=
 (s_l01Next a0_0 a0_1 a0_2 (a1.length : Int)).bind fun v1 =>
 (idx a1 v1.1).bind fun v2 =>
 some (v2,(v1.2.1,v1.2.2.1,v1.2.2.2))

def s_l01DrawPrime (a0_0 : List Int) (a0_1 : Int) (a0_2 : Int) : Option (Int × ((List Int) × Int × Int)) :=
 (s_l01Pick a0_0 a0_1 a0_2 [3,5,7,11,13,3,5,7]).bind fun v1 =>
 some (v1.1,(v1.2.1,v1.2.2.1,v1.2.2.2))

def l_likeInts_L0 (a0 : List Int) (a1 : List Int) (s4 : Int) : Option (Int ⊕ (Unit ⊕ Bool)) :=
 (if s4 < (a0.length : Int) then
  (idx a0 s4).bind fun v10 =>
  (idx a1 s4).bind fun v11 =>
  (if ¬ v10 = v11 then
   some (.inr (.inr false))
  else
   some (.inl (w64 (s4 + 1))))
 else
  some (.inr (.inl ())))
def l_likeInts (a0 : List Int) (a1 : List Int) : Option Bool :=
 (if ¬ (a0.length : Int) = (a1.length : Int) then
  some false
 else
  (loop (l_likeInts_L0 a0 a1) BIG 0).bind fun x4 =>
  (match x4 with
  | .inl y6 =>
   some true
  | .inr t => some t))

def l_likeRows5_L0 (a0 : List (List Int)) (a1 : List (List Int)) (s4 : Int) : Option (Int ⊕ (Unit ⊕ Bool)) :=
 (if s4 < (a0.length : Int) then
  (idx a0 s4).bind fun v10 =>
  (idx a1 s4).bind fun v11 =>
  (l_likeInts v10 v11).bind fun v12 =>
  (if v12 = false then
   some (.inr (.inr false))
  else
   some (.inl (w64 (s4 + 1))))
 else
  some (.inr (.inl ())))
def l_likeRows5 (a0 : List (List Int)) (a1 : List (List Int)) : Option Bool :=
 (if ¬ (a0.length : Int) = (a1.length : Int) then
  some false
 else
  (loop (l_likeRows5_L0 a0 a1) BIG 0).bind fun x4 =>
  (match x4 with
  | .inl y6 =>
   some true
  | .inr t => some t))

def l_roll_L0 (a0 : List Int) (s2 : (List Int) × Int × Int × Int) : Option (((List Int) × Int × Int × Int) ⊕ ((List Int) × Int × Int)) :=
 (if s2.2.2.2 < (a0.length : Int) then
  (idx a0 s2.2.2.2).bind fun v7 =>
  some (.inl (s2.1,s2.2.1,IntKind.u64.wrap ((IntKind.u64.wrap ((IntKind.u64.wrap (s2.2.2.1 * 1099511628211)) + (IntKind.u64.wrap (v7)))) + 5),w64 (s2.2.2.2 + 1)))
 else
  some (.inr (s2.1,s2.2.1,s2.2.2.1)))
def l_roll (a0 : List Int) (a1 : Int) : Option ((List Int) × Int × Int) :=
 (loop (l_roll_L0 a0) BIG (a0,0,IntKind.u64.wrap ((IntKind.u64.wrap (a1 * 7681)) + (IntKind.u64.wrap ((a0.length : Int)))),0)).bind fun x2 =>
 some (x2.1,x2.2.1,x2.2.2)

def g_p_laws_dice_below (a0_0 : List Int) (a0_1 : Int) (a0_2 : Int) (a1 : Int) : Option (Int × ((List Int) × Int × Int)) :=
 (if a1 < 1 then
  some (0,(a0_0,a0_1,a0_2))
 else
  ((if a0_1 < (a0_0.length : Int) then
   (idx a0_0 a0_1).bind fun v7 =>
   some (a0_0,w64 (a0_1 + 1),IntKind.u64.wrap ((IntKind.u64.wrap (a0_2 * 6364136223846793005)) + 1442695040888963407),w64 ((w64 (band .u64 (shr .u64 (IntKind.u64.wrap ((IntKind.u64.wrap (a0_2 * 6364136223846793005)) + 1442695040888963407)) 33) 16777215)) + (w64 (v7))))
  else
   some (a0_0,a0_1,IntKind.u64.wrap ((IntKind.u64.wrap (a0_2 * 6364136223846793005)) + 1442695040888963407),w64 (band .u64 (shr .u64 (IntKind.u64.wrap ((IntKind.u64.wrap (a0_2 * 6364136223846793005)) + 1442695040888963407)) 33) 16777215))) : Option ((List Int) × Int × Int × Int)).bind fun x4 =>
  (chk (¬ a1 = 0)).bind fun _ =>
  some (x4.2.2.2.tmod a1,(x4.1,x4.2.1,x4.2.2.1)))

end Go.Vam

namespace Go.Vam
open Go Go.RowKit
set_option maxRecDepth 100000
set_option linter.unusedSimpArgs false
set_option linter.unusedVariables false

end Go.Vam

namespace Go.Vam
open Go Go.RowKit
set_option maxRecDepth 100000
set_option linter.unusedSimpArgs false
set_option linter.unusedVariables false



end Go.Vam

namespace Go.Vam
open Go Go.RowKit
set_option maxRecDepth 100000
set_option linter.unusedSimpArgs false
set_option linter.unusedVariables false

end Go.Vam

namespace Go.Vam
open Go Go.RowKit
set_option maxRecDepth 100000
set_option linter.unusedSimpArgs false
set_option linter.unusedVariables false

end Go.Vam

namespace Go.Vam
open Go Go.RowKit
set_option maxRecDepth 100000
set_option linter.unusedSimpArgs false
set_option linter.unusedVariables false

def i_checkSpaces_c1 (a0_0 : Int) (a0_1 : List Int) : Option Bool :=
 (i_IsSpace a0_0 a0_1).bind fun v1 =>
 some (!v1)

def g_slices_IndexFunc_Limpl_Space_impl_Space_of_i_checkSpaces_c1_L0 (a0 : List (Int × (List Int))) (s2 : Int) : Option (Int ⊕ (Unit ⊕ Int)) :=
 (if s2 < (a0.length : Int) then
  (idx a0 s2).bind fun v8 =>
  (i_checkSpaces_c1 v8.1 v8.2).bind fun v9 =>
  (if v9 = true then
   some (.inr (.inr s2))
  else
   some (.inl (w64 (s2 + 1))))
 else
  some (.inr (.inl ())))
def g_slices_IndexFunc_Limpl_Space_impl_Space_of_i_checkSpaces_c1 (a0 : List (Int × (List Int))) : Option Int :=
 (loop (g_slices_IndexFunc_Limpl_Space_impl_Space_of_i_checkSpaces_c1_L0 a0) BIG 0).bind fun x2 =>
 (match x2 with
 | .inl y4 =>
  some (-1)
 | .inr t => some t)

def g_slices_ContainsFunc_Limpl_Space_impl_Space_of_i_checkSpaces_c1 (a0 : List (Int × (List Int))) : Option Bool :=
 (g_slices_IndexFunc_Limpl_Space_impl_Space_of_i_checkSpaces_c1 a0).bind fun v1 =>
 some (ile 0 v1)

def i_checkSpaces (a0 : List (Int × (List Int))) : Option Int :=
 (g_slices_ContainsFunc_Limpl_Space_impl_Space_of_i_checkSpaces_c1 a0).bind fun v2 =>
 (if v2 = true then
  some 1
 else
  some 0)

def i_IsIsometry (a0_0 : Int) (a0_1 : List Int) (a1_0 : Int) (a1_1 : List Int) (a2 : List (List Int)) : Option (Bool × Int) :=
 (i_checkSpaces [(a0_0,a0_1),(a1_0,a1_1)]).bind fun v2 =>
 (if ¬ v2 = 0 then
  some (false,v2)
 else
  (i_isIsometry a0_0 a0_1 a1_0 a1_1 a2).bind fun v4 =>
  some (v4,0))

end Go.Vam

namespace Go.Vam
open Go Go.RowKit
set_option maxRecDepth 100000
set_option linter.unusedSimpArgs false
set_option linter.unusedVariables false

end Go.Vam

namespace Go.Vam
open Go Go.RowKit
set_option maxRecDepth 100000
set_option linter.unusedSimpArgs false
set_option linter.unusedVariables false

end Go.Vam

namespace Go.Vam
open Go Go.RowKit
set_option maxRecDepth 100000
set_option linter.unusedSimpArgs false
set_option linter.unusedVariables false

end Go.Vam

namespace Go.Vam
open Go Go.RowKit
set_option maxRecDepth 100000
set_option linter.unusedSimpArgs false
set_option linter.unusedVariables false

def s_l03Any_L0 (v1 : Int × ((List Int) × Int × Int)) (s4 : (List Int) × Int × Int × Int × (List Int) × Int) : Option (((List Int) × Int × Int × Int × (List Int) × Int) ⊕ ((List Int) × Int × Int × Int × (List Int))) :=
 (if 0 < s4.2.2.2.2.2 then
  (s_l01Next s4.1 s4.2.1 s4.2.2.1 (w64 (v1.1 - 1))).bind fun v9 =>
  (s_l01Pick v9.2.1 v9.2.2.1 v9.2.2.2 [1,w64 (v1.1 - 1),w64 (1 + v9.1),1]).bind fun v10 =>
  (s_l01Next v10.2.1 v10.2.2.1 v10.2.2.2 10).bind fun v12 =>
  ((if v12.1 = 0 then
   some 0
  else
   some v10.1) : Option Int).bind fun x13 =>
  (chk (s4.2.2.2.2.1.length + [x13].length ≤ 1099511627776)).bind fun _ =>
  some (.inl (v12.2.1,v12.2.2.1,v12.2.2.2,s4.2.2.2.1,s4.2.2.2.2.1 ++ [x13],w64 (s4.2.2.2.2.2 - 1)))
 else
  some (.inr (s4.1,s4.2.1,s4.2.2.1,s4.2.2.2.1,s4.2.2.2.2.1)))
def s_l03Any (a0_0 : List Int) (a0_1 : Int) (a0_2 : Int) (a1 : Int) : Option ((Int × (List Int)) × ((List Int) × Int × Int)) :=
 (s_l01DrawPrime a0_0 a0_1 a0_2).bind fun v1 =>
 (s_l01Next v1.2.1 v1.2.2.1 v1.2.2.2 a1).bind fun v3 =>
 (loop (s_l03Any_L0 v1) BIG (v3.2.1,v3.2.2.1,v3.2.2.2,v1.1,[],w64 (1 + v3.1))).bind fun x4 =>
 some ((x4.2.2.2.1,x4.2.2.2.2),(x4.1,x4.2.1,x4.2.2.1))

def s_DrawAllOrthogonal_L0 (s8 : Int × (List Int) × Int) : Option ((Int × (List Int) × Int) ⊕ (Int × (List Int))) :=
 (if s8.2.2 < (s8.2.1.length : Int) then
  (idx s8.2.1 s8.2.2).bind fun v13 =>
  some (.inl (s8.1,s8.2.1.set s8.2.2.toNat (w64 (1 + (v13.tmod 2))),w64 (s8.2.2 + 1)))
 else
  some (.inr (s8.1,s8.2.1)))
def s_DrawAllOrthogonal (a0 : List Int) : Option (Int × (List Int)) :=
 (s_l01From a0).bind fun v1 =>
 (s_l03Any v1.1 v1.2.1 v1.2.2 3).bind fun v2 =>
 (s_l01Next v2.2.1 v2.2.2.1 v2.2.2.2 3).bind fun v4 =>
 ((if 0 < v4.1 then
  (loop s_DrawAllOrthogonal_L0 BIG (3,v2.1.2,0)).bind fun x8 =>
  some (x8.1,x8.2)
 else
  some (v2.1.1,v2.1.2)) : Option (Int × (List Int))).bind fun x5 =>
 some (x5.1,x5.2)

def i_whole_L0 (a0 : Int) (a1 : Int) (s2 : Int × Int) : Option ((Int × Int) ⊕ Int) :=
 (if s2.2 < a1 then
  some (.inl (w64 (s2.1 * a0),w64 (s2.2 + 1)))
 else
  some (.inr s2.1))
def i_whole (a0 : Int) (a1 : Int) : Option Int :=
 (loop (i_whole_L0 a0 a1) BIG (1,0)).bind fun x2 =>
 some x2

def i_Space_discriminant_L0 (a0_0 : Int) (a0_1 : List Int) (s2 : Int × Int) : Option ((Int × Int) ⊕ Int) :=
 (if s2.2 < (a0_1.length : Int) then
  (idx a0_1 s2.2).bind fun v7 =>
  (i_Space_field a0_0 a0_1).bind fun v8 =>
  (i_field_num v8 (w64 (s2.1 * v7))).bind fun v9 =>
  some (.inl (v9,w64 (s2.2 + 1)))
 else
  some (.inr s2.1))
def i_Space_discriminant (a0_0 : Int) (a0_1 : List Int) : Option Int :=
 (loop (i_Space_discriminant_L0 a0_0 a0_1) BIG (1,0)).bind fun x2 =>
 some x2

def i_WittIndex (a0_0 : Int) (a0_1 : List Int) : Option (Int × Int) :=
 (i_IsSpace a0_0 a0_1).bind fun v2 =>
 (if v2 = false then
  some (0,1)
 else
  (i_Space_regular a0_0 a0_1).bind fun v5 =>
  (if v5 = false then
   some (0,5)
  else
   (i_Space_dim a0_0 a0_1).bind fun v7 =>
   ((i_Space_dim a0_0 a0_1).bind fun v9 =>
   (if (v9.tmod 2) = 0 then
    (i_Space_field a0_0 a0_1).bind fun v11 =>
    (i_Space_field a0_0 a0_1).bind fun v12 =>
    (i_Space_discriminant a0_0 a0_1).bind fun v13 =>
    (i_field_num v12 (w64 (v13 * (w64 (1 - (w64 (2 * ((w64 (v7.tdiv 2)).tmod 2)))))))).bind fun v14 =>
    (i_field_isSquare v11 v14).bind fun v15 =>
    some (!v15)
   else
    some false) : Option Bool).bind fun x16 =>
   ((if x16 = true then
    some (w64 ((w64 (v7.tdiv 2)) - 1))
   else
    some (w64 (v7.tdiv 2))) : Option Int).bind fun x17 =>
   some (x17,0)))

def i_Space_countOrthogonal_L0 (a0_0 : Int) (v1 : Int) (s7 : Int × Int) : Option ((Int × Int) ⊕ Int) :=
 (if s7.2 ≤ (w64 (v1.tdiv 2)) then
  (i_whole a0_0 (w64 (2 * s7.2))).bind fun v12 =>
  some (.inl (w64 (s7.1 * (w64 (v12 - 1))),w64 (s7.2 + 1)))
 else
  some (.inr s7.1))
def i_Space_countOrthogonal_L1 (a0_0 : Int) (v1 : Int) (s21 : Int × Int) : Option ((Int × Int) ⊕ Int) :=
 (if s21.2 < (w64 (v1.tdiv 2)) then
  (i_whole a0_0 (w64 (2 * s21.2))).bind fun v26 =>
  some (.inl (w64 (s21.1 * (w64 (v26 - 1))),w64 (s21.2 + 1)))
 else
  some (.inr s21.1))
def i_Space_countOrthogonal (a0_0 : Int) (a0_1 : List Int) : Option Int :=
 (i_Space_dim a0_0 a0_1).bind fun v1 =>
 (i_Space_dim a0_0 a0_1).bind fun v3 =>
 (if (v3.tmod 2) = 1 then
  (i_whole a0_0 (w64 ((w64 (v1.tdiv 2)) * (w64 (v1.tdiv 2))))).bind fun v5 =>
  (loop (i_Space_countOrthogonal_L0 a0_0 v1) BIG (w64 (2 * v5),1)).bind fun x7 =>
  some x7
 else
  (i_WittIndex a0_0 a0_1).bind fun v13 =>
  ((if v13.1 = (w64 (v1.tdiv 2)) then
   some 1
  else
   some (-1)) : Option Int).bind fun x15 =>
  (i_whole a0_0 (w64 ((w64 (v1.tdiv 2)) * (w64 ((w64 (v1.tdiv 2)) - 1))))).bind fun v18 =>
  (i_whole a0_0 (w64 (v1.tdiv 2))).bind fun v19 =>
  (loop (i_Space_countOrthogonal_L1 a0_0 v1) BIG (w64 (2 * (w64 (v18 * (w64 (v19 - x15))))),1)).bind fun x21 =>
  some x21)

def i_CountOrthogonal (a0_0 : Int) (a0_1 : List Int) : Option (Int × Int) :=
 (i_IsSpace a0_0 a0_1).bind fun v2 =>
 (if v2 = false then
  some (0,1)
 else
  (i_Space_regular a0_0 a0_1).bind fun v4 =>
  (if v4 = false then
   some (0,5)
  else
   (i_Space_countOrthogonal a0_0 a0_1).bind fun v6 =>
   some (v6,0)))

end Go.Vam

namespace Go.Vam
open Go Go.RowKit
set_option maxRecDepth 100000
set_option linter.unusedSimpArgs false
set_option linter.unusedVariables false

end Go.Vam

namespace Go.Vam
open Go Go.RowKit
set_option maxRecDepth 100000
set_option linter.unusedSimpArgs false
set_option linter.unusedVariables false

end Go.Vam

namespace Go.Vam
open Go Go.RowKit
set_option maxRecDepth 100000
set_option linter.unusedSimpArgs false
set_option linter.unusedVariables false

end Go.Vam

namespace Go.Vam
open Go Go.RowKit
set_option maxRecDepth 100000
set_option linter.unusedSimpArgs false
set_option linter.unusedVariables false

end Go.Vam

namespace Go.Vam
open Go Go.RowKit
set_option maxRecDepth 100000
set_option linter.unusedSimpArgs false
set_option linter.unusedVariables false

end Go.Vam

namespace Go.Vam
open Go Go.RowKit
set_option maxRecDepth 100000
set_option linter.unusedSimpArgs false
set_option linter.unusedVariables false

end Go.Vam

namespace Go.Vam
open Go Go.RowKit
set_option maxRecDepth 100000
set_option linter.unusedSimpArgs false
set_option linter.unusedVariables false

def i_IsometryOf_c1_c1 (a0 : List Int) (a1_0 : Int) (a1_1 : List Int) (a2_0 : List Int) : Option Bool :=
 (i_Space_pair a1_0 a1_1 a2_0 a0).bind fun v1 =>
 some (!(ieq v1 0))

def g_slices_IndexFunc_LLI_LI_of_i_IsometryOf_c1_c1_L0 (a0 : List (List Int)) (a1_0_0 : Int) (a1_0_1 : List Int) (a1_1_0 : List Int) (s2 : Int) : Option (Int ⊕ (Unit ⊕ Int)) :=
 (if s2 < (a0.length : Int) then
  (idx a0 s2).bind fun v8 =>
  (i_IsometryOf_c1_c1 v8 a1_0_0 a1_0_1 a1_1_0).bind fun v9 =>
  (if v9 = true then
   some (.inr (.inr s2))
  else
   some (.inl (w64 (s2 + 1))))
 else
  some (.inr (.inl ())))
def g_slices_IndexFunc_LLI_LI_of_i_IsometryOf_c1_c1 (a0 : List (List Int)) (a1_0_0 : Int) (a1_0_1 : List Int) (a1_1_0 : List Int) : Option Int :=
 (loop (g_slices_IndexFunc_LLI_LI_of_i_IsometryOf_c1_c1_L0 a0 a1_0_0 a1_0_1 a1_1_0) BIG 0).bind fun x2 =>
 (match x2 with
 | .inl y4 =>
  some (-1)
 | .inr t => some t)

def g_slices_ContainsFunc_LLI_LI_of_i_IsometryOf_c1_c1 (a0 : List (List Int)) (a1_0_0 : Int) (a1_0_1 : List Int) (a1_1_0 : List Int) : Option Bool :=
 (g_slices_IndexFunc_LLI_LI_of_i_IsometryOf_c1_c1 a0 a1_0_0 a1_0_1 a1_1_0).bind fun v1 =>
 some (ile 0 v1)

def i_Space_vectors_of_i_IsometryOf_c1_L1 (a0_0 : Int) (s10 : (List Int) × Int) : Option (((List Int) × Int) ⊕ ((List Int) × Int)) :=
 ((if 0 ≤ s10.2 then
  (idx s10.1 s10.2).bind fun v14 =>
  some (ieq v14 (w64 (a0_0 - 1)))
 else
  some false) : Option Bool).bind fun x15 =>
 (if x15 = true then
  (idx s10.1 s10.2).bind fun v17 =>
  some (.inl (s10.1.set s10.2.toNat 0,w64 (s10.2 - 1)))
 else
  some (.inr (s10.1,s10.2)))
def s_l03Next_L0 (a0 : Int) (s2 : (List Int) × Int) : Option (((List Int) × Int) ⊕ ((List Int) ⊕ (Bool × (List Int)))) :=
 (if 0 ≤ s2.2 then
  (idx s2.1 s2.2).bind fun v8 =>
  (some (s2.1.set s2.2.toNat (w64 (v8 + 1)))).bind fun l10 =>
  (idx l10 s2.2).bind fun v11 =>
  (if v11 < a0 then
   some (.inr (.inr (true,l10)))
  else
   some (.inl (l10.set s2.2.toNat 0,w64 (s2.2 - 1))))
 else
  some (.inr (.inl s2.1)))
def s_l03Next (a0 : Int) (a1 : List Int) : Option (Bool × (List Int)) :=
 (loop (s_l03Next_L0 a0) BIG (a1,w64 ((a1.length : Int) - 1))).bind fun x2 =>
 (match x2 with
 | .inl y4 =>
  some (false,y4)
 | .inr t => some t)

def s_IsometryOf_L2 (a1_0 : Int) (a1_1 : List Int) (s20 : (List (List Int)) × Int) (v30 : Bool × (List Int)) (s35 : Bool × Int) : Option ((Bool × Int) ⊕ Bool) :=
 ((if s35.2 < (s20.1.length : Int) then
  some s35.1
 else
  some false) : Option Bool).bind fun x39 =>
 (if x39 = true then
  (idx s20.1 s35.2).bind fun v42 =>
  (s_l03Pair a1_0 a1_1 v30.2 v42).bind fun v43 =>
  some (.inl (ieq v43 0,w64 (s35.2 + 1)))
 else
  some (.inr s35.1))
end Go.Vam

namespace Go.Vam
open Go Go.RowKit
set_option maxRecDepth 100000
set_option linter.unusedSimpArgs false
set_option linter.unusedVariables false

def i_Space_growOrthogonal_c1_c1 (a0 : List Int) (a1_0 : Int) (a1_1 : List Int) (a2_0 : List Int) : Option Bool :=
 (i_Space_pair a1_0 a1_1 a2_0 a0).bind fun v1 =>
 some (!(ieq v1 0))

def g_slices_IndexFunc_LLI_LI_of_i_Space_growOrthogonal_c1_c1_L0 (a0 : List (List Int)) (a1_0_0 : Int) (a1_0_1 : List Int) (a1_1_0 : List Int) (s2 : Int) : Option (Int ⊕ (Unit ⊕ Int)) :=
 (if s2 < (a0.length : Int) then
  (idx a0 s2).bind fun v8 =>
  (i_Space_growOrthogonal_c1_c1 v8 a1_0_0 a1_0_1 a1_1_0).bind fun v9 =>
  (if v9 = true then
   some (.inr (.inr s2))
  else
   some (.inl (w64 (s2 + 1))))
 else
  some (.inr (.inl ())))
def g_slices_IndexFunc_LLI_LI_of_i_Space_growOrthogonal_c1_c1 (a0 : List (List Int)) (a1_0_0 : Int) (a1_0_1 : List Int) (a1_1_0 : List Int) : Option Int :=
 (loop (g_slices_IndexFunc_LLI_LI_of_i_Space_growOrthogonal_c1_c1_L0 a0 a1_0_0 a1_0_1 a1_1_0) BIG 0).bind fun x2 =>
 (match x2 with
 | .inl y4 =>
  some (-1)
 | .inr t => some t)

def g_slices_ContainsFunc_LLI_LI_of_i_Space_growOrthogonal_c1_c1 (a0 : List (List Int)) (a1_0_0 : Int) (a1_0_1 : List Int) (a1_1_0 : List Int) : Option Bool :=
 (g_slices_IndexFunc_LLI_LI_of_i_Space_growOrthogonal_c1_c1 a0 a1_0_0 a1_0_1 a1_1_0).bind fun v1 =>
 some (ile 0 v1)

def i_Space_growOrthogonal_c1 (self : Int → (List Int) → (List (List Int)) → (List (List (List Int))) → Option (List (List (List Int)))) (a0 : List Int) (a1_0 : Int) (a1_1 : List Int) (a2_0 : Int) (a3_0 : List (List Int)) (a4_0 : List (List (List Int))) : Option (Bool × Int × (List (List (List Int)))) :=
 ((i_Space_norm a1_0 a1_1 a0).bind fun v2 =>
 (idx a1_1 a2_0).bind fun v3 =>
 (if v2 = v3 then
  (g_slices_ContainsFunc_LLI_LI_of_i_Space_growOrthogonal_c1_c1 a3_0 a1_0 a1_1 a0).bind fun v5 =>
  some (!v5)
 else
  some false) : Option Bool).bind fun x6 =>
 ((if x6 = true then
  (g_slices_Clone_LLI_LI a3_0).bind fun v10 =>
  (g_slices_Clone_LI_I a0).bind fun v11 =>
  (chk (v10.length + [v11].length ≤ 1099511627776)).bind fun _ =>
  (self a1_0 a1_1 (v10 ++ [v11]) a4_0).bind fun v13 =>
  some v13
 else
  some a4_0) : Option (List (List (List Int)))).bind fun x7 =>
 some (false,a2_0,x7)

def i_Space_vectors_of_i_Space_growOrthogonal_c1_L1 (a0_0 : Int) (s10 : (List Int) × Int) : Option (((List Int) × Int) ⊕ ((List Int) × Int)) :=
 ((if 0 ≤ s10.2 then
  (idx s10.1 s10.2).bind fun v14 =>
  some (ieq v14 (w64 (a0_0 - 1)))
 else
  some false) : Option Bool).bind fun x15 =>
 (if x15 = true then
  (idx s10.1 s10.2).bind fun v17 =>
  some (.inl (s10.1.set s10.2.toNat 0,w64 (s10.2 - 1)))
 else
  some (.inr (s10.1,s10.2)))
def i_Space_vectors_of_i_Space_growOrthogonal_c1_L0 (a0_0 : Int) (a1_0 : Int) (a1_1 : List Int) (a3_0 : List (List Int)) (self : Int → (List Int) → (List (List Int)) → (List (List (List Int))) → Option (List (List (List Int)))) (s3 : (List Int) × Int × (List (List (List Int)))) : Option (((List Int) × Int × (List (List (List Int)))) ⊕ (Unit ⊕ (Bool × Int × (List (List (List Int)))))) :=
 (i_Space_growOrthogonal_c1 self s3.1 a1_0 a1_1 s3.2.1 a3_0 s3.2.2).bind fun v7 =>
 (if v7.1 = true then
  some (.inr (.inr (true,v7.2.1,v7.2.2)))
 else
  (loop (i_Space_vectors_of_i_Space_growOrthogonal_c1_L1 a0_0) BIG (s3.1,w64 ((s3.1.length : Int) - 1))).bind fun x10 =>
  (if x10.2 < 0 then
   some (.inr (.inr (false,v7.2.1,v7.2.2)))
  else
   (idx x10.1 x10.2).bind fun v20 =>
   some (.inl (x10.1.set x10.2.toNat (w64 (v20 + 1)),v7.2.1,v7.2.2))))
def i_Space_vectors_of_i_Space_growOrthogonal_c1 (self : Int → (List Int) → (List (List Int)) → (List (List (List Int))) → Option (List (List (List Int)))) (a0_0 : Int) (a0_1 : List Int) (a1_0 : Int) (a1_1 : List Int) (a2_0 : Int) (a3_0 : List (List Int)) (a4_0 : List (List (List Int))) : Option (Bool × Int × (List (List (List Int)))) :=
 (i_Space_dim a0_0 a0_1).bind fun v1 =>
 (chk (0 ≤ v1 ∧ v1 ≤ 1099511627776)).bind fun _ =>
 (loop (i_Space_vectors_of_i_Space_growOrthogonal_c1_L0 a0_0 a1_0 a1_1 a3_0 self) BIG (List.replicate v1.toNat 0,a2_0,a4_0)).bind fun x3 =>
 (match x3 with
 | .inl y5 =>
  none
 | .inr t => some t)

def i_Space_growOrthogonal_b (self : Int → (List Int) → (List (List Int)) → (List (List (List Int))) → Option (List (List (List Int)))) (a0_0 : Int) (a0_1 : List Int) (a1 : List (List Int)) (a2 : List (List (List Int))) : Option (List (List (List Int))) :=
 (i_Space_dim a0_0 a0_1).bind fun v2 =>
 (if (a1.length : Int) = v2 then
  (i_transpose a1).bind fun v4 =>
  (chk (a2.length + [v4].length ≤ 1099511627776)).bind fun _ =>
  some (a2 ++ [v4])
 else
  (i_Space_vectors_of_i_Space_growOrthogonal_c1 self a0_0 a0_1 a0_0 a0_1 (a1.length : Int) a1 a2).bind fun v6 =>
  some v6.2.2)
def i_Space_growOrthogonal : Nat → Int → (List Int) → (List (List Int)) → (List (List (List Int))) → Option (List (List (List Int)))
 | 0 => fun _ _ _ _ => none
 | n + 1 => i_Space_growOrthogonal_b (i_Space_growOrthogonal n)

def i_AllOrthogonal (a0_0 : Int) (a0_1 : List Int) : Option ((List (List (List Int))) × Int) :=
 (i_CountOrthogonal a0_0 a0_1).bind fun v1 =>
 (if ¬ v1.2 = 0 then
  some (([] : List (List (List Int))),v1.2)
 else
  (if 500 < v1.1 then
   some (([] : List (List (List Int))),3)
  else
   (i_Space_growOrthogonal BIG a0_0 a0_1 ([] : List (List Int)) ([] : List (List (List Int)))).bind fun v6 =>
   some (v6,0)))

def s_l08Raise_L0 (a0 : Int) (s2 : Int × Int) : Option ((Int × Int) ⊕ Int) :=
 (if 0 < s2.1 then
  some (.inl (w64 (s2.1 - 1),w64 (s2.2 * a0)))
 else
  some (.inr s2.2))
def s_l08Raise (a0 : Int) (a1 : Int) : Option Int :=
 (loop (s_l08Raise_L0 a0) BIG (a1,1)).bind fun x2 =>
 some x2

def s_l03Witt (a0_0 : Int) (a0_1 : List Int) : Option Int :=
 (if ((a0_1.length : Int).tmod 2) = 1 then
  some (w64 ((a0_1.length : Int).tdiv 2))
 else
  (s_l03Disc a0_0 a0_1).bind fun v3 =>
  ((if ((w64 ((a0_1.length : Int).tdiv 2)).tmod 2) = 1 then
   (chk (¬ a0_0 = 0)).bind fun _ =>
   some ((w64 (a0_0 - v3)).tmod a0_0)
  else
   some v3) : Option Int).bind fun x5 =>
  (s_l01Root a0_0 x5).bind fun v10 =>
  (if 0 ≤ v10 then
   some (w64 ((a0_1.length : Int).tdiv 2))
  else
   some (w64 ((w64 ((a0_1.length : Int).tdiv 2)) - 1))))

def s_l08Count_L0 (a0_0 : Int) (x2 : Int × Int) (s14 : Int × Int) : Option ((Int × Int) ⊕ Int) :=
 (if s14.2 ≤ x2.2 then
  (s_l08Raise a0_0 (w64 (2 * s14.2))).bind fun v19 =>
  some (.inl (w64 (s14.1 * (w64 (v19 - 1))),w64 (s14.2 + 1)))
 else
  some (.inr s14.1))
def s_l08Count (a0_0 : Int) (a0_1 : List Int) : Option Int :=
 ((if ((a0_1.length : Int).tmod 2) = 1 then
  (s_l08Raise a0_0 (w64 ((w64 ((a0_1.length : Int).tdiv 2)) * (w64 ((a0_1.length : Int).tdiv 2))))).bind fun v5 =>
  some (w64 (2 * v5),w64 ((a0_1.length : Int).tdiv 2))
 else
  (s_l03Witt a0_0 a0_1).bind fun v7 =>
  ((if v7 = (w64 ((a0_1.length : Int).tdiv 2)) then
   some 1
  else
   some (-1)) : Option Int).bind fun x8 =>
  (s_l08Raise a0_0 (w64 ((w64 ((a0_1.length : Int).tdiv 2)) * (w64 ((w64 ((a0_1.length : Int).tdiv 2)) - 1))))).bind fun v11 =>
  (s_l08Raise a0_0 (w64 ((a0_1.length : Int).tdiv 2))).bind fun v12 =>
  some (w64 ((w64 (2 * v11)) * (w64 (v12 - x8))),w64 ((w64 ((a0_1.length : Int).tdiv 2)) - 1))) : Option (Int × Int)).bind fun x2 =>
 (loop (s_l08Count_L0 a0_0 x2) BIG (x2.1,1)).bind fun x14 =>
 some x14

def s_l08Grow_L1 (a0_0 : Int) (a0_1 : List Int) (a1 : List (List Int)) (v10 : Bool × (List Int)) (s15 : Bool × Int) : Option ((Bool × Int) ⊕ Bool) :=
 ((if s15.2 < (a1.length : Int) then
  some s15.1
 else
  some false) : Option Bool).bind fun x19 =>
 (if x19 = true then
  (idx a1 s15.2).bind fun v22 =>
  (s_l03Pair a0_0 a0_1 v10.2 v22).bind fun v23 =>
  some (.inl (ieq v23 0,w64 (s15.2 + 1)))
 else
  some (.inr s15.1))
def s_l08Grow_L0 (a0_0 : Int) (a0_1 : List Int) (a1 : List (List Int)) (self : Int → (List Int) → (List (List Int)) → (List (List (List Int))) → Option (List (List (List Int)))) (s7 : (List (List (List Int))) × (List Int)) : Option (((List (List (List Int))) × (List Int)) ⊕ (List (List (List Int)))) :=
 (s_l03Next a0_0 s7.2).bind fun v10 =>
 (if v10.1 = true then
  (s_l03Pair a0_0 a0_1 v10.2 v10.2).bind fun v12 =>
  (idx a0_1 (a1.length : Int)).bind fun v13 =>
  (loop (s_l08Grow_L1 a0_0 a0_1 a1 v10) BIG (ieq v12 v13,0)).bind fun x15 =>
  (if x15 = true then
   (s_l01Own2 a1).bind fun v25 =>
   (s_l01Own v10.2).bind fun v26 =>
   (chk (v25.length + [v26].length ≤ 1099511627776)).bind fun _ =>
   (self a0_0 a0_1 (v25 ++ [v26]) s7.1).bind fun v28 =>
   some (.inl (v28,v10.2))
  else
   some (.inl (s7.1,v10.2)))
 else
  some (.inr s7.1))
def s_l08Grow_b (self : Int → (List Int) → (List (List Int)) → (List (List (List Int))) → Option (List (List (List Int)))) (a0_0 : Int) (a0_1 : List Int) (a1 : List (List Int)) (a2 : List (List (List Int))) : Option (List (List (List Int))) :=
 (if (a1.length : Int) = (a0_1.length : Int) then
  (s_l02Turn a1).bind fun v3 =>
  (chk (a2.length + [v3].length ≤ 1099511627776)).bind fun _ =>
  some (a2 ++ [v3])
 else
  (chk (0 ≤ (a0_1.length : Int) ∧ (a0_1.length : Int) ≤ 1099511627776)).bind fun _ =>
  (loop (s_l08Grow_L0 a0_0 a0_1 a1 self) BIG (a2,List.replicate (a0_1.length : Int).toNat 0)).bind fun x7 =>
  some x7)
def s_l08Grow : Nat → Int → (List Int) → (List (List Int)) → (List (List (List Int))) → Option (List (List (List Int)))
 | 0 => fun _ _ _ _ => none
 | n + 1 => s_l08Grow_b (s_l08Grow n)

def s_AllOrthogonal (a0_0 : Int) (a0_1 : List Int) : Option ((List (List (List Int))) × Int) :=
 (s_l03Is a0_0 a0_1).bind fun v2 =>
 (if v2 = false then
  some (([] : List (List (List Int))),1)
 else
  (s_l03Disc a0_0 a0_1).bind fun v5 =>
  (if v5 = 0 then
   some (([] : List (List (List Int))),5)
  else
   (s_l08Count a0_0 a0_1).bind fun v8 =>
   (if 500 < v8 then
    some (([] : List (List (List Int))),3)
   else
    (s_l08Grow BIG a0_0 a0_1 [] []).bind fun v10 =>
    some (v10,0))))

def s_CountOrthogonal (a0_0 : Int) (a0_1 : List Int) : Option (Int × Int) :=
 (s_l03Is a0_0 a0_1).bind fun v2 =>
 (if v2 = false then
  some (0,1)
 else
  (s_l03Disc a0_0 a0_1).bind fun v5 =>
  (if v5 = 0 then
   some (0,5)
  else
   (s_l08Count a0_0 a0_1).bind fun v7 =>
   some (v7,0)))

def l_FnOrthogonalGroups_L0 (v4 : Int × (List Int)) (v5 : (List (List (List Int))) × Int) (v6 : (List (List (List Int))) × Int) (s26 : Int × Int) : Option ((Int × Int) ⊕ (Int ⊕ Bool)) :=
 (if s26.2 < (v5.1.length : Int) then
  ((idx v5.1 s26.2).bind fun v35 =>
  (idx v6.1 s26.2).bind fun v36 =>
  (l_likeRows5 v35 v36).bind fun v37 =>
  (if v37 = false then
   some (.inr (.inr (.inr false)))
  else
   (i_IsProper v4.1 v4.2 v35).bind fun v39 =>
   (if ¬ v39.2 = 0 then
    some (.inr (.inr (.inr false)))
   else
    (if v39.1 = true then
     some (.inl (w64 (s26.1 + 1)))
    else
     some (.inl s26.1)))) : Option (Int ⊕ ((Int × Int) ⊕ (Int ⊕ Bool)))).bind fun x31 =>
  (match x31 with
  | .inl y33 =>
   some (.inl (y33,w64 (s26.2 + 1)))
  | .inr t => some t)
 else
  some (.inr (.inl s26.1)))
def l_FnOrthogonalGroups_L1 (v5 : (List (List (List Int))) × Int) (v48 : (List (List Int)) × Int) (s50 : Bool × Int) : Option ((Bool × Int) ⊕ Bool) :=
 (if s50.2 < (v5.1.length : Int) then
  ((if s50.1 = true then
   some true
  else
   (idx v5.1 s50.2).bind fun v56 =>
   (l_likeRows5 v56 v48.1).bind fun v57 =>
   some v57) : Option Bool).bind fun x58 =>
  some (.inl (x58,w64 (s50.2 + 1)))
 else
  some (.inr s50.1))
def l_FnOrthogonalGroups (a0 : List Int) : Option Bool :=
 (l_big a0).bind fun v2 =>
 (if v2 = true then
  some true
 else
  (s_DrawAllOrthogonal a0).bind fun v4 =>
  (i_AllOrthogonal v4.1 v4.2).bind fun v5 =>
  (s_AllOrthogonal v4.1 v4.2).bind fun v6 =>
  (i_CountOrthogonal v4.1 v4.2).bind fun v7 =>
  (s_CountOrthogonal v4.1 v4.2).bind fun v8 =>
  ((if ¬ v5.2 = v6.2 then
   some true
  else
   (if ¬ v7.2 = v8.2 then
    some true
   else
    (if ¬ v7.1 = v8.1 then
     some true
    else
     some (!(ieq (v5.1.length : Int) (v6.1.length : Int)))))) : Option Bool).bind fun x13 =>
  (if x13 = true then
   some false
  else
   (if ¬ v5.2 = 0 then
    ((if v7.2 = v5.2 then
     some true
    else
     (if v5.2 = 3 then
      some (ilt 500 v7.1)
     else
      some false)) : Option Bool).bind fun x19 =>
    some x19
   else
    ((if ¬ v7.2 = 0 then
     some true
    else
     (if ¬ v7.1 = (v5.1.length : Int) then
      some true
     else
      some (ilt v7.1 2))) : Option Bool).bind fun x23 =>
    (if x23 = true then
     some false
    else
     (loop (l_FnOrthogonalGroups_L0 v4 v5 v6) BIG (0,0)).bind fun x26 =>
     (match x26 with
     | .inl y28 =>
      (l_roll a0 841).bind fun v43 =>
      (g_p_laws_dice_below v43.1 v43.2.1 v43.2.2 v7.1).bind fun v44 =>
      (idx v5.1 v44.1).bind fun v45 =>
      (g_p_laws_dice_below v44.2.1 v44.2.2.1 v44.2.2.2 v7.1).bind fun v46 =>
      (idx v5.1 v46.1).bind fun v47 =>
      (i_MultiplyMatrices v4.1 v45 v47).bind fun v48 =>
      (loop (l_FnOrthogonalGroups_L1 v5 v48) BIG (false,0)).bind fun x50 =>
      ((if v48.2 = 0 then
       (if x50 = true then
        some (ieq (w64 (2 * y28)) v7.1)
       else
        some false)
      else
       some false) : Option Bool).bind fun x61 =>
      some x61
     | .inr t => some t)))))

end Go.Vam
