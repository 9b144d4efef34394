import Derived.Test.YtijmfifejmgeaaaVamT
import Derived.Test.YtijmfifejmgeaaaVamV
import Derived.Test.YtijmfifejmgeaaaVamY
import Derived.Test.YtijmfifejmgeaaaVamZ
import Derived.Test.YtijmfifejmgeaaaVamAM
import Derived.Test.YtijmfifejmgeaaaVamAN
namespace Go.Vam
open Go Go.RowKit
set_option maxRecDepth 100000
set_option linter.unusedSimpArgs false
set_option linter.unusedVariables false

def s_l01Prime (a0 : Int) : Option Bool :=
 ((if a0 = 3 then
  some true
 else
  (if a0 = 5 then
   some true
  else
   (if a0 = 7 then
    some true
   else
    (if a0 = 11 then
     some true
    else
     some (ieq a0 13))))) : Option Bool).bind fun x5 =>
 some x5

def s_l01In (a0 : Int) (a1 : Int) (a2 : Int) : Option Bool :=
 ((if a1 ≤ a0 then
  some (ile a0 a2)
 else
  some false) : Option Bool).bind fun x2 =>
 some x2

def s_l01Numbers_L0 (a0 : Int) (a1 : List Int) (s2 : Int) : Option (Int ⊕ (Unit ⊕ Bool)) :=
 (if s2 < (a1.length : Int) then
  (idx a1 s2).bind fun v8 =>
  (s_l01In v8 0 (w64 (a0 - 1))).bind fun v9 =>
  (if v9 = false then
   some (.inr (.inr false))
  else
   some (.inl (w64 (s2 + 1))))
 else
  some (.inr (.inl ())))
def s_l01Numbers (a0 : Int) (a1 : List Int) : Option Bool :=
 (loop (s_l01Numbers_L0 a0 a1) BIG 0).bind fun x2 =>
 (match x2 with
 | .inl y4 =>
  some true
 | .inr t => some t)

def i_IsPrime (a0 : Int) : Option Bool :=
 ((if a0 = 3 then
  some (ieq a0 3)
 else
  (if a0 = 5 then
   some (ieq a0 5)
  else
   (if a0 = 7 then
    some (ieq a0 7)
   else
    (if a0 = 11 then
     some (ieq a0 11)
    else
     some (ieq a0 13))))) : Option Bool).bind fun x3 =>
 (if x3 = true then
  some true
 else
  some false)

def i_inRange (a0 : Int) (a1 : Int) (a2 : Int) : Option Bool :=
 ((if a1 ≤ a0 then
  some (ile a0 a2)
 else
  some false) : Option Bool).bind fun x2 =>
 some x2

def i_field_is_L0 (a0 : Int) (a1 : List Int) (s2 : Int) : Option (Int ⊕ (Unit ⊕ Bool)) :=
 (if s2 < (a1.length : Int) then
  (idx a1 s2).bind fun v8 =>
  (i_inRange v8 0 (w64 (a0 - 1))).bind fun v9 =>
  (if v9 = false then
   some (.inr (.inr false))
  else
   some (.inl (w64 (s2 + 1))))
 else
  some (.inr (.inl ())))
def i_field_is (a0 : Int) (a1 : List Int) : Option Bool :=
 (loop (i_field_is_L0 a0 a1) BIG 0).bind fun x2 =>
 (match x2 with
 | .inl y4 =>
  some true
 | .inr t => some t)

def i_field_isTable_L0 (a0 : Int) (a1 : List (List Int)) (s4 : Int) : Option (Int ⊕ (Unit ⊕ Bool)) :=
 (if s4 < (a1.length : Int) then
  (idx a1 s4).bind fun v10 =>
  ((idx a1 0).bind fun v11 =>
  (if ¬ (v10.length : Int) = (v11.length : Int) then
   some true
  else
   (if (v10.length : Int) < 1 then
    some true
   else
    (if 16 < (v10.length : Int) then
     some true
    else
     (i_field_is a0 v10).bind fun v15 =>
     some (!v15)))) : Option Bool).bind fun x16 =>
  (if x16 = true then
   some (.inr (.inr false))
  else
   some (.inl (w64 (s4 + 1))))
 else
  some (.inr (.inl ())))
def i_field_isTable (a0 : Int) (a1 : List (List Int)) : Option Bool :=
 (if 16 < (a1.length : Int) then
  some false
 else
  (loop (i_field_isTable_L0 a0 a1) BIG 0).bind fun x4 =>
  (match x4 with
  | .inl y6 =>
   some true
  | .inr t => some t))

def i_field_isMatrix (a0 : Int) (a1 : List (List Int)) : Option Bool :=
 ((if 0 < (a1.length : Int) then
  (i_field_isTable a0 a1).bind fun v2 =>
  some v2
 else
  some false) : Option Bool).bind fun x3 =>
 some x3

def i_checkMatrices_c1 (a0 : List (List Int)) (a1_0 : Int) : Option Bool :=
 (i_field_isMatrix a1_0 a0).bind fun v1 =>
 some (!v1)

def g_slices_IndexFunc_LLLI_LLI_of_i_checkMatrices_c1_L0 (a0 : List (List (List Int))) (a1_0_0 : Int) (s2 : Int) : Option (Int ⊕ (Unit ⊕ Int)) :=
 (if s2 < (a0.length : Int) then
  (idx a0 s2).bind fun v8 =>
  (i_checkMatrices_c1 v8 a1_0_0).bind fun v9 =>
  (if v9 = true then
   some (.inr (.inr s2))
  else
   some (.inl (w64 (s2 + 1))))
 else
  some (.inr (.inl ())))
def g_slices_IndexFunc_LLLI_LLI_of_i_checkMatrices_c1 (a0 : List (List (List Int))) (a1_0_0 : Int) : Option Int :=
 (loop (g_slices_IndexFunc_LLLI_LLI_of_i_checkMatrices_c1_L0 a0 a1_0_0) BIG 0).bind fun x2 =>
 (match x2 with
 | .inl y4 =>
  some (-1)
 | .inr t => some t)

def g_slices_ContainsFunc_LLLI_LLI_of_i_checkMatrices_c1 (a0 : List (List (List Int))) (a1_0_0 : Int) : Option Bool :=
 (g_slices_IndexFunc_LLLI_LLI_of_i_checkMatrices_c1 a0 a1_0_0).bind fun v1 =>
 some (ile 0 v1)

def i_checkMatrices (a0 : Int) (a1 : List (List (List Int))) : Option Int :=
 ((i_IsPrime a0).bind fun v2 =>
 (if v2 = false then
  some true
 else
  (g_slices_ContainsFunc_LLLI_LLI_of_i_checkMatrices_c1 a1 a0).bind fun v4 =>
  some v4) : Option Bool).bind fun x5 =>
 (if x5 = true then
  some 1
 else
  some 0)

def i_field_num (a0 : Int) (a1 : Int) : Option Int :=
 (chk (¬ a0 = 0)).bind fun _ =>
 (chk (¬ a0 = 0)).bind fun _ =>
 some ((w64 ((a1.tmod a0) + a0)).tmod a0)

def s_l02Turn_L1 (a0 : List (List Int)) (s2 : (List (List Int)) × Int) (s9 : (List Int) × Int) : Option (((List Int) × Int) ⊕ (List Int)) :=
 (if s9.2 < (a0.length : Int) then
  (idx a0 s9.2).bind fun v14 =>
  (idx v14 s2.2).bind fun v15 =>
  (chk (s9.1.length + [v15].length ≤ 1099511627776)).bind fun _ =>
  some (.inl (s9.1 ++ [v15],w64 (s9.2 + 1)))
 else
  some (.inr s9.1))
def s_l02Turn_L0 (a0 : List (List Int)) (s2 : (List (List Int)) × Int) : Option (((List (List Int)) × Int) ⊕ (List (List Int))) :=
 (idx a0 0).bind fun v5 =>
 (if s2.2 < (v5.length : Int) then
  (loop (s_l02Turn_L1 a0 s2) BIG ([],0)).bind fun x9 =>
  (chk (s2.1.length + [x9].length ≤ 1099511627776)).bind fun _ =>
  some (.inl (s2.1 ++ [x9],w64 (s2.2 + 1)))
 else
  some (.inr s2.1))
def s_l02Turn (a0 : List (List Int)) : Option (List (List Int)) :=
 (loop (s_l02Turn_L0 a0) BIG ([],0)).bind fun x2 =>
 some x2

def i_transpose_L1 (a0 : List (List Int)) (s3 : (List (List Int)) × Int) (s9 : (List Int) × Int) : Option (((List Int) × Int) ⊕ (List Int)) :=
 (if s9.2 < (a0.length : Int) then
  (idx a0 s9.2).bind fun v14 =>
  (idx v14 s3.2).bind fun v15 =>
  (chk (s9.1.length + [v15].length ≤ 1099511627776)).bind fun _ =>
  some (.inl (s9.1 ++ [v15],w64 (s9.2 + 1)))
 else
  some (.inr s9.1))
def i_transpose_L0 (a0 : List (List Int)) (v2 : List Int) (s3 : (List (List Int)) × Int) : Option (((List (List Int)) × Int) ⊕ (List (List Int))) :=
 (if s3.2 < (v2.length : Int) then
  (loop (i_transpose_L1 a0 s3) BIG ([],0)).bind fun x9 =>
  (chk (s3.1.length + [x9].length ≤ 1099511627776)).bind fun _ =>
  some (.inl (s3.1 ++ [x9],w64 (s3.2 + 1)))
 else
  some (.inr s3.1))
def i_transpose (a0 : List (List Int)) : Option (List (List Int)) :=
 (idx a0 0).bind fun v2 =>
 (loop (i_transpose_L0 a0 v2) BIG ([],0)).bind fun x3 =>
 some x3

def i_field_dot_L0 (a1 : List Int) (a2 : List Int) (s2 : Int × Int) : Option ((Int × Int) ⊕ Int) :=
 (if s2.2 < (a1.length : Int) then
  (idx a1 s2.2).bind fun v7 =>
  (idx a2 s2.2).bind fun v8 =>
  some (.inl (w64 (s2.1 + (w64 (v7 * v8))),w64 (s2.2 + 1)))
 else
  some (.inr s2.1))
def i_field_dot (a0 : Int) (a1 : List Int) (a2 : List Int) : Option Int :=
 (loop (i_field_dot_L0 a1 a2) BIG (0,0)).bind fun x2 =>
 (i_field_num a0 x2).bind fun v9 =>
 some v9

def i_field_apply_L0 (a0 : Int) (a1 : List (List Int)) (a2 : List Int) (s2 : (List Int) × Int) : Option (((List Int) × Int) ⊕ (List Int)) :=
 (if s2.2 < (a1.length : Int) then
  (idx a1 s2.2).bind fun v7 =>
  (i_field_dot a0 v7 a2).bind fun v8 =>
  (chk (s2.1.length + [v8].length ≤ 1099511627776)).bind fun _ =>
  some (.inl (s2.1 ++ [v8],w64 (s2.2 + 1)))
 else
  some (.inr s2.1))
def i_field_apply (a0 : Int) (a1 : List (List Int)) (a2 : List Int) : Option (List Int) :=
 (loop (i_field_apply_L0 a0 a1 a2) BIG ([],0)).bind fun x2 =>
 some x2

def i_ApplyMatrix (a0 : Int) (a1 : List (List Int)) (a2 : List Int) : Option ((List Int) × Int) :=
 (i_checkMatrices a0 [a1]).bind fun v2 =>
 (if ¬ v2 = 0 then
  some (([] : List Int),v2)
 else
  ((idx a1 0).bind fun v5 =>
  (if ¬ (a2.length : Int) = (v5.length : Int) then
   some true
  else
   (i_field_is a0 a2).bind fun v7 =>
   some (!v7)) : Option Bool).bind fun x8 =>
  (if x8 = true then
   some (([] : List Int),2)
  else
   (i_field_apply a0 a1 a2).bind fun v10 =>
   some (v10,0)))

def s_l02Plus_L0 (a0 : Int) (a1 : List Int) (a2 : List Int) (a3 : Int) (s2 : (List Int) × Int) : Option (((List Int) × Int) ⊕ (List Int)) :=
 (if s2.2 < (a1.length : Int) then
  (idx a1 s2.2).bind fun v7 =>
  (idx a2 s2.2).bind fun v8 =>
  (chk (¬ a0 = 0)).bind fun _ =>
  (chk (s2.1.length + [(w64 (v7 + (w64 (a3 * v8)))).tmod a0].length ≤ 1099511627776)).bind fun _ =>
  some (.inl (s2.1 ++ [(w64 (v7 + (w64 (a3 * v8)))).tmod a0],w64 (s2.2 + 1)))
 else
  some (.inr s2.1))
def s_l02Plus (a0 : Int) (a1 : List Int) (a2 : List Int) (a3 : Int) : Option (List Int) :=
 (loop (s_l02Plus_L0 a0 a1 a2 a3) BIG ([],0)).bind fun x2 =>
 some x2

def i_field_plus_L0 (a0 : Int) (a1 : List Int) (a2 : List Int) (a3 : Int) (s2 : (List Int) × Int) : Option (((List Int) × Int) ⊕ (List Int)) :=
 (if s2.2 < (a1.length : Int) then
  (idx a1 s2.2).bind fun v7 =>
  (idx a2 s2.2).bind fun v8 =>
  (i_field_num a0 (w64 (v7 + (w64 (a3 * v8))))).bind fun v9 =>
  (chk (s2.1.length + [v9].length ≤ 1099511627776)).bind fun _ =>
  some (.inl (s2.1 ++ [v9],w64 (s2.2 + 1)))
 else
  some (.inr s2.1))
def i_field_plus (a0 : Int) (a1 : List Int) (a2 : List Int) (a3 : Int) : Option (List Int) :=
 (loop (i_field_plus_L0 a0 a1 a2 a3) BIG ([],0)).bind fun x2 =>
 some x2

def s_l01Own (a0 : List Int) : Option (List Int) :=
 (chk (([] : List Int).length + a0.length ≤ 1099511627776)).bind fun _ =>
 some (([] : List Int) ++ a0)

def s_l01Inv_L0 (a0 : Int) (a1 : Int) (s2 : Int) : Option (Int ⊕ Int) :=
 (chk (¬ a0 = 0)).bind fun _ =>
 (if ¬ ((w64 (a1 * s2)).tmod a0) = 1 then
  some (.inl (w64 (s2 + 1)))
 else
  some (.inr s2))
def s_l01Inv (a0 : Int) (a1 : Int) : Option Int :=
 (loop (s_l01Inv_L0 a0 a1) BIG 1).bind fun x2 =>
 some x2

def s_l12First_L0 (a0 : List Int) (s2 : Int) : Option (Int ⊕ Int) :=
 ((if s2 < (a0.length : Int) then
  (idx a0 s2).bind fun v6 =>
  some (ieq v6 0)
 else
  some false) : Option Bool).bind fun x7 =>
 (if x7 = true then
  some (.inl (w64 (s2 + 1)))
 else
  some (.inr s2))
def s_l12First (a0 : List Int) : Option Int :=
 (loop (s_l12First_L0 a0) BIG 0).bind fun x2 =>
 some x2

def g_slices_Index_LI_I_L0 (a0 : List Int) (a1 : Int) (s2 : Int) : Option (Int ⊕ (Unit ⊕ Int)) :=
 (if s2 < (a0.length : Int) then
  (idx a0 s2).bind fun v8 =>
  (if a1 = v8 then
   some (.inr (.inr s2))
  else
   some (.inl (w64 (s2 + 1))))
 else
  some (.inr (.inl ())))
def g_slices_Index_LI_I (a0 : List Int) (a1 : Int) : Option Int :=
 (loop (g_slices_Index_LI_I_L0 a0 a1) BIG 0).bind fun x2 =>
 (match x2 with
 | .inl y4 =>
  some (-1)
 | .inr t => some t)

def g_slices_Contains_LI_I (a0 : List Int) (a1 : Int) : Option Bool :=
 (g_slices_Index_LI_I a0 a1).bind fun v1 =>
 some (ile 0 v1)

end Go.Vam

namespace Go.Vam
open Go Go.RowKit
set_option maxRecDepth 100000
set_option linter.unusedSimpArgs false
set_option linter.unusedVariables false

def s_l03Is (a0_0 : Int) (a0_1 : List Int) : Option Bool :=
 ((s_l01Prime a0_0).bind fun v1 =>
 (if v1 = true then
  (s_l01In (a0_1.length : Int) 1 6).bind fun v3 =>
  (if v3 = true then
   (s_l01Numbers a0_0 a0_1).bind fun v5 =>
   some v5
  else
   some false)
 else
  some false) : Option Bool).bind fun x6 =>
 some x6

def s_l03Disc_L0 (a0_0 : Int) (a0_1 : List Int) (s2 : Int × Int) : Option ((Int × Int) ⊕ Int) :=
 (if s2.2 < (a0_1.length : Int) then
  (idx a0_1 s2.2).bind fun v7 =>
  (chk (¬ a0_0 = 0)).bind fun _ =>
  some (.inl ((w64 (s2.1 * v7)).tmod a0_0,w64 (s2.2 + 1)))
 else
  some (.inr s2.1))
def s_l03Disc (a0_0 : Int) (a0_1 : List Int) : Option Int :=
 (loop (s_l03Disc_L0 a0_0 a0_1) BIG (1,0)).bind fun x2 =>
 some x2

def i_length_I (a0 : List Int) : Option Int :=
 some (a0.length : Int)

def i_Space_field (a0_0 : Int) (a0_1 : List Int) : Option Int :=
 some a0_0

def i_IsSpace (a0_0 : Int) (a0_1 : List Int) : Option Bool :=
 ((i_IsPrime a0_0).bind fun v1 =>
 (if v1 = true then
  (i_length_I a0_1).bind fun v3 =>
  (i_inRange v3 1 6).bind fun v4 =>
  (if v4 = true then
   (i_Space_field a0_0 a0_1).bind fun v6 =>
   (i_field_is v6 a0_1).bind fun v7 =>
   some v7
  else
   some false)
 else
  some false) : Option Bool).bind fun x8 =>
 some x8

def i_Space_dim (a0_0 : Int) (a0_1 : List Int) : Option Int :=
 some (a0_1.length : Int)

def i_Space_regular (a0_0 : Int) (a0_1 : List Int) : Option Bool :=
 (g_slices_Contains_LI_I a0_1 0).bind fun v1 =>
 some (!v1)

def s_l01Own2_L0 (a0 : List (List Int)) (s2 : (List (List Int)) × Int) : Option (((List (List Int)) × Int) ⊕ (List (List Int))) :=
 (if s2.2 < (a0.length : Int) then
  (idx a0 s2.2).bind fun v7 =>
  (s_l01Own v7).bind fun v8 =>
  (chk (s2.1.length + [v8].length ≤ 1099511627776)).bind fun _ =>
  some (.inl (s2.1 ++ [v8],w64 (s2.2 + 1)))
 else
  some (.inr s2.1))
def s_l01Own2 (a0 : List (List Int)) : Option (List (List Int)) :=
 (loop (s_l01Own2_L0 a0) BIG ([],0)).bind fun x2 =>
 some x2

def g_slices_Clone_LI_I (a0 : List Int) : Option (List Int) :=
 (chk (a0.length ≤ 1099511627776)).bind fun _ => some a0

def i_cloneRows_L0 (a0 : List (List Int)) (s2 : (List (List Int)) × Int) : Option (((List (List Int)) × Int) ⊕ (List (List Int))) :=
 (if s2.2 < (a0.length : Int) then
  (idx a0 s2.2).bind fun v7 =>
  (g_slices_Clone_LI_I v7).bind fun v8 =>
  (chk (s2.1.length + [v8].length ≤ 1099511627776)).bind fun _ =>
  some (.inl (s2.1 ++ [v8],w64 (s2.2 + 1)))
 else
  some (.inr s2.1))
def i_cloneRows (a0 : List (List Int)) : Option (List (List Int)) :=
 (loop (i_cloneRows_L0 a0) BIG ([],0)).bind fun x2 =>
 some x2

def i_field_pow_L0 (a0 : Int) (a1 : Int) (a2 : Int) (s2 : Int × Int) : Option ((Int × Int) ⊕ Int) :=
 (if s2.2 < a2 then
  (i_field_num a0 (w64 (s2.1 * a1))).bind fun v7 =>
  some (.inl (v7,w64 (s2.2 + 1)))
 else
  some (.inr s2.1))
def i_field_pow (a0 : Int) (a1 : Int) (a2 : Int) : Option Int :=
 (loop (i_field_pow_L0 a0 a1 a2) BIG (1,0)).bind fun x2 =>
 some x2

def i_field_inv (a0 : Int) (a1 : Int) : Option Int :=
 (i_field_pow a0 a1 (w64 (a0 - 2))).bind fun v1 =>
 some v1

def s_l02Det_L1 (s3 : (List (List Int)) × Int × Int) (s10 : Int) : Option (Int ⊕ Int) :=
 ((if s10 < (s3.1.length : Int) then
  (idx s3.1 s10).bind fun v14 =>
  (idx v14 s3.2.2).bind fun v15 =>
  some (ieq v15 0)
 else
  some false) : Option Bool).bind fun x16 =>
 (if x16 = true then
  some (.inl (w64 (s10 + 1)))
 else
  some (.inr s10))
def s_l02Det_L2 (a0 : Int) (s3 : (List (List Int)) × Int × Int) (v32 : Int) (s33 : (List (List Int)) × Int) : Option (((List (List Int)) × Int) ⊕ (List (List Int))) :=
 (if s33.2 < (s33.1.length : Int) then
  (idx s33.1 s33.2).bind fun v38 =>
  (idx s33.1 s3.2.2).bind fun v39 =>
  (idx v38 s3.2.2).bind fun v40 =>
  (chk (¬ a0 = 0)).bind fun _ =>
  (s_l02Plus a0 v38 v39 ((w64 ((w64 (a0 - v40)) * v32)).tmod a0)).bind fun v42 =>
  some (.inl (s33.1.set s33.2.toNat v42,w64 (s33.2 + 1)))
 else
  some (.inr s33.1))
def s_l02Det_L0 (a0 : Int) (s3 : (List (List Int)) × Int × Int) : Option (((List (List Int)) × Int × Int) ⊕ (Int ⊕ Int)) :=
 (if s3.2.2 < (s3.1.length : Int) then
  (loop (s_l02Det_L1 s3) BIG s3.2.2).bind fun x10 =>
  (if x10 = (s3.1.length : Int) then
   some (.inr (.inr 0))
  else
   ((if s3.2.2 < x10 then
    (idx s3.1 x10).bind fun v24 =>
    (idx s3.1 s3.2.2).bind fun v25 =>
    (some (s3.1.set x10.toNat v25)).bind fun l26 =>
    (idx l26 s3.2.2).bind fun v27 =>
    (chk (¬ a0 = 0)).bind fun _ =>
    some (l26.set s3.2.2.toNat v24,(w64 (a0 - s3.2.1)).tmod a0)
   else
    some (s3.1,s3.2.1)) : Option ((List (List Int)) × Int)).bind fun x21 =>
   (idx x21.1 s3.2.2).bind fun v29 =>
   (idx v29 s3.2.2).bind fun v30 =>
   (chk (¬ a0 = 0)).bind fun _ =>
   (s_l01Inv a0 v30).bind fun v32 =>
   (loop (s_l02Det_L2 a0 s3 v32) BIG (x21.1,w64 (s3.2.2 + 1))).bind fun x33 =>
   some (.inl (x33,(w64 (x21.2 * v30)).tmod a0,w64 (s3.2.2 + 1))))
 else
  some (.inr (.inl s3.2.1)))
def s_l02Det (a0 : Int) (a1 : List (List Int)) : Option Int :=
 (s_l01Own2 a1).bind fun v1 =>
 (loop (s_l02Det_L0 a0) BIG (v1,1,0)).bind fun x3 =>
 (match x3 with
 | .inl y5 =>
  some y5
 | .inr t => some t)

def i_field_determinant_L1 (s3 : (List (List Int)) × Int × Int) (s10 : Int) : Option (Int ⊕ Int) :=
 ((if s10 < (s3.1.length : Int) then
  (idx s3.1 s10).bind fun v14 =>
  (idx v14 s3.2.2).bind fun v15 =>
  some (ieq v15 0)
 else
  some false) : Option Bool).bind fun x16 =>
 (if x16 = true then
  some (.inl (w64 (s10 + 1)))
 else
  some (.inr s10))
def i_field_determinant_L2 (a0 : Int) (s3 : (List (List Int)) × Int × Int) (s31 : (List (List Int)) × Int) : Option (((List (List Int)) × Int) ⊕ (List (List Int))) :=
 (if s31.2 < (s31.1.length : Int) then
  (idx s31.1 s31.2).bind fun v36 =>
  (idx s31.1 s3.2.2).bind fun v37 =>
  (idx v36 s3.2.2).bind fun v38 =>
  (idx v37 s3.2.2).bind fun v39 =>
  (i_field_inv a0 v39).bind fun v40 =>
  (i_field_plus a0 v36 v37 (w64 ((w64 (0 - v38)) * v40))).bind fun v41 =>
  some (.inl (s31.1.set s31.2.toNat v41,w64 (s31.2 + 1)))
 else
  some (.inr s31.1))
def i_field_determinant_L0 (a0 : Int) (v1 : List (List Int)) (s3 : (List (List Int)) × Int × Int) : Option (((List (List Int)) × Int × Int) ⊕ (Int ⊕ Int)) :=
 (if s3.2.2 < (v1.length : Int) then
  (loop (i_field_determinant_L1 s3) BIG s3.2.2).bind fun x10 =>
  (if x10 = (s3.1.length : Int) then
   some (.inr (.inr 0))
  else
   ((if ¬ x10 = s3.2.2 then
    (idx s3.1 x10).bind fun v24 =>
    (idx s3.1 s3.2.2).bind fun v25 =>
    (idx (s3.1.set s3.2.2.toNat v24) x10).bind fun v26 =>
    (i_field_num a0 (w64 (0 - s3.2.1))).bind fun v27 =>
    some ((s3.1.set s3.2.2.toNat v24).set x10.toNat v25,v27)
   else
    some (s3.1,s3.2.1)) : Option ((List (List Int)) × Int)).bind fun x21 =>
   (idx x21.1 s3.2.2).bind fun v28 =>
   (idx v28 s3.2.2).bind fun v29 =>
   (i_field_num a0 (w64 (x21.2 * v29))).bind fun v30 =>
   (loop (i_field_determinant_L2 a0 s3) BIG (x21.1,w64 (s3.2.2 + 1))).bind fun x31 =>
   some (.inl (x31,v30,w64 (s3.2.2 + 1))))
 else
  some (.inr (.inl s3.2.1)))
def i_field_determinant (a0 : Int) (a1 : List (List Int)) : Option Int :=
 (i_cloneRows a1).bind fun v1 =>
 (loop (i_field_determinant_L0 a0 v1) BIG (v1,1,0)).bind fun x3 =>
 (match x3 with
 | .inl y5 =>
  some y5
 | .inr t => some t)

def l_big (a0 : List Int) : Option Bool :=
 some (ilt 4096 (a0.length : Int))

end Go.Vam

namespace Go.Vam
open Go Go.RowKit
set_option maxRecDepth 100000
set_option linter.unusedSimpArgs false
set_option linter.unusedVariables false

def s_l02First_L0 (a0 : List Int) (s2 : Int) : Option (Int ⊕ (Unit ⊕ Int)) :=
 (if s2 < (a0.length : Int) then
  (idx a0 s2).bind fun v8 =>
  (if ¬ v8 = 0 then
   some (.inr (.inr s2))
  else
   some (.inl (w64 (s2 + 1))))
 else
  some (.inr (.inl ())))
def s_l02First (a0 : List Int) : Option Int :=
 (loop (s_l02First_L0 a0) BIG 0).bind fun x2 =>
 (match x2 with
 | .inl y4 =>
  some (-1)
 | .inr t => some t)

def i_lead_L0 (a0 : List Int) (s2 : Int) : Option (Int ⊕ Int) :=
 ((if s2 < (a0.length : Int) then
  (idx a0 s2).bind fun v6 =>
  some (ieq v6 0)
 else
  some false) : Option Bool).bind fun x7 =>
 (if x7 = true then
  some (.inl (w64 (s2 + 1)))
 else
  some (.inr s2))
def i_lead (a0 : List Int) : Option Int :=
 (loop (i_lead_L0 a0) BIG 0).bind fun x2 =>
 some x2

def s_l03Pair_L0 (a0_0 : Int) (a0_1 : List Int) (a1 : List Int) (a2 : List Int) (s2 : Int × Int) : Option ((Int × Int) ⊕ Int) :=
 (if s2.2 < (a1.length : Int) then
  (idx a1 s2.2).bind fun v7 =>
  (idx a2 s2.2).bind fun v8 =>
  (chk (¬ a0_0 = 0)).bind fun _ =>
  (idx a0_1 s2.2).bind fun v10 =>
  (chk (¬ a0_0 = 0)).bind fun _ =>
  some (.inl ((w64 (s2.1 + (w64 (((w64 (v7 * v8)).tmod a0_0) * v10)))).tmod a0_0,w64 (s2.2 + 1)))
 else
  some (.inr s2.1))
def s_l03Pair (a0_0 : Int) (a0_1 : List Int) (a1 : List Int) (a2 : List Int) : Option Int :=
 (loop (s_l03Pair_L0 a0_0 a0_1 a1 a2) BIG (0,0)).bind fun x2 =>
 some x2

def i_Space_weighted_L0 (a0_0 : Int) (a0_1 : List Int) (a1 : List Int) (s2 : (List Int) × Int) : Option (((List Int) × Int) ⊕ (List Int)) :=
 (if s2.2 < (a1.length : Int) then
  (idx a1 s2.2).bind fun v7 =>
  (i_Space_field a0_0 a0_1).bind fun v8 =>
  (idx a0_1 s2.2).bind fun v9 =>
  (i_field_num v8 (w64 (v7 * v9))).bind fun v10 =>
  (chk (s2.1.length + [v10].length ≤ 1099511627776)).bind fun _ =>
  some (.inl (s2.1 ++ [v10],w64 (s2.2 + 1)))
 else
  some (.inr s2.1))
def i_Space_weighted (a0_0 : Int) (a0_1 : List Int) (a1 : List Int) : Option (List Int) :=
 (loop (i_Space_weighted_L0 a0_0 a0_1 a1) BIG ([],0)).bind fun x2 =>
 some x2

def i_Space_pair (a0_0 : Int) (a0_1 : List Int) (a1 : List Int) (a2 : List Int) : Option Int :=
 (i_Space_field a0_0 a0_1).bind fun v1 =>
 (i_Space_weighted a0_0 a0_1 a1).bind fun v2 =>
 (i_field_dot v1 v2 a2).bind fun v3 =>
 some v3

def i_isIsometry_L1 (a0_1 : List Int) (a1_0 : Int) (a1_1 : List Int) (v18 : List (List Int)) (s20 : Int) (v26 : List Int) (s27 : Int) : Option (Int ⊕ (Unit ⊕ (Int ⊕ (Unit ⊕ Bool)))) :=
 (if s27 < (v18.length : Int) then
  (idx v18 s27).bind fun v33 =>
  ((if s20 = s27 then
   (idx a0_1 s20).bind fun v38 =>
   some v38
  else
   some 0) : Option Int).bind fun x35 =>
  (i_Space_pair a1_0 a1_1 v26 v33).bind fun v39 =>
  (if ¬ v39 = x35 then
   some (.inr (.inr (.inr (.inr false))))
  else
   some (.inl (w64 (s27 + 1))))
 else
  some (.inr (.inl ())))
def i_isIsometry_L0 (a0_1 : List Int) (a1_0 : Int) (a1_1 : List Int) (v18 : List (List Int)) (s20 : Int) : Option (Int ⊕ (Unit ⊕ Bool)) :=
 (if s20 < (v18.length : Int) then
  (idx v18 s20).bind fun v26 =>
  (loop (i_isIsometry_L1 a0_1 a1_0 a1_1 v18 s20 v26) BIG 0).bind fun x27 =>
  (match x27 with
  | .inl y29 =>
   some (.inl (w64 (s20 + 1)))
  | .inr t => some t)
 else
  some (.inr (.inl ())))
def i_isIsometry (a0_0 : Int) (a0_1 : List Int) (a1_0 : Int) (a1_1 : List Int) (a2 : List (List Int)) : Option Bool :=
 ((if ¬ a0_0 = a1_0 then
  some true
 else
  (i_Space_dim a0_0 a0_1).bind fun v3 =>
  (i_Space_dim a1_0 a1_1).bind fun v4 =>
  (if ¬ v3 = v4 then
   some true
  else
   (i_Space_field a0_0 a0_1).bind fun v6 =>
   (i_field_isMatrix v6 a2).bind fun v7 =>
   (if v7 = false then
    some true
   else
    (i_Space_dim a0_0 a0_1).bind fun v9 =>
    (if ¬ (a2.length : Int) = v9 then
     some true
    else
     (idx a2 0).bind fun v11 =>
     (i_Space_dim a0_0 a0_1).bind fun v12 =>
     (if ¬ (v11.length : Int) = v12 then
      some true
     else
      (i_Space_field a0_0 a0_1).bind fun v14 =>
      (i_field_determinant v14 a2).bind fun v15 =>
      some (ieq v15 0)))))) : Option Bool).bind fun x16 =>
 (if x16 = true then
  some false
 else
  (i_transpose a2).bind fun v18 =>
  (loop (i_isIsometry_L0 a0_1 a1_0 a1_1 v18) BIG 0).bind fun x20 =>
  (match x20 with
  | .inl y22 =>
   some true
  | .inr t => some t))

end Go.Vam

namespace Go.Vam
open Go Go.RowKit
set_option maxRecDepth 100000
set_option linter.unusedSimpArgs false
set_option linter.unusedVariables false

end Go.Vam

namespace Go.Vam
open Go Go.RowKit
set_option maxRecDepth 100000
set_option linter.unusedSimpArgs false
set_option linter.unusedVariables false

def s_l01Root_L0 (a0 : Int) (a1 : Int) (s2 : Int) : Option (Int ⊕ (Unit ⊕ Int)) :=
 (if s2 < a0 then
  (chk (¬ a0 = 0)).bind fun _ =>
  (if ((w64 (s2 * s2)).tmod a0) = a1 then
   some (.inr (.inr s2))
  else
   some (.inl (w64 (s2 + 1))))
 else
  some (.inr (.inl ())))
def s_l01Root (a0 : Int) (a1 : Int) : Option Int :=
 (loop (s_l01Root_L0 a0 a1) BIG 0).bind fun x2 =>
 (match x2 with
 | .inl y4 =>
  some (-1)
 | .inr t => some t)

def i_Space_norm (a0_0 : Int) (a0_1 : List Int) (a1 : List Int) : Option Int :=
 (i_Space_pair a0_0 a0_1 a1 a1).bind fun v1 =>
 some v1

def i_field_root_L0 (a0 : Int) (a1 : Int) (s2 : Int) : Option (Int ⊕ (Unit ⊕ (Int × Bool))) :=
 (if s2 < a0 then
  (i_field_num a0 (w64 (s2 * s2))).bind fun v8 =>
  (if v8 = a1 then
   some (.inr (.inr (s2,true)))
  else
   some (.inl (w64 (s2 + 1))))
 else
  some (.inr (.inl ())))
def i_field_root (a0 : Int) (a1 : Int) : Option (Int × Bool) :=
 (loop (i_field_root_L0 a0 a1) BIG 0).bind fun x2 =>
 (match x2 with
 | .inl y4 =>
  some (0,false)
 | .inr t => some t)

def i_field_isSquare (a0 : Int) (a1 : Int) : Option Bool :=
 (i_field_root a0 a1).bind fun v1 =>
 some v1.2

end Go.Vam

namespace Go.Vam
open Go Go.RowKit
set_option maxRecDepth 100000
set_option linter.unusedSimpArgs false
set_option linter.unusedVariables false

end Go.Vam

namespace Go.Vam
open Go Go.RowKit
set_option maxRecDepth 100000
set_option linter.unusedSimpArgs false
set_option linter.unusedVariables false

def s_l01From_L0 (a0 : List Int) (s2 : (List Int) × Int × Int × Int) : Option (((List Int) × Int × Int × Int) ⊕ ((List Int) × Int × Int)) :=
 ((if s2.2.2.2 < (a0.length : Int) then
  some (ilt s2.2.2.2 4096)
 else
  some false) : Option Bool).bind fun x6 =>
 (if x6 = true then
  (idx a0 s2.2.2.2).bind fun v9 =>
  some (.inl (s2.1,s2.2.1,IntKind.u64.wrap ((IntKind.u64.wrap ((IntKind.u64.wrap (s2.2.2.1 * 1099511628211)) + (IntKind.u64.wrap (v9)))) + 11),w64 (s2.2.2.2 + 1)))
 else
  some (.inr (s2.1,s2.2.1,s2.2.2.1)))
def s_l01From (a0 : List Int) : Option ((List Int) × Int × Int) :=
 (loop (s_l01From_L0 a0) BIG (a0,0,IntKind.u64.wrap (4409 + (IntKind.u64.wrap ((a0.length : Int)))),0)).bind fun x2 =>
 some (x2.1,x2.2.1,x2.2.2)

def s_l01Next (a0_0 : List Int) (a0_1 : Int) (a0_2 : Int) (a1 : Int) : Option (Int × ((List Int) × Int × Int)) :=
 (if a1 < 1 then
  some (0,(a0_0,a0_1,a0_2))
 else
  ((if a0_1 < (a0_0.length : Int) then
   (idx a0_0 a0_1).bind fun v7 =>
   some (a0_0,w64 (a0_1 + 1),IntKind.u64.wrap ((IntKind.u64.wrap (a0_2 * 6364136223846793005)) + 1442695040888963407),w64 ((w64 (band .u64 (shr .u64 (IntKind.u64.wrap ((IntKind.u64.wrap (a0_2 * 6364136223846793005)) + 1442695040888963407)) 33) 16777215)) + (w64 (v7))))
  else
   some (a0_0,a0_1,IntKind.u64.wrap ((IntKind.u64.wrap (a0_2 * 6364136223846793005)) + 1442695040888963407),w64 (band .u64 (shr .u64 (IntKind.u64.wrap ((IntKind.u64.wrap (a0_2 * 6364136223846793005)) + 1442695040888963407)) 33) 16777215))) : Option ((List Int) × Int × Int × Int)).bind fun x4 =>
  (chk (¬ a1 = 0)).bind fun _ =>
  some (x4.2.2.2.tmod a1,(x4.1,x4.2.1,x4.2.2.1)))

def s_l01Pick (a0_0 : List Int) (a0_1 : Int) (a0_2 : Int) (a1 : List Int) : Option (Int × ((List Int) × Int × Int)) :=
 (s_l01Next a0_0 a0_1 a0_2 (a1.length : Int)).bind fun v1 =>
 (idx a1 v1.1).bind fun v2 =>
 some (v2,(v1.2.1,v1.2.2.1,v1.2.2.2))

def s_l01DrawPrime (a0_0 : List Int) (a0_1 : Int) (a0_2 : Int) : Option (Int × ((List Int) × Int × Int)) :=
 (s_l01Pick a0_0 a0_1 a0_2 [3,5,7,11,13,3,5,7]).bind fun v1 =>
 some (v1.1,(v1.2.1,v1.2.2.1,v1.2.2.2))

def s_l01List_L0 (a1 : Int) (s2 : (List Int) × Int × Int × Int × (List Int)) : Option (((List Int) × Int × Int × Int × (List Int)) ⊕ ((List Int) × Int × Int × (List Int))) :=
 (if 0 < s2.2.2.2.1 then
  (s_l01Next s2.1 s2.2.1 s2.2.2.1 a1).bind fun v7 =>
  (chk (s2.2.2.2.2.length + [v7.1].length ≤ 1099511627776)).bind fun _ =>
  some (.inl (v7.2.1,v7.2.2.1,v7.2.2.2,w64 (s2.2.2.2.1 - 1),s2.2.2.2.2 ++ [v7.1]))
 else
  some (.inr (s2.1,s2.2.1,s2.2.2.1,s2.2.2.2.2)))
def s_l01List (a0_0 : List Int) (a0_1 : Int) (a0_2 : Int) (a1 : Int) (a2 : Int) : Option ((List Int) × ((List Int) × Int × Int)) :=
 (loop (s_l01List_L0 a1) BIG (a0_0,a0_1,a0_2,a2,[])).bind fun x2 =>
 some (x2.2.2.2,(x2.1,x2.2.1,x2.2.2.1))

def l_likeInts_L0 (a0 : List Int) (a1 : List Int) (s4 : Int) : Option (Int ⊕ (Unit ⊕ Bool)) :=
 (if s4 < (a0.length : Int) then
  (idx a0 s4).bind fun v10 =>
  (idx a1 s4).bind fun v11 =>
  (if ¬ v10 = v11 then
   some (.inr (.inr false))
  else
   some (.inl (w64 (s4 + 1))))
 else
  some (.inr (.inl ())))
def l_likeInts (a0 : List Int) (a1 : List Int) : Option Bool :=
 (if ¬ (a0.length : Int) = (a1.length : Int) then
  some false
 else
  (loop (l_likeInts_L0 a0 a1) BIG 0).bind fun x4 =>
  (match x4 with
  | .inl y6 =>
   some true
  | .inr t => some t))

def l_likeRows5_L0 (a0 : List (List Int)) (a1 : List (List Int)) (s4 : Int) : Option (Int ⊕ (Unit ⊕ Bool)) :=
 (if s4 < (a0.length : Int) then
  (idx a0 s4).bind fun v10 =>
  (idx a1 s4).bind fun v11 =>
  (l_likeInts v10 v11).bind fun v12 =>
  (if v12 = false then
   some (.inr (.inr false))
  else
   some (.inl (w64 (s4 + 1))))
 else
  some (.inr (.inl ())))
def l_likeRows5 (a0 : List (List Int)) (a1 : List (List Int)) : Option Bool :=
 (if ¬ (a0.length : Int) = (a1.length : Int) then
  some false
 else
  (loop (l_likeRows5_L0 a0 a1) BIG 0).bind fun x4 =>
  (match x4 with
  | .inl y6 =>
   some true
  | .inr t => some t))

def l_roll_L0 (a0 : List Int) (s2 : (List Int) × Int × Int × Int) : Option (((List Int) × Int × Int × Int) ⊕ ((List Int) × Int × Int)) :=
 (if s2.2.2.2 < (a0.length : Int) then
  (idx a0 s2.2.2.2).bind fun v7 =>
  some (.inl (s2.1,s2.2.1,IntKind.u64.wrap ((IntKind.u64.wrap ((IntKind.u64.wrap (s2.2.2.1 * 1099511628211)) + (IntKind.u64.wrap (v7)))) + 5),w64 (s2.2.2.2 + 1)))
 else
  some (.inr (s2.1,s2.2.1,s2.2.2.1)))
def l_roll (a0 : List Int) (a1 : Int) : Option ((List Int) × Int × Int) :=
 (loop (l_roll_L0 a0) BIG (a0,0,IntKind.u64.wrap ((IntKind.u64.wrap (a1 * 7681)) + (IntKind.u64.wrap ((a0.length : Int)))),0)).bind fun x2 =>
 some (x2.1,x2.2.1,x2.2.2)

def g_p_laws_dice_below (a0_0 : List Int) (a0_1 : Int) (a0_2 : Int) (a1 : Int) : Option (Int × ((List Int) × Int × Int)) :=
 (if a1 < 1 then
  some (0,(a0_0,a0_1,a0_2))
 else
  ((if a0_1 < (a0_0.length : Int) then
   (idx a0_0 a0_1).bind fun v7 =>
   some (a0_0,w64 (a0_1 + 1),IntKind.u64.wrap ((IntKind.u64.wrap (a0_2 * 6364136223846793005)) + 1442695040888963407),w64 ((w64 (band .u64 (shr .u64 (IntKind.u64.wrap ((IntKind.u64.wrap (a0_2 * 6364136223846793005)) + 1442695040888963407)) 33) 16777215)) + (w64 (v7))))
  else
   some (a0_0,a0_1,IntKind.u64.wrap ((IntKind.u64.wrap (a0_2 * 6364136223846793005)) + 1442695040888963407),w64 (band .u64 (shr .u64 (IntKind.u64.wrap ((IntKind.u64.wrap (a0_2 * 6364136223846793005)) + 1442695040888963407)) 33) 16777215))) : Option ((List Int) × Int × Int × Int)).bind fun x4 =>
  (chk (¬ a1 = 0)).bind fun _ =>
  some (x4.2.2.2.tmod a1,(x4.1,x4.2.1,x4.2.2.1)))

def l_list5_L0 (a2 : Int) (s2 : (List Int) × Int × Int × Int × (List Int)) : Option (((List Int) × Int × Int × Int × (List Int)) ⊕ ((List Int) × Int × Int × (List Int))) :=
 (if 0 < s2.2.2.2.1 then
  (g_p_laws_dice_below s2.1 s2.2.1 s2.2.2.1 a2).bind fun v7 =>
  (chk (s2.2.2.2.2.length + [v7.1].length ≤ 1099511627776)).bind fun _ =>
  some (.inl (v7.2.1,v7.2.2.1,v7.2.2.2,w64 (s2.2.2.2.1 - 1),s2.2.2.2.2 ++ [v7.1]))
 else
  some (.inr (s2.1,s2.2.1,s2.2.2.1,s2.2.2.2.2)))
def l_list5 (a0_0 : List Int) (a0_1 : Int) (a0_2 : Int) (a1 : Int) (a2 : Int) : Option ((List Int) × ((List Int) × Int × Int)) :=
 (loop (l_list5_L0 a2) BIG (a0_0,a0_1,a0_2,a1,[])).bind fun x2 =>
 some (x2.2.2.2,(x2.1,x2.2.1,x2.2.2.1))

end Go.Vam

namespace Go.Vam
open Go Go.RowKit
set_option maxRecDepth 100000
set_option linter.unusedSimpArgs false
set_option linter.unusedVariables false

end Go.Vam

namespace Go.Vam
open Go Go.RowKit
set_option maxRecDepth 100000
set_option linter.unusedSimpArgs false
set_option linter.unusedVariables false



end Go.Vam

namespace Go.Vam
open Go Go.RowKit
set_option maxRecDepth 100000
set_option linter.unusedSimpArgs false
set_option linter.unusedVariables false

end Go.Vam

namespace Go.Vam
open Go Go.RowKit
set_option maxRecDepth 100000
set_option linter.unusedSimpArgs false
set_option linter.unusedVariables false

end Go.Vam

namespace Go.Vam
open Go Go.RowKit
set_option maxRecDepth 100000
set_option linter.unusedSimpArgs false
set_option linter.unusedVariables false

def i_checkSpaces_c1 (a0_0 : Int) (a0_1 : List Int) : Option Bool :=
 (i_IsSpace a0_0 a0_1).bind fun v1 =>
 some (!v1)

def g_slices_IndexFunc_Limpl_Space_impl_Space_of_i_checkSpaces_c1_L0 (a0 : List (Int × (List Int))) (s2 : Int) : Option (Int ⊕ (Unit ⊕ Int)) :=
 (if s2 < (a0.length : Int) then
  (idx a0 s2).bind fun v8 =>
  (i_checkSpaces_c1 v8.1 v8.2).bind fun v9 =>
  (if v9 = true then
   some (.inr (.inr s2))
  else
   some (.inl (w64 (s2 + 1))))
 else
  some (.inr (.inl ())))
def g_slices_IndexFunc_Limpl_Space_impl_Space_of_i_checkSpaces_c1 (a0 : List (Int × (List Int))) : Option Int :=
 (loop (g_slices_IndexFunc_Limpl_Space_impl_Space_of_i_checkSpaces_c1_L0 a0) BIG 0).bind fun x2 =>
 (match x2 with
 | .inl y4 =>
  some (-1)
 | .inr t => some t)

def g_slices_ContainsFunc_Limpl_Space_impl_Space_of_i_checkSpaces_c1 (a0 : List (Int × (List Int))) : Option Bool :=
 (g_slices_IndexFunc_Limpl_Space_impl_Space_of_i_checkSpaces_c1 a0).bind fun v1 =>
 some (ile 0 v1)

def i_checkSpaces (a0 : List (Int × (List Int))) : Option Int :=
 (g_slices_ContainsFunc_Limpl_Space_impl_Space_of_i_checkSpaces_c1 a0).bind fun v2 =>
 (if v2 = true then
  some 1
 else
  some 0)

def i_IsIsometry (a0_0 : Int) (a0_1 : List Int) (a1_0 : Int) (a1_1 : List Int) (a2 : List (List Int)) : Option (Bool × Int) :=
 (i_checkSpaces [(a0_0,a0_1),(a1_0,a1_1)]).bind fun v2 =>
 (if ¬ v2 = 0 then
  some (false,v2)
 else
  (i_isIsometry a0_0 a0_1 a1_0 a1_1 a2).bind fun v4 =>
  some (v4,0))

end Go.Vam

namespace Go.Vam
open Go Go.RowKit
set_option maxRecDepth 100000
set_option linter.unusedSimpArgs false
set_option linter.unusedVariables false

end Go.Vam

namespace Go.Vam
open Go Go.RowKit
set_option maxRecDepth 100000
set_option linter.unusedSimpArgs false
set_option linter.unusedVariables false

end Go.Vam

namespace Go.Vam
open Go Go.RowKit
set_option maxRecDepth 100000
set_option linter.unusedSimpArgs false
set_option linter.unusedVariables false

end Go.Vam

namespace Go.Vam
open Go Go.RowKit
set_option maxRecDepth 100000
set_option linter.unusedSimpArgs false
set_option linter.unusedVariables false

def s_l03Any_L0 (v1 : Int × ((List Int) × Int × Int)) (s4 : (List Int) × Int × Int × Int × (List Int) × Int) : Option (((List Int) × Int × Int × Int × (List Int) × Int) ⊕ ((List Int) × Int × Int × Int × (List Int))) :=
 (if 0 < s4.2.2.2.2.2 then
  (s_l01Next s4.1 s4.2.1 s4.2.2.1 (w64 (v1.1 - 1))).bind fun v9 =>
  (s_l01Pick v9.2.1 v9.2.2.1 v9.2.2.2 [1,w64 (v1.1 - 1),w64 (1 + v9.1),1]).bind fun v10 =>
  (s_l01Next v10.2.1 v10.2.2.1 v10.2.2.2 10).bind fun v12 =>
  ((if v12.1 = 0 then
   some 0
  else
   some v10.1) : Option Int).bind fun x13 =>
  (chk (s4.2.2.2.2.1.length + [x13].length ≤ 1099511627776)).bind fun _ =>
  some (.inl (v12.2.1,v12.2.2.1,v12.2.2.2,s4.2.2.2.1,s4.2.2.2.2.1 ++ [x13],w64 (s4.2.2.2.2.2 - 1)))
 else
  some (.inr (s4.1,s4.2.1,s4.2.2.1,s4.2.2.2.1,s4.2.2.2.2.1)))
def s_l03Any (a0_0 : List Int) (a0_1 : Int) (a0_2 : Int) (a1 : Int) : Option ((Int × (List Int)) × ((List Int) × Int × Int)) :=
 (s_l01DrawPrime a0_0 a0_1 a0_2).bind fun v1 =>
 (s_l01Next v1.2.1 v1.2.2.1 v1.2.2.2 a1).bind fun v3 =>
 (loop (s_l03Any_L0 v1) BIG (v3.2.1,v3.2.2.1,v3.2.2.2,v1.1,[],w64 (1 + v3.1))).bind fun x4 =>
 some ((x4.2.2.2.1,x4.2.2.2.2),(x4.1,x4.2.1,x4.2.2.1))

end Go.Vam

namespace Go.Vam
open Go Go.RowKit
set_option maxRecDepth 100000
set_option linter.unusedSimpArgs false
set_option linter.unusedVariables false

end Go.Vam

namespace Go.Vam
open Go Go.RowKit
set_option maxRecDepth 100000
set_option linter.unusedSimpArgs false
set_option linter.unusedVariables false

end Go.Vam

namespace Go.Vam
open Go Go.RowKit
set_option maxRecDepth 100000
set_option linter.unusedSimpArgs false
set_option linter.unusedVariables false

def s_l03Draw (a0_0 : List Int) (a0_1 : Int) (a0_2 : Int) : Option ((Int × (List Int)) × ((List Int) × Int × Int)) :=
 (s_l01Pick a0_0 a0_1 a0_2 [2,3,3,4,6]).bind fun v1 =>
 (s_l03Any v1.2.1 v1.2.2.1 v1.2.2.2 v1.1).bind fun v2 =>
 some ((v2.1.1,v2.1.2),(v2.2.1,v2.2.2.1,v2.2.2.2))

def s_l03Spoil_L0 (s13 : Int × (List Int)) : Option ((Int × (List Int)) ⊕ (Int × (List Int))) :=
 (if (s13.2.length : Int) < 7 then
  (chk (s13.2.length + [1].length ≤ 1099511627776)).bind fun _ =>
  some (.inl (s13.1,s13.2 ++ [1]))
 else
  some (.inr (s13.1,s13.2)))
def s_l03Spoil (a0_0 : List Int) (a0_1 : Int) (a0_2 : Int) : Option ((Int × (List Int)) × ((List Int) × Int × Int)) :=
 (s_l03Draw a0_0 a0_1 a0_2).bind fun v1 =>
 (s_l01Next v1.2.1 v1.2.2.1 v1.2.2.2 40).bind fun v3 =>
 ((if v3.1 = 0 then
  (s_l01Pick v3.2.1 v3.2.2.1 v3.2.2.2 [4,1,17,0]).bind fun v7 =>
  some (v7.2.1,v7.2.2.1,v7.2.2.2,v7.1,v1.1.2)
 else
  (if v3.1 = 1 then
   (s_l01Pick v3.2.1 v3.2.2.1 v3.2.2.2 [-1,v1.1.1]).bind fun v9 =>
   (idx v1.1.2 0).bind fun v10 =>
   some (v9.2.1,v9.2.2.1,v9.2.2.2,v1.1.1,v1.1.2.set 0 v9.1)
  else
   (if v3.1 = 2 then
    some (v3.2.1,v3.2.2.1,v3.2.2.2,v1.1.1,[])
   else
    (if v3.1 = 3 then
     (loop s_l03Spoil_L0 BIG (v1.1.1,v1.1.2)).bind fun x13 =>
     some (v3.2.1,v3.2.2.1,v3.2.2.2,x13.1,x13.2)
    else
     some (v3.2.1,v3.2.2.1,v3.2.2.2,v1.1.1,v1.1.2))))) : Option ((List Int) × Int × Int × Int × (List Int))).bind fun x4 =>
 some ((x4.2.2.2.1,x4.2.2.2.2),(x4.1,x4.2.1,x4.2.2.1))

end Go.Vam

namespace Go.Vam
open Go Go.RowKit
set_option maxRecDepth 100000
set_option linter.unusedSimpArgs false
set_option linter.unusedVariables false

end Go.Vam

namespace Go.Vam
open Go Go.RowKit
set_option maxRecDepth 100000
set_option linter.unusedSimpArgs false
set_option linter.unusedVariables false

end Go.Vam

namespace Go.Vam
open Go Go.RowKit
set_option maxRecDepth 100000
set_option linter.unusedSimpArgs false
set_option linter.unusedVariables false

end Go.Vam

namespace Go.Vam
open Go Go.RowKit
set_option maxRecDepth 100000
set_option linter.unusedSimpArgs false
set_option linter.unusedVariables false

def s_l03Two_L0 (v1 : (Int × (List Int)) × ((List Int) × Int × Int)) (s3 : (List Int) × Int × Int × Int × (List Int) × Int) : Option (((List Int) × Int × Int × Int × (List Int) × Int) ⊕ ((List Int) × Int × Int × Int × (List Int))) :=
 (if s3.2.2.2.2.2 < (v1.1.2.length : Int) then
  (s_l01Next s3.1 s3.2.1 s3.2.2.1 (w64 (v1.1.1 - 1))).bind fun v8 =>
  (s_l01Pick v8.2.1 v8.2.2.1 v8.2.2.2 [1,w64 (v1.1.1 - 1),w64 (1 + v8.1)]).bind fun v9 =>
  (s_l01Next v9.2.1 v9.2.2.1 v9.2.2.2 3).bind fun v11 =>
  ((if 0 < v11.1 then
   (idx v1.1.2 s3.2.2.2.2.2).bind fun v15 =>
   (s_l01Next v11.2.1 v11.2.2.1 v11.2.2.2 v1.1.1).bind fun v16 =>
   (if 0 < v16.1 then
    (chk (¬ v1.1.1 = 0)).bind fun _ =>
    (chk (¬ v1.1.1 = 0)).bind fun _ =>
    some (v16.2.1,v16.2.2.1,v16.2.2.2,(w64 (((w64 (v15 * v16.1)).tmod v1.1.1) * v16.1)).tmod v1.1.1)
   else
    some (v16.2.1,v16.2.2.1,v16.2.2.2,v15))
  else
   some (v11.2.1,v11.2.2.1,v11.2.2.2,v9.1)) : Option ((List Int) × Int × Int × Int)).bind fun x12 =>
  (chk (s3.2.2.2.2.1.length + [x12.2.2.2].length ≤ 1099511627776)).bind fun _ =>
  some (.inl (x12.1,x12.2.1,x12.2.2.1,s3.2.2.2.1,s3.2.2.2.2.1 ++ [x12.2.2.2],w64 (s3.2.2.2.2.2 + 1)))
 else
  some (.inr (s3.1,s3.2.1,s3.2.2.1,s3.2.2.2.1,s3.2.2.2.2.1)))
def s_l03Two (a0_0 : List Int) (a0_1 : Int) (a0_2 : Int) (a1 : Int) : Option (((Int × (List Int)) × (Int × (List Int))) × ((List Int) × Int × Int)) :=
 (s_l03Any a0_0 a0_1 a0_2 a1).bind fun v1 =>
 (loop (s_l03Two_L0 v1) BIG (v1.2.1,v1.2.2.1,v1.2.2.2,v1.1.1,[],0)).bind fun x3 =>
 (s_l01Next x3.1 x3.2.1 x3.2.2.1 (x3.2.2.2.2.length : Int)).bind fun v21 =>
 (chk (0 ≤ v21.1 ∧ v21.1 ≤ (x3.2.2.2.2.length : Int))).bind fun _ =>
 (s_l01Own (x3.2.2.2.2.drop v21.1.toNat)).bind fun v23 =>
 (chk (0 ≤ v21.1 ∧ v21.1 ≤ (x3.2.2.2.2.length : Int))).bind fun _ =>
 (chk (v23.length + (x3.2.2.2.2.take v21.1.toNat).length ≤ 1099511627776)).bind fun _ =>
 (s_l01Next v21.2.1 v21.2.2.1 v21.2.2.2 24).bind fun v27 =>
 (if v27.1 = 0 then
  (s_l03Spoil v27.2.1 v27.2.2.1 v27.2.2.2).bind fun v29 =>
  some (((v1.1.1,v1.1.2),(v29.1.1,v29.1.2)),(v29.2.1,v29.2.2.1,v29.2.2.2))
 else
  (if v27.1 = 1 then
   (s_l03Spoil v27.2.1 v27.2.2.1 v27.2.2.2).bind fun v31 =>
   some (((v31.1.1,v31.1.2),(x3.2.2.2.1,v23 ++ (x3.2.2.2.2.take v21.1.toNat))),(v31.2.1,v31.2.2.1,v31.2.2.2))
  else
   some (((v1.1.1,v1.1.2),(x3.2.2.2.1,v23 ++ (x3.2.2.2.2.take v21.1.toNat))),(v27.2.1,v27.2.2.1,v27.2.2.2))))

def s_DrawIsometryOf (a0 : List Int) : Option ((Int × (List Int)) × (Int × (List Int))) :=
 (s_l01From a0).bind fun v1 =>
 (s_l01Pick v1.1 v1.2.1 v1.2.2 [2,3,3,4]).bind fun v2 =>
 (s_l03Two v2.2.1 v2.2.2.1 v2.2.2.2 v2.1).bind fun v3 =>
 some ((v3.1.1.1,v3.1.1.2),(v3.1.2.1,v3.1.2.2))

def i_isometric_L1 (a0_0 : Int) (a0_1 : List Int) (v13 : Int) (v14 : Int) (s15 : Int × Int × Int) : Option ((Int × Int × Int) ⊕ (Int × Int)) :=
 (if s15.2.2 < 2 then
  ((idx ([v13,v14] : List Int) s15.2.2).bind fun v21 =>
  (if v21 = 0 then
   some (w64 (s15.1 + (w64 (1 - (w64 (2 * s15.2.2))))),s15.2.1)
  else
   (i_Space_field a0_0 a0_1).bind fun v23 =>
   (i_field_num v23 (w64 (s15.2.1 * v21))).bind fun v24 =>
   some (s15.1,v24)) : Option (Int × Int)).bind fun x19 =>
  some (.inl (x19.1,x19.2,w64 (s15.2.2 + 1)))
 else
  some (.inr (s15.1,s15.2.1)))
def i_isometric_L0 (a0_0 : Int) (a0_1 : List Int) (a1_1 : List Int) (s8 : Int × Int × Int) : Option ((Int × Int × Int) ⊕ (Int × Int)) :=
 (if s8.2.2 < (a0_1.length : Int) then
  (idx a0_1 s8.2.2).bind fun v13 =>
  (idx a1_1 s8.2.2).bind fun v14 =>
  (loop (i_isometric_L1 a0_0 a0_1 v13 v14) BIG (s8.1,s8.2.1,0)).bind fun x15 =>
  some (.inl (x15.1,x15.2,w64 (s8.2.2 + 1)))
 else
  some (.inr (s8.1,s8.2.1)))
def i_isometric (a0_0 : Int) (a0_1 : List Int) (a1_0 : Int) (a1_1 : List Int) : Option Bool :=
 ((if ¬ a0_0 = a1_0 then
  some true
 else
  (i_Space_dim a0_0 a0_1).bind fun v3 =>
  (i_Space_dim a1_0 a1_1).bind fun v4 =>
  some (!(ieq v3 v4))) : Option Bool).bind fun x5 =>
 (if x5 = true then
  some false
 else
  (loop (i_isometric_L0 a0_0 a0_1 a1_1) BIG (0,1,0)).bind fun x8 =>
  ((if x8.1 = 0 then
   (i_Space_field a0_0 a0_1).bind fun v26 =>
   (i_field_isSquare v26 x8.2).bind fun v27 =>
   some v27
  else
   some false) : Option Bool).bind fun x28 =>
  some x28)

def i_Space_hasMany_L0 (a0_0 : Int) (a0_1 : List Int) (s2 : Int × Int) : Option ((Int × Int) ⊕ Int) :=
 (if s2.2 < (a0_1.length : Int) then
  some (.inl (w64 (s2.1 * a0_0),w64 (s2.2 + 1)))
 else
  some (.inr s2.1))
def i_Space_hasMany (a0_0 : Int) (a0_1 : List Int) : Option Bool :=
 (loop (i_Space_hasMany_L0 a0_0 a0_1) BIG (1,0)).bind fun x2 =>
 some (ilt 5000 x2)

def i_IsometryOf_c1_c1 (a0 : List Int) (a1_0 : Int) (a1_1 : List Int) (a2_0 : List Int) : Option Bool :=
 (i_Space_pair a1_0 a1_1 a2_0 a0).bind fun v1 =>
 some (!(ieq v1 0))

def g_slices_IndexFunc_LLI_LI_of_i_IsometryOf_c1_c1_L0 (a0 : List (List Int)) (a1_0_0 : Int) (a1_0_1 : List Int) (a1_1_0 : List Int) (s2 : Int) : Option (Int ⊕ (Unit ⊕ Int)) :=
 (if s2 < (a0.length : Int) then
  (idx a0 s2).bind fun v8 =>
  (i_IsometryOf_c1_c1 v8 a1_0_0 a1_0_1 a1_1_0).bind fun v9 =>
  (if v9 = true then
   some (.inr (.inr s2))
  else
   some (.inl (w64 (s2 + 1))))
 else
  some (.inr (.inl ())))
def g_slices_IndexFunc_LLI_LI_of_i_IsometryOf_c1_c1 (a0 : List (List Int)) (a1_0_0 : Int) (a1_0_1 : List Int) (a1_1_0 : List Int) : Option Int :=
 (loop (g_slices_IndexFunc_LLI_LI_of_i_IsometryOf_c1_c1_L0 a0 a1_0_0 a1_0_1 a1_1_0) BIG 0).bind fun x2 =>
 (match x2 with
 | .inl y4 =>
  some (-1)
 | .inr t => some t)

def g_slices_ContainsFunc_LLI_LI_of_i_IsometryOf_c1_c1 (a0 : List (List Int)) (a1_0_0 : Int) (a1_0_1 : List Int) (a1_1_0 : List Int) : Option Bool :=
 (g_slices_IndexFunc_LLI_LI_of_i_IsometryOf_c1_c1 a0 a1_0_0 a1_0_1 a1_1_0).bind fun v1 =>
 some (ile 0 v1)

def i_IsometryOf_c1 (a0 : List Int) (a1_0 : Int) (a1_1 : List Int) (a2_0 : Int) (a3_0 : List (List Int)) : Option (Bool × Int × (List (List Int))) :=
 ((i_Space_norm a1_0 a1_1 a0).bind fun v1 =>
 (if v1 = a2_0 then
  (g_slices_ContainsFunc_LLI_LI_of_i_IsometryOf_c1_c1 a3_0 a1_0 a1_1 a0).bind fun v3 =>
  some (!v3)
 else
  some false) : Option Bool).bind fun x4 =>
 ((if x4 = true then
  (g_slices_Clone_LI_I a0).bind fun v9 =>
  (chk (a3_0.length + [v9].length ≤ 1099511627776)).bind fun _ =>
  some (a3_0 ++ [v9])
 else
  some a3_0) : Option (List (List Int))).bind fun x6 =>
 some (x4,a2_0,x6)

def i_Space_vectors_of_i_IsometryOf_c1_L1 (a0_0 : Int) (s10 : (List Int) × Int) : Option (((List Int) × Int) ⊕ ((List Int) × Int)) :=
 ((if 0 ≤ s10.2 then
  (idx s10.1 s10.2).bind fun v14 =>
  some (ieq v14 (w64 (a0_0 - 1)))
 else
  some false) : Option Bool).bind fun x15 =>
 (if x15 = true then
  (idx s10.1 s10.2).bind fun v17 =>
  some (.inl (s10.1.set s10.2.toNat 0,w64 (s10.2 - 1)))
 else
  some (.inr (s10.1,s10.2)))
def i_Space_vectors_of_i_IsometryOf_c1_L0 (a0_0 : Int) (a1_0 : Int) (a1_1 : List Int) (s3 : (List Int) × Int × (List (List Int))) : Option (((List Int) × Int × (List (List Int))) ⊕ (Unit ⊕ (Bool × Int × (List (List Int))))) :=
 (i_IsometryOf_c1 s3.1 a1_0 a1_1 s3.2.1 s3.2.2).bind fun v7 =>
 (if v7.1 = true then
  some (.inr (.inr (true,v7.2.1,v7.2.2)))
 else
  (loop (i_Space_vectors_of_i_IsometryOf_c1_L1 a0_0) BIG (s3.1,w64 ((s3.1.length : Int) - 1))).bind fun x10 =>
  (if x10.2 < 0 then
   some (.inr (.inr (false,v7.2.1,v7.2.2)))
  else
   (idx x10.1 x10.2).bind fun v20 =>
   some (.inl (x10.1.set x10.2.toNat (w64 (v20 + 1)),v7.2.1,v7.2.2))))
def i_Space_vectors_of_i_IsometryOf_c1 (a0_0 : Int) (a0_1 : List Int) (a1_0 : Int) (a1_1 : List Int) (a2_0 : Int) (a3_0 : List (List Int)) : Option (Bool × Int × (List (List Int))) :=
 (i_Space_dim a0_0 a0_1).bind fun v1 =>
 (chk (0 ≤ v1 ∧ v1 ≤ 1099511627776)).bind fun _ =>
 (loop (i_Space_vectors_of_i_IsometryOf_c1_L0 a0_0 a1_0 a1_1) BIG (List.replicate v1.toNat 0,a2_0,a3_0)).bind fun x3 =>
 (match x3 with
 | .inl y5 =>
  none
 | .inr t => some t)

def i_IsometryOf_L0 (a0_1 : List Int) (a1_0 : Int) (a1_1 : List Int) (s15 : (List (List Int)) × Int) : Option (((List (List Int)) × Int) ⊕ (List (List Int))) :=
 (if s15.2 < (a0_1.length : Int) then
  (idx a0_1 s15.2).bind fun v20 =>
  (i_Space_vectors_of_i_IsometryOf_c1 a1_0 a1_1 a1_0 a1_1 v20 s15.1).bind fun v21 =>
  some (.inl (v21.2.2,w64 (s15.2 + 1)))
 else
  some (.inr s15.1))
def i_IsometryOf (a0_0 : Int) (a0_1 : List Int) (a1_0 : Int) (a1_1 : List Int) : Option ((List (List Int)) × Int) :=
 (i_checkSpaces [(a0_0,a0_1),(a1_0,a1_1)]).bind fun v2 =>
 (if ¬ v2 = 0 then
  some (([] : List (List Int)),v2)
 else
  ((i_Space_regular a0_0 a0_1).bind fun v5 =>
  (if v5 = false then
   some true
  else
   (i_Space_regular a1_0 a1_1).bind fun v7 =>
   some (!v7)) : Option Bool).bind fun x8 =>
  (if x8 = true then
   some (([] : List (List Int)),5)
  else
   (i_isometric a0_0 a0_1 a1_0 a1_1).bind fun v10 =>
   (if v10 = false then
    some (([] : List (List Int)),4)
   else
    (i_Space_hasMany a0_0 a0_1).bind fun v12 =>
    (if v12 = true then
     some (([] : List (List Int)),3)
    else
     (loop (i_IsometryOf_L0 a0_1 a1_0 a1_1) BIG ([],0)).bind fun x15 =>
     (i_transpose x15).bind fun v22 =>
     some (v22,0)))))

def s_l03Isometric_L0 (a0_0 : Int) (a0_1 : List Int) (a1_1 : List Int) (s6 : Int × Int × Int × Int) : Option ((Int × Int × Int × Int) ⊕ (Int × Int × Int)) :=
 (if s6.2.2.2 < (a0_1.length : Int) then
  ((idx a0_1 s6.2.2.2).bind fun v13 =>
  ((if v13 = 0 then
   some (s6.1,w64 (s6.2.1 + 1))
  else
   (chk (¬ a0_0 = 0)).bind fun _ =>
   some ((w64 (s6.1 * v13)).tmod a0_0,s6.2.1)) : Option (Int × Int)).bind fun x14 =>
  (idx a1_1 s6.2.2.2).bind fun v18 =>
  (if v18 = 0 then
   some (x14.1,x14.2,w64 (s6.2.2.1 + 1))
  else
   (chk (¬ a0_0 = 0)).bind fun _ =>
   some ((w64 (x14.1 * v18)).tmod a0_0,x14.2,s6.2.2.1)) : Option (Int × Int × Int)).bind fun x10 =>
  some (.inl (x10.1,x10.2.1,x10.2.2,w64 (s6.2.2.2 + 1)))
 else
  some (.inr (s6.1,s6.2.1,s6.2.2.1)))
def s_l03Isometric (a0_0 : Int) (a0_1 : List Int) (a1_0 : Int) (a1_1 : List Int) : Option Bool :=
 ((if ¬ a0_0 = a1_0 then
  some true
 else
  some (!(ieq (a0_1.length : Int) (a1_1.length : Int)))) : Option Bool).bind fun x3 =>
 (if x3 = true then
  some false
 else
  (loop (s_l03Isometric_L0 a0_0 a0_1 a1_1) BIG (1,0,0,0)).bind fun x6 =>
  ((if x6.2.1 = x6.2.2 then
   (s_l01Root a0_0 x6.1).bind fun v22 =>
   some (ile 0 v22)
  else
   some false) : Option Bool).bind fun x23 =>
  some x23)

def s_l03Many_L0 (a0_0 : Int) (a0_1 : List Int) (s2 : Int × Int) : Option ((Int × Int) ⊕ Int) :=
 (if s2.2 < (a0_1.length : Int) then
  some (.inl (w64 (s2.1 * a0_0),w64 (s2.2 + 1)))
 else
  some (.inr s2.1))
def s_l03Many (a0_0 : Int) (a0_1 : List Int) : Option Bool :=
 (loop (s_l03Many_L0 a0_0 a0_1) BIG (1,0)).bind fun x2 =>
 some (ilt 5000 x2)

def s_l03Next_L0 (a0 : Int) (s2 : (List Int) × Int) : Option (((List Int) × Int) ⊕ ((List Int) ⊕ (Bool × (List Int)))) :=
 (if 0 ≤ s2.2 then
  (idx s2.1 s2.2).bind fun v8 =>
  (some (s2.1.set s2.2.toNat (w64 (v8 + 1)))).bind fun l10 =>
  (idx l10 s2.2).bind fun v11 =>
  (if v11 < a0 then
   some (.inr (.inr (true,l10)))
  else
   some (.inl (l10.set s2.2.toNat 0,w64 (s2.2 - 1))))
 else
  some (.inr (.inl s2.1)))
def s_l03Next (a0 : Int) (a1 : List Int) : Option (Bool × (List Int)) :=
 (loop (s_l03Next_L0 a0) BIG (a1,w64 ((a1.length : Int) - 1))).bind fun x2 =>
 (match x2 with
 | .inl y4 =>
  some (false,y4)
 | .inr t => some t)

def s_IsometryOf_L2 (a1_0 : Int) (a1_1 : List Int) (s20 : (List (List Int)) × Int) (v30 : Bool × (List Int)) (s35 : Bool × Int) : Option ((Bool × Int) ⊕ Bool) :=
 ((if s35.2 < (s20.1.length : Int) then
  some s35.1
 else
  some false) : Option Bool).bind fun x39 =>
 (if x39 = true then
  (idx s20.1 s35.2).bind fun v42 =>
  (s_l03Pair a1_0 a1_1 v30.2 v42).bind fun v43 =>
  some (.inl (ieq v43 0,w64 (s35.2 + 1)))
 else
  some (.inr s35.1))
def s_IsometryOf_L1 (a0_0 : Int) (a0_1 : List Int) (a1_0 : Int) (a1_1 : List Int) (s20 : (List (List Int)) × Int) (s27 : List Int) : Option ((List Int) ⊕ (List Int)) :=
 (s_l03Next a0_0 s27).bind fun v30 =>
 (if v30.1 = true then
  (s_l03Pair a1_0 a1_1 v30.2 v30.2).bind fun v32 =>
  (idx a0_1 s20.2).bind fun v33 =>
  (loop (s_IsometryOf_L2 a1_0 a1_1 s20 v30) BIG (ieq v32 v33,0)).bind fun x35 =>
  (if x35 = true then
   some (.inr v30.2)
  else
   some (.inl v30.2))
 else
  some (.inr v30.2))
def s_IsometryOf_L0 (a0_0 : Int) (a0_1 : List Int) (a1_0 : Int) (a1_1 : List Int) (s20 : (List (List Int)) × Int) : Option (((List (List Int)) × Int) ⊕ (List (List Int))) :=
 (if s20.2 < (a0_1.length : Int) then
  (chk (0 ≤ (a0_1.length : Int) ∧ (a0_1.length : Int) ≤ 1099511627776)).bind fun _ =>
  (loop (s_IsometryOf_L1 a0_0 a0_1 a1_0 a1_1 s20) BIG (List.replicate (a0_1.length : Int).toNat 0)).bind fun x27 =>
  (chk (s20.1.length + [x27].length ≤ 1099511627776)).bind fun _ =>
  some (.inl (s20.1 ++ [x27],w64 (s20.2 + 1)))
 else
  some (.inr s20.1))
def s_IsometryOf (a0_0 : Int) (a0_1 : List Int) (a1_0 : Int) (a1_1 : List Int) : Option ((List (List Int)) × Int) :=
 ((s_l03Is a0_0 a0_1).bind fun v2 =>
 (if v2 = false then
  some true
 else
  (s_l03Is a1_0 a1_1).bind fun v4 =>
  some (!v4)) : Option Bool).bind fun x5 =>
 (if x5 = true then
  some (([] : List (List Int)),1)
 else
  ((s_l03Disc a0_0 a0_1).bind fun v8 =>
  (if v8 = 0 then
   some true
  else
   (s_l03Disc a1_0 a1_1).bind fun v10 =>
   some (ieq v10 0)) : Option Bool).bind fun x11 =>
  (if x11 = true then
   some (([] : List (List Int)),5)
  else
   (s_l03Isometric a0_0 a0_1 a1_0 a1_1).bind fun v14 =>
   (if v14 = false then
    some (([] : List (List Int)),4)
   else
    (s_l03Many a0_0 a0_1).bind fun v17 =>
    (if v17 = true then
     some (([] : List (List Int)),3)
    else
     (loop (s_IsometryOf_L0 a0_0 a0_1 a1_0 a1_1) BIG ([],0)).bind fun x20 =>
     (s_l02Turn x20).bind fun v46 =>
     some (v46,0)))))

def i_AreIsometric (a0_0 : Int) (a0_1 : List Int) (a1_0 : Int) (a1_1 : List Int) : Option (Bool × Int) :=
 (i_checkSpaces [(a0_0,a0_1),(a1_0,a1_1)]).bind fun v2 =>
 (if ¬ v2 = 0 then
  some (false,v2)
 else
  (i_isometric a0_0 a0_1 a1_0 a1_1).bind fun v4 =>
  some (v4,0))

def s_AreIsometric (a0_0 : Int) (a0_1 : List Int) (a1_0 : Int) (a1_1 : List Int) : Option (Bool × Int) :=
 ((s_l03Is a0_0 a0_1).bind fun v2 =>
 (if v2 = false then
  some true
 else
  (s_l03Is a1_0 a1_1).bind fun v4 =>
  some (!v4)) : Option Bool).bind fun x5 =>
 (if x5 = true then
  some (false,1)
 else
  (s_l03Isometric a0_0 a0_1 a1_0 a1_1).bind fun v7 =>
  some (v7,0))

def i_CountVectors_L2 (a0_0 : Int) (a0_1 : List Int) (v17 : Int) (s20 : (List Int) × Int) (v25 : Int) (s26 : (List Int) × Int) : Option (((List Int) × Int) ⊕ (List Int)) :=
 (if s26.2 < a0_0 then
  (i_Space_field a0_0 a0_1).bind fun v31 =>
  (i_field_num v31 (w64 (s20.2 + (w64 ((w64 (s26.2 * s26.2)) * v17))))).bind fun v32 =>
  (idx s26.1 v32).bind fun v33 =>
  some (.inl (s26.1.set v32.toNat (w64 (v33 + v25)),w64 (s26.2 + 1)))
 else
  some (.inr s26.1))
def i_CountVectors_L1 (a0_0 : Int) (a0_1 : List Int) (s12 : (List Int) × Int) (v17 : Int) (s20 : (List Int) × Int) : Option (((List Int) × Int) ⊕ (List Int)) :=
 (if s20.2 < (s12.1.length : Int) then
  (idx s12.1 s20.2).bind fun v25 =>
  (loop (i_CountVectors_L2 a0_0 a0_1 v17 s20 v25) BIG (s20.1,0)).bind fun x26 =>
  some (.inl (x26,w64 (s20.2 + 1)))
 else
  some (.inr s20.1))
def i_CountVectors_L0 (a0_0 : Int) (a0_1 : List Int) (s12 : (List Int) × Int) : Option (((List Int) × Int) ⊕ (List Int)) :=
 (if s12.2 < (a0_1.length : Int) then
  (idx a0_1 s12.2).bind fun v17 =>
  (chk (0 ≤ a0_0 ∧ a0_0 ≤ 1099511627776)).bind fun _ =>
  (loop (i_CountVectors_L1 a0_0 a0_1 s12 v17) BIG (List.replicate a0_0.toNat 0,0)).bind fun x20 =>
  some (.inl (x20,w64 (s12.2 + 1)))
 else
  some (.inr s12.1))
def i_CountVectors (a0_0 : Int) (a0_1 : List Int) (a1 : Int) : Option (Int × Int) :=
 (i_IsSpace a0_0 a0_1).bind fun v2 =>
 (if v2 = false then
  some (0,1)
 else
  (i_Space_field a0_0 a0_1).bind fun v5 =>
  (i_field_is v5 [a1]).bind fun v6 =>
  (if v6 = false then
   some (0,2)
  else
   (chk (0 ≤ a0_0 ∧ a0_0 ≤ 1099511627776)).bind fun _ =>
   (some (List.replicate a0_0.toNat 0)).bind fun l9 =>
   (idx l9 0).bind fun v10 =>
   (loop (i_CountVectors_L0 a0_0 a0_1) BIG (l9.set 0 1,0)).bind fun x12 =>
   (idx x12 a1).bind fun v34 =>
   some (v34,0)))

def i_Space_isVector (a0_0 : Int) (a0_1 : List Int) (a1 : List Int) : Option Bool :=
 ((i_Space_dim a0_0 a0_1).bind fun v1 =>
 (if (a1.length : Int) = v1 then
  (i_Space_field a0_0 a0_1).bind fun v3 =>
  (i_field_is v3 a1).bind fun v4 =>
  some v4
 else
  some false) : Option Bool).bind fun x5 =>
 some x5

def i_checkVectors_c1 (a0 : List Int) (a1_0 : Int) (a1_1 : List Int) : Option Bool :=
 (i_Space_isVector a1_0 a1_1 a0).bind fun v1 =>
 some (!v1)

def g_slices_IndexFunc_LLI_LI_of_i_checkVectors_c1_L0 (a0 : List (List Int)) (a1_0_0 : Int) (a1_0_1 : List Int) (s2 : Int) : Option (Int ⊕ (Unit ⊕ Int)) :=
 (if s2 < (a0.length : Int) then
  (idx a0 s2).bind fun v8 =>
  (i_checkVectors_c1 v8 a1_0_0 a1_0_1).bind fun v9 =>
  (if v9 = true then
   some (.inr (.inr s2))
  else
   some (.inl (w64 (s2 + 1))))
 else
  some (.inr (.inl ())))
def g_slices_IndexFunc_LLI_LI_of_i_checkVectors_c1 (a0 : List (List Int)) (a1_0_0 : Int) (a1_0_1 : List Int) : Option Int :=
 (loop (g_slices_IndexFunc_LLI_LI_of_i_checkVectors_c1_L0 a0 a1_0_0 a1_0_1) BIG 0).bind fun x2 =>
 (match x2 with
 | .inl y4 =>
  some (-1)
 | .inr t => some t)

def g_slices_ContainsFunc_LLI_LI_of_i_checkVectors_c1 (a0 : List (List Int)) (a1_0_0 : Int) (a1_0_1 : List Int) : Option Bool :=
 (g_slices_IndexFunc_LLI_LI_of_i_checkVectors_c1 a0 a1_0_0 a1_0_1).bind fun v1 =>
 some (ile 0 v1)

def i_checkVectors (a0_0 : Int) (a0_1 : List Int) (a1 : List (List Int)) : Option Int :=
 (i_IsSpace a0_0 a0_1).bind fun v2 =>
 (if v2 = false then
  some 1
 else
  (g_slices_ContainsFunc_LLI_LI_of_i_checkVectors_c1 a1 a0_0 a0_1).bind fun v5 =>
  (if v5 = true then
   some 2
  else
   some 0))

def i_PairOf (a0_0 : Int) (a0_1 : List Int) (a1 : List Int) (a2 : List Int) : Option (Int × Int) :=
 (i_checkVectors a0_0 a0_1 [a1,a2]).bind fun v2 =>
 (if ¬ v2 = 0 then
  some (0,v2)
 else
  (i_Space_pair a0_0 a0_1 a1 a2).bind fun v4 =>
  some (v4,0))

def l_FnIsometries_L0 (v4 : (Int × (List Int)) × (Int × (List Int))) (s23 : Int) : Option (Int ⊕ (Unit ⊕ (Unit ⊕ Bool))) :=
 (if s23 < v4.1.1 then
  (i_CountVectors v4.1.1 v4.1.2 s23).bind fun v29 =>
  (i_CountVectors v4.2.1 v4.2.2 s23).bind fun v30 =>
  ((if ¬ v29.2 = 0 then
   some true
  else
   (if ¬ v30.2 = 0 then
    some true
   else
    some (!(ieq v29.1 v30.1)))) : Option Bool).bind fun x33 =>
  (if x33 = true then
   some (.inr (.inr (.inr false)))
  else
   some (.inl (w64 (s23 + 1))))
 else
  some (.inr (.inl ())))
def l_FnIsometries (a0 : List Int) : Option Bool :=
 (l_big a0).bind fun v2 =>
 (if v2 = true then
  some true
 else
  (s_DrawIsometryOf a0).bind fun v4 =>
  (i_IsometryOf v4.1.1 v4.1.2 v4.2.1 v4.2.2).bind fun v5 =>
  (s_IsometryOf v4.1.1 v4.1.2 v4.2.1 v4.2.2).bind fun v6 =>
  (i_AreIsometric v4.1.1 v4.1.2 v4.2.1 v4.2.2).bind fun v7 =>
  (s_AreIsometric v4.1.1 v4.1.2 v4.2.1 v4.2.2).bind fun v8 =>
  ((if ¬ v5.2 = v6.2 then
   some true
  else
   (l_likeRows5 v5.1 v6.1).bind fun v11 =>
   (if v11 = false then
    some true
   else
    (if ¬ v7.2 = v8.2 then
     some true
    else
     some (v7.1 != v8.1)))) : Option Bool).bind fun x14 =>
  (if x14 = true then
   some false
  else
   (if ¬ v7.2 = 0 then
    some (ieq v5.2 v7.2)
   else
    ((if v7.1 = true then
     (loop (l_FnIsometries_L0 v4) BIG 0).bind fun x23 =>
     (match x23 with
     | .inl y25 =>
      some (.inl ())
     | .inr t => some t)
    else
     some (.inl ())) : Option (Unit ⊕ Bool)).bind fun x19 =>
    (match x19 with
    | .inl y21 =>
     ((if v5.2 = 4 then
      (if v7.1 = true then
       some true
      else
       (if v5.2 = 0 then
        some (!v7.1)
       else
        some false))
     else
      (if v5.2 = 0 then
       some (!v7.1)
      else
       some false)) : Option Bool).bind fun x40 =>
     (if x40 = true then
      some false
     else
      (if ¬ v5.2 = 0 then
       some true
      else
       (i_IsIsometry v4.1.1 v4.1.2 v4.2.1 v4.2.2 v5.1).bind fun v44 =>
       (l_roll a0 835).bind fun v45 =>
       (l_list5 v45.1 v45.2.1 v45.2.2 (v4.1.2.length : Int) v4.1.1).bind fun v46 =>
       (l_list5 v46.2.1 v46.2.2.1 v46.2.2.2 (v4.1.2.length : Int) v4.1.1).bind fun v47 =>
       (i_ApplyMatrix v4.1.1 v5.1 v46.1).bind fun v48 =>
       (i_ApplyMatrix v4.1.1 v5.1 v47.1).bind fun v49 =>
       (i_PairOf v4.1.1 v4.1.2 v46.1 v47.1).bind fun v50 =>
       (i_PairOf v4.2.1 v4.2.2 v48.1 v49.1).bind fun v51 =>
       ((if v44.2 = 0 then
        (if v48.2 = 0 then
         (if v49.2 = 0 then
          (if v50.2 = 0 then
           (if v51.2 = 0 then
            (if v44.1 = true then
             some (ieq v50.1 v51.1)
            else
             some false)
           else
            some false)
          else
           some false)
         else
          some false)
        else
         some false)
       else
        some false) : Option Bool).bind fun x58 =>
       some x58))
    | .inr t => some t))))

end Go.Vam
