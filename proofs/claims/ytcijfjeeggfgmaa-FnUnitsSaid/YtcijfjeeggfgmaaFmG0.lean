import Derived.Test.YtcijfjeeggfgmaaVamT
import Derived.Test.YtcijfjeeggfgmaaVamV
import Derived.Test.YtcijfjeeggfgmaaVamY
import Derived.Test.YtcijfjeeggfgmaaVamZ
import Derived.Test.YtcijfjeeggfgmaaVamAM
namespace Go.Vam
open Go Go.RowKit
set_option maxRecDepth 100000
set_option linter.unusedSimpArgs false
set_option linter.unusedVariables false

def s_l01Prime (a0 : Int) : Option Bool :=
  ((if a0 = 3 then
    some true
  else
    (if a0 = 5 then
      some true
    else
      (if a0 = 7 then
        some true
      else
        (if a0 = 11 then
          some true
        else
          some (ieq a0 13))))) : Option Bool).bind fun x5 =>
  some x5

def s_l01In (a0 : Int) (a1 : Int) (a2 : Int) : Option Bool :=
  ((if a1 ≤ a0 then
    some (ile a0 a2)
  else
    some false) : Option Bool).bind fun x2 =>
  some x2

def i_IsPrime (a0 : Int) : Option Bool :=
  ((if a0 = 3 then
    some (ieq a0 3)
  else
    (if a0 = 5 then
      some (ieq a0 5)
    else
      (if a0 = 7 then
        some (ieq a0 7)
      else
        (if a0 = 11 then
          some (ieq a0 11)
        else
          some (ieq a0 13))))) : Option Bool).bind fun x3 =>
  (if x3 = true then
    some true
  else
    some false)

def i_inRange (a0 : Int) (a1 : Int) (a2 : Int) : Option Bool :=
  ((if a1 ≤ a0 then
    some (ile a0 a2)
  else
    some false) : Option Bool).bind fun x2 =>
  some x2

def i_field_is_L0 (a0 : Int) (a1 : List Int) (s2 : Int) : Option (Int ⊕ (Unit ⊕ Bool)) :=
  (if s2 < (a1.length : Int) then
    (idx a1 s2).bind fun v8 =>
    (i_inRange v8 0 (w64 (a0 - 1))).bind fun v9 =>
    (if v9 = false then
      some (.inr (.inr false))
    else
      some (.inl (w64 (s2 + 1))))
  else
    some (.inr (.inl ())))
def i_field_is (a0 : Int) (a1 : List Int) : Option Bool :=
  (loop (i_field_is_L0 a0 a1) BIG 0).bind fun x2 =>
  (match x2 with
  | .inl y4 =>
    some true
  | .inr t => some t)

def i_field_num (a0 : Int) (a1 : Int) : Option Int :=
  (chk (¬ a0 = 0)).bind fun _ =>
  (chk (¬ a0 = 0)).bind fun _ =>
  some ((w64 ((a1.tmod a0) + a0)).tmod a0)

def i_transpose_L1 (a0 : List (List Int)) (s3 : (List (List Int)) × Int) (s9 : (List Int) × Int) : Option (((List Int) × Int) ⊕ (List Int)) :=
  (if s9.2 < (a0.length : Int) then
    (idx a0 s9.2).bind fun v14 =>
    (idx v14 s3.2).bind fun v15 =>
    (chk (s9.1.length + [v15].length ≤ 1099511627776)).bind fun _ =>
    some (.inl (s9.1 ++ [v15], w64 (s9.2 + 1)))
  else
    some (.inr s9.1))
def i_transpose_L0 (a0 : List (List Int)) (v2 : List Int) (s3 : (List (List Int)) × Int) : Option (((List (List Int)) × Int) ⊕ (List (List Int))) :=
  (if s3.2 < (v2.length : Int) then
    (loop (i_transpose_L1 a0 s3) BIG ([], 0)).bind fun x9 =>
    (chk (s3.1.length + [x9].length ≤ 1099511627776)).bind fun _ =>
    some (.inl (s3.1 ++ [x9], w64 (s3.2 + 1)))
  else
    some (.inr s3.1))
def i_transpose (a0 : List (List Int)) : Option (List (List Int)) :=
  (idx a0 0).bind fun v2 =>
  (loop (i_transpose_L0 a0 v2) BIG ([], 0)).bind fun x3 =>
  some x3

def i_field_plus_L0 (a0 : Int) (a1 : List Int) (a2 : List Int) (a3 : Int) (s2 : (List Int) × Int) : Option (((List Int) × Int) ⊕ (List Int)) :=
  (if s2.2 < (a1.length : Int) then
    (idx a1 s2.2).bind fun v7 =>
    (idx a2 s2.2).bind fun v8 =>
    (i_field_num a0 (w64 (v7 + (w64 (a3 * v8))))).bind fun v9 =>
    (chk (s2.1.length + [v9].length ≤ 1099511627776)).bind fun _ =>
    some (.inl (s2.1 ++ [v9], w64 (s2.2 + 1)))
  else
    some (.inr s2.1))
def i_field_plus (a0 : Int) (a1 : List Int) (a2 : List Int) (a3 : Int) : Option (List Int) :=
  (loop (i_field_plus_L0 a0 a1 a2 a3) BIG ([], 0)).bind fun x2 =>
  some x2

def i_field_scaled_L0 (a0 : Int) (a1 : List Int) (a2 : Int) (s2 : (List Int) × Int) : Option (((List Int) × Int) ⊕ (List Int)) :=
  (if s2.2 < (a1.length : Int) then
    (idx a1 s2.2).bind fun v7 =>
    (i_field_num a0 (w64 (v7 * a2))).bind fun v8 =>
    (chk (s2.1.length + [v8].length ≤ 1099511627776)).bind fun _ =>
    some (.inl (s2.1 ++ [v8], w64 (s2.2 + 1)))
  else
    some (.inr s2.1))
def i_field_scaled (a0 : Int) (a1 : List Int) (a2 : Int) : Option (List Int) :=
  (loop (i_field_scaled_L0 a0 a1 a2) BIG ([], 0)).bind fun x2 =>
  some x2

def s_l11Is_L0 (a0_0 : Int) (a0_1 : List Int) (s7 : Int) : Option (Int ⊕ (Unit ⊕ Bool)) :=
  (if s7 < (a0_1.length : Int) then
    (idx a0_1 s7).bind fun v13 =>
    (s_l01In v13 1 (w64 (a0_0 - 1))).bind fun v14 =>
    (if v14 = false then
      some (.inr (.inr false))
    else
      some (.inl (w64 (s7 + 1))))
  else
    some (.inr (.inl ())))
def s_l11Is (a0_0 : Int) (a0_1 : List Int) : Option Bool :=
  ((s_l01Prime a0_0).bind fun v2 =>
  (if v2 = false then
    some true
  else
    some (ilt 4 (a0_1.length : Int))) : Option Bool).bind fun x4 =>
  (if x4 = true then
    some false
  else
    (loop (s_l11Is_L0 a0_0 a0_1) BIG 0).bind fun x7 =>
    (match x7 with
    | .inl y9 =>
      some true
    | .inr t => some t))

def s_l11Size (a0_0 : Int) (a0_1 : List Int) : Option Int :=
  (chk (0 ≤ (IntKind.u64.wrap ((a0_1.length : Int))))).bind fun _ =>
  some (shl .i64 1 (IntKind.u64.wrap ((a0_1.length : Int))))

def s_l11One (a0_0 : Int) (a0_1 : List Int) (a1 : Int) : Option (List Int) :=
  (s_l11Size a0_0 a0_1).bind fun v1 =>
  (chk (0 ≤ v1 ∧ v1 ≤ 1099511627776)).bind fun _ =>
  (some (List.replicate v1.toNat 0)).bind fun l3 =>
  (idx l3 a1).bind fun v4 =>
  some (l3.set a1.toNat 1)

def s_l01Mod (a0 : Int) (a1 : Int) : Option Int :=
  (chk (¬ a0 = 0)).bind fun _ =>
  (chk (¬ a0 = 0)).bind fun _ =>
  some ((w64 ((a1.tmod a0) + a0)).tmod a0)

def s_l11Scale_L0 (a0 : Int) (a1 : Int) (a2 : List Int) (s2 : (List Int) × Int) : Option (((List Int) × Int) ⊕ (List Int)) :=
  (if s2.2 < (a2.length : Int) then
    (idx a2 s2.2).bind fun v7 =>
    (s_l01Mod a0 (w64 (a1 * v7))).bind fun v8 =>
    (chk (s2.1.length + [v8].length ≤ 1099511627776)).bind fun _ =>
    some (.inl (s2.1 ++ [v8], w64 (s2.2 + 1)))
  else
    some (.inr s2.1))
def s_l11Scale (a0 : Int) (a1 : Int) (a2 : List Int) : Option (List Int) :=
  (loop (s_l11Scale_L0 a0 a1 a2) BIG ([], 0)).bind fun x2 =>
  some x2

def s_l11Star (a0 : Int) (a1 : List Int) : Option (List Int) :=
  (s_l11Scale a0 (w64 (a0 - 1)) a1).bind fun v1 =>
  (idx a1 0).bind fun v2 =>
  (idx v1 0).bind fun v3 =>
  some (v1.set 0 v2)

def s_l11Add_L0 (a0 : Int) (a1 : List Int) (a2 : List Int) (s2 : (List Int) × Int) : Option (((List Int) × Int) ⊕ (List Int)) :=
  (if s2.2 < (a1.length : Int) then
    (idx a1 s2.2).bind fun v7 =>
    (idx a2 s2.2).bind fun v8 =>
    (s_l01Mod a0 (w64 (v7 + v8))).bind fun v9 =>
    (chk (s2.1.length + [v9].length ≤ 1099511627776)).bind fun _ =>
    some (.inl (s2.1 ++ [v9], w64 (s2.2 + 1)))
  else
    some (.inr s2.1))
def s_l11Add (a0 : Int) (a1 : List Int) (a2 : List Int) : Option (List Int) :=
  (loop (s_l11Add_L0 a0 a1 a2) BIG ([], 0)).bind fun x2 =>
  some x2

def s_l11Mul_b (self : Int → (List Int) → (List Int) → (List Int) → Option (List Int)) (a0 : Int) (a1 : List Int) (a2 : List Int) (a3 : List Int) : Option (List Int) :=
  (if (a1.length : Int) = 0 then
    (idx a2 0).bind fun v3 =>
    (idx a3 0).bind fun v4 =>
    (s_l01Mod a0 (w64 (v3 * v4))).bind fun v5 =>
    some [v5]
  else
    (chk (0 ≤ (w64 ((a1.length : Int) - 1)) ∧ (w64 ((a1.length : Int) - 1)) ≤ (a1.length : Int))).bind fun _ =>
    (idx a1 (w64 ((a1.length : Int) - 1))).bind fun v7 =>
    (chk (0 ≤ (w64 ((a2.length : Int).tdiv 2)) ∧ (w64 ((a2.length : Int).tdiv 2)) ≤ (a2.length : Int))).bind fun _ =>
    (chk (0 ≤ (w64 ((a2.length : Int).tdiv 2)) ∧ (w64 ((a2.length : Int).tdiv 2)) ≤ (a2.length : Int))).bind fun _ =>
    (chk (0 ≤ (w64 ((a2.length : Int).tdiv 2)) ∧ (w64 ((a2.length : Int).tdiv 2)) ≤ (a3.length : Int))).bind fun _ =>
    (chk (0 ≤ (w64 ((a2.length : Int).tdiv 2)) ∧ (w64 ((a2.length : Int).tdiv 2)) ≤ (a3.length : Int))).bind fun _ =>
    (self a0 (a1.take (w64 ((a1.length : Int) - 1)).toNat) (a2.take (w64 ((a2.length : Int).tdiv 2)).toNat) (a3.take (w64 ((a2.length : Int).tdiv 2)).toNat)).bind fun v12 =>
    (s_l11Star a0 (a3.drop (w64 ((a2.length : Int).tdiv 2)).toNat)).bind fun v13 =>
    (self a0 (a1.take (w64 ((a1.length : Int) - 1)).toNat) v13 (a2.drop (w64 ((a2.length : Int).tdiv 2)).toNat)).bind fun v14 =>
    (s_l11Scale a0 v7 v14).bind fun v15 =>
    (s_l11Add a0 v12 v15).bind fun v16 =>
    (self a0 (a1.take (w64 ((a1.length : Int) - 1)).toNat) (a3.drop (w64 ((a2.length : Int).tdiv 2)).toNat) (a2.take (w64 ((a2.length : Int).tdiv 2)).toNat)).bind fun v17 =>
    (s_l11Star a0 (a3.take (w64 ((a2.length : Int).tdiv 2)).toNat)).bind fun v18 =>
    (self a0 (a1.take (w64 ((a1.length : Int) - 1)).toNat) (a2.drop (w64 ((a2.length : Int).tdiv 2)).toNat) v18).bind fun v19 =>
    (s_l11Add a0 v17 v19).bind fun v20 =>
    (chk (v16.length + v20.length ≤ 1099511627776)).bind fun _ =>
    some (v16 ++ v20))
def s_l11Mul : Nat → Int → (List Int) → (List Int) → (List Int) → Option (List Int)
  | 0 => fun _ _ _ _ => none
  | n + 1 => s_l11Mul_b (s_l11Mul n)

def s_l11Times (a0_0 : Int) (a0_1 : List Int) (a1 : List Int) (a2 : List Int) : Option (List Int) :=
  (s_l11Mul BIG a0_0 a0_1 a1 a2).bind fun v1 =>
  some v1

def s_l01Own (a0 : List Int) : Option (List Int) :=
  (chk (([] : List Int).length + a0.length ≤ 1099511627776)).bind fun _ =>
  some (([] : List Int) ++ a0)

def s_l01Same_L0 (a0 : List Int) (a1 : List Int) (s4 : Int) : Option (Int ⊕ (Unit ⊕ Bool)) :=
  (if s4 < (a0.length : Int) then
    (idx a0 s4).bind fun v10 =>
    (idx a1 s4).bind fun v11 =>
    (if ¬ v10 = v11 then
      some (.inr (.inr false))
    else
      some (.inl (w64 (s4 + 1))))
  else
    some (.inr (.inl ())))
def s_l01Same (a0 : List Int) (a1 : List Int) : Option Bool :=
  (if ¬ (a0.length : Int) = (a1.length : Int) then
    some false
  else
    (loop (s_l01Same_L0 a0 a1) BIG 0).bind fun x4 =>
    (match x4 with
    | .inl y6 =>
      some true
    | .inr t => some t))

def s_l12First_L0 (a0 : List Int) (s2 : Int) : Option (Int ⊕ Int) :=
  ((if s2 < (a0.length : Int) then
    (idx a0 s2).bind fun v6 =>
    some (ieq v6 0)
  else
    some false) : Option Bool).bind fun x7 =>
  (if x7 = true then
    some (.inl (w64 (s2 + 1)))
  else
    some (.inr s2))
def s_l12First (a0 : List Int) : Option Int :=
  (loop (s_l12First_L0 a0) BIG 0).bind fun x2 =>
  some x2

def i_Doubling_field (a0_0 : Int) (a0_1 : List Int) : Option Int :=
  some a0_0

def g_slices_Index_LI_I_L0 (a0 : List Int) (a1 : Int) (s2 : Int) : Option (Int ⊕ (Unit ⊕ Int)) :=
  (if s2 < (a0.length : Int) then
    (idx a0 s2).bind fun v8 =>
    (if a1 = v8 then
      some (.inr (.inr s2))
    else
      some (.inl (w64 (s2 + 1))))
  else
    some (.inr (.inl ())))
def g_slices_Index_LI_I (a0 : List Int) (a1 : Int) : Option Int :=
  (loop (g_slices_Index_LI_I_L0 a0 a1) BIG 0).bind fun x2 =>
  (match x2 with
  | .inl y4 =>
    some (-1)
  | .inr t => some t)

def g_slices_Contains_LI_I (a0 : List Int) (a1 : Int) : Option Bool :=
  (g_slices_Index_LI_I a0 a1).bind fun v1 =>
  some (ile 0 v1)

def i_IsDoubling (a0_0 : Int) (a0_1 : List Int) : Option Bool :=
  ((i_IsPrime a0_0).bind fun v1 =>
  (if v1 = true then
    (if (a0_1.length : Int) ≤ 4 then
      (i_Doubling_field a0_0 a0_1).bind fun v4 =>
      (i_field_is v4 a0_1).bind fun v5 =>
      (if v5 = true then
        (g_slices_Contains_LI_I a0_1 0).bind fun v7 =>
        some (!v7)
      else
        some false)
    else
      some false)
  else
    some false) : Option Bool).bind fun x8 =>
  some x8

def i_Doubling_size (a0_0 : Int) (a0_1 : List Int) : Option Int :=
  (chk (0 ≤ (a0_1.length : Int))).bind fun _ =>
  some (shl .i64 1 (a0_1.length : Int))

def i_checkElements_c1 (a0 : List Int) (a1_0 : Int) (a1_1 : List Int) : Option Bool :=
  ((i_Doubling_size a1_0 a1_1).bind fun v1 =>
  (if ¬ (a0.length : Int) = v1 then
    some true
  else
    (i_Doubling_field a1_0 a1_1).bind fun v3 =>
    (i_field_is v3 a0).bind fun v4 =>
    some (!v4)) : Option Bool).bind fun x5 =>
  some x5

def g_slices_IndexFunc_LLI_LI_of_i_checkElements_c1_L0 (a0 : List (List Int)) (a1_0_0 : Int) (a1_0_1 : List Int) (s2 : Int) : Option (Int ⊕ (Unit ⊕ Int)) :=
  (if s2 < (a0.length : Int) then
    (idx a0 s2).bind fun v8 =>
    (i_checkElements_c1 v8 a1_0_0 a1_0_1).bind fun v9 =>
    (if v9 = true then
      some (.inr (.inr s2))
    else
      some (.inl (w64 (s2 + 1))))
  else
    some (.inr (.inl ())))
def g_slices_IndexFunc_LLI_LI_of_i_checkElements_c1 (a0 : List (List Int)) (a1_0_0 : Int) (a1_0_1 : List Int) : Option Int :=
  (loop (g_slices_IndexFunc_LLI_LI_of_i_checkElements_c1_L0 a0 a1_0_0 a1_0_1) BIG 0).bind fun x2 =>
  (match x2 with
  | .inl y4 =>
    some (-1)
  | .inr t => some t)

def g_slices_ContainsFunc_LLI_LI_of_i_checkElements_c1 (a0 : List (List Int)) (a1_0_0 : Int) (a1_0_1 : List Int) : Option Bool :=
  (g_slices_IndexFunc_LLI_LI_of_i_checkElements_c1 a0 a1_0_0 a1_0_1).bind fun v1 =>
  some (ile 0 v1)

def i_checkElements (a0_0 : Int) (a0_1 : List Int) (a1 : List (List Int)) : Option Int :=
  (i_IsDoubling a0_0 a0_1).bind fun v2 =>
  (if v2 = false then
    some 1
  else
    (g_slices_ContainsFunc_LLI_LI_of_i_checkElements_c1 a1 a0_0 a0_1).bind fun v5 =>
    (if v5 = true then
      some 2
    else
      some 0))

def i_unit_L0 (a0 : Int) (s2 : (List (List Int)) × Int) : Option (((List (List Int)) × Int) ⊕ (List (List Int))) :=
  (if s2.2 < a0 then
    (chk (0 ≤ a0 ∧ a0 ≤ 1099511627776)).bind fun _ =>
    (some (List.replicate a0.toNat 0)).bind fun l8 =>
    (idx l8 s2.2).bind fun v9 =>
    (chk (s2.1.length + [l8.set s2.2.toNat 1].length ≤ 1099511627776)).bind fun _ =>
    some (.inl (s2.1 ++ [l8.set s2.2.toNat 1], w64 (s2.2 + 1)))
  else
    some (.inr s2.1))
def i_unit (a0 : Int) : Option (List (List Int)) :=
  (loop (i_unit_L0 a0) BIG ([], 0)).bind fun x2 =>
  some x2

def i_Doubling_element (a0_0 : Int) (a0_1 : List Int) (a1 : Int) : Option (List Int) :=
  (i_Doubling_size a0_0 a0_1).bind fun v1 =>
  (i_unit v1).bind fun v2 =>
  (idx v2 a1).bind fun v3 =>
  some v3

def i_field_conjugate (a0 : Int) (a1 : List Int) : Option (List Int) :=
  (i_field_scaled a0 a1 (-1)).bind fun v1 =>
  (idx a1 0).bind fun v2 =>
  (idx v1 0).bind fun v3 =>
  some (v1.set 0 v2)

end Go.Vam

namespace Go.Vam
open Go Go.RowKit
set_option maxRecDepth 100000
set_option linter.unusedSimpArgs false
set_option linter.unusedVariables false

def i_field_doubled_b (self : Int → (List Int) → (List Int) → (List Int) → Option (List Int)) (a0 : Int) (a1 : List Int) (a2 : List Int) (a3 : List Int) : Option (List Int) :=
  (if (a1.length : Int) = 0 then
    (idx a2 0).bind fun v3 =>
    (idx a3 0).bind fun v4 =>
    (i_field_num a0 (w64 (v3 * v4))).bind fun v5 =>
    some [v5]
  else
    (chk (0 ≤ (w64 ((a2.length : Int).tdiv 2)) ∧ (w64 ((a2.length : Int).tdiv 2)) ≤ (a2.length : Int))).bind fun _ =>
    (chk (0 ≤ (w64 ((a2.length : Int).tdiv 2)) ∧ (w64 ((a2.length : Int).tdiv 2)) ≤ (a2.length : Int))).bind fun _ =>
    (chk (0 ≤ (w64 ((a2.length : Int).tdiv 2)) ∧ (w64 ((a2.length : Int).tdiv 2)) ≤ (a3.length : Int))).bind fun _ =>
    (chk (0 ≤ (w64 ((a2.length : Int).tdiv 2)) ∧ (w64 ((a2.length : Int).tdiv 2)) ≤ (a3.length : Int))).bind fun _ =>
    (chk (0 ≤ (w64 ((a1.length : Int) - 1)) ∧ (w64 ((a1.length : Int) - 1)) ≤ (a1.length : Int))).bind fun _ =>
    (self a0 (a1.take (w64 ((a1.length : Int) - 1)).toNat) (a2.take (w64 ((a2.length : Int).tdiv 2)).toNat) (a3.take (w64 ((a2.length : Int).tdiv 2)).toNat)).bind fun v11 =>
    (i_field_conjugate a0 (a3.drop (w64 ((a2.length : Int).tdiv 2)).toNat)).bind fun v12 =>
    (self a0 (a1.take (w64 ((a1.length : Int) - 1)).toNat) v12 (a2.drop (w64 ((a2.length : Int).tdiv 2)).toNat)).bind fun v13 =>
    (idx a1 (w64 ((a1.length : Int) - 1))).bind fun v14 =>
    (i_field_plus a0 v11 v13 v14).bind fun v15 =>
    (self a0 (a1.take (w64 ((a1.length : Int) - 1)).toNat) (a3.drop (w64 ((a2.length : Int).tdiv 2)).toNat) (a2.take (w64 ((a2.length : Int).tdiv 2)).toNat)).bind fun v16 =>
    (i_field_conjugate a0 (a3.take (w64 ((a2.length : Int).tdiv 2)).toNat)).bind fun v17 =>
    (self a0 (a1.take (w64 ((a1.length : Int) - 1)).toNat) (a2.drop (w64 ((a2.length : Int).tdiv 2)).toNat) v17).bind fun v18 =>
    (i_field_plus a0 v16 v18 1).bind fun v19 =>
    (chk (v15.length + v19.length ≤ 1099511627776)).bind fun _ =>
    some (v15 ++ v19))
def i_field_doubled : Nat → Int → (List Int) → (List Int) → (List Int) → Option (List Int)
  | 0 => fun _ _ _ _ => none
  | n + 1 => i_field_doubled_b (i_field_doubled n)

def i_Doubling_times (a0_0 : Int) (a0_1 : List Int) (a1 : List Int) (a2 : List Int) : Option (List Int) :=
  (i_Doubling_field a0_0 a0_1).bind fun v1 =>
  (i_field_doubled BIG v1 a0_1 a1 a2).bind fun v2 =>
  some v2

def i_length_I (a0 : List Int) : Option Int :=
  some (a0.length : Int)

def i_isOnce_L0 (a0 : List Int) (s3 : (List Bool) × Int) : Option (((List Bool) × Int) ⊕ (Unit ⊕ Bool)) :=
  (if s3.2 < (a0.length : Int) then
    (idx a0 s3.2).bind fun v9 =>
    ((i_length_I a0).bind fun v11 =>
    (i_inRange v9 0 (w64 (v11 - 1))).bind fun v12 =>
    (if v12 = false then
      some true
    else
      (idx s3.1 v9).bind fun v14 =>
      some v14) : Option Bool).bind fun x15 =>
    (if x15 = true then
      some (.inr (.inr false))
    else
      (idx s3.1 v9).bind fun v17 =>
      some (.inl (s3.1.set v9.toNat true, w64 (s3.2 + 1))))
  else
    some (.inr (.inl ())))
def i_isOnce (a0 : List Int) : Option Bool :=
  (chk (0 ≤ (a0.length : Int) ∧ (a0.length : Int) ≤ 1099511627776)).bind fun _ =>
  (loop (i_isOnce_L0 a0) BIG (List.replicate (a0.length : Int).toNat false, 0)).bind fun x3 =>
  (match x3 with
  | .inl y5 =>
    some true
  | .inr t => some t)

def i_IsLoop_c1 (a0 : List Int) : Option Bool :=
  (i_isOnce a0).bind fun v1 =>
  some (!v1)

def g_slices_IndexFunc_LLI_LI_of_i_IsLoop_c1_L0 (a0 : List (List Int)) (s2 : Int) : Option (Int ⊕ (Unit ⊕ Int)) :=
  (if s2 < (a0.length : Int) then
    (idx a0 s2).bind fun v8 =>
    (i_IsLoop_c1 v8).bind fun v9 =>
    (if v9 = true then
      some (.inr (.inr s2))
    else
      some (.inl (w64 (s2 + 1))))
  else
    some (.inr (.inl ())))
def g_slices_IndexFunc_LLI_LI_of_i_IsLoop_c1 (a0 : List (List Int)) : Option Int :=
  (loop (g_slices_IndexFunc_LLI_LI_of_i_IsLoop_c1_L0 a0) BIG 0).bind fun x2 =>
  (match x2 with
  | .inl y4 =>
    some (-1)
  | .inr t => some t)

def g_slices_ContainsFunc_LLI_LI_of_i_IsLoop_c1 (a0 : List (List Int)) : Option Bool :=
  (g_slices_IndexFunc_LLI_LI_of_i_IsLoop_c1 a0).bind fun v1 =>
  some (ile 0 v1)

def i_IsLoop_L0 (a0 : List (List Int)) (s6 : Int) : Option (Int ⊕ (Unit ⊕ Bool)) :=
  (if s6 < (a0.length : Int) then
    (idx a0 s6).bind fun v12 =>
    (if ¬ (v12.length : Int) = (a0.length : Int) then
      some (.inr (.inr false))
    else
      some (.inl (w64 (s6 + 1))))
  else
    some (.inr (.inl ())))
def i_IsLoop_L1 (a0 : List (List Int)) (s15 : Int) : Option (Int ⊕ (Unit ⊕ Bool)) :=
  (if s15 < (a0.length : Int) then
    (idx a0 s15).bind fun v21 =>
    ((idx v21 0).bind fun v22 =>
    (if ¬ v22 = s15 then
      some true
    else
      (idx a0 0).bind fun v24 =>
      (idx v24 s15).bind fun v25 =>
      (if ¬ v25 = s15 then
        some true
      else
        (i_isOnce v21).bind fun v27 =>
        some (!v27))) : Option Bool).bind fun x28 =>
    (if x28 = true then
      some (.inr (.inr false))
    else
      some (.inl (w64 (s15 + 1))))
  else
    some (.inr (.inl ())))
def i_IsLoop (a0 : List (List Int)) : Option Bool :=
  ((if (a0.length : Int) < 1 then
    some true
  else
    some (ilt 128 (a0.length : Int))) : Option Bool).bind fun x3 =>
  (if x3 = true then
    some false
  else
    (loop (i_IsLoop_L0 a0) BIG 0).bind fun x6 =>
    (match x6 with
    | .inl y8 =>
      (loop (i_IsLoop_L1 a0) BIG 0).bind fun x15 =>
      (match x15 with
      | .inl y17 =>
        (i_transpose a0).bind fun v30 =>
        (g_slices_ContainsFunc_LLI_LI_of_i_IsLoop_c1 v30).bind fun v31 =>
        some (!v31)
      | .inr t => some t)
    | .inr t => some t))

def i_length_LI (a0 : List (List Int)) : Option Int :=
  some (a0.length : Int)

def i_checkLoop_c1 (a0 : Int) (a1_0 : List (List Int)) : Option Bool :=
  (i_length_LI a1_0).bind fun v1 =>
  (i_inRange a0 0 (w64 (v1 - 1))).bind fun v2 =>
  some (!v2)

def g_slices_IndexFunc_LI_I_of_i_checkLoop_c1_L0 (a0 : List Int) (a1_0_0 : List (List Int)) (s2 : Int) : Option (Int ⊕ (Unit ⊕ Int)) :=
  (if s2 < (a0.length : Int) then
    (idx a0 s2).bind fun v8 =>
    (i_checkLoop_c1 v8 a1_0_0).bind fun v9 =>
    (if v9 = true then
      some (.inr (.inr s2))
    else
      some (.inl (w64 (s2 + 1))))
  else
    some (.inr (.inl ())))
def g_slices_IndexFunc_LI_I_of_i_checkLoop_c1 (a0 : List Int) (a1_0_0 : List (List Int)) : Option Int :=
  (loop (g_slices_IndexFunc_LI_I_of_i_checkLoop_c1_L0 a0 a1_0_0) BIG 0).bind fun x2 =>
  (match x2 with
  | .inl y4 =>
    some (-1)
  | .inr t => some t)

def g_slices_ContainsFunc_LI_I_of_i_checkLoop_c1 (a0 : List Int) (a1_0_0 : List (List Int)) : Option Bool :=
  (g_slices_IndexFunc_LI_I_of_i_checkLoop_c1 a0 a1_0_0).bind fun v1 =>
  some (ile 0 v1)

def i_checkLoop (a0 : List (List Int)) (a1 : List Int) : Option Int :=
  (i_IsLoop a0).bind fun v2 =>
  (if v2 = false then
    some 1
  else
    (g_slices_ContainsFunc_LI_I_of_i_checkLoop_c1 a1 a0).bind fun v5 =>
    (if v5 = true then
      some 2
    else
      some 0))

def g_slices_Clone_LI_I (a0 : List Int) : Option (List Int) :=
  (chk (a0.length ≤ 1099511627776)).bind fun _ => some a0

def l_big (a0 : List Int) : Option Bool :=
  some (ilt 4096 (a0.length : Int))

end Go.Vam

namespace Go.Vam
open Go Go.RowKit
set_option maxRecDepth 100000
set_option linter.unusedSimpArgs false
set_option linter.unusedVariables false

def s_l11Diagonal_L0 (a0_0 : Int) (a0_1 : List Int) (s2 : (List Int) × Int) : Option (((List Int) × Int) ⊕ (List Int)) :=
  (if s2.2 < (a0_1.length : Int) then
    (idx a0_1 s2.2).bind fun v7 =>
    (s_l11Scale a0_0 (w64 (a0_0 - v7)) s2.1).bind fun v8 =>
    (chk (s2.1.length + v8.length ≤ 1099511627776)).bind fun _ =>
    some (.inl (s2.1 ++ v8, w64 (s2.2 + 1)))
  else
    some (.inr s2.1))
def s_l11Diagonal (a0_0 : Int) (a0_1 : List Int) : Option (List Int) :=
  (loop (s_l11Diagonal_L0 a0_0 a0_1) BIG ([1], 0)).bind fun x2 =>
  some x2

def i_Doubling_norm (a0_0 : Int) (a0_1 : List Int) (a1 : List Int) : Option Int :=
  (i_Doubling_field a0_0 a0_1).bind fun v1 =>
  (i_field_conjugate v1 a1).bind fun v2 =>
  (i_Doubling_times a0_0 a0_1 a1 v2).bind fun v3 =>
  (idx v3 0).bind fun v4 =>
  some v4

def i_Doubling_diagonal_L0 (a0_0 : Int) (a0_1 : List Int) (v3 : List (List Int)) (s4 : (List Int) × Int) : Option (((List Int) × Int) ⊕ (List Int)) :=
  (if s4.2 < (v3.length : Int) then
    (idx v3 s4.2).bind fun v9 =>
    (i_Doubling_norm a0_0 a0_1 v9).bind fun v10 =>
    (chk (s4.1.length + [v10].length ≤ 1099511627776)).bind fun _ =>
    some (.inl (s4.1 ++ [v10], w64 (s4.2 + 1)))
  else
    some (.inr s4.1))
def i_Doubling_diagonal (a0_0 : Int) (a0_1 : List Int) : Option (List Int) :=
  (i_Doubling_size a0_0 a0_1).bind fun v2 =>
  (i_unit v2).bind fun v3 =>
  (loop (i_Doubling_diagonal_L0 a0_0 a0_1 v3) BIG ([], 0)).bind fun x4 =>
  some x4

def s_l02First_L0 (a0 : List Int) (s2 : Int) : Option (Int ⊕ (Unit ⊕ Int)) :=
  (if s2 < (a0.length : Int) then
    (idx a0 s2).bind fun v8 =>
    (if ¬ v8 = 0 then
      some (.inr (.inr s2))
    else
      some (.inl (w64 (s2 + 1))))
  else
    some (.inr (.inl ())))
def s_l02First (a0 : List Int) : Option Int :=
  (loop (s_l02First_L0 a0) BIG 0).bind fun x2 =>
  (match x2 with
  | .inl y4 =>
    some (-1)
  | .inr t => some t)

def i_lead_L0 (a0 : List Int) (s2 : Int) : Option (Int ⊕ Int) :=
  ((if s2 < (a0.length : Int) then
    (idx a0 s2).bind fun v6 =>
    some (ieq v6 0)
  else
    some false) : Option Bool).bind fun x7 =>
  (if x7 = true then
    some (.inl (w64 (s2 + 1)))
  else
    some (.inr s2))
def i_lead (a0 : List Int) : Option Int :=
  (loop (i_lead_L0 a0) BIG 0).bind fun x2 =>
  some x2

def s_l12Counts_L2 (a0 : Int) (a1 : List Int) (s5 : (List Int) × Int) (s12 : (List Int) × Int) (s17 : (List Int) × Int) : Option (((List Int) × Int) ⊕ (List Int)) :=
  (if s17.2 < a0 then
    (idx a1 s5.2).bind fun v22 =>
    (s_l01Mod a0 (w64 (s12.2 + (w64 ((w64 (v22 * s17.2)) * s17.2))))).bind fun v23 =>
    (idx s17.1 v23).bind fun v24 =>
    (idx s5.1 s12.2).bind fun v25 =>
    some (.inl (s17.1.set v23.toNat (w64 (v24 + v25)), w64 (s17.2 + 1)))
  else
    some (.inr s17.1))
def s_l12Counts_L1 (a0 : Int) (a1 : List Int) (s5 : (List Int) × Int) (s12 : (List Int) × Int) : Option (((List Int) × Int) ⊕ (List Int)) :=
  (if s12.2 < a0 then
    (loop (s_l12Counts_L2 a0 a1 s5 s12) BIG (s12.1, 0)).bind fun x17 =>
    some (.inl (x17, w64 (s12.2 + 1)))
  else
    some (.inr s12.1))
def s_l12Counts_L0 (a0 : Int) (a1 : List Int) (s5 : (List Int) × Int) : Option (((List Int) × Int) ⊕ (List Int)) :=
  (if s5.2 < (a1.length : Int) then
    (chk (0 ≤ a0 ∧ a0 ≤ 1099511627776)).bind fun _ =>
    (loop (s_l12Counts_L1 a0 a1 s5) BIG (List.replicate a0.toNat 0, 0)).bind fun x12 =>
    some (.inl (x12, w64 (s5.2 + 1)))
  else
    some (.inr s5.1))
def s_l12Counts (a0 : Int) (a1 : List Int) : Option (List Int) :=
  (chk (0 ≤ a0 ∧ a0 ≤ 1099511627776)).bind fun _ =>
  (some (List.replicate a0.toNat 0)).bind fun l2 =>
  (idx l2 0).bind fun v3 =>
  (loop (s_l12Counts_L0 a0 a1) BIG (l2.set 0 1, 0)).bind fun x5 =>
  some x5

end Go.Vam

namespace Go.Vam
open Go Go.RowKit
set_option maxRecDepth 100000
set_option linter.unusedSimpArgs false
set_option linter.unusedVariables false

def g_slices_Equal_LI_I_L0 (a0 : List Int) (a1 : List Int) (s4 : Int) : Option (Int ⊕ (Unit ⊕ Bool)) :=
  (if s4 < (a0.length : Int) then
    (idx a0 s4).bind fun v10 =>
    (idx a1 s4).bind fun v11 =>
    (if ¬ v10 = v11 then
      some (.inr (.inr false))
    else
      some (.inl (w64 (s4 + 1))))
  else
    some (.inr (.inl ())))
def g_slices_Equal_LI_I (a0 : List Int) (a1 : List Int) : Option Bool :=
  (if ¬ (a0.length : Int) = (a1.length : Int) then
    some false
  else
    (loop (g_slices_Equal_LI_I_L0 a0 a1) BIG 0).bind fun x4 =>
    (match x4 with
    | .inl y6 =>
      some true
    | .inr t => some t))

end Go.Vam

namespace Go.Vam
open Go Go.RowKit
set_option maxRecDepth 100000
set_option linter.unusedSimpArgs false
set_option linter.unusedVariables false

end Go.Vam

namespace Go.Vam
open Go Go.RowKit
set_option maxRecDepth 100000
set_option linter.unusedSimpArgs false
set_option linter.unusedVariables false

end Go.Vam

namespace Go.Vam
open Go Go.RowKit
set_option maxRecDepth 100000
set_option linter.unusedSimpArgs false
set_option linter.unusedVariables false

def s_l01From_L0 (a0 : List Int) (s2 : (List Int) × Int × Int × Int) : Option (((List Int) × Int × Int × Int) ⊕ ((List Int) × Int × Int)) :=
  ((if s2.2.2.2 < (a0.length : Int) then
    some (ilt s2.2.2.2 4096)
  else
    some false) : Option Bool).bind fun x6 =>
  (if x6 = true then
    (idx a0 s2.2.2.2).bind fun v9 =>
    some (.inl (s2.1, s2.2.1, IntKind.u64.wrap ((IntKind.u64.wrap ((IntKind.u64.wrap (s2.2.2.1 * 1099511628211)) + (IntKind.u64.wrap (v9)))) + 11), w64 (s2.2.2.2 + 1)))
  else
    some (.inr (s2.1, s2.2.1, s2.2.2.1)))
def s_l01From (a0 : List Int) : Option ((List Int) × Int × Int) :=
  (loop (s_l01From_L0 a0) BIG (a0, 0, IntKind.u64.wrap (4409 + (IntKind.u64.wrap ((a0.length : Int)))), 0)).bind fun x2 =>
  some (x2.1, x2.2.1, x2.2.2)

def s_l01Next (a0_0 : List Int) (a0_1 : Int) (a0_2 : Int) (a1 : Int) : Option (Int × ((List Int) × Int × Int)) :=
  (if a1 < 1 then
    some (0, (a0_0, a0_1, a0_2))
  else
    ((if a0_1 < (a0_0.length : Int) then
      (idx a0_0 a0_1).bind fun v7 =>
      some (a0_0, w64 (a0_1 + 1), IntKind.u64.wrap ((IntKind.u64.wrap (a0_2 * 6364136223846793005)) + 1442695040888963407), w64 ((w64 (band .u64 (shr .u64 (IntKind.u64.wrap ((IntKind.u64.wrap (a0_2 * 6364136223846793005)) + 1442695040888963407)) 33) 16777215)) + (w64 (v7))))
    else
      some (a0_0, a0_1, IntKind.u64.wrap ((IntKind.u64.wrap (a0_2 * 6364136223846793005)) + 1442695040888963407), w64 (band .u64 (shr .u64 (IntKind.u64.wrap ((IntKind.u64.wrap (a0_2 * 6364136223846793005)) + 1442695040888963407)) 33) 16777215))) : Option ((List Int) × Int × Int × Int)).bind fun x4 =>
    (chk (¬ a1 = 0)).bind fun _ =>
    some (x4.2.2.2.tmod a1, (x4.1, x4.2.1, x4.2.2.1)))

def s_l01Pick (a0_0 : List Int) (a0_1 : Int) (a0_2 : Int) (a1 : List Int) : Option (Int × ((List Int) × Int × Int)) :=
  (s_l01Next a0_0 a0_1 a0_2 (a1.length : Int)).bind fun v1 =>
  (idx a1 v1.1).bind fun v2 =>
  some (v2, (v1.2.1, v1.2.2.1, v1.2.2.2))

def l_likeInts_L0 (a0 : List Int) (a1 : List Int) (s4 : Int) : Option (Int ⊕ (Unit ⊕ Bool)) :=
  (if s4 < (a0.length : Int) then
    (idx a0 s4).bind fun v10 =>
    (idx a1 s4).bind fun v11 =>
    (if ¬ v10 = v11 then
      some (.inr (.inr false))
    else
      some (.inl (w64 (s4 + 1))))
  else
    some (.inr (.inl ())))
def l_likeInts (a0 : List Int) (a1 : List Int) : Option Bool :=
  (if ¬ (a0.length : Int) = (a1.length : Int) then
    some false
  else
    (loop (l_likeInts_L0 a0 a1) BIG 0).bind fun x4 =>
    (match x4 with
    | .inl y6 =>
      some true
    | .inr t => some t))

def l_likeRows5_L0 (a0 : List (List Int)) (a1 : List (List Int)) (s4 : Int) : Option (Int ⊕ (Unit ⊕ Bool)) :=
  (if s4 < (a0.length : Int) then
    (idx a0 s4).bind fun v10 =>
    (idx a1 s4).bind fun v11 =>
    (l_likeInts v10 v11).bind fun v12 =>
    (if v12 = false then
      some (.inr (.inr false))
    else
      some (.inl (w64 (s4 + 1))))
  else
    some (.inr (.inl ())))
def l_likeRows5 (a0 : List (List Int)) (a1 : List (List Int)) : Option Bool :=
  (if ¬ (a0.length : Int) = (a1.length : Int) then
    some false
  else
    (loop (l_likeRows5_L0 a0 a1) BIG 0).bind fun x4 =>
    (match x4 with
    | .inl y6 =>
      some true
    | .inr t => some t))

def l_roll_L0 (a0 : List Int) (s2 : (List Int) × Int × Int × Int) : Option (((List Int) × Int × Int × Int) ⊕ ((List Int) × Int × Int)) :=
  (if s2.2.2.2 < (a0.length : Int) then
    (idx a0 s2.2.2.2).bind fun v7 =>
    some (.inl (s2.1, s2.2.1, IntKind.u64.wrap ((IntKind.u64.wrap ((IntKind.u64.wrap (s2.2.2.1 * 1099511628211)) + (IntKind.u64.wrap (v7)))) + 5), w64 (s2.2.2.2 + 1)))
  else
    some (.inr (s2.1, s2.2.1, s2.2.2.1)))
def l_roll (a0 : List Int) (a1 : Int) : Option ((List Int) × Int × Int) :=
  (loop (l_roll_L0 a0) BIG (a0, 0, IntKind.u64.wrap ((IntKind.u64.wrap (a1 * 7681)) + (IntKind.u64.wrap ((a0.length : Int)))), 0)).bind fun x2 =>
  some (x2.1, x2.2.1, x2.2.2)

def g_p_laws_dice_below (a0_0 : List Int) (a0_1 : Int) (a0_2 : Int) (a1 : Int) : Option (Int × ((List Int) × Int × Int)) :=
  (if a1 < 1 then
    some (0, (a0_0, a0_1, a0_2))
  else
    ((if a0_1 < (a0_0.length : Int) then
      (idx a0_0 a0_1).bind fun v7 =>
      some (a0_0, w64 (a0_1 + 1), IntKind.u64.wrap ((IntKind.u64.wrap (a0_2 * 6364136223846793005)) + 1442695040888963407), w64 ((w64 (band .u64 (shr .u64 (IntKind.u64.wrap ((IntKind.u64.wrap (a0_2 * 6364136223846793005)) + 1442695040888963407)) 33) 16777215)) + (w64 (v7))))
    else
      some (a0_0, a0_1, IntKind.u64.wrap ((IntKind.u64.wrap (a0_2 * 6364136223846793005)) + 1442695040888963407), w64 (band .u64 (shr .u64 (IntKind.u64.wrap ((IntKind.u64.wrap (a0_2 * 6364136223846793005)) + 1442695040888963407)) 33) 16777215))) : Option ((List Int) × Int × Int × Int)).bind fun x4 =>
    (chk (¬ a1 = 0)).bind fun _ =>
    some (x4.2.2.2.tmod a1, (x4.1, x4.2.1, x4.2.2.1)))

end Go.Vam

namespace Go.Vam
open Go Go.RowKit
set_option maxRecDepth 100000
set_option linter.unusedSimpArgs false
set_option linter.unusedVariables false

end Go.Vam

namespace Go.Vam
open Go Go.RowKit
set_option maxRecDepth 100000
set_option linter.unusedSimpArgs false
set_option linter.unusedVariables false



end Go.Vam

namespace Go.Vam
open Go Go.RowKit
set_option maxRecDepth 100000
set_option linter.unusedSimpArgs false
set_option linter.unusedVariables false

def s_l11Draw_L0 (s4 : (List Int) × Int × Int × Int × (List Int) × Int) : Option (((List Int) × Int × Int × Int × (List Int) × Int) ⊕ ((List Int) × Int × Int × Int × (List Int))) :=
  (if 0 < s4.2.2.2.2.2 then
    ((s_l01Next s4.1 s4.2.1 s4.2.2.1 2).bind fun v10 =>
    (if v10.1 = 0 then
      (chk (s4.2.2.2.2.1.length + [w64 (s4.2.2.2.1 - 1)].length ≤ 1099511627776)).bind fun _ =>
      some (v10.2.1, v10.2.2.1, v10.2.2.2, s4.2.2.2.1, s4.2.2.2.2.1 ++ [w64 (s4.2.2.2.1 - 1)])
    else
      (s_l01Next v10.2.1 v10.2.2.1 v10.2.2.2 (w64 (s4.2.2.2.1 - 1))).bind fun v13 =>
      (chk (s4.2.2.2.2.1.length + [w64 (1 + v13.1)].length ≤ 1099511627776)).bind fun _ =>
      some (v13.2.1, v13.2.2.1, v13.2.2.2, s4.2.2.2.1, s4.2.2.2.2.1 ++ [w64 (1 + v13.1)])) : Option ((List Int) × Int × Int × Int × (List Int))).bind fun x8 =>
    some (.inl (x8.1, x8.2.1, x8.2.2.1, x8.2.2.2.1, x8.2.2.2.2, w64 (s4.2.2.2.2.2 - 1)))
  else
    some (.inr (s4.1, s4.2.1, s4.2.2.1, s4.2.2.2.1, s4.2.2.2.2.1)))
def s_l11Draw (a0_0 : List Int) (a0_1 : Int) (a0_2 : Int) (a1 : Int) : Option ((Int × (List Int)) × ((List Int) × Int × Int)) :=
  (s_l01Pick a0_0 a0_1 a0_2 [3, 5, 7, 11, 13]).bind fun v1 =>
  (s_l01Pick v1.2.1 v1.2.2.1 v1.2.2.2 [0, 1, 2, 2, 3, 3, 3, 4]).bind fun v3 =>
  (loop s_l11Draw_L0 BIG (v3.2.1, v3.2.2.1, v3.2.2.2, v1.1, [], imin a1 v3.1)).bind fun x4 =>
  some ((x4.2.2.2.1, x4.2.2.2.2), (x4.1, x4.2.1, x4.2.2.1))

def s_l11DrawAny_L0 (s12 : Int × (List Int)) : Option ((Int × (List Int)) ⊕ (Int × (List Int))) :=
  (if (s12.2.length : Int) < 5 then
    (chk (s12.2.length + [1].length ≤ 1099511627776)).bind fun _ =>
    some (.inl (s12.1, s12.2 ++ [1]))
  else
    some (.inr (s12.1, s12.2)))
def s_l11DrawAny (a0_0 : List Int) (a0_1 : Int) (a0_2 : Int) (a1 : Int) : Option ((Int × (List Int)) × ((List Int) × Int × Int)) :=
  (s_l11Draw a0_0 a0_1 a0_2 a1).bind fun v1 =>
  (s_l01Next v1.2.1 v1.2.2.1 v1.2.2.2 30).bind fun v3 =>
  ((if v3.1 = 0 then
    (s_l01Pick v3.2.1 v3.2.2.1 v3.2.2.2 [2, 9, 17, 0]).bind fun v7 =>
    some (v7.2.1, v7.2.2.1, v7.2.2.2, v7.1, v1.1.2)
  else
    (if v3.1 = 1 then
      (s_l01Pick v3.2.1 v3.2.2.1 v3.2.2.2 [0, v1.1.1]).bind fun v9 =>
      (chk (v1.1.2.length + [v9.1].length ≤ 1099511627776)).bind fun _ =>
      some (v9.2.1, v9.2.2.1, v9.2.2.2, v1.1.1, v1.1.2 ++ [v9.1])
    else
      (if v3.1 = 2 then
        (loop s_l11DrawAny_L0 BIG (v1.1.1, v1.1.2)).bind fun x12 =>
        some (v3.2.1, v3.2.2.1, v3.2.2.2, x12.1, x12.2)
      else
        some (v3.2.1, v3.2.2.1, v3.2.2.2, v1.1.1, v1.1.2)))) : Option ((List Int) × Int × Int × Int × (List Int))).bind fun x4 =>
  some ((x4.2.2.2.1, x4.2.2.2.2), (x4.1, x4.2.1, x4.2.2.1))

def l_same9_L0 (a0 : List (List Int)) (a1 : List (List Int)) (s4 : Int) : Option (Int ⊕ (Unit ⊕ Bool)) :=
  (if s4 < (a0.length : Int) then
    (idx a0 s4).bind fun v10 =>
    (idx a1 s4).bind fun v11 =>
    (l_likeInts v10 v11).bind fun v12 =>
    (if v12 = false then
      some (.inr (.inr false))
    else
      some (.inl (w64 (s4 + 1))))
  else
    some (.inr (.inl ())))
def l_same9 (a0 : List (List Int)) (a1 : List (List Int)) : Option Bool :=
  (if ¬ (a0.length : Int) = (a1.length : Int) then
    some false
  else
    (loop (l_same9_L0 a0 a1) BIG 0).bind fun x4 =>
    (match x4 with
    | .inl y6 =>
      some true
    | .inr t => some t))

def i_DoubleTimes (a0_0 : Int) (a0_1 : List Int) (a1 : List Int) (a2 : List Int) : Option ((List Int) × Int) :=
  (i_checkElements a0_0 a0_1 [a1, a2]).bind fun v2 =>
  (if ¬ v2 = 0 then
    some (([] : List Int), v2)
  else
    (i_Doubling_times a0_0 a0_1 a1 a2).bind fun v4 =>
    some (v4, 0))

def l_times9 (a0_0 : Int) (a0_1 : List Int) (a1 : List Int) (a2 : List Int) : Option (List Int) :=
  (i_DoubleTimes a0_0 a0_1 a1 a2).bind fun v1 =>
  (if ¬ v1.2 = 0 then
    some ([] : List Int)
  else
    some v1.1)

end Go.Vam

namespace Go.Vam
open Go Go.RowKit
set_option maxRecDepth 100000
set_option linter.unusedSimpArgs false
set_option linter.unusedVariables false

def s_DrawUnitsOf_L0 (s9 : (List Int) × Int × Int × Int × (List Int) × Int) : Option (((List Int) × Int × Int × Int × (List Int) × Int) ⊕ (Int × (List Int))) :=
  (if 0 < s9.2.2.2.2.2 then
    (s_l01Next s9.1 s9.2.1 s9.2.2.1 (w64 (s9.2.2.2.1 - 1))).bind fun v14 =>
    (chk (s9.2.2.2.2.1.length + [w64 (1 + v14.1)].length ≤ 1099511627776)).bind fun _ =>
    some (.inl (v14.2.1, v14.2.2.1, v14.2.2.2, s9.2.2.2.1, s9.2.2.2.2.1 ++ [w64 (1 + v14.1)], w64 (s9.2.2.2.2.2 - 1)))
  else
    some (.inr (s9.2.2.2.1, s9.2.2.2.2.1)))
def s_DrawUnitsOf (a0 : List Int) : Option (Int × (List Int)) :=
  (s_l01From a0).bind fun v1 =>
  (s_l01Next v1.1 v1.2.1 v1.2.2 3).bind fun v3 =>
  (if v3.1 = 0 then
    (s_l11DrawAny v3.2.1 v3.2.2.1 v3.2.2.2 4).bind fun v5 =>
    some (v5.1.1, v5.1.2)
  else
    (s_l01Pick v3.2.1 v3.2.2.1 v3.2.2.2 [3, 3, 5]).bind fun v6 =>
    (s_l01Next v6.2.1 v6.2.2.1 v6.2.2.2 3).bind fun v8 =>
    (loop s_DrawUnitsOf_L0 BIG (v8.2.1, v8.2.2.1, v8.2.2.2, v6.1, [], v8.1)).bind fun x9 =>
    some (x9.1, x9.2))

def i_IsMoufangLoop_c1 (a0 : Int) (a1 : Int) (a2 : Int) (a3_0 : List (List Int)) : Option Bool :=
  (idx a3_0 a0).bind fun v1 =>
  (idx a3_0 a1).bind fun v2 =>
  (idx v2 a2).bind fun v3 =>
  (idx v1 v3).bind fun v4 =>
  (idx a3_0 v4).bind fun v5 =>
  (idx v5 a0).bind fun v6 =>
  (idx v1 a1).bind fun v7 =>
  (idx a3_0 v7).bind fun v8 =>
  (idx a3_0 a2).bind fun v9 =>
  (idx v9 a0).bind fun v10 =>
  (idx v8 v10).bind fun v11 =>
  some (ieq v6 v11)

def i_loopTriples_of_i_IsMoufangLoop_c1_L2 (a1_0_0 : List (List Int)) (s3 : Int) (s10 : Int) (v16 : Int) (s17 : Int) : Option (Int ⊕ (Unit ⊕ (Int ⊕ (Unit ⊕ (Int ⊕ (Unit ⊕ Bool)))))) :=
  (if s17 < v16 then
    (i_IsMoufangLoop_c1 s3 s10 s17 a1_0_0).bind fun v23 =>
    (if v23 = false then
      some (.inr (.inr (.inr (.inr (.inr (.inr false))))))
    else
      some (.inl (w64 (s17 + 1))))
  else
    some (.inr (.inl ())))
def i_loopTriples_of_i_IsMoufangLoop_c1_L1 (a0 : List (List Int)) (a1_0_0 : List (List Int)) (s3 : Int) (v9 : Int) (s10 : Int) : Option (Int ⊕ (Unit ⊕ (Int ⊕ (Unit ⊕ Bool)))) :=
  (if s10 < v9 then
    (i_length_LI a0).bind fun v16 =>
    (loop (i_loopTriples_of_i_IsMoufangLoop_c1_L2 a1_0_0 s3 s10 v16) BIG 0).bind fun x17 =>
    (match x17 with
    | .inl y19 =>
      some (.inl (w64 (s10 + 1)))
    | .inr t => some t)
  else
    some (.inr (.inl ())))
def i_loopTriples_of_i_IsMoufangLoop_c1_L0 (a0 : List (List Int)) (a1_0_0 : List (List Int)) (v2 : Int) (s3 : Int) : Option (Int ⊕ (Unit ⊕ Bool)) :=
  (if s3 < v2 then
    (i_length_LI a0).bind fun v9 =>
    (loop (i_loopTriples_of_i_IsMoufangLoop_c1_L1 a0 a1_0_0 s3 v9) BIG 0).bind fun x10 =>
    (match x10 with
    | .inl y12 =>
      some (.inl (w64 (s3 + 1)))
    | .inr t => some t)
  else
    some (.inr (.inl ())))
def i_loopTriples_of_i_IsMoufangLoop_c1 (a0 : List (List Int)) (a1_0_0 : List (List Int)) : Option Bool :=
  (i_length_LI a0).bind fun v2 =>
  (loop (i_loopTriples_of_i_IsMoufangLoop_c1_L0 a0 a1_0_0 v2) BIG 0).bind fun x3 =>
  (match x3 with
  | .inl y5 =>
    some true
  | .inr t => some t)

def i_IsMoufangLoop (a0 : List (List Int)) : Option (Bool × Int) :=
  (i_checkLoop a0 ([] : List Int)).bind fun v2 =>
  (if ¬ v2 = 0 then
    some (false, v2)
  else
    (i_loopTriples_of_i_IsMoufangLoop_c1 a0 a0).bind fun v4 =>
    some (v4, 0))

end Go.Vam

namespace Go.Vam
open Go Go.RowKit
set_option maxRecDepth 100000
set_option linter.unusedSimpArgs false
set_option linter.unusedVariables false

end Go.Vam

namespace Go.Vam
open Go Go.RowKit
set_option maxRecDepth 100000
set_option linter.unusedSimpArgs false
set_option linter.unusedVariables false

end Go.Vam

namespace Go.Vam
open Go Go.RowKit
set_option maxRecDepth 100000
set_option linter.unusedSimpArgs false
set_option linter.unusedVariables false

end Go.Vam

namespace Go.Vam
open Go Go.RowKit
set_option maxRecDepth 100000
set_option linter.unusedSimpArgs false
set_option linter.unusedVariables false

end Go.Vam

namespace Go.Vam
open Go Go.RowKit
set_option maxRecDepth 100000
set_option linter.unusedSimpArgs false
set_option linter.unusedVariables false

end Go.Vam

namespace Go.Vam
open Go Go.RowKit
set_option maxRecDepth 100000
set_option linter.unusedSimpArgs false
set_option linter.unusedVariables false

end Go.Vam

namespace Go.Vam
open Go Go.RowKit
set_option maxRecDepth 100000
set_option linter.unusedSimpArgs false
set_option linter.unusedVariables false

def s_l13Search_L0 (a0 : Int) (a1 : List Int) (a2 : Int) (a3 : List Int) (self : Int → (List Int) → Int → (List Int) → (List (List Int)) → Option (List (List Int))) (s16 : (List (List Int)) × Int) : Option (((List (List Int)) × Int) ⊕ (List (List Int))) :=
  (if s16.2 < a0 then
    (idx a1 (a3.length : Int)).bind fun v21 =>
    (s_l01Mod a0 (w64 (a2 - (w64 ((w64 (v21 * s16.2)) * s16.2))))).bind fun v22 =>
    (s_l01Own a3).bind fun v23 =>
    (chk (v23.length + [s16.2].length ≤ 1099511627776)).bind fun _ =>
    (self a0 a1 v22 (v23 ++ [s16.2]) s16.1).bind fun v25 =>
    some (.inl (v25, w64 (s16.2 + 1)))
  else
    some (.inr s16.1))
def s_l13Search_b (self : Int → (List Int) → Int → (List Int) → (List (List Int)) → Option (List (List Int))) (a0 : Int) (a1 : List Int) (a2 : Int) (a3 : List Int) (a4 : List (List Int)) : Option (List (List Int)) :=
  (if 129 < (a4.length : Int) then
    some a4
  else
    (if (a3.length : Int) = (a1.length : Int) then
      ((if a2 = 0 then
        (chk (a4.length + [a3].length ≤ 1099511627776)).bind fun _ =>
        some (a4 ++ [a3])
      else
        some a4) : Option (List (List Int))).bind fun x6 =>
      some x6
    else
      (chk (0 ≤ (a3.length : Int) ∧ (a3.length : Int) ≤ (a1.length : Int))).bind fun _ =>
      (s_l12Counts a0 (a1.drop (a3.length : Int).toNat)).bind fun v11 =>
      (idx v11 a2).bind fun v13 =>
      (if v13 = 0 then
        some a4
      else
        (loop (s_l13Search_L0 a0 a1 a2 a3 self) BIG (a4, 0)).bind fun x16 =>
        some x16)))
def s_l13Search : Nat → Int → (List Int) → Int → (List Int) → (List (List Int)) → Option (List (List Int))
  | 0 => fun _ _ _ _ _ => none
  | n + 1 => s_l13Search_b (s_l13Search n)

def s_l13Units_L0 (v3 : List (List Int)) (s5 : (List (List Int)) × Int) : Option (((List (List Int)) × Int) ⊕ (List (List Int))) :=
  (if s5.2 < (v3.length : Int) then
    ((idx v3 s5.2).bind fun v11 =>
    (idx s5.1 0).bind fun v12 =>
    (s_l01Same v11 v12).bind fun v13 =>
    (if v13 = false then
      (chk (s5.1.length + [v11].length ≤ 1099511627776)).bind fun _ =>
      some (s5.1 ++ [v11])
    else
      some s5.1) : Option (List (List Int))).bind fun x9 =>
    some (.inl (x9, w64 (s5.2 + 1)))
  else
    some (.inr s5.1))
def s_l13Units (a0_0 : Int) (a0_1 : List Int) : Option (List (List Int)) :=
  (s_l11One a0_0 a0_1 0).bind fun v1 =>
  (s_l11Diagonal a0_0 a0_1).bind fun v2 =>
  (s_l13Search BIG a0_0 v2 1 [] ([] : List (List Int))).bind fun v3 =>
  (loop (s_l13Units_L0 v3) BIG ([v1], 0)).bind fun x5 =>
  some x5

def s_l13Small (a0_0 : Int) (a0_1 : List Int) : Option ((List (List Int)) × Int) :=
  (s_l11Is a0_0 a0_1).bind fun v2 =>
  (if v2 = false then
    some (([] : List (List Int)), 1)
  else
    (if 3 < (a0_1.length : Int) then
      some (([] : List (List Int)), 5)
    else
      (s_l11Diagonal a0_0 a0_1).bind fun v5 =>
      (s_l12Counts a0_0 v5).bind fun v6 =>
      (idx v6 1).bind fun v7 =>
      (if 128 < v7 then
        some (([] : List (List Int)), 3)
      else
        (s_l13Units a0_0 a0_1).bind fun v9 =>
        some (v9, 0))))

def s_UnitsOf (a0_0 : Int) (a0_1 : List Int) : Option ((List (List Int)) × Int) :=
  (s_l13Small a0_0 a0_1).bind fun v1 =>
  some (v1.1, v1.2)

def i_Doubling_normCounts_L2 (a0_0 : Int) (a0_1 : List Int) (v1 : List Int) (s10 : (List (List Int)) × Int) (s19 : (List (List Int)) × Int) (v24 : Int) (s25 : (List (List Int)) × Int) : Option (((List (List Int)) × Int) ⊕ (List (List Int))) :=
  (if s25.2 < a0_0 then
    (idx s25.1 s10.2).bind fun v30 =>
    (i_Doubling_field a0_0 a0_1).bind fun v31 =>
    (idx v1 s10.2).bind fun v32 =>
    (i_field_num v31 (w64 (s19.2 + (w64 ((w64 (v32 * s25.2)) * s25.2))))).bind fun v33 =>
    (idx v30 v33).bind fun v34 =>
    some (.inl (s25.1.set s10.2.toNat (v30.set v33.toNat (w64 (v34 + v24))), w64 (s25.2 + 1)))
  else
    some (.inr s25.1))
def i_Doubling_normCounts_L1 (a0_0 : Int) (a0_1 : List Int) (v1 : List Int) (s10 : (List (List Int)) × Int) (v18 : List Int) (s19 : (List (List Int)) × Int) : Option (((List (List Int)) × Int) ⊕ (List (List Int))) :=
  (if s19.2 < (v18.length : Int) then
    (idx v18 s19.2).bind fun v24 =>
    (loop (i_Doubling_normCounts_L2 a0_0 a0_1 v1 s10 s19 v24) BIG (s19.1, 0)).bind fun x25 =>
    some (.inl (x25, w64 (s19.2 + 1)))
  else
    some (.inr s19.1))
def i_Doubling_normCounts_L0 (a0_0 : Int) (a0_1 : List Int) (v1 : List Int) (s10 : (List (List Int)) × Int) : Option (((List (List Int)) × Int) ⊕ (List (List Int))) :=
  (if 0 ≤ s10.2 then
    (chk (0 ≤ a0_0 ∧ a0_0 ≤ 1099511627776)).bind fun _ =>
    (idx s10.1 s10.2).bind fun v16 =>
    (some (s10.1.set s10.2.toNat (List.replicate a0_0.toNat 0))).bind fun l17 =>
    (idx l17 (w64 (s10.2 + 1))).bind fun v18 =>
    (loop (i_Doubling_normCounts_L1 a0_0 a0_1 v1 s10 v18) BIG (l17, 0)).bind fun x19 =>
    some (.inl (x19, w64 (s10.2 - 1)))
  else
    some (.inr s10.1))
def i_Doubling_normCounts (a0_0 : Int) (a0_1 : List Int) : Option (List (List Int)) :=
  (i_Doubling_diagonal a0_0 a0_1).bind fun v1 =>
  (chk (0 ≤ (w64 ((v1.length : Int) + 1)) ∧ (w64 ((v1.length : Int) + 1)) ≤ 1099511627776)).bind fun _ =>
  (some (List.replicate (w64 ((v1.length : Int) + 1)).toNat [])).bind fun l3 =>
  (chk (0 ≤ a0_0 ∧ a0_0 ≤ 1099511627776)).bind fun _ =>
  (idx l3 (v1.length : Int)).bind fun v5 =>
  (some (l3.set (v1.length : Int).toNat (List.replicate a0_0.toNat 0))).bind fun l6 =>
  (idx l6 (v1.length : Int)).bind fun v7 =>
  (idx v7 0).bind fun v8 =>
  (loop (i_Doubling_normCounts_L0 a0_0 a0_1 v1) BIG (l6.set (v1.length : Int).toNat (v7.set 0 1), w64 ((v1.length : Int) - 1))).bind fun x10 =>
  some x10

def i_Doubling_units_c1_L0 (a0 : List Int) (a1 : Int) (a2_0 : List (List Int)) (a3_0 : List Int) (a5_0 : Int) (a5_1 : List Int) (self : (List Int) → Int → (List (List Int)) → (List Int) → (List (List Int)) → Int → (List Int) → Option (List (List Int))) (s14 : (List (List Int)) × Int) : Option (((List (List Int)) × Int) ⊕ (List (List Int))) :=
  (if s14.2 < a5_0 then
    (g_slices_Clone_LI_I a0).bind fun v19 =>
    (chk (v19.length + [s14.2].length ≤ 1099511627776)).bind fun _ =>
    (i_Doubling_field a5_0 a5_1).bind fun v21 =>
    (idx a3_0 (a0.length : Int)).bind fun v22 =>
    (i_field_num v21 (w64 (a1 - (w64 ((w64 (v22 * s14.2)) * s14.2))))).bind fun v23 =>
    (self (v19 ++ [s14.2]) v23 a2_0 a3_0 s14.1 a5_0 a5_1).bind fun v24 =>
    some (.inl (v24, w64 (s14.2 + 1)))
  else
    some (.inr s14.1))
def i_Doubling_units_c1_b (self : (List Int) → Int → (List (List Int)) → (List Int) → (List (List Int)) → Int → (List Int) → Option (List (List Int))) (a0 : List Int) (a1 : Int) (a2_0 : List (List Int)) (a3_0 : List Int) (a4_0 : List (List Int)) (a5_0 : Int) (a5_1 : List Int) : Option (List (List Int)) :=
  (idx a2_0 (a0.length : Int)).bind fun v2 =>
  (idx v2 a1).bind fun v3 =>
  (if v3 = 0 then
    some a4_0
  else
    (if (a0.length : Int) = (a3_0.length : Int) then
      (idx a4_0 0).bind fun v7 =>
      (g_slices_Equal_LI_I a0 v7).bind fun v8 =>
      ((if v8 = false then
        (g_slices_Clone_LI_I a0).bind fun v12 =>
        (chk (a4_0.length + [v12].length ≤ 1099511627776)).bind fun _ =>
        some (a4_0 ++ [v12])
      else
        some a4_0) : Option (List (List Int))).bind fun x9 =>
      some x9
    else
      (loop (i_Doubling_units_c1_L0 a0 a1 a2_0 a3_0 a5_0 a5_1 self) BIG (a4_0, 0)).bind fun x14 =>
      some x14))
def i_Doubling_units_c1 : Nat → (List Int) → Int → (List (List Int)) → (List Int) → (List (List Int)) → Int → (List Int) → Option (List (List Int))
  | 0 => fun _ _ _ _ _ _ _ => none
  | n + 1 => i_Doubling_units_c1_b (i_Doubling_units_c1 n)

def i_Doubling_units (a0_0 : Int) (a0_1 : List Int) : Option ((List (List Int)) × Int) :=
  (i_IsDoubling a0_0 a0_1).bind fun v2 =>
  (if v2 = false then
    some (([] : List (List Int)), 1)
  else
    (if 3 < (a0_1.length : Int) then
      some (([] : List (List Int)), 5)
    else
      (i_Doubling_normCounts a0_0 a0_1).bind fun v5 =>
      (i_Doubling_diagonal a0_0 a0_1).bind fun v6 =>
      (idx v5 0).bind fun v8 =>
      (idx v8 1).bind fun v9 =>
      (if 128 < v9 then
        some (([] : List (List Int)), 3)
      else
        (i_Doubling_element a0_0 a0_1 0).bind fun v11 =>
        (i_Doubling_units_c1 BIG ([] : List Int) 1 v5 v6 [v11] a0_0 a0_1).bind fun v12 =>
        some (v12, 0))))

def i_UnitsOf (a0_0 : Int) (a0_1 : List Int) : Option ((List (List Int)) × Int) :=
  (i_Doubling_units a0_0 a0_1).bind fun v1 =>
  some (v1.1, v1.2)

def s_LoopOfUnits_L2 (v1 : (List (List Int)) × Int) (v18 : List Int) (s20 : Int) : Option (Int ⊕ Int) :=
  (idx v1.1 s20).bind fun v23 =>
  (s_l01Same v23 v18).bind fun v24 =>
  (if v24 = false then
    some (.inl (w64 (s20 + 1)))
  else
    some (.inr s20))
def s_LoopOfUnits_L1 (a0_0 : Int) (a0_1 : List Int) (v1 : (List (List Int)) × Int) (s5 : (List (List Int)) × Int) (s11 : (List Int) × Int) : Option (((List Int) × Int) ⊕ (List Int)) :=
  (if s11.2 < (v1.1.length : Int) then
    (idx v1.1 s5.2).bind fun v16 =>
    (idx v1.1 s11.2).bind fun v17 =>
    (s_l11Times a0_0 a0_1 v16 v17).bind fun v18 =>
    (loop (s_LoopOfUnits_L2 v1 v18) BIG 0).bind fun x20 =>
    (chk (s11.1.length + [x20].length ≤ 1099511627776)).bind fun _ =>
    some (.inl (s11.1 ++ [x20], w64 (s11.2 + 1)))
  else
    some (.inr s11.1))
def s_LoopOfUnits_L0 (a0_0 : Int) (a0_1 : List Int) (v1 : (List (List Int)) × Int) (s5 : (List (List Int)) × Int) : Option (((List (List Int)) × Int) ⊕ (List (List Int))) :=
  (if s5.2 < (v1.1.length : Int) then
    (loop (s_LoopOfUnits_L1 a0_0 a0_1 v1 s5) BIG ([], 0)).bind fun x11 =>
    (chk (s5.1.length + [x11].length ≤ 1099511627776)).bind fun _ =>
    some (.inl (s5.1 ++ [x11], w64 (s5.2 + 1)))
  else
    some (.inr s5.1))
def s_LoopOfUnits (a0_0 : Int) (a0_1 : List Int) : Option ((List (List Int)) × Int) :=
  (s_l13Small a0_0 a0_1).bind fun v1 =>
  (if ¬ v1.2 = 0 then
    some (([] : List (List Int)), v1.2)
  else
    (loop (s_LoopOfUnits_L0 a0_0 a0_1 v1) BIG ([], 0)).bind fun x5 =>
    some (x5, 0))

def i_LoopOfUnits_c1 (a0 : List Int) (a1_0 : List Int) : Option Bool :=
  (g_slices_Equal_LI_I a0 a1_0).bind fun v1 =>
  some v1

def g_slices_IndexFunc_LLI_LI_of_i_LoopOfUnits_c1_L0 (a0 : List (List Int)) (a1_0_0 : List Int) (s2 : Int) : Option (Int ⊕ (Unit ⊕ Int)) :=
  (if s2 < (a0.length : Int) then
    (idx a0 s2).bind fun v8 =>
    (i_LoopOfUnits_c1 v8 a1_0_0).bind fun v9 =>
    (if v9 = true then
      some (.inr (.inr s2))
    else
      some (.inl (w64 (s2 + 1))))
  else
    some (.inr (.inl ())))
def g_slices_IndexFunc_LLI_LI_of_i_LoopOfUnits_c1 (a0 : List (List Int)) (a1_0_0 : List Int) : Option Int :=
  (loop (g_slices_IndexFunc_LLI_LI_of_i_LoopOfUnits_c1_L0 a0 a1_0_0) BIG 0).bind fun x2 =>
  (match x2 with
  | .inl y4 =>
    some (-1)
  | .inr t => some t)

def i_LoopOfUnits_L1 (a0_0 : Int) (a0_1 : List Int) (v1 : (List (List Int)) × Int) (v10 : List Int) (s12 : (List Int) × Int) : Option (((List Int) × Int) ⊕ (List Int)) :=
  (if s12.2 < (v1.1.length : Int) then
    (idx v1.1 s12.2).bind fun v17 =>
    (i_Doubling_times a0_0 a0_1 v10 v17).bind fun v18 =>
    (g_slices_IndexFunc_LLI_LI_of_i_LoopOfUnits_c1 v1.1 v18).bind fun v19 =>
    (chk (s12.1.length + [v19].length ≤ 1099511627776)).bind fun _ =>
    some (.inl (s12.1 ++ [v19], w64 (s12.2 + 1)))
  else
    some (.inr s12.1))
def i_LoopOfUnits_L0 (a0_0 : Int) (a0_1 : List Int) (v1 : (List (List Int)) × Int) (s5 : (List (List Int)) × Int) : Option (((List (List Int)) × Int) ⊕ (List (List Int))) :=
  (if s5.2 < (v1.1.length : Int) then
    (idx v1.1 s5.2).bind fun v10 =>
    (loop (i_LoopOfUnits_L1 a0_0 a0_1 v1 v10) BIG ([], 0)).bind fun x12 =>
    (chk (s5.1.length + [x12].length ≤ 1099511627776)).bind fun _ =>
    some (.inl (s5.1 ++ [x12], w64 (s5.2 + 1)))
  else
    some (.inr s5.1))
def i_LoopOfUnits (a0_0 : Int) (a0_1 : List Int) : Option ((List (List Int)) × Int) :=
  (i_Doubling_units a0_0 a0_1).bind fun v1 =>
  (if ¬ v1.2 = 0 then
    some (([] : List (List Int)), v1.2)
  else
    (loop (i_LoopOfUnits_L0 a0_0 a0_1 v1) BIG ([], 0)).bind fun x5 =>
    some (x5, 0))

def i_checkNorm (a0_0 : Int) (a0_1 : List Int) (a1 : Int) : Option Int :=
  (i_IsDoubling a0_0 a0_1).bind fun v2 =>
  (if v2 = false then
    some 1
  else
    (i_Doubling_field a0_0 a0_1).bind fun v4 =>
    (i_field_is v4 [a1]).bind fun v5 =>
    (if v5 = false then
      some 2
    else
      some 0))

def i_CountOfNorm (a0_0 : Int) (a0_1 : List Int) (a1 : Int) : Option (Int × Int) :=
  (i_checkNorm a0_0 a0_1 a1).bind fun v2 =>
  (if ¬ v2 = 0 then
    some (0, v2)
  else
    (i_Doubling_normCounts a0_0 a0_1).bind fun v4 =>
    (idx v4 0).bind fun v5 =>
    (idx v5 a1).bind fun v6 =>
    some (v6, 0))

def i_DoubleUnit (a0_0 : Int) (a0_1 : List Int) : Option ((List Int) × Int) :=
  (i_IsDoubling a0_0 a0_1).bind fun v2 =>
  (if v2 = false then
    some (([] : List Int), 1)
  else
    (i_Doubling_element a0_0 a0_1 0).bind fun v4 =>
    some (v4, 0))

def i_DoubleNorm (a0_0 : Int) (a0_1 : List Int) (a1 : List Int) : Option (Int × Int) :=
  (i_checkElements a0_0 a0_1 [a1]).bind fun v2 =>
  (if ¬ v2 = 0 then
    some (0, v2)
  else
    (i_Doubling_norm a0_0 a0_1 a1).bind fun v4 =>
    some (v4, 0))

def l_FnUnits (a0 : List Int) : Option Bool :=
  (l_big a0).bind fun v2 =>
  (if v2 = true then
    some true
  else
    (s_DrawUnitsOf a0).bind fun v4 =>
    (i_UnitsOf v4.1 v4.2).bind fun v5 =>
    (s_UnitsOf v4.1 v4.2).bind fun v7 =>
    ((if ¬ v5.2 = v7.2 then
      some true
    else
      (l_same9 v5.1 v7.1).bind fun v9 =>
      some (!v9)) : Option Bool).bind fun x10 =>
    (if x10 = true then
      some false
    else
      (i_LoopOfUnits v4.1 v4.2).bind fun v12 =>
      (s_LoopOfUnits v4.1 v4.2).bind fun v14 =>
      (if ¬ v12.2 = v14.2 then
        some false
      else
        (if ¬ v5.2 = 0 then
          ((if v12.2 = v5.2 then
            (if (v5.1.length : Int) = 0 then
              some (ieq (v12.1.length : Int) 0)
            else
              some false)
          else
            some false) : Option Bool).bind fun x20 =>
          some x20
        else
          (i_CountOfNorm v4.1 v4.2 1).bind fun v21 =>
          (i_DoubleUnit v4.1 v4.2).bind fun v22 =>
          (i_IsMoufangLoop v12.1).bind fun v23 =>
          ((if ¬ v12.2 = 0 then
            some true
          else
            (if ¬ v21.2 = 0 then
              some true
            else
              (if ¬ v22.2 = 0 then
                some true
              else
                (if ¬ v23.2 = 0 then
                  some true
                else
                  (if ¬ (v5.1.length : Int) = v21.1 then
                    some true
                  else
                    (if ¬ (v12.1.length : Int) = v21.1 then
                      some true
                    else
                      (idx v5.1 0).bind fun v31 =>
                      (l_likeInts v31 v22.1).bind fun v32 =>
                      (if v32 = false then
                        some true
                      else
                        some (!v23.1)))))))) : Option Bool).bind fun x34 =>
          (if x34 = true then
            some false
          else
            (l_roll a0 3014).bind fun v36 =>
            (g_p_laws_dice_below v36.1 v36.2.1 v36.2.2 v21.1).bind fun v37 =>
            (g_p_laws_dice_below v37.2.1 v37.2.2.1 v37.2.2.2 v21.1).bind fun v38 =>
            (idx v5.1 v37.1).bind fun v39 =>
            (i_DoubleNorm v4.1 v4.2 v39).bind fun v40 =>
            ((if v40.2 = 0 then
              (if v40.1 = 1 then
                (idx v12.1 v37.1).bind fun v43 =>
                (idx v43 v38.1).bind fun v44 =>
                (if 0 ≤ v44 then
                  (if v44 < v21.1 then
                    (idx v5.1 v44).bind fun v47 =>
                    (idx v5.1 v38.1).bind fun v48 =>
                    (l_times9 v4.1 v4.2 v39 v48).bind fun v49 =>
                    (l_likeInts v47 v49).bind fun v50 =>
                    some v50
                  else
                    some false)
                else
                  some false)
              else
                some false)
            else
              some false) : Option Bool).bind fun x51 =>
            some x51)))))

end Go.Vam
