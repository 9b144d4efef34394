import Derived.Test.YtijmfifejmgeaaaVamT
import Derived.Test.YtijmfifejmgeaaaVamV
import Derived.Test.YtijmfifejmgeaaaVamY
import Derived.Test.YtijmfifejmgeaaaVamZ
import Derived.Test.YtijmfifejmgeaaaVamAM
import Derived.Test.YtijmfifejmgeaaaVamAN
namespace Go.Vam
open Go Go.RowKit
set_option maxRecDepth 100000
set_option linter.unusedSimpArgs false
set_option linter.unusedVariables false

def s_l01Prime (a0 : Int) : Option Bool :=
 ((if a0 = 3 then
  some true
 else
  (if a0 = 5 then
   some true
  else
   (if a0 = 7 then
    some true
   else
    (if a0 = 11 then
     some true
    else
     some (ieq a0 13))))) : Option Bool).bind fun x5 =>
 some x5

def s_l01In (a0 : Int) (a1 : Int) (a2 : Int) : Option Bool :=
 ((if a1 ≤ a0 then
  some (ile a0 a2)
 else
  some false) : Option Bool).bind fun x2 =>
 some x2

def i_IsPrime (a0 : Int) : Option Bool :=
 ((if a0 = 3 then
  some (ieq a0 3)
 else
  (if a0 = 5 then
   some (ieq a0 5)
  else
   (if a0 = 7 then
    some (ieq a0 7)
   else
    (if a0 = 11 then
     some (ieq a0 11)
    else
     some (ieq a0 13))))) : Option Bool).bind fun x3 =>
 (if x3 = true then
  some true
 else
  some false)

def i_inRange (a0 : Int) (a1 : Int) (a2 : Int) : Option Bool :=
 ((if a1 ≤ a0 then
  some (ile a0 a2)
 else
  some false) : Option Bool).bind fun x2 =>
 some x2

def i_field_is_L0 (a0 : Int) (a1 : List Int) (s2 : Int) : Option (Int ⊕ (Unit ⊕ Bool)) :=
 (if s2 < (a1.length : Int) then
  (idx a1 s2).bind fun v8 =>
  (i_inRange v8 0 (w64 (a0 - 1))).bind fun v9 =>
  (if v9 = false then
   some (.inr (.inr false))
  else
   some (.inl (w64 (s2 + 1))))
 else
  some (.inr (.inl ())))
def i_field_is (a0 : Int) (a1 : List Int) : Option Bool :=
 (loop (i_field_is_L0 a0 a1) BIG 0).bind fun x2 =>
 (match x2 with
 | .inl y4 =>
  some true
 | .inr t => some t)

def i_field_num (a0 : Int) (a1 : Int) : Option Int :=
 (chk (¬ a0 = 0)).bind fun _ =>
 (chk (¬ a0 = 0)).bind fun _ =>
 some ((w64 ((a1.tmod a0) + a0)).tmod a0)

def i_transpose_L1 (a0 : List (List Int)) (s3 : (List (List Int)) × Int) (s9 : (List Int) × Int) : Option (((List Int) × Int) ⊕ (List Int)) :=
 (if s9.2 < (a0.length : Int) then
  (idx a0 s9.2).bind fun v14 =>
  (idx v14 s3.2).bind fun v15 =>
  (chk (s9.1.length + [v15].length ≤ 1099511627776)).bind fun _ =>
  some (.inl (s9.1 ++ [v15],w64 (s9.2 + 1)))
 else
  some (.inr s9.1))
def i_transpose_L0 (a0 : List (List Int)) (v2 : List Int) (s3 : (List (List Int)) × Int) : Option (((List (List Int)) × Int) ⊕ (List (List Int))) :=
 (if s3.2 < (v2.length : Int) then
  (loop (i_transpose_L1 a0 s3) BIG ([],0)).bind fun x9 =>
  (chk (s3.1.length + [x9].length ≤ 1099511627776)).bind fun _ =>
  some (.inl (s3.1 ++ [x9],w64 (s3.2 + 1)))
 else
  some (.inr s3.1))
def i_transpose (a0 : List (List Int)) : Option (List (List Int)) :=
 (idx a0 0).bind fun v2 =>
 (loop (i_transpose_L0 a0 v2) BIG ([],0)).bind fun x3 =>
 some x3

def i_field_plus_L0 (a0 : Int) (a1 : List Int) (a2 : List Int) (a3 : Int) (s2 : (List Int) × Int) : Option (((List Int) × Int) ⊕ (List Int)) :=
 (if s2.2 < (a1.length : Int) then
  (idx a1 s2.2).bind fun v7 =>
  (idx a2 s2.2).bind fun v8 =>
  (i_field_num a0 (w64 (v7 + (w64 (a3 * v8))))).bind fun v9 =>
  (chk (s2.1.length + [v9].length ≤ 1099511627776)).bind fun _ =>
  some (.inl (s2.1 ++ [v9],w64 (s2.2 + 1)))
 else
  some (.inr s2.1))
def i_field_plus (a0 : Int) (a1 : List Int) (a2 : List Int) (a3 : Int) : Option (List Int) :=
 (loop (i_field_plus_L0 a0 a1 a2 a3) BIG ([],0)).bind fun x2 =>
 some x2

def i_field_scaled_L0 (a0 : Int) (a1 : List Int) (a2 : Int) (s2 : (List Int) × Int) : Option (((List Int) × Int) ⊕ (List Int)) :=
 (if s2.2 < (a1.length : Int) then
  (idx a1 s2.2).bind fun v7 =>
  (i_field_num a0 (w64 (v7 * a2))).bind fun v8 =>
  (chk (s2.1.length + [v8].length ≤ 1099511627776)).bind fun _ =>
  some (.inl (s2.1 ++ [v8],w64 (s2.2 + 1)))
 else
  some (.inr s2.1))
def i_field_scaled (a0 : Int) (a1 : List Int) (a2 : Int) : Option (List Int) :=
 (loop (i_field_scaled_L0 a0 a1 a2) BIG ([],0)).bind fun x2 =>
 some x2

def s_l11Is_L0 (a0_0 : Int) (a0_1 : List Int) (s7 : Int) : Option (Int ⊕ (Unit ⊕ Bool)) :=
 (if s7 < (a0_1.length : Int) then
  (idx a0_1 s7).bind fun v13 =>
  (s_l01In v13 1 (w64 (a0_0 - 1))).bind fun v14 =>
  (if v14 = false then
   some (.inr (.inr false))
  else
   some (.inl (w64 (s7 + 1))))
 else
  some (.inr (.inl ())))
def s_l11Is (a0_0 : Int) (a0_1 : List Int) : Option Bool :=
 ((s_l01Prime a0_0).bind fun v2 =>
 (if v2 = false then
  some true
 else
  some (ilt 4 (a0_1.length : Int))) : Option Bool).bind fun x4 =>
 (if x4 = true then
  some false
 else
  (loop (s_l11Is_L0 a0_0 a0_1) BIG 0).bind fun x7 =>
  (match x7 with
  | .inl y9 =>
   some true
  | .inr t => some t))

def s_l11Size (a0_0 : Int) (a0_1 : List Int) : Option Int :=
 (chk (0 ≤ (IntKind.u64.wrap ((a0_1.length : Int))))).bind fun _ =>
 some (shl .i64 1 (IntKind.u64.wrap ((a0_1.length : Int))))

def s_l11One (a0_0 : Int) (a0_1 : List Int) (a1 : Int) : Option (List Int) :=
 (s_l11Size a0_0 a0_1).bind fun v1 =>
 (chk (0 ≤ v1 ∧ v1 ≤ 1099511627776)).bind fun _ =>
 (some (List.replicate v1.toNat 0)).bind fun l3 =>
 (idx l3 a1).bind fun v4 =>
 some (l3.set a1.toNat 1)

def s_l01Mod (a0 : Int) (a1 : Int) : Option Int :=
 (chk (¬ a0 = 0)).bind fun _ =>
 (chk (¬ a0 = 0)).bind fun _ =>
 some ((w64 ((a1.tmod a0) + a0)).tmod a0)

def s_l11Scale_L0 (a0 : Int) (a1 : Int) (a2 : List Int) (s2 : (List Int) × Int) : Option (((List Int) × Int) ⊕ (List Int)) :=
 (if s2.2 < (a2.length : Int) then
  (idx a2 s2.2).bind fun v7 =>
  (s_l01Mod a0 (w64 (a1 * v7))).bind fun v8 =>
  (chk (s2.1.length + [v8].length ≤ 1099511627776)).bind fun _ =>
  some (.inl (s2.1 ++ [v8],w64 (s2.2 + 1)))
 else
  some (.inr s2.1))
def s_l11Scale (a0 : Int) (a1 : Int) (a2 : List Int) : Option (List Int) :=
 (loop (s_l11Scale_L0 a0 a1 a2) BIG ([],0)).bind fun x2 =>
 some x2

def s_l11Star (a0 : Int) (a1 : List Int) : Option (List Int) :=
 (s_l11Scale a0 (w64 (a0 - 1)) a1).bind fun v1 =>
 (idx a1 0).bind fun v2 =>
 (idx v1 0).bind fun v3 =>
 some (v1.set 0 v2)

def s_l11Add_L0 (a0 : Int) (a1 : List Int) (a2 : List Int) (s2 : (List Int) × Int) : Option (((List Int) × Int) ⊕ (List Int)) :=
 (if s2.2 < (a1.length : Int) then
  (idx a1 s2.2).bind fun v7 =>
  (idx a2 s2.2).bind fun v8 =>
  (s_l01Mod a0 (w64 (v7 + v8))).bind fun v9 =>
  (chk (s2.1.length + [v9].length ≤ 1099511627776)).bind fun _ =>
  some (.inl (s2.1 ++ [v9],w64 (s2.2 + 1)))
 else
  some (.inr s2.1))
def s_l11Add (a0 : Int) (a1 : List Int) (a2 : List Int) : Option (List Int) :=
 (loop (s_l11Add_L0 a0 a1 a2) BIG ([],0)).bind fun x2 =>
 some x2

def s_l11Mul_b (self : Int → (List Int) → (List Int) → (List Int) → Option (List Int)) (a0 : Int) (a1 : List Int) (a2 : List Int) (a3 : List Int) : Option (List Int) :=
 (if (a1.length : Int) = 0 then
  (idx a2 0).bind fun v3 =>
  (idx a3 0).bind fun v4 =>
  (s_l01Mod a0 (w64 (v3 * v4))).bind fun v5 =>
  some [v5]
 else
  (chk (0 ≤ (w64 ((a1.length : Int) - 1)) ∧ (w64 ((a1.length : Int) - 1)) ≤ (a1.length : Int))).bind fun _ =>
  (idx a1 (w64 ((a1.length : Int) - 1))).bind fun v7 =>
  (chk (0 ≤ (w64 ((a2.length : Int).tdiv 2)) ∧ (w64 ((a2.length : Int).tdiv 2)) ≤ (a2.length : Int))).bind fun _ =>
  (chk (0 ≤ (w64 ((a2.length : Int).tdiv 2)) ∧ (w64 ((a2.length : Int).tdiv 2)) ≤ (a2.length : Int))).bind fun _ =>
  (chk (0 ≤ (w64 ((a2.length : Int).tdiv 2)) ∧ (w64 ((a2.length : Int).tdiv 2)) ≤ (a3.length : Int))).bind fun _ =>
  (chk (0 ≤ (w64 ((a2.length : Int).tdiv 2)) ∧ (w64 ((a2.length : Int).tdiv 2)) ≤ (a3.length : Int))).bind fun _ =>
  (self a0 (a1.take (w64 ((a1.length : Int) - 1)).toNat) (a2.take (w64 ((a2.length : Int).tdiv 2)).toNat) (a3.take (w64 ((a2.length : Int).tdiv 2)).toNat)).bind fun v12 =>
  (s_l11Star a0 (a3.drop (w64 ((a2.length : Int).tdiv 2)).toNat)).bind fun v13 =>
  (self a0 (a1.take (w64 ((a1.length : Int) - 1)).toNat) v13 (a2.drop (w64 ((a2.length : Int).tdiv 2)).toNat)).bind fun v14 =>
  (s_l11Scale a0 v7 v14).bind fun v15 =>
  (s_l11Add a0 v12 v15).bind fun v16 =>
  (self a0 (a1.take (w64 ((a1.length : Int) - 1)).toNat) (a3.drop (w64 ((a2.length : Int).tdiv 2)).toNat) (a2.take (w64 ((a2.length : Int).tdiv 2)).toNat)).bind fun v17 =>
  (s_l11Star a0 (a3.take (w64 ((a2.length : Int).tdiv 2)).toNat)).bind fun v18 =>
  (self a0 (a1.take (w64 ((a1.length : Int) - 1)).toNat) (a2.drop (w64 ((a2.length : Int).tdiv 2)).toNat) v18).bind fun v19 =>
  (s_l11Add a0 v17 v19).bind fun v20 =>
  (chk (v16.length + v20.length ≤ 1099511627776)).bind fun _ =>
  some (v16 ++ v20))
def s_l11Mul : Nat → Int → (List Int) → (List Int) → (List Int) → Option (List Int)
 | 0 => fun _ _ _ _ => none
 | n + 1 => s_l11Mul_b (s_l11Mul n)

def s_l11Times (a0_0 : Int) (a0_1 : List Int) (a1 : List Int) (a2 : List Int) : Option (List Int) :=
 (s_l11Mul BIG a0_0 a0_1 a1 a2).bind fun v1 =>
 some v1

def s_l11Basis_L1 (a0_0 : Int) (a0_1 : List Int) (s2 : (List (List Int)) × Int) (s9 : (List Int) × Int) : Option (((List Int) × Int) ⊕ (List Int)) :=
 (s_l11Size a0_0 a0_1).bind fun v12 =>
 (if s9.2 < v12 then
  (s_l11One a0_0 a0_1 s2.2).bind fun v15 =>
  (s_l11One a0_0 a0_1 s9.2).bind fun v16 =>
  (s_l11Times a0_0 a0_1 v15 v16).bind fun v17 =>
  (idx v17 (bxor .i64 s2.2 s9.2)).bind fun v18 =>
  (chk (s9.1.length + [v18].length ≤ 1099511627776)).bind fun _ =>
  some (.inl (s9.1 ++ [v18],w64 (s9.2 + 1)))
 else
  some (.inr s9.1))
def s_l11Basis_L0 (a0_0 : Int) (a0_1 : List Int) (s2 : (List (List Int)) × Int) : Option (((List (List Int)) × Int) ⊕ (List (List Int))) :=
 (s_l11Size a0_0 a0_1).bind fun v5 =>
 (if s2.2 < v5 then
  (loop (s_l11Basis_L1 a0_0 a0_1 s2) BIG ([],0)).bind fun x9 =>
  (chk (s2.1.length + [x9].length ≤ 1099511627776)).bind fun _ =>
  some (.inl (s2.1 ++ [x9],w64 (s2.2 + 1)))
 else
  some (.inr s2.1))
def s_l11Basis (a0_0 : Int) (a0_1 : List Int) : Option (List (List Int)) :=
 (loop (s_l11Basis_L0 a0_0 a0_1) BIG ([],0)).bind fun x2 =>
 some x2

def s_l01Own (a0 : List Int) : Option (List Int) :=
 (chk (([] : List Int).length + a0.length ≤ 1099511627776)).bind fun _ =>
 some (([] : List Int) ++ a0)

def s_l01Same_L0 (a0 : List Int) (a1 : List Int) (s4 : Int) : Option (Int ⊕ (Unit ⊕ Bool)) :=
 (if s4 < (a0.length : Int) then
  (idx a0 s4).bind fun v10 =>
  (idx a1 s4).bind fun v11 =>
  (if ¬ v10 = v11 then
   some (.inr (.inr false))
  else
   some (.inl (w64 (s4 + 1))))
 else
  some (.inr (.inl ())))
def s_l01Same (a0 : List Int) (a1 : List Int) : Option Bool :=
 (if ¬ (a0.length : Int) = (a1.length : Int) then
  some false
 else
  (loop (s_l01Same_L0 a0 a1) BIG 0).bind fun x4 =>
  (match x4 with
  | .inl y6 =>
   some true
  | .inr t => some t))

def s_l12First_L0 (a0 : List Int) (s2 : Int) : Option (Int ⊕ Int) :=
 ((if s2 < (a0.length : Int) then
  (idx a0 s2).bind fun v6 =>
  some (ieq v6 0)
 else
  some false) : Option Bool).bind fun x7 =>
 (if x7 = true then
  some (.inl (w64 (s2 + 1)))
 else
  some (.inr s2))
def s_l12First (a0 : List Int) : Option Int :=
 (loop (s_l12First_L0 a0) BIG 0).bind fun x2 =>
 some x2

def i_Doubling_field (a0_0 : Int) (a0_1 : List Int) : Option Int :=
 some a0_0

def g_slices_Index_LI_I_L0 (a0 : List Int) (a1 : Int) (s2 : Int) : Option (Int ⊕ (Unit ⊕ Int)) :=
 (if s2 < (a0.length : Int) then
  (idx a0 s2).bind fun v8 =>
  (if a1 = v8 then
   some (.inr (.inr s2))
  else
   some (.inl (w64 (s2 + 1))))
 else
  some (.inr (.inl ())))
def g_slices_Index_LI_I (a0 : List Int) (a1 : Int) : Option Int :=
 (loop (g_slices_Index_LI_I_L0 a0 a1) BIG 0).bind fun x2 =>
 (match x2 with
 | .inl y4 =>
  some (-1)
 | .inr t => some t)

def g_slices_Contains_LI_I (a0 : List Int) (a1 : Int) : Option Bool :=
 (g_slices_Index_LI_I a0 a1).bind fun v1 =>
 some (ile 0 v1)

def i_IsDoubling (a0_0 : Int) (a0_1 : List Int) : Option Bool :=
 ((i_IsPrime a0_0).bind fun v1 =>
 (if v1 = true then
  (if (a0_1.length : Int) ≤ 4 then
   (i_Doubling_field a0_0 a0_1).bind fun v4 =>
   (i_field_is v4 a0_1).bind fun v5 =>
   (if v5 = true then
    (g_slices_Contains_LI_I a0_1 0).bind fun v7 =>
    some (!v7)
   else
    some false)
  else
   some false)
 else
  some false) : Option Bool).bind fun x8 =>
 some x8

def i_Doubling_size (a0_0 : Int) (a0_1 : List Int) : Option Int :=
 (chk (0 ≤ (a0_1.length : Int))).bind fun _ =>
 some (shl .i64 1 (a0_1.length : Int))

def i_unit_L0 (a0 : Int) (s2 : (List (List Int)) × Int) : Option (((List (List Int)) × Int) ⊕ (List (List Int))) :=
 (if s2.2 < a0 then
  (chk (0 ≤ a0 ∧ a0 ≤ 1099511627776)).bind fun _ =>
  (some (List.replicate a0.toNat 0)).bind fun l8 =>
  (idx l8 s2.2).bind fun v9 =>
  (chk (s2.1.length + [l8.set s2.2.toNat 1].length ≤ 1099511627776)).bind fun _ =>
  some (.inl (s2.1 ++ [l8.set s2.2.toNat 1],w64 (s2.2 + 1)))
 else
  some (.inr s2.1))
def i_unit (a0 : Int) : Option (List (List Int)) :=
 (loop (i_unit_L0 a0) BIG ([],0)).bind fun x2 =>
 some x2

def i_field_conjugate (a0 : Int) (a1 : List Int) : Option (List Int) :=
 (i_field_scaled a0 a1 (-1)).bind fun v1 =>
 (idx a1 0).bind fun v2 =>
 (idx v1 0).bind fun v3 =>
 some (v1.set 0 v2)

end Go.Vam

namespace Go.Vam
open Go Go.RowKit
set_option maxRecDepth 100000
set_option linter.unusedSimpArgs false
set_option linter.unusedVariables false

def i_field_doubled_b (self : Int → (List Int) → (List Int) → (List Int) → Option (List Int)) (a0 : Int) (a1 : List Int) (a2 : List Int) (a3 : List Int) : Option (List Int) :=
 (if (a1.length : Int) = 0 then
  (idx a2 0).bind fun v3 =>
  (idx a3 0).bind fun v4 =>
  (i_field_num a0 (w64 (v3 * v4))).bind fun v5 =>
  some [v5]
 else
  (chk (0 ≤ (w64 ((a2.length : Int).tdiv 2)) ∧ (w64 ((a2.length : Int).tdiv 2)) ≤ (a2.length : Int))).bind fun _ =>
  (chk (0 ≤ (w64 ((a2.length : Int).tdiv 2)) ∧ (w64 ((a2.length : Int).tdiv 2)) ≤ (a2.length : Int))).bind fun _ =>
  (chk (0 ≤ (w64 ((a2.length : Int).tdiv 2)) ∧ (w64 ((a2.length : Int).tdiv 2)) ≤ (a3.length : Int))).bind fun _ =>
  (chk (0 ≤ (w64 ((a2.length : Int).tdiv 2)) ∧ (w64 ((a2.length : Int).tdiv 2)) ≤ (a3.length : Int))).bind fun _ =>
  (chk (0 ≤ (w64 ((a1.length : Int) - 1)) ∧ (w64 ((a1.length : Int) - 1)) ≤ (a1.length : Int))).bind fun _ =>
  (self a0 (a1.take (w64 ((a1.length : Int) - 1)).toNat) (a2.take (w64 ((a2.length : Int).tdiv 2)).toNat) (a3.take (w64 ((a2.length : Int).tdiv 2)).toNat)).bind fun v11 =>
  (i_field_conjugate a0 (a3.drop (w64 ((a2.length : Int).tdiv 2)).toNat)).bind fun v12 =>
  (self a0 (a1.take (w64 ((a1.length : Int) - 1)).toNat) v12 (a2.drop (w64 ((a2.length : Int).tdiv 2)).toNat)).bind fun v13 =>
  (idx a1 (w64 ((a1.length : Int) - 1))).bind fun v14 =>
  (i_field_plus a0 v11 v13 v14).bind fun v15 =>
  (self a0 (a1.take (w64 ((a1.length : Int) - 1)).toNat) (a3.drop (w64 ((a2.length : Int).tdiv 2)).toNat) (a2.take (w64 ((a2.length : Int).tdiv 2)).toNat)).bind fun v16 =>
  (i_field_conjugate a0 (a3.take (w64 ((a2.length : Int).tdiv 2)).toNat)).bind fun v17 =>
  (self a0 (a1.take (w64 ((a1.length : Int) - 1)).toNat) (a2.drop (w64 ((a2.length : Int).tdiv 2)).toNat) v17).bind fun v18 =>
  (i_field_plus a0 v16 v18 1).bind fun v19 =>
  (chk (v15.length + v19.length ≤ 1099511627776)).bind fun _ =>
  some (v15 ++ v19))
def i_field_doubled : Nat → Int → (List Int) → (List Int) → (List Int) → Option (List Int)
 | 0 => fun _ _ _ _ => none
 | n + 1 => i_field_doubled_b (i_field_doubled n)

def i_Doubling_times (a0_0 : Int) (a0_1 : List Int) (a1 : List Int) (a2 : List Int) : Option (List Int) :=
 (i_Doubling_field a0_0 a0_1).bind fun v1 =>
 (i_field_doubled BIG v1 a0_1 a1 a2).bind fun v2 =>
 some v2

def i_length_I (a0 : List Int) : Option Int :=
 some (a0.length : Int)

def s_l13Is_L0 (a0 : List (List Int)) (s5 : Int) : Option (Int ⊕ (Unit ⊕ Bool)) :=
 (if s5 < (a0.length : Int) then
  (idx a0 s5).bind fun v11 =>
  (if ¬ (v11.length : Int) = (a0.length : Int) then
   some (.inr (.inr false))
  else
   some (.inl (w64 (s5 + 1))))
 else
  some (.inr (.inl ())))
def s_l13Is_L2 (a0 : List (List Int)) (s14 : Int) (s23 : (List Bool) × (List Bool) × Int) : Option (((List Bool) × (List Bool) × Int) ⊕ (Unit ⊕ (Int ⊕ (Unit ⊕ Bool)))) :=
 (if s23.2.2 < (a0.length : Int) then
  ((idx a0 s14).bind fun v30 =>
  (idx v30 s23.2.2).bind fun v31 =>
  (s_l01In v31 0 (w64 ((a0.length : Int) - 1))).bind fun v32 =>
  (if v32 = false then
   some true
  else
   (idx a0 s23.2.2).bind fun v34 =>
   (idx v34 s14).bind fun v35 =>
   (s_l01In v35 0 (w64 ((a0.length : Int) - 1))).bind fun v36 =>
   (if v36 = false then
    some true
   else
    (idx s23.1 v31).bind fun v38 =>
    (if v38 = true then
     some true
    else
     (idx s23.2.1 v35).bind fun v40 =>
     some v40))) : Option Bool).bind fun x41 =>
  (if x41 = true then
   some (.inr (.inr (.inr (.inr false))))
  else
   (idx a0 s14).bind fun v43 =>
   (idx v43 s23.2.2).bind fun v44 =>
   (idx s23.1 v44).bind fun v45 =>
   (idx a0 s23.2.2).bind fun v46 =>
   (idx v46 s14).bind fun v47 =>
   (idx s23.2.1 v47).bind fun v48 =>
   some (.inl (s23.1.set v44.toNat true,s23.2.1.set v47.toNat true,w64 (s23.2.2 + 1))))
 else
  some (.inr (.inl ())))
def s_l13Is_L1 (a0 : List (List Int)) (s14 : Int) : Option (Int ⊕ (Unit ⊕ Bool)) :=
 (if s14 < (a0.length : Int) then
  (chk (0 ≤ (a0.length : Int) ∧ (a0.length : Int) ≤ 1099511627776)).bind fun _ =>
  (chk (0 ≤ (a0.length : Int) ∧ (a0.length : Int) ≤ 1099511627776)).bind fun _ =>
  (loop (s_l13Is_L2 a0 s14) BIG (List.replicate (a0.length : Int).toNat false,List.replicate (a0.length : Int).toNat false,0)).bind fun x23 =>
  (match x23 with
  | .inl y25 =>
   ((idx a0 0).bind fun v49 =>
   (idx v49 s14).bind fun v50 =>
   (if ¬ v50 = s14 then
    some true
   else
    (idx a0 s14).bind fun v52 =>
    (idx v52 0).bind fun v53 =>
    some (!(ieq v53 s14))) : Option Bool).bind fun x54 =>
   (if x54 = true then
    some (.inr (.inr false))
   else
    some (.inl (w64 (s14 + 1))))
  | .inr t => some t)
 else
  some (.inr (.inl ())))
def s_l13Is (a0 : List (List Int)) : Option Bool :=
 (s_l01In (a0.length : Int) 1 128).bind fun v2 =>
 (if v2 = false then
  some false
 else
  (loop (s_l13Is_L0 a0) BIG 0).bind fun x5 =>
  (match x5 with
  | .inl y7 =>
   (loop (s_l13Is_L1 a0) BIG 0).bind fun x14 =>
   (match x14 with
   | .inl y16 =>
    some true
   | .inr t => some t)
  | .inr t => some t))

def s_l13Associates (a0 : List (List Int)) (a1 : Int) (a2 : Int) (a3 : Int) : Option Bool :=
 (idx a0 a1).bind fun v1 =>
 (idx v1 a2).bind fun v2 =>
 (idx a0 v2).bind fun v3 =>
 (idx v3 a3).bind fun v4 =>
 (idx a0 a2).bind fun v5 =>
 (idx v5 a3).bind fun v6 =>
 (idx v1 v6).bind fun v7 =>
 some (ieq v4 v7)

def s_l13Nucleus_L2 (a0 : List (List Int)) (s2 : (List Int) × Int) (s9 : Bool × Int) (s22 : Bool × Int) : Option ((Bool × Int) ⊕ Bool) :=
 ((if s22.2 < (a0.length : Int) then
  some s22.1
 else
  some false) : Option Bool).bind fun x26 =>
 (if x26 = true then
  ((s_l13Associates a0 s2.2 s9.2 s22.2).bind fun v29 =>
  (if v29 = true then
   (s_l13Associates a0 s9.2 s2.2 s22.2).bind fun v31 =>
   (if v31 = true then
    (s_l13Associates a0 s9.2 s22.2 s2.2).bind fun v33 =>
    some v33
   else
    some false)
  else
   some false) : Option Bool).bind fun x34 =>
  some (.inl (x34,w64 (s22.2 + 1)))
 else
  some (.inr s22.1))
def s_l13Nucleus_L1 (a0 : List (List Int)) (a1 : Bool) (s2 : (List Int) × Int) (s9 : Bool × Int) : Option ((Bool × Int) ⊕ Bool) :=
 ((if s9.2 < (a0.length : Int) then
  some s9.1
 else
  some false) : Option Bool).bind fun x13 =>
 (if x13 = true then
  ((if a1 = false then
   some true
  else
   (idx a0 s2.2).bind fun v17 =>
   (idx v17 s9.2).bind fun v18 =>
   (idx a0 s9.2).bind fun v19 =>
   (idx v19 s2.2).bind fun v20 =>
   some (ieq v18 v20)) : Option Bool).bind fun x21 =>
  (loop (s_l13Nucleus_L2 a0 s2 s9) BIG (x21,0)).bind fun x22 =>
  some (.inl (x22,w64 (s9.2 + 1)))
 else
  some (.inr s9.1))
def s_l13Nucleus_L0 (a0 : List (List Int)) (a1 : Bool) (s2 : (List Int) × Int) : Option (((List Int) × Int) ⊕ (List Int)) :=
 (if s2.2 < (a0.length : Int) then
  ((loop (s_l13Nucleus_L1 a0 a1 s2) BIG (true,0)).bind fun x9 =>
  (if x9 = true then
   (chk (s2.1.length + [s2.2].length ≤ 1099511627776)).bind fun _ =>
   some (s2.1 ++ [s2.2])
  else
   some s2.1) : Option (List Int)).bind fun x6 =>
  some (.inl (x6,w64 (s2.2 + 1)))
 else
  some (.inr s2.1))
def s_l13Nucleus (a0 : List (List Int)) (a1 : Bool) : Option (List Int) :=
 (loop (s_l13Nucleus_L0 a0 a1) BIG ([],0)).bind fun x2 =>
 some x2

def s_LoopCentre (a0 : List (List Int)) : Option ((List Int) × Int) :=
 (s_l13Is a0).bind fun v2 =>
 (if v2 = false then
  some (([] : List Int),1)
 else
  (s_l13Nucleus a0 true).bind fun v4 =>
  some (v4,0))

def i_isOnce_L0 (a0 : List Int) (s3 : (List Bool) × Int) : Option (((List Bool) × Int) ⊕ (Unit ⊕ Bool)) :=
 (if s3.2 < (a0.length : Int) then
  (idx a0 s3.2).bind fun v9 =>
  ((i_length_I a0).bind fun v11 =>
  (i_inRange v9 0 (w64 (v11 - 1))).bind fun v12 =>
  (if v12 = false then
   some true
  else
   (idx s3.1 v9).bind fun v14 =>
   some v14) : Option Bool).bind fun x15 =>
  (if x15 = true then
   some (.inr (.inr false))
  else
   (idx s3.1 v9).bind fun v17 =>
   some (.inl (s3.1.set v9.toNat true,w64 (s3.2 + 1))))
 else
  some (.inr (.inl ())))
def i_isOnce (a0 : List Int) : Option Bool :=
 (chk (0 ≤ (a0.length : Int) ∧ (a0.length : Int) ≤ 1099511627776)).bind fun _ =>
 (loop (i_isOnce_L0 a0) BIG (List.replicate (a0.length : Int).toNat false,0)).bind fun x3 =>
 (match x3 with
 | .inl y5 =>
  some true
 | .inr t => some t)

def i_IsLoop_c1 (a0 : List Int) : Option Bool :=
 (i_isOnce a0).bind fun v1 =>
 some (!v1)

def g_slices_IndexFunc_LLI_LI_of_i_IsLoop_c1_L0 (a0 : List (List Int)) (s2 : Int) : Option (Int ⊕ (Unit ⊕ Int)) :=
 (if s2 < (a0.length : Int) then
  (idx a0 s2).bind fun v8 =>
  (i_IsLoop_c1 v8).bind fun v9 =>
  (if v9 = true then
   some (.inr (.inr s2))
  else
   some (.inl (w64 (s2 + 1))))
 else
  some (.inr (.inl ())))
def g_slices_IndexFunc_LLI_LI_of_i_IsLoop_c1 (a0 : List (List Int)) : Option Int :=
 (loop (g_slices_IndexFunc_LLI_LI_of_i_IsLoop_c1_L0 a0) BIG 0).bind fun x2 =>
 (match x2 with
 | .inl y4 =>
  some (-1)
 | .inr t => some t)

def g_slices_ContainsFunc_LLI_LI_of_i_IsLoop_c1 (a0 : List (List Int)) : Option Bool :=
 (g_slices_IndexFunc_LLI_LI_of_i_IsLoop_c1 a0).bind fun v1 =>
 some (ile 0 v1)

def i_IsLoop_L0 (a0 : List (List Int)) (s6 : Int) : Option (Int ⊕ (Unit ⊕ Bool)) :=
 (if s6 < (a0.length : Int) then
  (idx a0 s6).bind fun v12 =>
  (if ¬ (v12.length : Int) = (a0.length : Int) then
   some (.inr (.inr false))
  else
   some (.inl (w64 (s6 + 1))))
 else
  some (.inr (.inl ())))
def i_IsLoop_L1 (a0 : List (List Int)) (s15 : Int) : Option (Int ⊕ (Unit ⊕ Bool)) :=
 (if s15 < (a0.length : Int) then
  (idx a0 s15).bind fun v21 =>
  ((idx v21 0).bind fun v22 =>
  (if ¬ v22 = s15 then
   some true
  else
   (idx a0 0).bind fun v24 =>
   (idx v24 s15).bind fun v25 =>
   (if ¬ v25 = s15 then
    some true
   else
    (i_isOnce v21).bind fun v27 =>
    some (!v27))) : Option Bool).bind fun x28 =>
  (if x28 = true then
   some (.inr (.inr false))
  else
   some (.inl (w64 (s15 + 1))))
 else
  some (.inr (.inl ())))
def i_IsLoop (a0 : List (List Int)) : Option Bool :=
 ((if (a0.length : Int) < 1 then
  some true
 else
  some (ilt 128 (a0.length : Int))) : Option Bool).bind fun x3 =>
 (if x3 = true then
  some false
 else
  (loop (i_IsLoop_L0 a0) BIG 0).bind fun x6 =>
  (match x6 with
  | .inl y8 =>
   (loop (i_IsLoop_L1 a0) BIG 0).bind fun x15 =>
   (match x15 with
   | .inl y17 =>
    (i_transpose a0).bind fun v30 =>
    (g_slices_ContainsFunc_LLI_LI_of_i_IsLoop_c1 v30).bind fun v31 =>
    some (!v31)
   | .inr t => some t)
  | .inr t => some t))

def i_length_LI (a0 : List (List Int)) : Option Int :=
 some (a0.length : Int)

def i_checkLoop_c1 (a0 : Int) (a1_0 : List (List Int)) : Option Bool :=
 (i_length_LI a1_0).bind fun v1 =>
 (i_inRange a0 0 (w64 (v1 - 1))).bind fun v2 =>
 some (!v2)

def g_slices_IndexFunc_LI_I_of_i_checkLoop_c1_L0 (a0 : List Int) (a1_0_0 : List (List Int)) (s2 : Int) : Option (Int ⊕ (Unit ⊕ Int)) :=
 (if s2 < (a0.length : Int) then
  (idx a0 s2).bind fun v8 =>
  (i_checkLoop_c1 v8 a1_0_0).bind fun v9 =>
  (if v9 = true then
   some (.inr (.inr s2))
  else
   some (.inl (w64 (s2 + 1))))
 else
  some (.inr (.inl ())))
def g_slices_IndexFunc_LI_I_of_i_checkLoop_c1 (a0 : List Int) (a1_0_0 : List (List Int)) : Option Int :=
 (loop (g_slices_IndexFunc_LI_I_of_i_checkLoop_c1_L0 a0 a1_0_0) BIG 0).bind fun x2 =>
 (match x2 with
 | .inl y4 =>
  some (-1)
 | .inr t => some t)

def g_slices_ContainsFunc_LI_I_of_i_checkLoop_c1 (a0 : List Int) (a1_0_0 : List (List Int)) : Option Bool :=
 (g_slices_IndexFunc_LI_I_of_i_checkLoop_c1 a0 a1_0_0).bind fun v1 =>
 some (ile 0 v1)

def i_checkLoop (a0 : List (List Int)) (a1 : List Int) : Option Int :=
 (i_IsLoop a0).bind fun v2 =>
 (if v2 = false then
  some 1
 else
  (g_slices_ContainsFunc_LI_I_of_i_checkLoop_c1 a1 a0).bind fun v5 =>
  (if v5 = true then
   some 2
  else
   some 0))

def i_associates (a0 : List (List Int)) (a1 : Int) (a2 : Int) (a3 : Int) : Option Bool :=
 (idx a0 a1).bind fun v1 =>
 (idx v1 a2).bind fun v2 =>
 (idx a0 v2).bind fun v3 =>
 (idx v3 a3).bind fun v4 =>
 (idx a0 a2).bind fun v5 =>
 (idx v5 a3).bind fun v6 =>
 (idx v1 v6).bind fun v7 =>
 some (ieq v4 v7)

def i_nucleus_L2 (a0 : List (List Int)) (s3 : (List Int) × Int) (s11 : Bool × Int) (v16 : Int) (s17 : Bool × Int) : Option ((Bool × Int) ⊕ Bool) :=
 (if s17.2 < v16 then
  ((if s17.1 = true then
   (i_associates a0 s3.2 s11.2 s17.2).bind fun v23 =>
   (if v23 = true then
    (i_associates a0 s11.2 s3.2 s17.2).bind fun v25 =>
    (if v25 = true then
     (i_associates a0 s11.2 s17.2 s3.2).bind fun v27 =>
     some v27
    else
     some false)
   else
    some false)
  else
   some false) : Option Bool).bind fun x28 =>
  some (.inl (x28,w64 (s17.2 + 1)))
 else
  some (.inr s17.1))
def i_nucleus_L1 (a0 : List (List Int)) (s3 : (List Int) × Int) (v10 : Int) (s11 : Bool × Int) : Option ((Bool × Int) ⊕ Bool) :=
 (if s11.2 < v10 then
  (i_length_LI a0).bind fun v16 =>
  (loop (i_nucleus_L2 a0 s3 s11 v16) BIG (s11.1,0)).bind fun x17 =>
  some (.inl (x17,w64 (s11.2 + 1)))
 else
  some (.inr s11.1))
def i_nucleus_L0 (a0 : List (List Int)) (v2 : Int) (s3 : (List Int) × Int) : Option (((List Int) × Int) ⊕ (List Int)) :=
 (if s3.2 < v2 then
  ((i_length_LI a0).bind fun v10 =>
  (loop (i_nucleus_L1 a0 s3 v10) BIG (true,0)).bind fun x11 =>
  (if x11 = true then
   (chk (s3.1.length + [s3.2].length ≤ 1099511627776)).bind fun _ =>
   some (s3.1 ++ [s3.2])
  else
   some s3.1) : Option (List Int)).bind fun x7 =>
  some (.inl (x7,w64 (s3.2 + 1)))
 else
  some (.inr s3.1))
def i_nucleus (a0 : List (List Int)) : Option (List Int) :=
 (i_length_LI a0).bind fun v2 =>
 (loop (i_nucleus_L0 a0 v2) BIG ([],0)).bind fun x3 =>
 some x3

def i_LoopCentre_c1_L0 (a0 : Int) (a1_0 : List (List Int)) (s2 : Int) : Option (Int ⊕ (Unit ⊕ Bool)) :=
 (if s2 < (a1_0.length : Int) then
  (idx a1_0 a0).bind fun v8 =>
  (idx v8 s2).bind fun v9 =>
  (idx a1_0 s2).bind fun v10 =>
  (idx v10 a0).bind fun v11 =>
  (if ¬ v9 = v11 then
   some (.inr (.inr true))
  else
   some (.inl (w64 (s2 + 1))))
 else
  some (.inr (.inl ())))
def i_LoopCentre_c1 (a0 : Int) (a1_0 : List (List Int)) : Option Bool :=
 (loop (i_LoopCentre_c1_L0 a0 a1_0) BIG 0).bind fun x2 =>
 (match x2 with
 | .inl y4 =>
  some false
 | .inr t => some t)

def g_slices_IndexFunc_LI_I_of_i_LoopCentre_c1_L0 (a0 : List Int) (a1_0_0 : List (List Int)) (s2 : Int) : Option (Int ⊕ (Unit ⊕ Int)) :=
 (if s2 < (a0.length : Int) then
  (idx a0 s2).bind fun v8 =>
  (i_LoopCentre_c1 v8 a1_0_0).bind fun v9 =>
  (if v9 = true then
   some (.inr (.inr s2))
  else
   some (.inl (w64 (s2 + 1))))
 else
  some (.inr (.inl ())))
def g_slices_IndexFunc_LI_I_of_i_LoopCentre_c1 (a0 : List Int) (a1_0_0 : List (List Int)) : Option Int :=
 (loop (g_slices_IndexFunc_LI_I_of_i_LoopCentre_c1_L0 a0 a1_0_0) BIG 0).bind fun x2 =>
 (match x2 with
 | .inl y4 =>
  some (-1)
 | .inr t => some t)

def l_big (a0 : List Int) : Option Bool :=
 some (ilt 4096 (a0.length : Int))

end Go.Vam

namespace Go.Vam
open Go Go.RowKit
set_option maxRecDepth 100000
set_option linter.unusedSimpArgs false
set_option linter.unusedVariables false

def s_SignedBasis_L0 (a0_0 : Int) (a0_1 : List Int) (s5 : Int) : Option (Int ⊕ (Unit ⊕ ((List (List Int)) × Int))) :=
 (if s5 < (a0_1.length : Int) then
  ((idx a0_1 s5).bind fun v11 =>
  (if ¬ v11 = 1 then
   some (!(ieq v11 (w64 (a0_0 - 1))))
  else
   some false) : Option Bool).bind fun x13 =>
  (if x13 = true then
   some (.inr (.inr (([] : List (List Int)),5)))
  else
   some (.inl (w64 (s5 + 1))))
 else
  some (.inr (.inl ())))
def s_SignedBasis_L2 (a0_0 : Int) (a0_1 : List Int) (v15 : List (List Int)) (s17 : (List (List Int)) × Int) (s24 : (List Int) × Int) : Option (((List Int) × Int) ⊕ (List Int)) :=
 (s_l11Size a0_0 a0_1).bind fun v27 =>
 (if s24.2 < (w64 (2 * v27)) then
  (idx v15 (w64 (s17.2.tdiv 2))).bind fun v31 =>
  (idx v31 (w64 (s24.2.tdiv 2))).bind fun v32 =>
  ((if ¬ v32 = 1 then
   some (w64 (1 - ((w64 (s17.2 + s24.2)).tmod 2)))
  else
   some ((w64 (s17.2 + s24.2)).tmod 2)) : Option Int).bind fun x33 =>
  (chk (s24.1.length + [w64 ((w64 (2 * (bxor .i64 (w64 (s17.2.tdiv 2)) (w64 (s24.2.tdiv 2))))) + x33)].length ≤ 1099511627776)).bind fun _ =>
  some (.inl (s24.1 ++ [w64 ((w64 (2 * (bxor .i64 (w64 (s17.2.tdiv 2)) (w64 (s24.2.tdiv 2))))) + x33)],w64 (s24.2 + 1)))
 else
  some (.inr s24.1))
def s_SignedBasis_L1 (a0_0 : Int) (a0_1 : List Int) (v15 : List (List Int)) (s17 : (List (List Int)) × Int) : Option (((List (List Int)) × Int) ⊕ (List (List Int))) :=
 (s_l11Size a0_0 a0_1).bind fun v20 =>
 (if s17.2 < (w64 (2 * v20)) then
  (loop (s_SignedBasis_L2 a0_0 a0_1 v15 s17) BIG ([],0)).bind fun x24 =>
  (chk (s17.1.length + [x24].length ≤ 1099511627776)).bind fun _ =>
  some (.inl (s17.1 ++ [x24],w64 (s17.2 + 1)))
 else
  some (.inr s17.1))
def s_SignedBasis (a0_0 : Int) (a0_1 : List Int) : Option ((List (List Int)) × Int) :=
 (s_l11Is a0_0 a0_1).bind fun v2 =>
 (if v2 = false then
  some (([] : List (List Int)),1)
 else
  (loop (s_SignedBasis_L0 a0_0 a0_1) BIG 0).bind fun x5 =>
  (match x5 with
  | .inl y7 =>
   (s_l11Basis a0_0 a0_1).bind fun v15 =>
   (loop (s_SignedBasis_L1 a0_0 a0_1 v15) BIG ([],0)).bind fun x17 =>
   some (x17,0)
  | .inr t => some t))

def i_SignedBasis_c1 (a0 : Int) (a1_0 : Int) (a1_1 : List Int) : Option Bool :=
 ((if ¬ a0 = 1 then
  some (!(ieq a0 (w64 (a1_0 - 1))))
 else
  some false) : Option Bool).bind fun x2 =>
 some x2

def g_slices_IndexFunc_LI_I_of_i_SignedBasis_c1_L0 (a0 : List Int) (a1_0_0 : Int) (a1_0_1 : List Int) (s2 : Int) : Option (Int ⊕ (Unit ⊕ Int)) :=
 (if s2 < (a0.length : Int) then
  (idx a0 s2).bind fun v8 =>
  (i_SignedBasis_c1 v8 a1_0_0 a1_0_1).bind fun v9 =>
  (if v9 = true then
   some (.inr (.inr s2))
  else
   some (.inl (w64 (s2 + 1))))
 else
  some (.inr (.inl ())))
def g_slices_IndexFunc_LI_I_of_i_SignedBasis_c1 (a0 : List Int) (a1_0_0 : Int) (a1_0_1 : List Int) : Option Int :=
 (loop (g_slices_IndexFunc_LI_I_of_i_SignedBasis_c1_L0 a0 a1_0_0 a1_0_1) BIG 0).bind fun x2 =>
 (match x2 with
 | .inl y4 =>
  some (-1)
 | .inr t => some t)

def g_slices_ContainsFunc_LI_I_of_i_SignedBasis_c1 (a0 : List Int) (a1_0_0 : Int) (a1_0_1 : List Int) : Option Bool :=
 (g_slices_IndexFunc_LI_I_of_i_SignedBasis_c1 a0 a1_0_0 a1_0_1).bind fun v1 =>
 some (ile 0 v1)

def i_Doubling_products_L1 (a0_0 : Int) (a0_1 : List Int) (s4 : (List (List Int)) × Int) (v9 : List Int) (v12 : List (List Int)) (s13 : (List Int) × Int) : Option (((List Int) × Int) ⊕ (List Int)) :=
 (if s13.2 < (v12.length : Int) then
  (idx v12 s13.2).bind fun v18 =>
  (i_Doubling_times a0_0 a0_1 v9 v18).bind fun v19 =>
  (idx v19 (bxor .i64 s4.2 s13.2)).bind fun v20 =>
  (chk (s13.1.length + [v20].length ≤ 1099511627776)).bind fun _ =>
  some (.inl (s13.1 ++ [v20],w64 (s13.2 + 1)))
 else
  some (.inr s13.1))
def i_Doubling_products_L0 (a0_0 : Int) (a0_1 : List Int) (v3 : List (List Int)) (s4 : (List (List Int)) × Int) : Option (((List (List Int)) × Int) ⊕ (List (List Int))) :=
 (if s4.2 < (v3.length : Int) then
  (idx v3 s4.2).bind fun v9 =>
  (i_Doubling_size a0_0 a0_1).bind fun v11 =>
  (i_unit v11).bind fun v12 =>
  (loop (i_Doubling_products_L1 a0_0 a0_1 s4 v9 v12) BIG ([],0)).bind fun x13 =>
  (chk (s4.1.length + [x13].length ≤ 1099511627776)).bind fun _ =>
  some (.inl (s4.1 ++ [x13],w64 (s4.2 + 1)))
 else
  some (.inr s4.1))
def i_Doubling_products (a0_0 : Int) (a0_1 : List Int) : Option (List (List Int)) :=
 (i_Doubling_size a0_0 a0_1).bind fun v2 =>
 (i_unit v2).bind fun v3 =>
 (loop (i_Doubling_products_L0 a0_0 a0_1 v3) BIG ([],0)).bind fun x4 =>
 some x4

def i_SignedBasis_L1 (v7 : List (List Int)) (s10 : (List (List Int)) × Int) (v16 : Int) (s17 : (List Int) × Int) : Option (((List Int) × Int) ⊕ (List Int)) :=
 (if s17.2 < (w64 (2 * v16)) then
  (idx v7 (w64 (s10.2.tdiv 2))).bind fun v23 =>
  (idx v23 (w64 (s17.2.tdiv 2))).bind fun v24 =>
  ((if ¬ v24 = 1 then
   some (w64 (1 - ((w64 (s10.2 + s17.2)).tmod 2)))
  else
   some ((w64 (s10.2 + s17.2)).tmod 2)) : Option Int).bind fun x25 =>
  (chk (s17.1.length + [w64 ((w64 (2 * (bxor .i64 (w64 (s10.2.tdiv 2)) (w64 (s17.2.tdiv 2))))) + x25)].length ≤ 1099511627776)).bind fun _ =>
  some (.inl (s17.1 ++ [w64 ((w64 (2 * (bxor .i64 (w64 (s10.2.tdiv 2)) (w64 (s17.2.tdiv 2))))) + x25)],w64 (s17.2 + 1)))
 else
  some (.inr s17.1))
def i_SignedBasis_L0 (a0_0 : Int) (a0_1 : List Int) (v7 : List (List Int)) (v9 : Int) (s10 : (List (List Int)) × Int) : Option (((List (List Int)) × Int) ⊕ (List (List Int))) :=
 (if s10.2 < (w64 (2 * v9)) then
  (i_Doubling_size a0_0 a0_1).bind fun v16 =>
  (loop (i_SignedBasis_L1 v7 s10 v16) BIG ([],0)).bind fun x17 =>
  (chk (s10.1.length + [x17].length ≤ 1099511627776)).bind fun _ =>
  some (.inl (s10.1 ++ [x17],w64 (s10.2 + 1)))
 else
  some (.inr s10.1))
def i_SignedBasis (a0_0 : Int) (a0_1 : List Int) : Option ((List (List Int)) × Int) :=
 (i_IsDoubling a0_0 a0_1).bind fun v2 =>
 (if v2 = false then
  some (([] : List (List Int)),1)
 else
  (g_slices_ContainsFunc_LI_I_of_i_SignedBasis_c1 a0_1 a0_0 a0_1).bind fun v5 =>
  (if v5 = true then
   some (([] : List (List Int)),5)
  else
   (i_Doubling_products a0_0 a0_1).bind fun v7 =>
   (i_Doubling_size a0_0 a0_1).bind fun v9 =>
   (loop (i_SignedBasis_L0 a0_0 a0_1 v7 v9) BIG ([],0)).bind fun x10 =>
   some (x10,0)))

def s_l11Diagonal_L0 (a0_0 : Int) (a0_1 : List Int) (s2 : (List Int) × Int) : Option (((List Int) × Int) ⊕ (List Int)) :=
 (if s2.2 < (a0_1.length : Int) then
  (idx a0_1 s2.2).bind fun v7 =>
  (s_l11Scale a0_0 (w64 (a0_0 - v7)) s2.1).bind fun v8 =>
  (chk (s2.1.length + v8.length ≤ 1099511627776)).bind fun _ =>
  some (.inl (s2.1 ++ v8,w64 (s2.2 + 1)))
 else
  some (.inr s2.1))
def s_l11Diagonal (a0_0 : Int) (a0_1 : List Int) : Option (List Int) :=
 (loop (s_l11Diagonal_L0 a0_0 a0_1) BIG ([1],0)).bind fun x2 =>
 some x2

def s_l02First_L0 (a0 : List Int) (s2 : Int) : Option (Int ⊕ (Unit ⊕ Int)) :=
 (if s2 < (a0.length : Int) then
  (idx a0 s2).bind fun v8 =>
  (if ¬ v8 = 0 then
   some (.inr (.inr s2))
  else
   some (.inl (w64 (s2 + 1))))
 else
  some (.inr (.inl ())))
def s_l02First (a0 : List Int) : Option Int :=
 (loop (s_l02First_L0 a0) BIG 0).bind fun x2 =>
 (match x2 with
 | .inl y4 =>
  some (-1)
 | .inr t => some t)

def i_lead_L0 (a0 : List Int) (s2 : Int) : Option (Int ⊕ Int) :=
 ((if s2 < (a0.length : Int) then
  (idx a0 s2).bind fun v6 =>
  some (ieq v6 0)
 else
  some false) : Option Bool).bind fun x7 =>
 (if x7 = true then
  some (.inl (w64 (s2 + 1)))
 else
  some (.inr s2))
def i_lead (a0 : List Int) : Option Int :=
 (loop (i_lead_L0 a0) BIG 0).bind fun x2 =>
 some x2

def s_l12Counts_L2 (a0 : Int) (a1 : List Int) (s5 : (List Int) × Int) (s12 : (List Int) × Int) (s17 : (List Int) × Int) : Option (((List Int) × Int) ⊕ (List Int)) :=
 (if s17.2 < a0 then
  (idx a1 s5.2).bind fun v22 =>
  (s_l01Mod a0 (w64 (s12.2 + (w64 ((w64 (v22 * s17.2)) * s17.2))))).bind fun v23 =>
  (idx s17.1 v23).bind fun v24 =>
  (idx s5.1 s12.2).bind fun v25 =>
  some (.inl (s17.1.set v23.toNat (w64 (v24 + v25)),w64 (s17.2 + 1)))
 else
  some (.inr s17.1))
def s_l12Counts_L1 (a0 : Int) (a1 : List Int) (s5 : (List Int) × Int) (s12 : (List Int) × Int) : Option (((List Int) × Int) ⊕ (List Int)) :=
 (if s12.2 < a0 then
  (loop (s_l12Counts_L2 a0 a1 s5 s12) BIG (s12.1,0)).bind fun x17 =>
  some (.inl (x17,w64 (s12.2 + 1)))
 else
  some (.inr s12.1))
def s_l12Counts_L0 (a0 : Int) (a1 : List Int) (s5 : (List Int) × Int) : Option (((List Int) × Int) ⊕ (List Int)) :=
 (if s5.2 < (a1.length : Int) then
  (chk (0 ≤ a0 ∧ a0 ≤ 1099511627776)).bind fun _ =>
  (loop (s_l12Counts_L1 a0 a1 s5) BIG (List.replicate a0.toNat 0,0)).bind fun x12 =>
  some (.inl (x12,w64 (s5.2 + 1)))
 else
  some (.inr s5.1))
def s_l12Counts (a0 : Int) (a1 : List Int) : Option (List Int) :=
 (chk (0 ≤ a0 ∧ a0 ≤ 1099511627776)).bind fun _ =>
 (some (List.replicate a0.toNat 0)).bind fun l2 =>
 (idx l2 0).bind fun v3 =>
 (loop (s_l12Counts_L0 a0 a1) BIG (l2.set 0 1,0)).bind fun x5 =>
 some x5

end Go.Vam

namespace Go.Vam
open Go Go.RowKit
set_option maxRecDepth 100000
set_option linter.unusedSimpArgs false
set_option linter.unusedVariables false

def g_slices_Equal_LI_I_L0 (a0 : List Int) (a1 : List Int) (s4 : Int) : Option (Int ⊕ (Unit ⊕ Bool)) :=
 (if s4 < (a0.length : Int) then
  (idx a0 s4).bind fun v10 =>
  (idx a1 s4).bind fun v11 =>
  (if ¬ v10 = v11 then
   some (.inr (.inr false))
  else
   some (.inl (w64 (s4 + 1))))
 else
  some (.inr (.inl ())))
def g_slices_Equal_LI_I (a0 : List Int) (a1 : List Int) : Option Bool :=
 (if ¬ (a0.length : Int) = (a1.length : Int) then
  some false
 else
  (loop (g_slices_Equal_LI_I_L0 a0 a1) BIG 0).bind fun x4 =>
  (match x4 with
  | .inl y6 =>
   some true
  | .inr t => some t))

def g_slices_EqualFunc_LLI_LLI_LI_LI_of_g_slices_Equal_LI_I_L0 (a0 : List (List Int)) (a1 : List (List Int)) (s4 : Int) : Option (Int ⊕ (Unit ⊕ Bool)) :=
 (if s4 < (a0.length : Int) then
  (idx a0 s4).bind fun v10 =>
  (idx a1 s4).bind fun v11 =>
  (g_slices_Equal_LI_I v10 v11).bind fun v12 =>
  (if v12 = false then
   some (.inr (.inr false))
  else
   some (.inl (w64 (s4 + 1))))
 else
  some (.inr (.inl ())))
def g_slices_EqualFunc_LLI_LLI_LI_LI_of_g_slices_Equal_LI_I (a0 : List (List Int)) (a1 : List (List Int)) : Option Bool :=
 (if ¬ (a0.length : Int) = (a1.length : Int) then
  some false
 else
  (loop (g_slices_EqualFunc_LLI_LLI_LI_LI_of_g_slices_Equal_LI_I_L0 a0 a1) BIG 0).bind fun x4 =>
  (match x4 with
  | .inl y6 =>
   some true
  | .inr t => some t))

def i_sameRows (a0 : List (List Int)) (a1 : List (List Int)) : Option Bool :=
 (g_slices_EqualFunc_LLI_LLI_LI_LI_of_g_slices_Equal_LI_I a0 a1).bind fun v1 =>
 some v1

def s_l13Sub_L0 (a1 : List Int) (s5 : (List Bool) × (List Int) × Int) : Option (((List Bool) × (List Int) × Int) ⊕ ((List Bool) × (List Int))) :=
 (if s5.2.2 < (a1.length : Int) then
  ((idx a1 s5.2.2).bind fun v11 =>
  (idx s5.1 v11).bind fun v12 =>
  (if v12 = false then
   (chk (s5.2.1.length + [v11].length ≤ 1099511627776)).bind fun _ =>
   some (s5.1.set v11.toNat true,s5.2.1 ++ [v11])
  else
   some (s5.1,s5.2.1)) : Option ((List Bool) × (List Int))).bind fun x9 =>
  some (.inl (x9.1,x9.2,w64 (s5.2.2 + 1)))
 else
  some (.inr (s5.1,s5.2.1)))
def s_l13Sub_L3 (s32 : (List Bool) × (List Int) × (List Int) × Int) : Option (((List Bool) × (List Int) × (List Int) × Int) ⊕ ((List Bool) × (List Int))) :=
 (if s32.2.2.2 < 2 then
  ((idx s32.2.2.1 s32.2.2.2).bind fun v38 =>
  (idx s32.1 v38).bind fun v39 =>
  (if v39 = false then
   (chk (s32.2.1.length + [v38].length ≤ 1099511627776)).bind fun _ =>
   some (s32.1.set v38.toNat true,s32.2.1 ++ [v38])
  else
   some (s32.1,s32.2.1)) : Option ((List Bool) × (List Int))).bind fun x36 =>
  some (.inl (x36.1,x36.2,s32.2.2.1,w64 (s32.2.2.2 + 1)))
 else
  some (.inr (s32.1,s32.2.1)))
def s_l13Sub_L2 (a0 : List (List Int)) (s16 : (List Bool) × (List Int) × Int) (s21 : (List Bool) × (List Int) × Int) : Option (((List Bool) × (List Int) × Int) ⊕ ((List Bool) × (List Int))) :=
 (if s21.2.2 ≤ s16.2.2 then
  (idx s21.2.1 s16.2.2).bind fun v26 =>
  (idx a0 v26).bind fun v27 =>
  (idx s21.2.1 s21.2.2).bind fun v28 =>
  (idx v27 v28).bind fun v29 =>
  (idx a0 v28).bind fun v30 =>
  (idx v30 v26).bind fun v31 =>
  (loop s_l13Sub_L3 BIG (s21.1,s21.2.1,[v29,v31],0)).bind fun x32 =>
  some (.inl (x32.1,x32.2,w64 (s21.2.2 + 1)))
 else
  some (.inr (s21.1,s21.2.1)))
def s_l13Sub_L1 (a0 : List (List Int)) (s16 : (List Bool) × (List Int) × Int) : Option (((List Bool) × (List Int) × Int) ⊕ (List Bool)) :=
 (if s16.2.2 < (s16.2.1.length : Int) then
  (loop (s_l13Sub_L2 a0 s16) BIG (s16.1,s16.2.1,0)).bind fun x21 =>
  some (.inl (x21.1,x21.2,w64 (s16.2.2 + 1)))
 else
  some (.inr s16.1))
def s_l13Sub_L4 (a0 : List (List Int)) (x16 : List Bool) (s43 : (List Int) × Int) : Option (((List Int) × Int) ⊕ (List Int)) :=
 (if s43.2 < (a0.length : Int) then
  ((idx x16 s43.2).bind fun v49 =>
  (if v49 = true then
   (chk (s43.1.length + [s43.2].length ≤ 1099511627776)).bind fun _ =>
   some (s43.1 ++ [s43.2])
  else
   some s43.1) : Option (List Int)).bind fun x47 =>
  some (.inl (x47,w64 (s43.2 + 1)))
 else
  some (.inr s43.1))
def s_l13Sub (a0 : List (List Int)) (a1 : List Int) : Option (List Int) :=
 (chk (0 ≤ (a0.length : Int) ∧ (a0.length : Int) ≤ 1099511627776)).bind fun _ =>
 (some (List.replicate (a0.length : Int).toNat false)).bind fun l2 =>
 (idx l2 0).bind fun v3 =>
 (loop (s_l13Sub_L0 a1) BIG (l2.set 0 true,[0],0)).bind fun x5 =>
 (loop (s_l13Sub_L1 a0) BIG (x5.1,x5.2,0)).bind fun x16 =>
 (loop (s_l13Sub_L4 a0 x16) BIG ([],0)).bind fun x43 =>
 some x43

def s_IsDiassociativeLoop_L4 (a0 : List (List Int)) (v18 : List Int) (s19 : Int) (s25 : Int) (s31 : Int) : Option (Int ⊕ (Unit ⊕ (Int ⊕ (Unit ⊕ (Int ⊕ (Unit ⊕ (Int ⊕ (Unit ⊕ (Int ⊕ (Unit ⊕ (Bool × Int))))))))))) :=
 (if s31 < (v18.length : Int) then
  (idx v18 s19).bind fun v37 =>
  (idx v18 s25).bind fun v38 =>
  (idx v18 s31).bind fun v39 =>
  (s_l13Associates a0 v37 v38 v39).bind fun v40 =>
  (if v40 = false then
   some (.inr (.inr (.inr (.inr (.inr (.inr (.inr (.inr (.inr (.inr (false,0)))))))))))
  else
   some (.inl (w64 (s31 + 1))))
 else
  some (.inr (.inl ())))
def s_IsDiassociativeLoop_L3 (a0 : List (List Int)) (v18 : List Int) (s19 : Int) (s25 : Int) : Option (Int ⊕ (Unit ⊕ (Int ⊕ (Unit ⊕ (Int ⊕ (Unit ⊕ (Int ⊕ (Unit ⊕ (Bool × Int))))))))) :=
 (if s25 < (v18.length : Int) then
  (loop (s_IsDiassociativeLoop_L4 a0 v18 s19 s25) BIG 0).bind fun x31 =>
  (match x31 with
  | .inl y33 =>
   some (.inl (w64 (s25 + 1)))
  | .inr t => some t)
 else
  some (.inr (.inl ())))
def s_IsDiassociativeLoop_L2 (a0 : List (List Int)) (v18 : List Int) (s19 : Int) : Option (Int ⊕ (Unit ⊕ (Int ⊕ (Unit ⊕ (Int ⊕ (Unit ⊕ (Bool × Int))))))) :=
 (if s19 < (v18.length : Int) then
  (loop (s_IsDiassociativeLoop_L3 a0 v18 s19) BIG 0).bind fun x25 =>
  (match x25 with
  | .inl y27 =>
   some (.inl (w64 (s19 + 1)))
  | .inr t => some t)
 else
  some (.inr (.inl ())))
def s_IsDiassociativeLoop_L1 (a0 : List (List Int)) (s6 : Int) (s12 : Int) : Option (Int ⊕ (Unit ⊕ (Int ⊕ (Unit ⊕ (Bool × Int))))) :=
 (if s12 < (a0.length : Int) then
  (s_l13Sub a0 [s6,s12]).bind fun v18 =>
  (loop (s_IsDiassociativeLoop_L2 a0 v18) BIG 0).bind fun x19 =>
  (match x19 with
  | .inl y21 =>
   some (.inl (w64 (s12 + 1)))
  | .inr t => some t)
 else
  some (.inr (.inl ())))
def s_IsDiassociativeLoop_L0 (a0 : List (List Int)) (s6 : Int) : Option (Int ⊕ (Unit ⊕ (Bool × Int))) :=
 (if s6 < (a0.length : Int) then
  (loop (s_IsDiassociativeLoop_L1 a0 s6) BIG s6).bind fun x12 =>
  (match x12 with
  | .inl y14 =>
   some (.inl (w64 (s6 + 1)))
  | .inr t => some t)
 else
  some (.inr (.inl ())))
def s_IsDiassociativeLoop (a0 : List (List Int)) : Option (Bool × Int) :=
 (s_l13Is a0).bind fun v2 =>
 (if v2 = false then
  some (false,1)
 else
  (if 32 < (a0.length : Int) then
   some (false,3)
  else
   (loop (s_IsDiassociativeLoop_L0 a0) BIG 0).bind fun x6 =>
   (match x6 with
   | .inl y8 =>
    some (true,0)
   | .inr t => some t)))

end Go.Vam

namespace Go.Vam
open Go Go.RowKit
set_option maxRecDepth 100000
set_option linter.unusedSimpArgs false
set_option linter.unusedVariables false

end Go.Vam

namespace Go.Vam
open Go Go.RowKit
set_option maxRecDepth 100000
set_option linter.unusedSimpArgs false
set_option linter.unusedVariables false

end Go.Vam

namespace Go.Vam
open Go Go.RowKit
set_option maxRecDepth 100000
set_option linter.unusedSimpArgs false
set_option linter.unusedVariables false

def s_l01From_L0 (a0 : List Int) (s2 : (List Int) × Int × Int × Int) : Option (((List Int) × Int × Int × Int) ⊕ ((List Int) × Int × Int)) :=
 ((if s2.2.2.2 < (a0.length : Int) then
  some (ilt s2.2.2.2 4096)
 else
  some false) : Option Bool).bind fun x6 =>
 (if x6 = true then
  (idx a0 s2.2.2.2).bind fun v9 =>
  some (.inl (s2.1,s2.2.1,IntKind.u64.wrap ((IntKind.u64.wrap ((IntKind.u64.wrap (s2.2.2.1 * 1099511628211)) + (IntKind.u64.wrap (v9)))) + 11),w64 (s2.2.2.2 + 1)))
 else
  some (.inr (s2.1,s2.2.1,s2.2.2.1)))
def s_l01From (a0 : List Int) : Option ((List Int) × Int × Int) :=
 (loop (s_l01From_L0 a0) BIG (a0,0,IntKind.u64.wrap (4409 + (IntKind.u64.wrap ((a0.length : Int)))),0)).bind fun x2 =>
 some (x2.1,x2.2.1,x2.2.2)

def s_l01Next (a0_0 : List Int) (a0_1 : Int) (a0_2 : Int) (a1 : Int) : Option (Int × ((List Int) × Int × Int)) :=
 (if a1 < 1 then
  some (0,(a0_0,a0_1,a0_2))
 else
  ((if a0_1 < (a0_0.length : Int) then
   (idx a0_0 a0_1).bind fun v7 =>
   some (a0_0,w64 (a0_1 + 1),IntKind.u64.wrap ((IntKind.u64.wrap (a0_2 * 6364136223846793005)) + 1442695040888963407),w64 ((w64 (band .u64 (shr .u64 (IntKind.u64.wrap ((IntKind.u64.wrap (a0_2 * 6364136223846793005)) + 1442695040888963407)) 33) 16777215)) + (w64 (v7))))
  else
   some (a0_0,a0_1,IntKind.u64.wrap ((IntKind.u64.wrap (a0_2 * 6364136223846793005)) + 1442695040888963407),w64 (band .u64 (shr .u64 (IntKind.u64.wrap ((IntKind.u64.wrap (a0_2 * 6364136223846793005)) + 1442695040888963407)) 33) 16777215))) : Option ((List Int) × Int × Int × Int)).bind fun x4 =>
  (chk (¬ a1 = 0)).bind fun _ =>
  some (x4.2.2.2.tmod a1,(x4.1,x4.2.1,x4.2.2.1)))

def s_l01Pick (a0_0 : List Int) (a0_1 : Int) (a0_2 : Int) (a1 : List Int) : Option (Int × ((List Int) × Int × Int)) :=
 (s_l01Next a0_0 a0_1 a0_2 (a1.length : Int)).bind fun v1 =>
 (idx a1 v1.1).bind fun v2 =>
 some (v2,(v1.2.1,v1.2.2.1,v1.2.2.2))

def l_likeInts_L0 (a0 : List Int) (a1 : List Int) (s4 : Int) : Option (Int ⊕ (Unit ⊕ Bool)) :=
 (if s4 < (a0.length : Int) then
  (idx a0 s4).bind fun v10 =>
  (idx a1 s4).bind fun v11 =>
  (if ¬ v10 = v11 then
   some (.inr (.inr false))
  else
   some (.inl (w64 (s4 + 1))))
 else
  some (.inr (.inl ())))
def l_likeInts (a0 : List Int) (a1 : List Int) : Option Bool :=
 (if ¬ (a0.length : Int) = (a1.length : Int) then
  some false
 else
  (loop (l_likeInts_L0 a0 a1) BIG 0).bind fun x4 =>
  (match x4 with
  | .inl y6 =>
   some true
  | .inr t => some t))

def l_roll_L0 (a0 : List Int) (s2 : (List Int) × Int × Int × Int) : Option (((List Int) × Int × Int × Int) ⊕ ((List Int) × Int × Int)) :=
 (if s2.2.2.2 < (a0.length : Int) then
  (idx a0 s2.2.2.2).bind fun v7 =>
  some (.inl (s2.1,s2.2.1,IntKind.u64.wrap ((IntKind.u64.wrap ((IntKind.u64.wrap (s2.2.2.1 * 1099511628211)) + (IntKind.u64.wrap (v7)))) + 5),w64 (s2.2.2.2 + 1)))
 else
  some (.inr (s2.1,s2.2.1,s2.2.2.1)))
def l_roll (a0 : List Int) (a1 : Int) : Option ((List Int) × Int × Int) :=
 (loop (l_roll_L0 a0) BIG (a0,0,IntKind.u64.wrap ((IntKind.u64.wrap (a1 * 7681)) + (IntKind.u64.wrap ((a0.length : Int)))),0)).bind fun x2 =>
 some (x2.1,x2.2.1,x2.2.2)

def g_p_laws_dice_below (a0_0 : List Int) (a0_1 : Int) (a0_2 : Int) (a1 : Int) : Option (Int × ((List Int) × Int × Int)) :=
 (if a1 < 1 then
  some (0,(a0_0,a0_1,a0_2))
 else
  ((if a0_1 < (a0_0.length : Int) then
   (idx a0_0 a0_1).bind fun v7 =>
   some (a0_0,w64 (a0_1 + 1),IntKind.u64.wrap ((IntKind.u64.wrap (a0_2 * 6364136223846793005)) + 1442695040888963407),w64 ((w64 (band .u64 (shr .u64 (IntKind.u64.wrap ((IntKind.u64.wrap (a0_2 * 6364136223846793005)) + 1442695040888963407)) 33) 16777215)) + (w64 (v7))))
  else
   some (a0_0,a0_1,IntKind.u64.wrap ((IntKind.u64.wrap (a0_2 * 6364136223846793005)) + 1442695040888963407),w64 (band .u64 (shr .u64 (IntKind.u64.wrap ((IntKind.u64.wrap (a0_2 * 6364136223846793005)) + 1442695040888963407)) 33) 16777215))) : Option ((List Int) × Int × Int × Int)).bind fun x4 =>
  (chk (¬ a1 = 0)).bind fun _ =>
  some (x4.2.2.2.tmod a1,(x4.1,x4.2.1,x4.2.2.1)))

end Go.Vam

namespace Go.Vam
open Go Go.RowKit
set_option maxRecDepth 100000
set_option linter.unusedSimpArgs false
set_option linter.unusedVariables false

end Go.Vam

namespace Go.Vam
open Go Go.RowKit
set_option maxRecDepth 100000
set_option linter.unusedSimpArgs false
set_option linter.unusedVariables false



end Go.Vam

namespace Go.Vam
open Go Go.RowKit
set_option maxRecDepth 100000
set_option linter.unusedSimpArgs false
set_option linter.unusedVariables false

end Go.Vam

namespace Go.Vam
open Go Go.RowKit
set_option maxRecDepth 100000
set_option linter.unusedSimpArgs false
set_option linter.unusedVariables false

def i_IsAssociativeLoop_c1 (a0 : Int) (a1 : Int) (a2 : Int) (a3_0 : List (List Int)) : Option Bool :=
 (i_associates a3_0 a0 a1 a2).bind fun v1 =>
 some v1

def i_loopTriples_of_i_IsAssociativeLoop_c1_L2 (a1_0_0 : List (List Int)) (s3 : Int) (s10 : Int) (v16 : Int) (s17 : Int) : Option (Int ⊕ (Unit ⊕ (Int ⊕ (Unit ⊕ (Int ⊕ (Unit ⊕ Bool)))))) :=
 (if s17 < v16 then
  (i_IsAssociativeLoop_c1 s3 s10 s17 a1_0_0).bind fun v23 =>
  (if v23 = false then
   some (.inr (.inr (.inr (.inr (.inr (.inr false))))))
  else
   some (.inl (w64 (s17 + 1))))
 else
  some (.inr (.inl ())))
def i_loopTriples_of_i_IsAssociativeLoop_c1_L1 (a0 : List (List Int)) (a1_0_0 : List (List Int)) (s3 : Int) (v9 : Int) (s10 : Int) : Option (Int ⊕ (Unit ⊕ (Int ⊕ (Unit ⊕ Bool)))) :=
 (if s10 < v9 then
  (i_length_LI a0).bind fun v16 =>
  (loop (i_loopTriples_of_i_IsAssociativeLoop_c1_L2 a1_0_0 s3 s10 v16) BIG 0).bind fun x17 =>
  (match x17 with
  | .inl y19 =>
   some (.inl (w64 (s10 + 1)))
  | .inr t => some t)
 else
  some (.inr (.inl ())))
def i_loopTriples_of_i_IsAssociativeLoop_c1_L0 (a0 : List (List Int)) (a1_0_0 : List (List Int)) (v2 : Int) (s3 : Int) : Option (Int ⊕ (Unit ⊕ Bool)) :=
 (if s3 < v2 then
  (i_length_LI a0).bind fun v9 =>
  (loop (i_loopTriples_of_i_IsAssociativeLoop_c1_L1 a0 a1_0_0 s3 v9) BIG 0).bind fun x10 =>
  (match x10 with
  | .inl y12 =>
   some (.inl (w64 (s3 + 1)))
  | .inr t => some t)
 else
  some (.inr (.inl ())))
def i_loopTriples_of_i_IsAssociativeLoop_c1 (a0 : List (List Int)) (a1_0_0 : List (List Int)) : Option Bool :=
 (i_length_LI a0).bind fun v2 =>
 (loop (i_loopTriples_of_i_IsAssociativeLoop_c1_L0 a0 a1_0_0 v2) BIG 0).bind fun x3 =>
 (match x3 with
 | .inl y5 =>
  some true
 | .inr t => some t)

def i_IsAssociativeLoop (a0 : List (List Int)) : Option (Bool × Int) :=
 (i_checkLoop a0 ([] : List Int)).bind fun v2 =>
 (if ¬ v2 = 0 then
  some (false,v2)
 else
  (i_loopTriples_of_i_IsAssociativeLoop_c1 a0 a0).bind fun v4 =>
  some (v4,0))

def i_IsMoufangLoop_c1 (a0 : Int) (a1 : Int) (a2 : Int) (a3_0 : List (List Int)) : Option Bool :=
 (idx a3_0 a0).bind fun v1 =>
 (idx a3_0 a1).bind fun v2 =>
 (idx v2 a2).bind fun v3 =>
 (idx v1 v3).bind fun v4 =>
 (idx a3_0 v4).bind fun v5 =>
 (idx v5 a0).bind fun v6 =>
 (idx v1 a1).bind fun v7 =>
 (idx a3_0 v7).bind fun v8 =>
 (idx a3_0 a2).bind fun v9 =>
 (idx v9 a0).bind fun v10 =>
 (idx v8 v10).bind fun v11 =>
 some (ieq v6 v11)

def i_loopTriples_of_i_IsMoufangLoop_c1_L2 (a1_0_0 : List (List Int)) (s3 : Int) (s10 : Int) (v16 : Int) (s17 : Int) : Option (Int ⊕ (Unit ⊕ (Int ⊕ (Unit ⊕ (Int ⊕ (Unit ⊕ Bool)))))) :=
 (if s17 < v16 then
  (i_IsMoufangLoop_c1 s3 s10 s17 a1_0_0).bind fun v23 =>
  (if v23 = false then
   some (.inr (.inr (.inr (.inr (.inr (.inr false))))))
  else
   some (.inl (w64 (s17 + 1))))
 else
  some (.inr (.inl ())))
def i_loopTriples_of_i_IsMoufangLoop_c1_L1 (a0 : List (List Int)) (a1_0_0 : List (List Int)) (s3 : Int) (v9 : Int) (s10 : Int) : Option (Int ⊕ (Unit ⊕ (Int ⊕ (Unit ⊕ Bool)))) :=
 (if s10 < v9 then
  (i_length_LI a0).bind fun v16 =>
  (loop (i_loopTriples_of_i_IsMoufangLoop_c1_L2 a1_0_0 s3 s10 v16) BIG 0).bind fun x17 =>
  (match x17 with
  | .inl y19 =>
   some (.inl (w64 (s10 + 1)))
  | .inr t => some t)
 else
  some (.inr (.inl ())))
def i_loopTriples_of_i_IsMoufangLoop_c1_L0 (a0 : List (List Int)) (a1_0_0 : List (List Int)) (v2 : Int) (s3 : Int) : Option (Int ⊕ (Unit ⊕ Bool)) :=
 (if s3 < v2 then
  (i_length_LI a0).bind fun v9 =>
  (loop (i_loopTriples_of_i_IsMoufangLoop_c1_L1 a0 a1_0_0 s3 v9) BIG 0).bind fun x10 =>
  (match x10 with
  | .inl y12 =>
   some (.inl (w64 (s3 + 1)))
  | .inr t => some t)
 else
  some (.inr (.inl ())))
def i_loopTriples_of_i_IsMoufangLoop_c1 (a0 : List (List Int)) (a1_0_0 : List (List Int)) : Option Bool :=
 (i_length_LI a0).bind fun v2 =>
 (loop (i_loopTriples_of_i_IsMoufangLoop_c1_L0 a0 a1_0_0 v2) BIG 0).bind fun x3 =>
 (match x3 with
 | .inl y5 =>
  some true
 | .inr t => some t)

def i_IsMoufangLoop (a0 : List (List Int)) : Option (Bool × Int) :=
 (i_checkLoop a0 ([] : List Int)).bind fun v2 =>
 (if ¬ v2 = 0 then
  some (false,v2)
 else
  (i_loopTriples_of_i_IsMoufangLoop_c1 a0 a0).bind fun v4 =>
  some (v4,0))

def i_IsCommutativeLoop (a0 : List (List Int)) : Option (Bool × Int) :=
 (i_checkLoop a0 ([] : List Int)).bind fun v2 =>
 (if ¬ v2 = 0 then
  some (false,v2)
 else
  (i_transpose a0).bind fun v4 =>
  (i_sameRows a0 v4).bind fun v5 =>
  some (v5,0))

end Go.Vam

namespace Go.Vam
open Go Go.RowKit
set_option maxRecDepth 100000
set_option linter.unusedSimpArgs false
set_option linter.unusedVariables false

end Go.Vam

namespace Go.Vam
open Go Go.RowKit
set_option maxRecDepth 100000
set_option linter.unusedSimpArgs false
set_option linter.unusedVariables false

end Go.Vam

namespace Go.Vam
open Go Go.RowKit
set_option maxRecDepth 100000
set_option linter.unusedSimpArgs false
set_option linter.unusedVariables false

def g_slices_DeleteFunc_LI_I_of_i_LoopCentre_c1_L0 (a1_0_0 : List (List Int)) (s5 : (List Int) × Int × Int) : Option (((List Int) × Int × Int) ⊕ ((List Int) × Int)) :=
 (if s5.2.2 < (s5.1.length : Int) then
  ((idx s5.1 s5.2.2).bind fun v11 =>
  (i_LoopCentre_c1 v11 a1_0_0).bind fun v12 =>
  (if v12 = false then
   (idx s5.1 s5.2.1).bind fun v14 =>
   some (s5.1.set s5.2.1.toNat v11,w64 (s5.2.1 + 1))
  else
   some (s5.1,s5.2.1)) : Option ((List Int) × Int)).bind fun x9 =>
  some (.inl (x9.1,x9.2,w64 (s5.2.2 + 1)))
 else
  some (.inr (s5.1,s5.2.1)))
def g_slices_DeleteFunc_LI_I_of_i_LoopCentre_c1 (a0 : List Int) (a1_0_0 : List (List Int)) : Option (List Int) :=
 (g_slices_IndexFunc_LI_I_of_i_LoopCentre_c1 a0 a1_0_0).bind fun v1 =>
 (if v1 = (-1) then
  some a0
 else
  (loop (g_slices_DeleteFunc_LI_I_of_i_LoopCentre_c1_L0 a1_0_0) BIG (a0,v1,w64 (v1 + 1))).bind fun x5 =>
  (chk (0 ≤ x5.2 ∧ x5.2 ≤ (x5.1.length : Int))).bind fun _ =>
  (chk (0 ≤ x5.2 ∧ x5.2 ≤ (x5.1.length : Int))).bind fun _ =>
  some (x5.1.take x5.2.toNat))

def i_LoopCentre (a0 : List (List Int)) : Option ((List Int) × Int) :=
 (i_checkLoop a0 ([] : List Int)).bind fun v2 =>
 (if ¬ v2 = 0 then
  some (([] : List Int),v2)
 else
  (i_nucleus a0).bind fun v4 =>
  (g_slices_DeleteFunc_LI_I_of_i_LoopCentre_c1 v4 a0).bind fun v5 =>
  some (v5,0))

end Go.Vam

namespace Go.Vam
open Go Go.RowKit
set_option maxRecDepth 100000
set_option linter.unusedSimpArgs false
set_option linter.unusedVariables false

end Go.Vam

namespace Go.Vam
open Go Go.RowKit
set_option maxRecDepth 100000
set_option linter.unusedSimpArgs false
set_option linter.unusedVariables false

end Go.Vam

namespace Go.Vam
open Go Go.RowKit
set_option maxRecDepth 100000
set_option linter.unusedSimpArgs false
set_option linter.unusedVariables false

def i_subloop_c1 (a0 : Int) (a1_0 : List Bool) (a2_0 : List Int) : Option ((List Bool) × (List Int)) :=
 (idx a1_0 a0).bind fun v1 =>
 (if v1 = false then
  (chk (a2_0.length + [a0].length ≤ 1099511627776)).bind fun _ =>
  some (a1_0.set a0.toNat true,a2_0 ++ [a0])
 else
  some (a1_0,a2_0))

end Go.Vam

namespace Go.Vam
open Go Go.RowKit
set_option maxRecDepth 100000
set_option linter.unusedSimpArgs false
set_option linter.unusedVariables false

def s_l13Search_L0 (a0 : Int) (a1 : List Int) (a2 : Int) (a3 : List Int) (self : Int → (List Int) → Int → (List Int) → (List (List Int)) → Option (List (List Int))) (s16 : (List (List Int)) × Int) : Option (((List (List Int)) × Int) ⊕ (List (List Int))) :=
 (if s16.2 < a0 then
  (idx a1 (a3.length : Int)).bind fun v21 =>
  (s_l01Mod a0 (w64 (a2 - (w64 ((w64 (v21 * s16.2)) * s16.2))))).bind fun v22 =>
  (s_l01Own a3).bind fun v23 =>
  (chk (v23.length + [s16.2].length ≤ 1099511627776)).bind fun _ =>
  (self a0 a1 v22 (v23 ++ [s16.2]) s16.1).bind fun v25 =>
  some (.inl (v25,w64 (s16.2 + 1)))
 else
  some (.inr s16.1))
def s_l13Search_b (self : Int → (List Int) → Int → (List Int) → (List (List Int)) → Option (List (List Int))) (a0 : Int) (a1 : List Int) (a2 : Int) (a3 : List Int) (a4 : List (List Int)) : Option (List (List Int)) :=
 (if 129 < (a4.length : Int) then
  some a4
 else
  (if (a3.length : Int) = (a1.length : Int) then
   ((if a2 = 0 then
    (chk (a4.length + [a3].length ≤ 1099511627776)).bind fun _ =>
    some (a4 ++ [a3])
   else
    some a4) : Option (List (List Int))).bind fun x6 =>
   some x6
  else
   (chk (0 ≤ (a3.length : Int) ∧ (a3.length : Int) ≤ (a1.length : Int))).bind fun _ =>
   (s_l12Counts a0 (a1.drop (a3.length : Int).toNat)).bind fun v11 =>
   (idx v11 a2).bind fun v13 =>
   (if v13 = 0 then
    some a4
   else
    (loop (s_l13Search_L0 a0 a1 a2 a3 self) BIG (a4,0)).bind fun x16 =>
    some x16)))
def s_l13Search : Nat → Int → (List Int) → Int → (List Int) → (List (List Int)) → Option (List (List Int))
 | 0 => fun _ _ _ _ _ => none
 | n + 1 => s_l13Search_b (s_l13Search n)

def s_l13Units_L0 (v3 : List (List Int)) (s5 : (List (List Int)) × Int) : Option (((List (List Int)) × Int) ⊕ (List (List Int))) :=
 (if s5.2 < (v3.length : Int) then
  ((idx v3 s5.2).bind fun v11 =>
  (idx s5.1 0).bind fun v12 =>
  (s_l01Same v11 v12).bind fun v13 =>
  (if v13 = false then
   (chk (s5.1.length + [v11].length ≤ 1099511627776)).bind fun _ =>
   some (s5.1 ++ [v11])
  else
   some s5.1) : Option (List (List Int))).bind fun x9 =>
  some (.inl (x9,w64 (s5.2 + 1)))
 else
  some (.inr s5.1))
def s_l13Units (a0_0 : Int) (a0_1 : List Int) : Option (List (List Int)) :=
 (s_l11One a0_0 a0_1 0).bind fun v1 =>
 (s_l11Diagonal a0_0 a0_1).bind fun v2 =>
 (s_l13Search BIG a0_0 v2 1 [] ([] : List (List Int))).bind fun v3 =>
 (loop (s_l13Units_L0 v3) BIG ([v1],0)).bind fun x5 =>
 some x5

def s_l13Small (a0_0 : Int) (a0_1 : List Int) : Option ((List (List Int)) × Int) :=
 (s_l11Is a0_0 a0_1).bind fun v2 =>
 (if v2 = false then
  some (([] : List (List Int)),1)
 else
  (if 3 < (a0_1.length : Int) then
   some (([] : List (List Int)),5)
  else
   (s_l11Diagonal a0_0 a0_1).bind fun v5 =>
   (s_l12Counts a0_0 v5).bind fun v6 =>
   (idx v6 1).bind fun v7 =>
   (if 128 < v7 then
    some (([] : List (List Int)),3)
   else
    (s_l13Units a0_0 a0_1).bind fun v9 =>
    some (v9,0))))

def s_LoopOfUnits_L2 (v1 : (List (List Int)) × Int) (v18 : List Int) (s20 : Int) : Option (Int ⊕ Int) :=
 (idx v1.1 s20).bind fun v23 =>
 (s_l01Same v23 v18).bind fun v24 =>
 (if v24 = false then
  some (.inl (w64 (s20 + 1)))
 else
  some (.inr s20))
def s_LoopOfUnits_L1 (a0_0 : Int) (a0_1 : List Int) (v1 : (List (List Int)) × Int) (s5 : (List (List Int)) × Int) (s11 : (List Int) × Int) : Option (((List Int) × Int) ⊕ (List Int)) :=
 (if s11.2 < (v1.1.length : Int) then
  (idx v1.1 s5.2).bind fun v16 =>
  (idx v1.1 s11.2).bind fun v17 =>
  (s_l11Times a0_0 a0_1 v16 v17).bind fun v18 =>
  (loop (s_LoopOfUnits_L2 v1 v18) BIG 0).bind fun x20 =>
  (chk (s11.1.length + [x20].length ≤ 1099511627776)).bind fun _ =>
  some (.inl (s11.1 ++ [x20],w64 (s11.2 + 1)))
 else
  some (.inr s11.1))
def s_LoopOfUnits_L0 (a0_0 : Int) (a0_1 : List Int) (v1 : (List (List Int)) × Int) (s5 : (List (List Int)) × Int) : Option (((List (List Int)) × Int) ⊕ (List (List Int))) :=
 (if s5.2 < (v1.1.length : Int) then
  (loop (s_LoopOfUnits_L1 a0_0 a0_1 v1 s5) BIG ([],0)).bind fun x11 =>
  (chk (s5.1.length + [x11].length ≤ 1099511627776)).bind fun _ =>
  some (.inl (s5.1 ++ [x11],w64 (s5.2 + 1)))
 else
  some (.inr s5.1))
def s_LoopOfUnits (a0_0 : Int) (a0_1 : List Int) : Option ((List (List Int)) × Int) :=
 (s_l13Small a0_0 a0_1).bind fun v1 =>
 (if ¬ v1.2 = 0 then
  some (([] : List (List Int)),v1.2)
 else
  (loop (s_LoopOfUnits_L0 a0_0 a0_1 v1) BIG ([],0)).bind fun x5 =>
  some (x5,0))

def s_l13Draw_L0 (s10 : (List Int) × Int × Int × Int × (List Int) × Int) : Option (((List Int) × Int × Int × Int × (List Int) × Int) ⊕ ((List Int) × Int × Int × Int × (List Int))) :=
 (if 0 < s10.2.2.2.2.2 then
  (s_l01Pick s10.1 s10.2.1 s10.2.2.1 [1,w64 (s10.2.2.2.1 - 1)]).bind fun v15 =>
  (chk (s10.2.2.2.2.1.length + [v15.1].length ≤ 1099511627776)).bind fun _ =>
  some (.inl (v15.2.1,v15.2.2.1,v15.2.2.2,s10.2.2.2.1,s10.2.2.2.2.1 ++ [v15.1],w64 (s10.2.2.2.2.2 - 1)))
 else
  some (.inr (s10.1,s10.2.1,s10.2.2.1,s10.2.2.2.1,s10.2.2.2.2.1)))
def s_l13Draw_L2 (v29 : Int × ((List Int) × Int × Int)) (s31 : (List (List Int)) × Int) (s37 : (List Int) × Int) : Option (((List Int) × Int) ⊕ (List Int)) :=
 (if s37.2 < (w64 (1 + v29.1)) then
  (chk (¬ (w64 (1 + v29.1)) = 0)).bind fun _ =>
  (chk (s37.1.length + [(w64 (s31.2 + s37.2)).tmod (w64 (1 + v29.1))].length ≤ 1099511627776)).bind fun _ =>
  some (.inl (s37.1 ++ [(w64 (s31.2 + s37.2)).tmod (w64 (1 + v29.1))],w64 (s37.2 + 1)))
 else
  some (.inr s37.1))
def s_l13Draw_L1 (v29 : Int × ((List Int) × Int × Int)) (s31 : (List (List Int)) × Int) : Option (((List (List Int)) × Int) ⊕ (List (List Int))) :=
 (if s31.2 < (w64 (1 + v29.1)) then
  (loop (s_l13Draw_L2 v29 s31) BIG ([],0)).bind fun x37 =>
  (chk (s31.1.length + [x37].length ≤ 1099511627776)).bind fun _ =>
  some (.inl (s31.1 ++ [x37],w64 (s31.2 + 1)))
 else
  some (.inr s31.1))
def s_l13Draw (a0_0 : List Int) (a0_1 : Int) (a0_2 : Int) : Option ((List (List Int)) × ((List Int) × Int × Int)) :=
 (s_l01Next a0_0 a0_1 a0_2 4).bind fun v2 =>
 ((if v2.1 = 0 then
  (s_l01Pick v2.2.1 v2.2.2.1 v2.2.2.2 [3,5,7]).bind fun v7 =>
  (s_l01Pick v7.2.1 v7.2.2.1 v7.2.2.2 [1,2,3,3,4]).bind fun v9 =>
  (loop s_l13Draw_L0 BIG (v9.2.1,v9.2.2.1,v9.2.2.2,v7.1,[],v9.1)).bind fun x10 =>
  (s_SignedBasis x10.2.2.2.1 x10.2.2.2.2).bind fun v17 =>
  some (.inr (v17.1,(x10.1,x10.2.1,x10.2.2.1)))
 else
  (if v2.1 = 1 then
   (s_l01Pick v2.2.1 v2.2.2.1 v2.2.2.2 [3,5,7,11,13]).bind fun v19 =>
   (s_l01Next v19.2.1 v19.2.2.1 v19.2.2.2 2).bind fun v20 =>
   (s_l01Next v20.2.1 v20.2.2.1 v20.2.2.2 3).bind fun v22 =>
   ((if v22.1 = 0 then
    some (3,[2,2])
   else
    some (v19.1,[w64 (1 + v20.1)])) : Option (Int × (List Int))).bind fun x23 =>
   (s_LoopOfUnits x23.1 x23.2).bind fun v26 =>
   (if v26.2 = 0 then
    some (.inr (v26.1,(v22.2.1,v22.2.2.1,v22.2.2.2)))
   else
    some (.inl (v22.2.1,v22.2.2.1,v22.2.2.2)))
  else
   (if v2.1 = 2 then
    some (.inr ([[0,1,2,3,4],[1,0,3,4,2],[2,4,0,1,3],[3,2,4,0,1],[4,3,1,2,0]],(v2.2.1,v2.2.2.1,v2.2.2.2)))
   else
    some (.inl (v2.2.1,v2.2.2.1,v2.2.2.2))))) : Option (((List Int) × Int × Int) ⊕ ((List (List Int)) × ((List Int) × Int × Int)))).bind fun x3 =>
 (match x3 with
 | .inl y5 =>
  (s_l01Next y5.1 y5.2.1 y5.2.2 8).bind fun v29 =>
  (loop (s_l13Draw_L1 v29) BIG ([],0)).bind fun x31 =>
  some (x31,(v29.2.1,v29.2.2.1,v29.2.2.2))
 | .inr t => some t)

def s_l13DrawAny (a0_0 : List Int) (a0_1 : Int) (a0_2 : Int) : Option ((List (List Int)) × ((List Int) × Int × Int)) :=
 (s_l13Draw a0_0 a0_1 a0_2).bind fun v1 =>
 (s_l01Next v1.2.1 v1.2.2.1 v1.2.2.2 24).bind fun v3 =>
 ((if v3.1 = 0 then
  (s_l01Next v3.2.1 v3.2.2.1 v3.2.2.2 (v1.1.length : Int)).bind fun v7 =>
  (idx v1.1 v7.1).bind fun v8 =>
  (s_l01Next v7.2.1 v7.2.2.1 v7.2.2.2 (v1.1.length : Int)).bind fun v9 =>
  (s_l01Next v9.2.1 v9.2.2.1 v9.2.2.2 (w64 ((v1.1.length : Int) + 1))).bind fun v10 =>
  (idx v8 v9.1).bind fun v11 =>
  some (v10.2.1,v10.2.2.1,v10.2.2.2,v1.1.set v7.1.toNat (v8.set v9.1.toNat v10.1))
 else
  (if v3.1 = 1 then
   (chk (1 ≤ (v1.1.length : Int))).bind fun _ =>
   some (v3.2.1,v3.2.2.1,v3.2.2.2,v1.1.drop 1)
  else
   (if v3.1 = 2 then
    some (v3.2.1,v3.2.2.1,v3.2.2.2,[])
   else
    some (v3.2.1,v3.2.2.1,v3.2.2.2,v1.1)))) : Option ((List Int) × Int × Int × (List (List Int)))).bind fun x4 =>
 some (x4.2.2.2,(x4.1,x4.2.1,x4.2.2.1))

def s_DrawIsLoop (a0 : List Int) : Option (List (List Int)) :=
 (s_l01From a0).bind fun v1 =>
 (s_l13DrawAny v1.1 v1.2.1 v1.2.2).bind fun v2 =>
 some v2.1

def s_DrawIsMoufangLoop (a0 : List Int) : Option (List (List Int)) :=
 (s_DrawIsLoop a0).bind fun v1 =>
 some v1

def s_IsMoufangLoop_L2 (a0 : List (List Int)) (s5 : Int) (s11 : Int) (s17 : Int) : Option (Int ⊕ (Unit ⊕ (Int ⊕ (Unit ⊕ (Int ⊕ (Unit ⊕ (Bool × Int))))))) :=
 (if s17 < (a0.length : Int) then
  (idx a0 s5).bind fun v23 =>
  (idx a0 s11).bind fun v24 =>
  (idx v24 s17).bind fun v25 =>
  (idx v23 v25).bind fun v26 =>
  (idx a0 v26).bind fun v27 =>
  (idx v27 s5).bind fun v28 =>
  (idx v23 s11).bind fun v29 =>
  (idx a0 v29).bind fun v30 =>
  (idx a0 s17).bind fun v31 =>
  (idx v31 s5).bind fun v32 =>
  (idx v30 v32).bind fun v33 =>
  (if ¬ v28 = v33 then
   some (.inr (.inr (.inr (.inr (.inr (.inr (false,0)))))))
  else
   some (.inl (w64 (s17 + 1))))
 else
  some (.inr (.inl ())))
def s_IsMoufangLoop_L1 (a0 : List (List Int)) (s5 : Int) (s11 : Int) : Option (Int ⊕ (Unit ⊕ (Int ⊕ (Unit ⊕ (Bool × Int))))) :=
 (if s11 < (a0.length : Int) then
  (loop (s_IsMoufangLoop_L2 a0 s5 s11) BIG 0).bind fun x17 =>
  (match x17 with
  | .inl y19 =>
   some (.inl (w64 (s11 + 1)))
  | .inr t => some t)
 else
  some (.inr (.inl ())))
def s_IsMoufangLoop_L0 (a0 : List (List Int)) (s5 : Int) : Option (Int ⊕ (Unit ⊕ (Bool × Int))) :=
 (if s5 < (a0.length : Int) then
  (loop (s_IsMoufangLoop_L1 a0 s5) BIG 0).bind fun x11 =>
  (match x11 with
  | .inl y13 =>
   some (.inl (w64 (s5 + 1)))
  | .inr t => some t)
 else
  some (.inr (.inl ())))
def s_IsMoufangLoop (a0 : List (List Int)) : Option (Bool × Int) :=
 (s_l13Is a0).bind fun v2 =>
 (if v2 = false then
  some (false,1)
 else
  (loop (s_IsMoufangLoop_L0 a0) BIG 0).bind fun x5 =>
  (match x5 with
  | .inl y7 =>
   some (true,0)
  | .inr t => some t))

def s_IsLoop (a0 : List (List Int)) : Option Bool :=
 (s_l13Is a0).bind fun v1 =>
 some v1

def i_LoopNucleus (a0 : List (List Int)) : Option ((List Int) × Int) :=
 (i_checkLoop a0 ([] : List Int)).bind fun v2 =>
 (if ¬ v2 = 0 then
  some (([] : List Int),v2)
 else
  (i_nucleus a0).bind fun v4 =>
  some (v4,0))

def i_CountCommuting_L1 (a0 : List (List Int)) (s5 : Int × Int) (s10 : Int × Int) : Option ((Int × Int) ⊕ Int) :=
 (if s10.2 < (a0.length : Int) then
  ((idx a0 s5.2).bind fun v16 =>
  (idx v16 s10.2).bind fun v17 =>
  (idx a0 s10.2).bind fun v18 =>
  (idx v18 s5.2).bind fun v19 =>
  (if v17 = v19 then
   some (w64 (s10.1 + 1))
  else
   some s10.1) : Option Int).bind fun x14 =>
  some (.inl (x14,w64 (s10.2 + 1)))
 else
  some (.inr s10.1))
def i_CountCommuting_L0 (a0 : List (List Int)) (s5 : Int × Int) : Option ((Int × Int) ⊕ Int) :=
 (if s5.2 < (a0.length : Int) then
  (loop (i_CountCommuting_L1 a0 s5) BIG (s5.1,0)).bind fun x10 =>
  some (.inl (x10,w64 (s5.2 + 1)))
 else
  some (.inr s5.1))
def i_CountCommuting (a0 : List (List Int)) : Option (Int × Int) :=
 (i_checkLoop a0 ([] : List Int)).bind fun v2 =>
 (if ¬ v2 = 0 then
  some (0,v2)
 else
  (loop (i_CountCommuting_L0 a0) BIG (0,0)).bind fun x5 =>
  some (x5,0))

end Go.Vam

namespace Go.Vam
open Go Go.RowKit
set_option maxRecDepth 100000
set_option linter.unusedSimpArgs false
set_option linter.unusedVariables false

def i_subloop_L0 (a1 : List Int) (s4 : (List Bool) × (List Int) × Int) : Option (((List Bool) × (List Int) × Int) ⊕ ((List Bool) × (List Int))) :=
 (if s4.2.2 < (a1.length : Int) then
  (idx a1 s4.2.2).bind fun v9 =>
  (i_subloop_c1 v9 s4.1 s4.2.1).bind fun v10 =>
  some (.inl (v10.1,v10.2,w64 (s4.2.2 + 1)))
 else
  some (.inr (s4.1,s4.2.1)))
def i_subloop_L2 (a0 : List (List Int)) (s12 : (List Bool) × (List Int) × Int) (s17 : (List Bool) × (List Int) × Int) : Option (((List Bool) × (List Int) × Int) ⊕ ((List Bool) × (List Int))) :=
 (if s17.2.2 ≤ s12.2.2 then
  (idx s17.2.1 s12.2.2).bind fun v22 =>
  (idx a0 v22).bind fun v23 =>
  (idx s17.2.1 s17.2.2).bind fun v24 =>
  (idx v23 v24).bind fun v25 =>
  (i_subloop_c1 v25 s17.1 s17.2.1).bind fun v26 =>
  (idx v26.2 s17.2.2).bind fun v27 =>
  (idx a0 v27).bind fun v28 =>
  (idx v26.2 s12.2.2).bind fun v29 =>
  (idx v28 v29).bind fun v30 =>
  (i_subloop_c1 v30 v26.1 v26.2).bind fun v31 =>
  some (.inl (v31.1,v31.2,w64 (s17.2.2 + 1)))
 else
  some (.inr (s17.1,s17.2.1)))
def i_subloop_L1 (a0 : List (List Int)) (s12 : (List Bool) × (List Int) × Int) : Option (((List Bool) × (List Int) × Int) ⊕ (List Int)) :=
 (if s12.2.2 < (s12.2.1.length : Int) then
  (loop (i_subloop_L2 a0 s12) BIG (s12.1,s12.2.1,0)).bind fun x17 =>
  some (.inl (x17.1,x17.2,w64 (s12.2.2 + 1)))
 else
  some (.inr s12.2.1))
def i_subloop (a0 : List (List Int)) (a1 : List Int) : Option (List Int) :=
 (chk (0 ≤ (a0.length : Int) ∧ (a0.length : Int) ≤ 1099511627776)).bind fun _ =>
 (i_subloop_c1 0 (List.replicate (a0.length : Int).toNat false) []).bind fun v2 =>
 (loop (i_subloop_L0 a1) BIG (v2.1,v2.2,0)).bind fun x4 =>
 (loop (i_subloop_L1 a0) BIG (x4.1,x4.2,0)).bind fun x12 =>
 (chk (x12.length ≤ 1099511627776)).bind fun _ =>
 some (srt x12)

def i_SubloopFrom (a0 : List (List Int)) (a1 : List Int) : Option ((List Int) × Int) :=
 (i_checkLoop a0 a1).bind fun v2 =>
 (if ¬ v2 = 0 then
  some (([] : List Int),v2)
 else
  (i_subloop a0 a1).bind fun v4 =>
  some (v4,0))

def i_IsDiassociativeLoop_c1 (a0 : Int) (a1_0 : List (List Int)) (a2_0 : Int) (a3_0 : Int) : Option Bool :=
 (i_associates a1_0 a2_0 a3_0 a0).bind fun v1 =>
 some (!v1)

def g_slices_IndexFunc_LI_I_of_i_IsDiassociativeLoop_c1_L0 (a0 : List Int) (a1_0_0 : List (List Int)) (a1_1_0 : Int) (a1_2_0 : Int) (s2 : Int) : Option (Int ⊕ (Unit ⊕ Int)) :=
 (if s2 < (a0.length : Int) then
  (idx a0 s2).bind fun v8 =>
  (i_IsDiassociativeLoop_c1 v8 a1_0_0 a1_1_0 a1_2_0).bind fun v9 =>
  (if v9 = true then
   some (.inr (.inr s2))
  else
   some (.inl (w64 (s2 + 1))))
 else
  some (.inr (.inl ())))
def g_slices_IndexFunc_LI_I_of_i_IsDiassociativeLoop_c1 (a0 : List Int) (a1_0_0 : List (List Int)) (a1_1_0 : Int) (a1_2_0 : Int) : Option Int :=
 (loop (g_slices_IndexFunc_LI_I_of_i_IsDiassociativeLoop_c1_L0 a0 a1_0_0 a1_1_0 a1_2_0) BIG 0).bind fun x2 =>
 (match x2 with
 | .inl y4 =>
  some (-1)
 | .inr t => some t)

def g_slices_ContainsFunc_LI_I_of_i_IsDiassociativeLoop_c1 (a0 : List Int) (a1_0_0 : List (List Int)) (a1_1_0 : Int) (a1_2_0 : Int) : Option Bool :=
 (g_slices_IndexFunc_LI_I_of_i_IsDiassociativeLoop_c1 a0 a1_0_0 a1_1_0 a1_2_0).bind fun v1 =>
 some (ile 0 v1)

def i_IsDiassociativeLoop_L3 (a0 : List (List Int)) (v20 : List Int) (v27 : Int) (s28 : Int) : Option (Int ⊕ (Unit ⊕ (Int ⊕ (Unit ⊕ (Int ⊕ (Unit ⊕ (Int ⊕ (Unit ⊕ (Bool × Int))))))))) :=
 (if s28 < (v20.length : Int) then
  (idx v20 s28).bind fun v34 =>
  (g_slices_ContainsFunc_LI_I_of_i_IsDiassociativeLoop_c1 v20 a0 v27 v34).bind fun v35 =>
  (if v35 = true then
   some (.inr (.inr (.inr (.inr (.inr (.inr (.inr (.inr (false,0)))))))))
  else
   some (.inl (w64 (s28 + 1))))
 else
  some (.inr (.inl ())))
def i_IsDiassociativeLoop_L2 (a0 : List (List Int)) (v20 : List Int) (s21 : Int) : Option (Int ⊕ (Unit ⊕ (Int ⊕ (Unit ⊕ (Int ⊕ (Unit ⊕ (Bool × Int))))))) :=
 (if s21 < (v20.length : Int) then
  (idx v20 s21).bind fun v27 =>
  (loop (i_IsDiassociativeLoop_L3 a0 v20 v27) BIG 0).bind fun x28 =>
  (match x28 with
  | .inl y30 =>
   some (.inl (w64 (s21 + 1)))
  | .inr t => some t)
 else
  some (.inr (.inl ())))
def i_IsDiassociativeLoop_L1 (a0 : List (List Int)) (s8 : Int) (s14 : Int) : Option (Int ⊕ (Unit ⊕ (Int ⊕ (Unit ⊕ (Bool × Int))))) :=
 (if s14 < (w64 (s8 + 1)) then
  (i_subloop a0 [s8,s14]).bind fun v20 =>
  (loop (i_IsDiassociativeLoop_L2 a0 v20) BIG 0).bind fun x21 =>
  (match x21 with
  | .inl y23 =>
   some (.inl (w64 (s14 + 1)))
  | .inr t => some t)
 else
  some (.inr (.inl ())))
def i_IsDiassociativeLoop_L0 (a0 : List (List Int)) (v7 : Int) (s8 : Int) : Option (Int ⊕ (Unit ⊕ (Bool × Int))) :=
 (if s8 < v7 then
  (loop (i_IsDiassociativeLoop_L1 a0 s8) BIG 0).bind fun x14 =>
  (match x14 with
  | .inl y16 =>
   some (.inl (w64 (s8 + 1)))
  | .inr t => some t)
 else
  some (.inr (.inl ())))
def i_IsDiassociativeLoop (a0 : List (List Int)) : Option (Bool × Int) :=
 (i_checkLoop a0 ([] : List Int)).bind fun v2 =>
 (if ¬ v2 = 0 then
  some (false,v2)
 else
  (if 32 < (a0.length : Int) then
   some (false,3)
  else
   (i_length_LI a0).bind fun v7 =>
   (loop (i_IsDiassociativeLoop_L0 a0 v7) BIG 0).bind fun x8 =>
   (match x8 with
   | .inl y10 =>
    some (true,0)
   | .inr t => some t)))

end Go.Vam

namespace Go.Vam
open Go Go.RowKit
set_option maxRecDepth 100000
set_option linter.unusedSimpArgs false
set_option linter.unusedVariables false

end Go.Vam

namespace Go.Vam
open Go Go.RowKit
set_option maxRecDepth 100000
set_option linter.unusedSimpArgs false
set_option linter.unusedVariables false

end Go.Vam

namespace Go.Vam
open Go Go.RowKit
set_option maxRecDepth 100000
set_option linter.unusedSimpArgs false
set_option linter.unusedVariables false

def i_CountAssociating_c1 (a0 : Int) (a1 : Int) (a2 : Int) (a3_0 : List (List Int)) (a4_0 : Int) : Option (Bool × Int) :=
 (i_associates a3_0 a0 a1 a2).bind fun v2 =>
 ((if v2 = true then
  some (w64 (a4_0 + 1))
 else
  some a4_0) : Option Int).bind fun x3 =>
 some (true,x3)

def i_loopTriples_of_i_CountAssociating_c1_L2 (a1_0 : List (List Int)) (s3 : Int × Int) (s10 : Int × Int) (v16 : Int) (s17 : Int × Int) : Option ((Int × Int) ⊕ (Int ⊕ ((Int × Int) ⊕ (Int ⊕ ((Int × Int) ⊕ (Int ⊕ (Bool × Int))))))) :=
 (if s17.1 < v16 then
  (i_CountAssociating_c1 s3.1 s10.1 s17.1 a1_0 s17.2).bind fun v23 =>
  (if v23.1 = false then
   some (.inr (.inr (.inr (.inr (.inr (.inr (false,v23.2)))))))
  else
   some (.inl (w64 (s17.1 + 1),v23.2)))
 else
  some (.inr (.inl s17.2)))
def i_loopTriples_of_i_CountAssociating_c1_L1 (a0 : List (List Int)) (a1_0 : List (List Int)) (s3 : Int × Int) (v9 : Int) (s10 : Int × Int) : Option ((Int × Int) ⊕ (Int ⊕ ((Int × Int) ⊕ (Int ⊕ (Bool × Int))))) :=
 (if s10.1 < v9 then
  (i_length_LI a0).bind fun v16 =>
  (loop (i_loopTriples_of_i_CountAssociating_c1_L2 a1_0 s3 s10 v16) BIG (0,s10.2)).bind fun x17 =>
  (match x17 with
  | .inl y19 =>
   some (.inl (w64 (s10.1 + 1),y19))
  | .inr t => some t)
 else
  some (.inr (.inl s10.2)))
def i_loopTriples_of_i_CountAssociating_c1_L0 (a0 : List (List Int)) (a1_0 : List (List Int)) (v2 : Int) (s3 : Int × Int) : Option ((Int × Int) ⊕ (Int ⊕ (Bool × Int))) :=
 (if s3.1 < v2 then
  (i_length_LI a0).bind fun v9 =>
  (loop (i_loopTriples_of_i_CountAssociating_c1_L1 a0 a1_0 s3 v9) BIG (0,s3.2)).bind fun x10 =>
  (match x10 with
  | .inl y12 =>
   some (.inl (w64 (s3.1 + 1),y12))
  | .inr t => some t)
 else
  some (.inr (.inl s3.2)))
def i_loopTriples_of_i_CountAssociating_c1 (a0 : List (List Int)) (a1_0 : List (List Int)) (a2_0 : Int) : Option (Bool × Int) :=
 (i_length_LI a0).bind fun v2 =>
 (loop (i_loopTriples_of_i_CountAssociating_c1_L0 a0 a1_0 v2) BIG (0,a2_0)).bind fun x3 =>
 (match x3 with
 | .inl y5 =>
  some (true,y5)
 | .inr t => some t)

def i_CountAssociating (a0 : List (List Int)) : Option (Int × Int) :=
 (i_checkLoop a0 ([] : List Int)).bind fun v2 =>
 (if ¬ v2 = 0 then
  some (0,v2)
 else
  (i_loopTriples_of_i_CountAssociating_c1 a0 a0 0).bind fun v4 =>
  some (v4.2,0))

def i_LoopInverse (a0 : List (List Int)) (a1 : Int) : Option (Int × Int) :=
 (i_checkLoop a0 [a1]).bind fun v2 =>
 (if ¬ v2 = 0 then
  some (0,v2)
 else
  (idx a0 a1).bind fun v4 =>
  (g_slices_Index_LI_I v4 0).bind fun v5 =>
  some (v5,0))

def i_LoopOrder_L0 (a0 : List (List Int)) (a1 : Int) (s5 : Int × Int) : Option ((Int × Int) ⊕ (Unit ⊕ (Int × Int))) :=
 (i_length_LI a0).bind fun v9 =>
 (if s5.2 ≤ (w64 (v9 + 1)) then
  (if s5.1 = 0 then
   some (.inr (.inr (s5.2,0)))
  else
   (idx a0 s5.1).bind fun v14 =>
   (idx v14 a1).bind fun v15 =>
   some (.inl (v15,w64 (s5.2 + 1))))
 else
  some (.inr (.inl ())))
def i_LoopOrder (a0 : List (List Int)) (a1 : Int) : Option (Int × Int) :=
 (i_checkLoop a0 [a1]).bind fun v2 =>
 (if ¬ v2 = 0 then
  some (0,v2)
 else
  (loop (i_LoopOrder_L0 a0 a1) BIG (a1,1)).bind fun x5 =>
  (match x5 with
  | .inl y7 =>
   some (0,5)
  | .inr t => some t))

def s_l13Code (a0 : List (List Int)) (a1 : Int) : Option Int :=
 (s_l13Is a0).bind fun v2 =>
 (if v2 = false then
  some 1
 else
  (s_l01In a1 0 (w64 ((a0.length : Int) - 1))).bind fun v4 =>
  (if v4 = false then
   some 2
  else
   some 0))

def s_LoopOrder_L0 (a0 : List (List Int)) (a1 : Int) (s5 : Int × Int) : Option ((Int × Int) ⊕ (Unit ⊕ (Int × Int))) :=
 (if s5.2 ≤ (a0.length : Int) then
  (if s5.1 = 0 then
   some (.inr (.inr (s5.2,0)))
  else
   (idx a0 s5.1).bind fun v13 =>
   (idx v13 a1).bind fun v14 =>
   some (.inl (v14,w64 (s5.2 + 1))))
 else
  some (.inr (.inl ())))
def s_LoopOrder (a0 : List (List Int)) (a1 : Int) : Option (Int × Int) :=
 (s_l13Code a0 a1).bind fun v2 =>
 (if ¬ v2 = 0 then
  some (0,v2)
 else
  (loop (s_LoopOrder_L0 a0 a1) BIG (a1,1)).bind fun x5 =>
  (match x5 with
  | .inl y7 =>
   some (0,5)
  | .inr t => some t))

def l_FnLoops (a0 : List Int) : Option Bool :=
 (l_big a0).bind fun v2 =>
 (if v2 = true then
  some true
 else
  (s_DrawIsMoufangLoop a0).bind fun v4 =>
  (i_IsMoufangLoop v4).bind fun v5 =>
  (s_IsMoufangLoop v4).bind fun v7 =>
  ((if ¬ v5.2 = v7.2 then
   some true
  else
   (if (v5.1 != v7.1) = true then
    some true
   else
    (i_IsLoop v4).bind fun v10 =>
    (s_IsLoop v4).bind fun v11 =>
    some (v10 != v11))) : Option Bool).bind fun x12 =>
  (if x12 = true then
   some false
  else
   (if ¬ v5.2 = 0 then
    ((if v5.2 = 1 then
     some (!v5.1)
    else
     some false) : Option Bool).bind fun x17 =>
    some x17
   else
    (i_IsAssociativeLoop v4).bind fun v18 =>
    (i_IsCommutativeLoop v4).bind fun v19 =>
    (i_LoopNucleus v4).bind fun v20 =>
    (i_LoopCentre v4).bind fun v21 =>
    (i_CountCommuting v4).bind fun v22 =>
    (i_CountAssociating v4).bind fun v23 =>
    (i_IsDiassociativeLoop v4).bind fun v24 =>
    (i_SubloopFrom v4 v20.1).bind fun v25 =>
    (i_SubloopFrom v4 v21.1).bind fun v26 =>
    ((if ¬ v18.2 = 0 then
     some true
    else
     (if ¬ v19.2 = 0 then
      some true
     else
      (if ¬ v20.2 = 0 then
       some true
      else
       (if ¬ v21.2 = 0 then
        some true
       else
        (if ¬ v22.2 = 0 then
         some true
        else
         (if ¬ v23.2 = 0 then
          some true
         else
          (if ¬ v25.2 = 0 then
           some true
          else
           (if ¬ v26.2 = 0 then
            some true
           else
            some ((ieq v24.2 3) != (ilt 32 (v4.length : Int))))))))))) : Option Bool).bind fun x36 =>
    (if x36 = true then
     some false
    else
     ((if v18.1 = true then
      (if v5.1 = false then
       some true
      else
       (if (v4.length : Int) ≤ 32 then
        (if v24.1 = false then
         some true
        else
         (if (v18.1 != (ieq v23.1 (w64 ((w64 ((v4.length : Int) * (v4.length : Int))) * (v4.length : Int))))) = true then
          some true
         else
          (if (v19.1 != (ieq v22.1 (w64 ((v4.length : Int) * (v4.length : Int))))) = true then
           some true
          else
           (l_likeInts v25.1 v20.1).bind fun v45 =>
           (if v45 = false then
            some true
           else
            (l_likeInts v26.1 v21.1).bind fun v47 =>
            (if v47 = false then
             some true
            else
             some (v18.1 != (ieq (v20.1.length : Int) (v4.length : Int))))))))
       else
        (if (v18.1 != (ieq v23.1 (w64 ((w64 ((v4.length : Int) * (v4.length : Int))) * (v4.length : Int))))) = true then
         some true
        else
         (if (v19.1 != (ieq v22.1 (w64 ((v4.length : Int) * (v4.length : Int))))) = true then
          some true
         else
          (l_likeInts v25.1 v20.1).bind fun v51 =>
          (if v51 = false then
           some true
          else
           (l_likeInts v26.1 v21.1).bind fun v53 =>
           (if v53 = false then
            some true
           else
            some (v18.1 != (ieq (v20.1.length : Int) (v4.length : Int)))))))))
     else
      (if v5.1 = true then
       (if (v4.length : Int) ≤ 32 then
        (if v24.1 = false then
         some true
        else
         (if (v18.1 != (ieq v23.1 (w64 ((w64 ((v4.length : Int) * (v4.length : Int))) * (v4.length : Int))))) = true then
          some true
         else
          (if (v19.1 != (ieq v22.1 (w64 ((v4.length : Int) * (v4.length : Int))))) = true then
           some true
          else
           (l_likeInts v25.1 v20.1).bind fun v60 =>
           (if v60 = false then
            some true
           else
            (l_likeInts v26.1 v21.1).bind fun v62 =>
            (if v62 = false then
             some true
            else
             some (v18.1 != (ieq (v20.1.length : Int) (v4.length : Int))))))))
       else
        (if (v18.1 != (ieq v23.1 (w64 ((w64 ((v4.length : Int) * (v4.length : Int))) * (v4.length : Int))))) = true then
         some true
        else
         (if (v19.1 != (ieq v22.1 (w64 ((v4.length : Int) * (v4.length : Int))))) = true then
          some true
         else
          (l_likeInts v25.1 v20.1).bind fun v66 =>
          (if v66 = false then
           some true
          else
           (l_likeInts v26.1 v21.1).bind fun v68 =>
           (if v68 = false then
            some true
           else
            some (v18.1 != (ieq (v20.1.length : Int) (v4.length : Int))))))))
      else
       (if (v18.1 != (ieq v23.1 (w64 ((w64 ((v4.length : Int) * (v4.length : Int))) * (v4.length : Int))))) = true then
        some true
       else
        (if (v19.1 != (ieq v22.1 (w64 ((v4.length : Int) * (v4.length : Int))))) = true then
         some true
        else
         (l_likeInts v25.1 v20.1).bind fun v72 =>
         (if v72 = false then
          some true
         else
          (l_likeInts v26.1 v21.1).bind fun v74 =>
          (if v74 = false then
           some true
          else
           some (v18.1 != (ieq (v20.1.length : Int) (v4.length : Int))))))))) : Option Bool).bind fun x76 =>
     (if x76 = true then
      some false
     else
      (l_roll a0 3013).bind fun v78 =>
      (g_p_laws_dice_below v78.1 v78.2.1 v78.2.2 (v4.length : Int)).bind fun v79 =>
      (i_LoopInverse v4 v79.1).bind fun v80 =>
      (i_LoopOrder v4 v79.1).bind fun v81 =>
      (s_LoopOrder v4 v79.1).bind fun v83 =>
      ((if ¬ v81.2 = v83.2 then
       some true
      else
       (if ¬ v80.2 = 0 then
        some true
       else
        (if v80.1 < 0 then
         some true
        else
         (if (v4.length : Int) ≤ v80.1 then
          some true
         else
          (idx v4 v79.1).bind fun v88 =>
          (idx v88 v80.1).bind fun v89 =>
          some (!(ieq v89 0)))))) : Option Bool).bind fun x90 =>
      (if x90 = true then
       some false
      else
       ((if v5.1 = false then
        some true
       else
        (if v81.2 = 0 then
         (if 1 ≤ v81.1 then
          (chk (¬ v81.1 = 0)).bind fun _ =>
          (if ((v4.length : Int).tmod v81.1) = 0 then
           (idx v4 v80.1).bind fun v97 =>
           (idx v97 v79.1).bind fun v98 =>
           some (ieq v98 0)
          else
           some false)
         else
          some false)
        else
         some false)) : Option Bool).bind fun x99 =>
       some x99))))))

end Go.Vam
