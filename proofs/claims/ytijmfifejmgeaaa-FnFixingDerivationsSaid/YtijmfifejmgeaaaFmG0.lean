import Derived.Test.YtijmfifejmgeaaaVamT
import Derived.Test.YtijmfifejmgeaaaVamV
import Derived.Test.YtijmfifejmgeaaaVamY
import Derived.Test.YtijmfifejmgeaaaVamZ
import Derived.Test.YtijmfifejmgeaaaVamAM
import Derived.Test.YtijmfifejmgeaaaVamAN
namespace Go.Vam
open Go Go.RowKit
set_option maxRecDepth 100000
set_option linter.unusedSimpArgs false
set_option linter.unusedVariables false

def s_l01Prime (a0 : Int) : Option Bool :=
  ((if a0 = 3 then
    some true
  else
    (if a0 = 5 then
      some true
    else
      (if a0 = 7 then
        some true
      else
        (if a0 = 11 then
          some true
        else
          some (ieq a0 13))))) : Option Bool).bind fun x5 =>
  some x5

def s_l01In (a0 : Int) (a1 : Int) (a2 : Int) : Option Bool :=
  ((if a1 ≤ a0 then
    some (ile a0 a2)
  else
    some false) : Option Bool).bind fun x2 =>
  some x2

def i_IsPrime (a0 : Int) : Option Bool :=
  ((if a0 = 3 then
    some (ieq a0 3)
  else
    (if a0 = 5 then
      some (ieq a0 5)
    else
      (if a0 = 7 then
        some (ieq a0 7)
      else
        (if a0 = 11 then
          some (ieq a0 11)
        else
          some (ieq a0 13))))) : Option Bool).bind fun x3 =>
  (if x3 = true then
    some true
  else
    some false)

def i_inRange (a0 : Int) (a1 : Int) (a2 : Int) : Option Bool :=
  ((if a1 ≤ a0 then
    some (ile a0 a2)
  else
    some false) : Option Bool).bind fun x2 =>
  some x2

def i_field_is_L0 (a0 : Int) (a1 : List Int) (s2 : Int) : Option (Int ⊕ (Unit ⊕ Bool)) :=
  (if s2 < (a1.length : Int) then
    (idx a1 s2).bind fun v8 =>
    (i_inRange v8 0 (w64 (a0 - 1))).bind fun v9 =>
    (if v9 = false then
      some (.inr (.inr false))
    else
      some (.inl (w64 (s2 + 1))))
  else
    some (.inr (.inl ())))
def i_field_is (a0 : Int) (a1 : List Int) : Option Bool :=
  (loop (i_field_is_L0 a0 a1) BIG 0).bind fun x2 =>
  (match x2 with
  | .inl y4 =>
    some true
  | .inr t => some t)

def i_field_isTable_L0 (a0 : Int) (a1 : List (List Int)) (s4 : Int) : Option (Int ⊕ (Unit ⊕ Bool)) :=
  (if s4 < (a1.length : Int) then
    (idx a1 s4).bind fun v10 =>
    ((idx a1 0).bind fun v11 =>
    (if ¬ (v10.length : Int) = (v11.length : Int) then
      some true
    else
      (if (v10.length : Int) < 1 then
        some true
      else
        (if 16 < (v10.length : Int) then
          some true
        else
          (i_field_is a0 v10).bind fun v15 =>
          some (!v15)))) : Option Bool).bind fun x16 =>
    (if x16 = true then
      some (.inr (.inr false))
    else
      some (.inl (w64 (s4 + 1))))
  else
    some (.inr (.inl ())))
def i_field_isTable (a0 : Int) (a1 : List (List Int)) : Option Bool :=
  (if 16 < (a1.length : Int) then
    some false
  else
    (loop (i_field_isTable_L0 a0 a1) BIG 0).bind fun x4 =>
    (match x4 with
    | .inl y6 =>
      some true
    | .inr t => some t))

def i_field_isMatrix (a0 : Int) (a1 : List (List Int)) : Option Bool :=
  ((if 0 < (a1.length : Int) then
    (i_field_isTable a0 a1).bind fun v2 =>
    some v2
  else
    some false) : Option Bool).bind fun x3 =>
  some x3

def i_field_num (a0 : Int) (a1 : Int) : Option Int :=
  (chk (¬ a0 = 0)).bind fun _ =>
  (chk (¬ a0 = 0)).bind fun _ =>
  some ((w64 ((a1.tmod a0) + a0)).tmod a0)

def i_field_dot_L0 (a1 : List Int) (a2 : List Int) (s2 : Int × Int) : Option ((Int × Int) ⊕ Int) :=
  (if s2.2 < (a1.length : Int) then
    (idx a1 s2.2).bind fun v7 =>
    (idx a2 s2.2).bind fun v8 =>
    some (.inl (w64 (s2.1 + (w64 (v7 * v8))), w64 (s2.2 + 1)))
  else
    some (.inr s2.1))
def i_field_dot (a0 : Int) (a1 : List Int) (a2 : List Int) : Option Int :=
  (loop (i_field_dot_L0 a1 a2) BIG (0, 0)).bind fun x2 =>
  (i_field_num a0 x2).bind fun v9 =>
  some v9

def i_field_apply_L0 (a0 : Int) (a1 : List (List Int)) (a2 : List Int) (s2 : (List Int) × Int) : Option (((List Int) × Int) ⊕ (List Int)) :=
  (if s2.2 < (a1.length : Int) then
    (idx a1 s2.2).bind fun v7 =>
    (i_field_dot a0 v7 a2).bind fun v8 =>
    (chk (s2.1.length + [v8].length ≤ 1099511627776)).bind fun _ =>
    some (.inl (s2.1 ++ [v8], w64 (s2.2 + 1)))
  else
    some (.inr s2.1))
def i_field_apply (a0 : Int) (a1 : List (List Int)) (a2 : List Int) : Option (List Int) :=
  (loop (i_field_apply_L0 a0 a1 a2) BIG ([], 0)).bind fun x2 =>
  some x2

def s_l02Plus_L0 (a0 : Int) (a1 : List Int) (a2 : List Int) (a3 : Int) (s2 : (List Int) × Int) : Option (((List Int) × Int) ⊕ (List Int)) :=
  (if s2.2 < (a1.length : Int) then
    (idx a1 s2.2).bind fun v7 =>
    (idx a2 s2.2).bind fun v8 =>
    (chk (¬ a0 = 0)).bind fun _ =>
    (chk (s2.1.length + [(w64 (v7 + (w64 (a3 * v8)))).tmod a0].length ≤ 1099511627776)).bind fun _ =>
    some (.inl (s2.1 ++ [(w64 (v7 + (w64 (a3 * v8)))).tmod a0], w64 (s2.2 + 1)))
  else
    some (.inr s2.1))
def s_l02Plus (a0 : Int) (a1 : List Int) (a2 : List Int) (a3 : Int) : Option (List Int) :=
  (loop (s_l02Plus_L0 a0 a1 a2 a3) BIG ([], 0)).bind fun x2 =>
  some x2

def i_field_plus_L0 (a0 : Int) (a1 : List Int) (a2 : List Int) (a3 : Int) (s2 : (List Int) × Int) : Option (((List Int) × Int) ⊕ (List Int)) :=
  (if s2.2 < (a1.length : Int) then
    (idx a1 s2.2).bind fun v7 =>
    (idx a2 s2.2).bind fun v8 =>
    (i_field_num a0 (w64 (v7 + (w64 (a3 * v8))))).bind fun v9 =>
    (chk (s2.1.length + [v9].length ≤ 1099511627776)).bind fun _ =>
    some (.inl (s2.1 ++ [v9], w64 (s2.2 + 1)))
  else
    some (.inr s2.1))
def i_field_plus (a0 : Int) (a1 : List Int) (a2 : List Int) (a3 : Int) : Option (List Int) :=
  (loop (i_field_plus_L0 a0 a1 a2 a3) BIG ([], 0)).bind fun x2 =>
  some x2

def s_l02Scale_L0 (a0 : Int) (a1 : List Int) (a2 : Int) (s2 : (List Int) × Int) : Option (((List Int) × Int) ⊕ (List Int)) :=
  (if s2.2 < (a1.length : Int) then
    (idx a1 s2.2).bind fun v7 =>
    (chk (¬ a0 = 0)).bind fun _ =>
    (chk (s2.1.length + [(w64 (v7 * a2)).tmod a0].length ≤ 1099511627776)).bind fun _ =>
    some (.inl (s2.1 ++ [(w64 (v7 * a2)).tmod a0], w64 (s2.2 + 1)))
  else
    some (.inr s2.1))
def s_l02Scale (a0 : Int) (a1 : List Int) (a2 : Int) : Option (List Int) :=
  (loop (s_l02Scale_L0 a0 a1 a2) BIG ([], 0)).bind fun x2 =>
  some x2

def i_field_scaled_L0 (a0 : Int) (a1 : List Int) (a2 : Int) (s2 : (List Int) × Int) : Option (((List Int) × Int) ⊕ (List Int)) :=
  (if s2.2 < (a1.length : Int) then
    (idx a1 s2.2).bind fun v7 =>
    (i_field_num a0 (w64 (v7 * a2))).bind fun v8 =>
    (chk (s2.1.length + [v8].length ≤ 1099511627776)).bind fun _ =>
    some (.inl (s2.1 ++ [v8], w64 (s2.2 + 1)))
  else
    some (.inr s2.1))
def i_field_scaled (a0 : Int) (a1 : List Int) (a2 : Int) : Option (List Int) :=
  (loop (i_field_scaled_L0 a0 a1 a2) BIG ([], 0)).bind fun x2 =>
  some x2

def s_l11Is_L0 (a0_0 : Int) (a0_1 : List Int) (s7 : Int) : Option (Int ⊕ (Unit ⊕ Bool)) :=
  (if s7 < (a0_1.length : Int) then
    (idx a0_1 s7).bind fun v13 =>
    (s_l01In v13 1 (w64 (a0_0 - 1))).bind fun v14 =>
    (if v14 = false then
      some (.inr (.inr false))
    else
      some (.inl (w64 (s7 + 1))))
  else
    some (.inr (.inl ())))
def s_l11Is (a0_0 : Int) (a0_1 : List Int) : Option Bool :=
  ((s_l01Prime a0_0).bind fun v2 =>
  (if v2 = false then
    some true
  else
    some (ilt 4 (a0_1.length : Int))) : Option Bool).bind fun x4 =>
  (if x4 = true then
    some false
  else
    (loop (s_l11Is_L0 a0_0 a0_1) BIG 0).bind fun x7 =>
    (match x7 with
    | .inl y9 =>
      some true
    | .inr t => some t))

def s_l14Code (a0_0 : Int) (a0_1 : List Int) : Option Int :=
  (s_l11Is a0_0 a0_1).bind fun v2 =>
  (if v2 = false then
    some 1
  else
    (if 3 < (a0_1.length : Int) then
      some 3
    else
      some 0))

def s_l11Size (a0_0 : Int) (a0_1 : List Int) : Option Int :=
  (chk (0 ≤ (IntKind.u64.wrap ((a0_1.length : Int))))).bind fun _ =>
  some (shl .i64 1 (IntKind.u64.wrap ((a0_1.length : Int))))

def s_l11Element_L0 (a0_0 : Int) (a1 : List Int) (s2 : Int) : Option (Int ⊕ (Unit ⊕ Bool)) :=
  (if s2 < (a1.length : Int) then
    (idx a1 s2).bind fun v8 =>
    (s_l01In v8 0 (w64 (a0_0 - 1))).bind fun v9 =>
    (if v9 = false then
      some (.inr (.inr false))
    else
      some (.inl (w64 (s2 + 1))))
  else
    some (.inr (.inl ())))
def s_l11Element (a0_0 : Int) (a0_1 : List Int) (a1 : List Int) : Option Bool :=
  (loop (s_l11Element_L0 a0_0 a1) BIG 0).bind fun x2 =>
  (match x2 with
  | .inl y4 =>
    (s_l11Size a0_0 a0_1).bind fun v11 =>
    some (ieq (a1.length : Int) v11)
  | .inr t => some t)

def s_l11Code_L0 (a0_0 : Int) (a0_1 : List Int) (a1 : List (List Int)) (s5 : Int) : Option (Int ⊕ (Unit ⊕ Int)) :=
  (if s5 < (a1.length : Int) then
    (idx a1 s5).bind fun v11 =>
    (s_l11Element a0_0 a0_1 v11).bind fun v12 =>
    (if v12 = false then
      some (.inr (.inr 2))
    else
      some (.inl (w64 (s5 + 1))))
  else
    some (.inr (.inl ())))
def s_l11Code (a0_0 : Int) (a0_1 : List Int) (a1 : List (List Int)) : Option Int :=
  (s_l11Is a0_0 a0_1).bind fun v2 =>
  (if v2 = false then
    some 1
  else
    (loop (s_l11Code_L0 a0_0 a0_1 a1) BIG 0).bind fun x5 =>
    (match x5 with
    | .inl y7 =>
      some 0
    | .inr t => some t))

def s_l14Elements (a0_0 : Int) (a0_1 : List Int) (a1 : List (List Int)) : Option Int :=
  (s_l14Code a0_0 a0_1).bind fun v2 =>
  (if ¬ v2 = 0 then
    some v2
  else
    (s_l11Code a0_0 a0_1 a1).bind fun v4 =>
    some v4)

def s_l11One (a0_0 : Int) (a0_1 : List Int) (a1 : Int) : Option (List Int) :=
  (s_l11Size a0_0 a0_1).bind fun v1 =>
  (chk (0 ≤ v1 ∧ v1 ≤ 1099511627776)).bind fun _ =>
  (some (List.replicate v1.toNat 0)).bind fun l3 =>
  (idx l3 a1).bind fun v4 =>
  some (l3.set a1.toNat 1)

def s_l01Mod (a0 : Int) (a1 : Int) : Option Int :=
  (chk (¬ a0 = 0)).bind fun _ =>
  (chk (¬ a0 = 0)).bind fun _ =>
  some ((w64 ((a1.tmod a0) + a0)).tmod a0)

def s_l11Scale_L0 (a0 : Int) (a1 : Int) (a2 : List Int) (s2 : (List Int) × Int) : Option (((List Int) × Int) ⊕ (List Int)) :=
  (if s2.2 < (a2.length : Int) then
    (idx a2 s2.2).bind fun v7 =>
    (s_l01Mod a0 (w64 (a1 * v7))).bind fun v8 =>
    (chk (s2.1.length + [v8].length ≤ 1099511627776)).bind fun _ =>
    some (.inl (s2.1 ++ [v8], w64 (s2.2 + 1)))
  else
    some (.inr s2.1))
def s_l11Scale (a0 : Int) (a1 : Int) (a2 : List Int) : Option (List Int) :=
  (loop (s_l11Scale_L0 a0 a1 a2) BIG ([], 0)).bind fun x2 =>
  some x2

def s_l11Star (a0 : Int) (a1 : List Int) : Option (List Int) :=
  (s_l11Scale a0 (w64 (a0 - 1)) a1).bind fun v1 =>
  (idx a1 0).bind fun v2 =>
  (idx v1 0).bind fun v3 =>
  some (v1.set 0 v2)

def s_l11Add_L0 (a0 : Int) (a1 : List Int) (a2 : List Int) (s2 : (List Int) × Int) : Option (((List Int) × Int) ⊕ (List Int)) :=
  (if s2.2 < (a1.length : Int) then
    (idx a1 s2.2).bind fun v7 =>
    (idx a2 s2.2).bind fun v8 =>
    (s_l01Mod a0 (w64 (v7 + v8))).bind fun v9 =>
    (chk (s2.1.length + [v9].length ≤ 1099511627776)).bind fun _ =>
    some (.inl (s2.1 ++ [v9], w64 (s2.2 + 1)))
  else
    some (.inr s2.1))
def s_l11Add (a0 : Int) (a1 : List Int) (a2 : List Int) : Option (List Int) :=
  (loop (s_l11Add_L0 a0 a1 a2) BIG ([], 0)).bind fun x2 =>
  some x2

def s_l11Mul_b (self : Int → (List Int) → (List Int) → (List Int) → Option (List Int)) (a0 : Int) (a1 : List Int) (a2 : List Int) (a3 : List Int) : Option (List Int) :=
  (if (a1.length : Int) = 0 then
    (idx a2 0).bind fun v3 =>
    (idx a3 0).bind fun v4 =>
    (s_l01Mod a0 (w64 (v3 * v4))).bind fun v5 =>
    some [v5]
  else
    (chk (0 ≤ (w64 ((a1.length : Int) - 1)) ∧ (w64 ((a1.length : Int) - 1)) ≤ (a1.length : Int))).bind fun _ =>
    (idx a1 (w64 ((a1.length : Int) - 1))).bind fun v7 =>
    (chk (0 ≤ (w64 ((a2.length : Int).tdiv 2)) ∧ (w64 ((a2.length : Int).tdiv 2)) ≤ (a2.length : Int))).bind fun _ =>
    (chk (0 ≤ (w64 ((a2.length : Int).tdiv 2)) ∧ (w64 ((a2.length : Int).tdiv 2)) ≤ (a2.length : Int))).bind fun _ =>
    (chk (0 ≤ (w64 ((a2.length : Int).tdiv 2)) ∧ (w64 ((a2.length : Int).tdiv 2)) ≤ (a3.length : Int))).bind fun _ =>
    (chk (0 ≤ (w64 ((a2.length : Int).tdiv 2)) ∧ (w64 ((a2.length : Int).tdiv 2)) ≤ (a3.length : Int))).bind fun _ =>
    (self a0 (a1.take (w64 ((a1.length : Int) - 1)).toNat) (a2.take (w64 ((a2.length : Int).tdiv 2)).toNat) (a3.take (w64 ((a2.length : Int).tdiv 2)).toNat)).bind fun v12 =>
    (s_l11Star a0 (a3.drop (w64 ((a2.length : Int).tdiv 2)).toNat)).bind fun v13 =>
    (self a0 (a1.take (w64 ((a1.length : Int) - 1)).toNat) v13 (a2.drop (w64 ((a2.length : Int).tdiv 2)).toNat)).bind fun v14 =>
    (s_l11Scale a0 v7 v14).bind fun v15 =>
    (s_l11Add a0 v12 v15).bind fun v16 =>
    (self a0 (a1.take (w64 ((a1.length : Int) - 1)).toNat) (a3.drop (w64 ((a2.length : Int).tdiv 2)).toNat) (a2.take (w64 ((a2.length : Int).tdiv 2)).toNat)).bind fun v17 =>
    (s_l11Star a0 (a3.take (w64 ((a2.length : Int).tdiv 2)).toNat)).bind fun v18 =>
    (self a0 (a1.take (w64 ((a1.length : Int) - 1)).toNat) (a2.drop (w64 ((a2.length : Int).tdiv 2)).toNat) v18).bind fun v19 =>
    (s_l11Add a0 v17 v19).bind fun v20 =>
    (chk (v16.length + v20.length ≤ 1099511627776)).bind fun _ =>
    some (v16 ++ v20))
def s_l11Mul : Nat → Int → (List Int) → (List Int) → (List Int) → Option (List Int)
  | 0 => fun _ _ _ _ => none
  | n + 1 => s_l11Mul_b (s_l11Mul n)

def s_l11Times (a0_0 : Int) (a0_1 : List Int) (a1 : List Int) (a2 : List Int) : Option (List Int) :=
  (s_l11Mul BIG a0_0 a0_1 a1 a2).bind fun v1 =>
  some v1

def s_l11Basis_L1 (a0_0 : Int) (a0_1 : List Int) (s2 : (List (List Int)) × Int) (s9 : (List Int) × Int) : Option (((List Int) × Int) ⊕ (List Int)) :=
  (s_l11Size a0_0 a0_1).bind fun v12 =>
  (if s9.2 < v12 then
    (s_l11One a0_0 a0_1 s2.2).bind fun v15 =>
    (s_l11One a0_0 a0_1 s9.2).bind fun v16 =>
    (s_l11Times a0_0 a0_1 v15 v16).bind fun v17 =>
    (idx v17 (bxor .i64 s2.2 s9.2)).bind fun v18 =>
    (chk (s9.1.length + [v18].length ≤ 1099511627776)).bind fun _ =>
    some (.inl (s9.1 ++ [v18], w64 (s9.2 + 1)))
  else
    some (.inr s9.1))
def s_l11Basis_L0 (a0_0 : Int) (a0_1 : List Int) (s2 : (List (List Int)) × Int) : Option (((List (List Int)) × Int) ⊕ (List (List Int))) :=
  (s_l11Size a0_0 a0_1).bind fun v5 =>
  (if s2.2 < v5 then
    (loop (s_l11Basis_L1 a0_0 a0_1 s2) BIG ([], 0)).bind fun x9 =>
    (chk (s2.1.length + [x9].length ≤ 1099511627776)).bind fun _ =>
    some (.inl (s2.1 ++ [x9], w64 (s2.2 + 1)))
  else
    some (.inr s2.1))
def s_l11Basis (a0_0 : Int) (a0_1 : List Int) : Option (List (List Int)) :=
  (loop (s_l11Basis_L0 a0_0 a0_1) BIG ([], 0)).bind fun x2 =>
  some x2

def s_l01Own (a0 : List Int) : Option (List Int) :=
  (chk (([] : List Int).length + a0.length ≤ 1099511627776)).bind fun _ =>
  some (([] : List Int) ++ a0)

def s_l01Inv_L0 (a0 : Int) (a1 : Int) (s2 : Int) : Option (Int ⊕ Int) :=
  (chk (¬ a0 = 0)).bind fun _ =>
  (if ¬ ((w64 (a1 * s2)).tmod a0) = 1 then
    some (.inl (w64 (s2 + 1)))
  else
    some (.inr s2))
def s_l01Inv (a0 : Int) (a1 : Int) : Option Int :=
  (loop (s_l01Inv_L0 a0 a1) BIG 1).bind fun x2 =>
  some x2

def s_l12First_L0 (a0 : List Int) (s2 : Int) : Option (Int ⊕ Int) :=
  ((if s2 < (a0.length : Int) then
    (idx a0 s2).bind fun v6 =>
    some (ieq v6 0)
  else
    some false) : Option Bool).bind fun x7 =>
  (if x7 = true then
    some (.inl (w64 (s2 + 1)))
  else
    some (.inr s2))
def s_l12First (a0 : List Int) : Option Int :=
  (loop (s_l12First_L0 a0) BIG 0).bind fun x2 =>
  some x2

def s_l11Minus (a0 : Int) (a1 : List Int) (a2 : List Int) : Option (List Int) :=
  (s_l11Scale a0 (w64 (a0 - 1)) a2).bind fun v1 =>
  (s_l11Add a0 a1 v1).bind fun v2 =>
  some v2

def s_l12Rest_L0 (a0 : Int) (a1 : List (List Int)) (s3 : (List Int) × Int) : Option (((List Int) × Int) ⊕ (List Int)) :=
  (if s3.2 < (a1.length : Int) then
    ((idx a1 s3.2).bind fun v9 =>
    (s_l12First v9).bind fun v10 =>
    (idx s3.1 v10).bind fun v11 =>
    (if ¬ v11 = 0 then
      (s_l11Scale a0 v11 v9).bind fun v13 =>
      (s_l11Minus a0 s3.1 v13).bind fun v14 =>
      some v14
    else
      some s3.1) : Option (List Int)).bind fun x7 =>
    some (.inl (x7, w64 (s3.2 + 1)))
  else
    some (.inr s3.1))
def s_l12Rest (a0 : Int) (a1 : List (List Int)) (a2 : List Int) : Option (List Int) :=
  (s_l01Own a2).bind fun v1 =>
  (loop (s_l12Rest_L0 a0 a1) BIG (v1, 0)).bind fun x3 =>
  some x3

def s_l12Put_L0 (a0 : Int) (a1 : List (List Int)) (v2 : Int) (v7 : List Int) (s9 : (List (List Int)) × Bool × Int) : Option (((List (List Int)) × Bool × Int) ⊕ ((List (List Int)) × Bool)) :=
  (if s9.2.2 < (a1.length : Int) then
    ((if s9.2.1 = false then
      (idx a1 s9.2.2).bind fun v16 =>
      (s_l12First v16).bind fun v17 =>
      some (ilt v2 v17)
    else
      some false) : Option Bool).bind fun x18 =>
    ((if x18 = true then
      (chk (s9.1.length + [v7].length ≤ 1099511627776)).bind fun _ =>
      some (s9.1 ++ [v7], true)
    else
      some (s9.1, s9.2.1)) : Option ((List (List Int)) × Bool)).bind fun x19 =>
    (idx a1 s9.2.2).bind fun v23 =>
    (idx v23 v2).bind fun v24 =>
    (s_l11Scale a0 v24 v7).bind fun v25 =>
    (s_l11Minus a0 v23 v25).bind fun v26 =>
    (chk (x19.1.length + [v26].length ≤ 1099511627776)).bind fun _ =>
    some (.inl (x19.1 ++ [v26], x19.2, w64 (s9.2.2 + 1)))
  else
    some (.inr (s9.1, s9.2.1)))
def s_l12Put (a0 : Int) (a1 : List (List Int)) (a2 : List Int) : Option (List (List Int)) :=
  (s_l12Rest a0 a1 a2).bind fun v1 =>
  (s_l12First v1).bind fun v2 =>
  (if v2 = (v1.length : Int) then
    some a1
  else
    (idx v1 v2).bind fun v5 =>
    (s_l01Inv a0 v5).bind fun v6 =>
    (s_l11Scale a0 v6 v1).bind fun v7 =>
    (loop (s_l12Put_L0 a0 a1 v2 v7) BIG ([], false, 0)).bind fun x9 =>
    ((if x9.2 = false then
      (chk (x9.1.length + [v7].length ≤ 1099511627776)).bind fun _ =>
      some (x9.1 ++ [v7])
    else
      some x9.1) : Option (List (List Int))).bind fun x29 =>
    some x29)

def s_l12Reduced_L0 (a0 : Int) (a1 : List (List Int)) (s2 : (List (List Int)) × Int) : Option (((List (List Int)) × Int) ⊕ (List (List Int))) :=
  (if s2.2 < (a1.length : Int) then
    (idx a1 s2.2).bind fun v7 =>
    (s_l12Put a0 s2.1 v7).bind fun v8 =>
    some (.inl (v8, w64 (s2.2 + 1)))
  else
    some (.inr s2.1))
def s_l12Reduced (a0 : Int) (a1 : List (List Int)) : Option (List (List Int)) :=
  (loop (s_l12Reduced_L0 a0 a1) BIG ([], 0)).bind fun x2 =>
  some x2

def i_Doubling_field (a0_0 : Int) (a0_1 : List Int) : Option Int :=
  some a0_0

def g_slices_Index_LI_I_L0 (a0 : List Int) (a1 : Int) (s2 : Int) : Option (Int ⊕ (Unit ⊕ Int)) :=
  (if s2 < (a0.length : Int) then
    (idx a0 s2).bind fun v8 =>
    (if a1 = v8 then
      some (.inr (.inr s2))
    else
      some (.inl (w64 (s2 + 1))))
  else
    some (.inr (.inl ())))
def g_slices_Index_LI_I (a0 : List Int) (a1 : Int) : Option Int :=
  (loop (g_slices_Index_LI_I_L0 a0 a1) BIG 0).bind fun x2 =>
  (match x2 with
  | .inl y4 =>
    some (-1)
  | .inr t => some t)

def g_slices_Contains_LI_I (a0 : List Int) (a1 : Int) : Option Bool :=
  (g_slices_Index_LI_I a0 a1).bind fun v1 =>
  some (ile 0 v1)

def i_IsDoubling (a0_0 : Int) (a0_1 : List Int) : Option Bool :=
  ((i_IsPrime a0_0).bind fun v1 =>
  (if v1 = true then
    (if (a0_1.length : Int) ≤ 4 then
      (i_Doubling_field a0_0 a0_1).bind fun v4 =>
      (i_field_is v4 a0_1).bind fun v5 =>
      (if v5 = true then
        (g_slices_Contains_LI_I a0_1 0).bind fun v7 =>
        some (!v7)
      else
        some false)
    else
      some false)
  else
    some false) : Option Bool).bind fun x8 =>
  some x8

def i_Doubling_size (a0_0 : Int) (a0_1 : List Int) : Option Int :=
  (chk (0 ≤ (a0_1.length : Int))).bind fun _ =>
  some (shl .i64 1 (a0_1.length : Int))

def i_checkElements_c1 (a0 : List Int) (a1_0 : Int) (a1_1 : List Int) : Option Bool :=
  ((i_Doubling_size a1_0 a1_1).bind fun v1 =>
  (if ¬ (a0.length : Int) = v1 then
    some true
  else
    (i_Doubling_field a1_0 a1_1).bind fun v3 =>
    (i_field_is v3 a0).bind fun v4 =>
    some (!v4)) : Option Bool).bind fun x5 =>
  some x5

def g_slices_IndexFunc_LLI_LI_of_i_checkElements_c1_L0 (a0 : List (List Int)) (a1_0_0 : Int) (a1_0_1 : List Int) (s2 : Int) : Option (Int ⊕ (Unit ⊕ Int)) :=
  (if s2 < (a0.length : Int) then
    (idx a0 s2).bind fun v8 =>
    (i_checkElements_c1 v8 a1_0_0 a1_0_1).bind fun v9 =>
    (if v9 = true then
      some (.inr (.inr s2))
    else
      some (.inl (w64 (s2 + 1))))
  else
    some (.inr (.inl ())))
def g_slices_IndexFunc_LLI_LI_of_i_checkElements_c1 (a0 : List (List Int)) (a1_0_0 : Int) (a1_0_1 : List Int) : Option Int :=
  (loop (g_slices_IndexFunc_LLI_LI_of_i_checkElements_c1_L0 a0 a1_0_0 a1_0_1) BIG 0).bind fun x2 =>
  (match x2 with
  | .inl y4 =>
    some (-1)
  | .inr t => some t)

def g_slices_ContainsFunc_LLI_LI_of_i_checkElements_c1 (a0 : List (List Int)) (a1_0_0 : Int) (a1_0_1 : List Int) : Option Bool :=
  (g_slices_IndexFunc_LLI_LI_of_i_checkElements_c1 a0 a1_0_0 a1_0_1).bind fun v1 =>
  some (ile 0 v1)

def i_checkElements (a0_0 : Int) (a0_1 : List Int) (a1 : List (List Int)) : Option Int :=
  (i_IsDoubling a0_0 a0_1).bind fun v2 =>
  (if v2 = false then
    some 1
  else
    (g_slices_ContainsFunc_LLI_LI_of_i_checkElements_c1 a1 a0_0 a0_1).bind fun v5 =>
    (if v5 = true then
      some 2
    else
      some 0))

def i_Doubling_isMatrix (a0_0 : Int) (a0_1 : List Int) (a1 : List (List Int)) : Option Bool :=
  ((i_Doubling_field a0_0 a0_1).bind fun v1 =>
  (i_field_isMatrix v1 a1).bind fun v2 =>
  (if v2 = true then
    (i_Doubling_size a0_0 a0_1).bind fun v4 =>
    (if (a1.length : Int) = v4 then
      (idx a1 0).bind fun v6 =>
      (i_Doubling_size a0_0 a0_1).bind fun v7 =>
      some (ieq (v6.length : Int) v7)
    else
      some false)
  else
    some false) : Option Bool).bind fun x8 =>
  some x8

def i_checkThree_c1 (a0 : List (List Int)) (a1_0 : Int) (a1_1 : List Int) : Option Bool :=
  (i_Doubling_isMatrix a1_0 a1_1 a0).bind fun v1 =>
  some (!v1)

def g_slices_IndexFunc_LLLI_LLI_of_i_checkThree_c1_L0 (a0 : List (List (List Int))) (a1_0_0 : Int) (a1_0_1 : List Int) (s2 : Int) : Option (Int ⊕ (Unit ⊕ Int)) :=
  (if s2 < (a0.length : Int) then
    (idx a0 s2).bind fun v8 =>
    (i_checkThree_c1 v8 a1_0_0 a1_0_1).bind fun v9 =>
    (if v9 = true then
      some (.inr (.inr s2))
    else
      some (.inl (w64 (s2 + 1))))
  else
    some (.inr (.inl ())))
def g_slices_IndexFunc_LLLI_LLI_of_i_checkThree_c1 (a0 : List (List (List Int))) (a1_0_0 : Int) (a1_0_1 : List Int) : Option Int :=
  (loop (g_slices_IndexFunc_LLLI_LLI_of_i_checkThree_c1_L0 a0 a1_0_0 a1_0_1) BIG 0).bind fun x2 =>
  (match x2 with
  | .inl y4 =>
    some (-1)
  | .inr t => some t)

def g_slices_ContainsFunc_LLLI_LLI_of_i_checkThree_c1 (a0 : List (List (List Int))) (a1_0_0 : Int) (a1_0_1 : List Int) : Option Bool :=
  (g_slices_IndexFunc_LLLI_LLI_of_i_checkThree_c1 a0 a1_0_0 a1_0_1).bind fun v1 =>
  some (ile 0 v1)

def i_checkThree (a0_0 : Int) (a0_1 : List Int) (a1 : List (List Int)) (a2 : List (List (List Int))) : Option Int :=
  (i_IsDoubling a0_0 a0_1).bind fun v2 =>
  (if v2 = false then
    some 1
  else
    (if 3 < (a0_1.length : Int) then
      some 3
    else
      ((i_checkElements a0_0 a0_1 a1).bind fun v5 =>
      (if ¬ v5 = 0 then
        some true
      else
        (g_slices_ContainsFunc_LLLI_LLI_of_i_checkThree_c1 a2 a0_0 a0_1).bind fun v7 =>
        some v7) : Option Bool).bind fun x8 =>
      (if x8 = true then
        some 2
      else
        some 0)))

def i_unit_L0 (a0 : Int) (s2 : (List (List Int)) × Int) : Option (((List (List Int)) × Int) ⊕ (List (List Int))) :=
  (if s2.2 < a0 then
    (chk (0 ≤ a0 ∧ a0 ≤ 1099511627776)).bind fun _ =>
    (some (List.replicate a0.toNat 0)).bind fun l8 =>
    (idx l8 s2.2).bind fun v9 =>
    (chk (s2.1.length + [l8.set s2.2.toNat 1].length ≤ 1099511627776)).bind fun _ =>
    some (.inl (s2.1 ++ [l8.set s2.2.toNat 1], w64 (s2.2 + 1)))
  else
    some (.inr s2.1))
def i_unit (a0 : Int) : Option (List (List Int)) :=
  (loop (i_unit_L0 a0) BIG ([], 0)).bind fun x2 =>
  some x2

def i_Doubling_element (a0_0 : Int) (a0_1 : List Int) (a1 : Int) : Option (List Int) :=
  (i_Doubling_size a0_0 a0_1).bind fun v1 =>
  (i_unit v1).bind fun v2 =>
  (idx v2 a1).bind fun v3 =>
  some v3

def i_field_conjugate (a0 : Int) (a1 : List Int) : Option (List Int) :=
  (i_field_scaled a0 a1 (-1)).bind fun v1 =>
  (idx a1 0).bind fun v2 =>
  (idx v1 0).bind fun v3 =>
  some (v1.set 0 v2)

end Go.Vam

namespace Go.Vam
open Go Go.RowKit
set_option maxRecDepth 100000
set_option linter.unusedSimpArgs false
set_option linter.unusedVariables false

def i_field_doubled_b (self : Int → (List Int) → (List Int) → (List Int) → Option (List Int)) (a0 : Int) (a1 : List Int) (a2 : List Int) (a3 : List Int) : Option (List Int) :=
  (if (a1.length : Int) = 0 then
    (idx a2 0).bind fun v3 =>
    (idx a3 0).bind fun v4 =>
    (i_field_num a0 (w64 (v3 * v4))).bind fun v5 =>
    some [v5]
  else
    (chk (0 ≤ (w64 ((a2.length : Int).tdiv 2)) ∧ (w64 ((a2.length : Int).tdiv 2)) ≤ (a2.length : Int))).bind fun _ =>
    (chk (0 ≤ (w64 ((a2.length : Int).tdiv 2)) ∧ (w64 ((a2.length : Int).tdiv 2)) ≤ (a2.length : Int))).bind fun _ =>
    (chk (0 ≤ (w64 ((a2.length : Int).tdiv 2)) ∧ (w64 ((a2.length : Int).tdiv 2)) ≤ (a3.length : Int))).bind fun _ =>
    (chk (0 ≤ (w64 ((a2.length : Int).tdiv 2)) ∧ (w64 ((a2.length : Int).tdiv 2)) ≤ (a3.length : Int))).bind fun _ =>
    (chk (0 ≤ (w64 ((a1.length : Int) - 1)) ∧ (w64 ((a1.length : Int) - 1)) ≤ (a1.length : Int))).bind fun _ =>
    (self a0 (a1.take (w64 ((a1.length : Int) - 1)).toNat) (a2.take (w64 ((a2.length : Int).tdiv 2)).toNat) (a3.take (w64 ((a2.length : Int).tdiv 2)).toNat)).bind fun v11 =>
    (i_field_conjugate a0 (a3.drop (w64 ((a2.length : Int).tdiv 2)).toNat)).bind fun v12 =>
    (self a0 (a1.take (w64 ((a1.length : Int) - 1)).toNat) v12 (a2.drop (w64 ((a2.length : Int).tdiv 2)).toNat)).bind fun v13 =>
    (idx a1 (w64 ((a1.length : Int) - 1))).bind fun v14 =>
    (i_field_plus a0 v11 v13 v14).bind fun v15 =>
    (self a0 (a1.take (w64 ((a1.length : Int) - 1)).toNat) (a3.drop (w64 ((a2.length : Int).tdiv 2)).toNat) (a2.take (w64 ((a2.length : Int).tdiv 2)).toNat)).bind fun v16 =>
    (i_field_conjugate a0 (a3.take (w64 ((a2.length : Int).tdiv 2)).toNat)).bind fun v17 =>
    (self a0 (a1.take (w64 ((a1.length : Int) - 1)).toNat) (a2.drop (w64 ((a2.length : Int).tdiv 2)).toNat) v17).bind fun v18 =>
    (i_field_plus a0 v16 v18 1).bind fun v19 =>
    (chk (v15.length + v19.length ≤ 1099511627776)).bind fun _ =>
    some (v15 ++ v19))
def i_field_doubled : Nat → Int → (List Int) → (List Int) → (List Int) → Option (List Int)
  | 0 => fun _ _ _ _ => none
  | n + 1 => i_field_doubled_b (i_field_doubled n)

def i_Doubling_times (a0_0 : Int) (a0_1 : List Int) (a1 : List Int) (a2 : List Int) : Option (List Int) :=
  (i_Doubling_field a0_0 a0_1).bind fun v1 =>
  (i_field_doubled BIG v1 a0_1 a1 a2).bind fun v2 =>
  some v2

def i_length_LI (a0 : List (List Int)) : Option Int :=
  some (a0.length : Int)

def s_l01Own2_L0 (a0 : List (List Int)) (s2 : (List (List Int)) × Int) : Option (((List (List Int)) × Int) ⊕ (List (List Int))) :=
  (if s2.2 < (a0.length : Int) then
    (idx a0 s2.2).bind fun v7 =>
    (s_l01Own v7).bind fun v8 =>
    (chk (s2.1.length + [v8].length ≤ 1099511627776)).bind fun _ =>
    some (.inl (s2.1 ++ [v8], w64 (s2.2 + 1)))
  else
    some (.inr s2.1))
def s_l01Own2 (a0 : List (List Int)) : Option (List (List Int)) :=
  (loop (s_l01Own2_L0 a0) BIG ([], 0)).bind fun x2 =>
  some x2

def s_l02Basis_L1 (s3 : (List (List Int)) × Int × Int) (s14 : Int) : Option (Int ⊕ Int) :=
  ((if s14 < (s3.1.length : Int) then
    (idx s3.1 s14).bind fun v18 =>
    (idx v18 s3.2.2).bind fun v19 =>
    some (ieq v19 0)
  else
    some false) : Option Bool).bind fun x20 =>
  (if x20 = true then
    some (.inl (w64 (s14 + 1)))
  else
    some (.inr s14))
def s_l02Basis_L2 (a0 : Int) (s3 : (List (List Int)) × Int × Int) (v28 : List Int) (s32 : (List (List Int)) × Int) : Option (((List (List Int)) × Int) ⊕ (List (List Int))) :=
  (if s32.2 < (s32.1.length : Int) then
    ((if ¬ s32.2 = s3.2.1 then
      (idx s32.1 s32.2).bind fun v39 =>
      (idx v39 s3.2.2).bind fun v40 =>
      (chk (¬ a0 = 0)).bind fun _ =>
      (s_l02Plus a0 v39 v28 ((w64 (a0 - v40)).tmod a0)).bind fun v42 =>
      some (s32.1.set s32.2.toNat v42)
    else
      some s32.1) : Option (List (List Int))).bind fun x36 =>
    some (.inl (x36, w64 (s32.2 + 1)))
  else
    some (.inr s32.1))
def s_l02Basis_L0 (a0 : Int) (s3 : (List (List Int)) × Int × Int) : Option (((List (List Int)) × Int × Int) ⊕ ((List (List Int)) × Int)) :=
  ((if 0 < (s3.1.length : Int) then
    (idx s3.1 0).bind fun v7 =>
    some (ilt s3.2.2 (v7.length : Int))
  else
    some false) : Option Bool).bind fun x8 =>
  (if x8 = true then
    ((loop (s_l02Basis_L1 s3) BIG s3.2.1).bind fun x14 =>
    (if x14 = (s3.1.length : Int) then
      some (s3.1, s3.2.1)
    else
      (idx s3.1 x14).bind fun v24 =>
      (idx s3.1 s3.2.1).bind fun v25 =>
      (idx v24 s3.2.2).bind fun v26 =>
      (s_l01Inv a0 v26).bind fun v27 =>
      (s_l02Scale a0 v24 v27).bind fun v28 =>
      (some (s3.1.set x14.toNat v25)).bind fun l29 =>
      (idx l29 s3.2.1).bind fun v30 =>
      (loop (s_l02Basis_L2 a0 s3 v28) BIG (l29.set s3.2.1.toNat v28, 0)).bind fun x32 =>
      some (x32, w64 (s3.2.1 + 1))) : Option ((List (List Int)) × Int)).bind fun x11 =>
    some (.inl (x11.1, x11.2, w64 (s3.2.2 + 1)))
  else
    some (.inr (s3.1, s3.2.1)))
def s_l02Basis (a0 : Int) (a1 : List (List Int)) : Option (List (List Int)) :=
  (s_l01Own2 a1).bind fun v1 =>
  (loop (s_l02Basis_L0 a0) BIG (v1, 0, 0)).bind fun x3 =>
  (chk (0 ≤ x3.2 ∧ x3.2 ≤ (x3.1.length : Int))).bind fun _ =>
  some (x3.1.take x3.2.toNat)

def g_slices_Clone_LI_I (a0 : List Int) : Option (List Int) :=
  (chk (a0.length ≤ 1099511627776)).bind fun _ => some a0

def i_cloneRows_L0 (a0 : List (List Int)) (s2 : (List (List Int)) × Int) : Option (((List (List Int)) × Int) ⊕ (List (List Int))) :=
  (if s2.2 < (a0.length : Int) then
    (idx a0 s2.2).bind fun v7 =>
    (g_slices_Clone_LI_I v7).bind fun v8 =>
    (chk (s2.1.length + [v8].length ≤ 1099511627776)).bind fun _ =>
    some (.inl (s2.1 ++ [v8], w64 (s2.2 + 1)))
  else
    some (.inr s2.1))
def i_cloneRows (a0 : List (List Int)) : Option (List (List Int)) :=
  (loop (i_cloneRows_L0 a0) BIG ([], 0)).bind fun x2 =>
  some x2

def i_field_pow_L0 (a0 : Int) (a1 : Int) (a2 : Int) (s2 : Int × Int) : Option ((Int × Int) ⊕ Int) :=
  (if s2.2 < a2 then
    (i_field_num a0 (w64 (s2.1 * a1))).bind fun v7 =>
    some (.inl (v7, w64 (s2.2 + 1)))
  else
    some (.inr s2.1))
def i_field_pow (a0 : Int) (a1 : Int) (a2 : Int) : Option Int :=
  (loop (i_field_pow_L0 a0 a1 a2) BIG (1, 0)).bind fun x2 =>
  some x2

def i_field_inv (a0 : Int) (a1 : Int) : Option Int :=
  (i_field_pow a0 a1 (w64 (a0 - 2))).bind fun v1 =>
  some v1

def i_field_basis_L1 (s3 : (List (List Int)) × Int × Int) (s15 : Int) : Option (Int ⊕ Int) :=
  ((if s15 < (s3.1.length : Int) then
    (idx s3.1 s15).bind fun v19 =>
    (idx v19 s3.2.2).bind fun v20 =>
    some (ieq v20 0)
  else
    some false) : Option Bool).bind fun x21 =>
  (if x21 = true then
    some (.inl (w64 (s15 + 1)))
  else
    some (.inr s15))
def i_field_basis_L2 (a0 : Int) (s3 : (List (List Int)) × Int × Int) (l28 : List (List Int)) (v32 : List Int) (s34 : (List (List Int)) × Int) : Option (((List (List Int)) × Int) ⊕ (List (List Int))) :=
  (if s34.2 < ((l28.set s3.2.1.toNat v32).length : Int) then
    (((if ¬ s34.2 = s3.2.1 then
      (idx s34.1 s34.2).bind fun v41 =>
      (idx v41 s3.2.2).bind fun v42 =>
      some (!(ieq v42 0))
    else
      some false) : Option Bool).bind fun x43 =>
    (if x43 = true then
      (idx s34.1 s34.2).bind fun v45 =>
      (idx s34.1 s3.2.1).bind fun v46 =>
      (idx v45 s3.2.2).bind fun v47 =>
      (i_field_plus a0 v45 v46 (w64 (0 - v47))).bind fun v48 =>
      some (s34.1.set s34.2.toNat v48)
    else
      some s34.1) : Option (List (List Int))).bind fun x38 =>
    some (.inl (x38, w64 (s34.2 + 1)))
  else
    some (.inr s34.1))
def i_field_basis_L0 (a0 : Int) (s3 : (List (List Int)) × Int × Int) : Option (((List (List Int)) × Int × Int) ⊕ ((List (List Int)) × Int)) :=
  ((if 0 < (s3.1.length : Int) then
    (idx s3.1 0).bind fun v7 =>
    (if s3.2.2 < (v7.length : Int) then
      some (ilt s3.2.1 (s3.1.length : Int))
    else
      some false)
  else
    some false) : Option Bool).bind fun x9 =>
  (if x9 = true then
    ((loop (i_field_basis_L1 s3) BIG s3.2.1).bind fun x15 =>
    (if x15 = (s3.1.length : Int) then
      some (s3.1, s3.2.1)
    else
      (idx s3.1 x15).bind fun v25 =>
      (idx s3.1 s3.2.1).bind fun v26 =>
      (idx (s3.1.set s3.2.1.toNat v25) x15).bind fun v27 =>
      (some ((s3.1.set s3.2.1.toNat v25).set x15.toNat v26)).bind fun l28 =>
      (idx l28 s3.2.1).bind fun v29 =>
      (idx v29 s3.2.2).bind fun v30 =>
      (i_field_inv a0 v30).bind fun v31 =>
      (i_field_scaled a0 v29 v31).bind fun v32 =>
      (loop (i_field_basis_L2 a0 s3 l28 v32) BIG (l28.set s3.2.1.toNat v32, 0)).bind fun x34 =>
      some (x34, w64 (s3.2.1 + 1))) : Option ((List (List Int)) × Int)).bind fun x12 =>
    some (.inl (x12.1, x12.2, w64 (s3.2.2 + 1)))
  else
    some (.inr (s3.1, s3.2.1)))
def i_field_basis (a0 : Int) (a1 : List (List Int)) : Option (List (List Int)) :=
  (i_cloneRows a1).bind fun v1 =>
  (loop (i_field_basis_L0 a0) BIG (v1, 0, 0)).bind fun x3 =>
  (chk (0 ≤ x3.2 ∧ x3.2 ≤ (x3.1.length : Int))).bind fun _ =>
  some (x3.1.take x3.2.toNat)

def l_big (a0 : List Int) : Option Bool :=
  some (ilt 4096 (a0.length : Int))

end Go.Vam

namespace Go.Vam
open Go Go.RowKit
set_option maxRecDepth 100000
set_option linter.unusedSimpArgs false
set_option linter.unusedVariables false

def i_Doubling_products_L1 (a0_0 : Int) (a0_1 : List Int) (s4 : (List (List Int)) × Int) (v9 : List Int) (v12 : List (List Int)) (s13 : (List Int) × Int) : Option (((List Int) × Int) ⊕ (List Int)) :=
  (if s13.2 < (v12.length : Int) then
    (idx v12 s13.2).bind fun v18 =>
    (i_Doubling_times a0_0 a0_1 v9 v18).bind fun v19 =>
    (idx v19 (bxor .i64 s4.2 s13.2)).bind fun v20 =>
    (chk (s13.1.length + [v20].length ≤ 1099511627776)).bind fun _ =>
    some (.inl (s13.1 ++ [v20], w64 (s13.2 + 1)))
  else
    some (.inr s13.1))
def i_Doubling_products_L0 (a0_0 : Int) (a0_1 : List Int) (v3 : List (List Int)) (s4 : (List (List Int)) × Int) : Option (((List (List Int)) × Int) ⊕ (List (List Int))) :=
  (if s4.2 < (v3.length : Int) then
    (idx v3 s4.2).bind fun v9 =>
    (i_Doubling_size a0_0 a0_1).bind fun v11 =>
    (i_unit v11).bind fun v12 =>
    (loop (i_Doubling_products_L1 a0_0 a0_1 s4 v9 v12) BIG ([], 0)).bind fun x13 =>
    (chk (s4.1.length + [x13].length ≤ 1099511627776)).bind fun _ =>
    some (.inl (s4.1 ++ [x13], w64 (s4.2 + 1)))
  else
    some (.inr s4.1))
def i_Doubling_products (a0_0 : Int) (a0_1 : List Int) : Option (List (List Int)) :=
  (i_Doubling_size a0_0 a0_1).bind fun v2 =>
  (i_unit v2).bind fun v3 =>
  (loop (i_Doubling_products_L0 a0_0 a0_1 v3) BIG ([], 0)).bind fun x4 =>
  some x4

def i_Doubling_norm (a0_0 : Int) (a0_1 : List Int) (a1 : List Int) : Option Int :=
  (i_Doubling_field a0_0 a0_1).bind fun v1 =>
  (i_field_conjugate v1 a1).bind fun v2 =>
  (i_Doubling_times a0_0 a0_1 a1 v2).bind fun v3 =>
  (idx v3 0).bind fun v4 =>
  some v4

def s_l01Index_L0 (a0 : List Int) (a1 : Int) (s2 : Int) : Option (Int ⊕ (Unit ⊕ Int)) :=
  (if s2 < (a0.length : Int) then
    (idx a0 s2).bind fun v8 =>
    (if v8 = a1 then
      some (.inr (.inr s2))
    else
      some (.inl (w64 (s2 + 1))))
  else
    some (.inr (.inl ())))
def s_l01Index (a0 : List Int) (a1 : Int) : Option Int :=
  (loop (s_l01Index_L0 a0 a1) BIG 0).bind fun x2 =>
  (match x2 with
  | .inl y4 =>
    some (-1)
  | .inr t => some t)

def s_l01Has (a0 : List Int) (a1 : Int) : Option Bool :=
  (s_l01Index a0 a1).bind fun v1 =>
  some (ile 0 v1)

def s_l12Kernel_L0 (v1 : List (List Int)) (s3 : (List Int) × Int) : Option (((List Int) × Int) ⊕ (List Int)) :=
  (if s3.2 < (v1.length : Int) then
    (idx v1 s3.2).bind fun v8 =>
    (s_l12First v8).bind fun v9 =>
    (chk (s3.1.length + [v9].length ≤ 1099511627776)).bind fun _ =>
    some (.inl (s3.1 ++ [v9], w64 (s3.2 + 1)))
  else
    some (.inr s3.1))
def s_l12Kernel_L2 (a0 : Int) (v1 : List (List Int)) (x3 : List Int) (s12 : (List (List Int)) × Int) (s26 : (List Int) × Int) : Option (((List Int) × Int) ⊕ (List Int)) :=
  (if s26.2 < (v1.length : Int) then
    (idx x3 s26.2).bind fun v31 =>
    (idx v1 s26.2).bind fun v32 =>
    (idx v32 s12.2).bind fun v33 =>
    (s_l01Mod a0 (w64 (0 - v33))).bind fun v34 =>
    (idx s26.1 v31).bind fun v35 =>
    some (.inl (s26.1.set v31.toNat v34, w64 (s26.2 + 1)))
  else
    some (.inr s26.1))
def s_l12Kernel_L1 (a0 : Int) (a1 : Int) (v1 : List (List Int)) (x3 : List Int) (s12 : (List (List Int)) × Int) : Option (((List (List Int)) × Int) ⊕ (List (List Int))) :=
  (if s12.2 < a1 then
    ((s_l01Has x3 s12.2).bind fun v20 =>
    (if v20 = true then
      some s12.1
    else
      (chk (0 ≤ a1 ∧ a1 ≤ 1099511627776)).bind fun _ =>
      (some (List.replicate a1.toNat 0)).bind fun l23 =>
      (idx l23 s12.2).bind fun v24 =>
      (loop (s_l12Kernel_L2 a0 v1 x3 s12) BIG (l23.set s12.2.toNat 1, 0)).bind fun x26 =>
      (chk (s12.1.length + [x26].length ≤ 1099511627776)).bind fun _ =>
      some (s12.1 ++ [x26])) : Option (List (List Int))).bind fun x17 =>
    some (.inl (x17, w64 (s12.2 + 1)))
  else
    some (.inr s12.1))
def s_l12Kernel (a0 : Int) (a1 : Int) (a2 : List (List Int)) : Option (List (List Int)) :=
  (s_l12Reduced a0 a2).bind fun v1 =>
  (loop (s_l12Kernel_L0 v1) BIG ([], 0)).bind fun x3 =>
  (loop (s_l12Kernel_L1 a0 a1 v1 x3) BIG ([], 0)).bind fun x12 =>
  (s_l12Reduced a0 x12).bind fun v37 =>
  some v37

def s_l02First_L0 (a0 : List Int) (s2 : Int) : Option (Int ⊕ (Unit ⊕ Int)) :=
  (if s2 < (a0.length : Int) then
    (idx a0 s2).bind fun v8 =>
    (if ¬ v8 = 0 then
      some (.inr (.inr s2))
    else
      some (.inl (w64 (s2 + 1))))
  else
    some (.inr (.inl ())))
def s_l02First (a0 : List Int) : Option Int :=
  (loop (s_l02First_L0 a0) BIG 0).bind fun x2 =>
  (match x2 with
  | .inl y4 =>
    some (-1)
  | .inr t => some t)

def i_lead_L0 (a0 : List Int) (s2 : Int) : Option (Int ⊕ Int) :=
  ((if s2 < (a0.length : Int) then
    (idx a0 s2).bind fun v6 =>
    some (ieq v6 0)
  else
    some false) : Option Bool).bind fun x7 =>
  (if x7 = true then
    some (.inl (w64 (s2 + 1)))
  else
    some (.inr s2))
def i_lead (a0 : List Int) : Option Int :=
  (loop (i_lead_L0 a0) BIG 0).bind fun x2 =>
  some x2

end Go.Vam

namespace Go.Vam
open Go Go.RowKit
set_option maxRecDepth 100000
set_option linter.unusedSimpArgs false
set_option linter.unusedVariables false

def s_l14Equations_L2 (a0_0 : Int) (v1 : List (List Int)) (v2 : Int) (s4 : (List (List Int)) × Int) (s9 : (List (List Int)) × Int) (s14 : (List (List Int)) × Int) : Option (((List (List Int)) × Int) ⊕ (List (List Int))) :=
  (if s14.2 < v2 then
    (chk (0 ≤ (w64 (v2 * v2)) ∧ (w64 (v2 * v2)) ≤ 1099511627776)).bind fun _ =>
    (some (List.replicate (w64 (v2 * v2)).toNat 0)).bind fun l20 =>
    (idx l20 (w64 ((w64 (s14.2 * v2)) + (bxor .i64 s4.2 s9.2)))).bind fun v21 =>
    (idx v1 s4.2).bind fun v22 =>
    (idx v22 s9.2).bind fun v23 =>
    (s_l01Mod a0_0 (w64 (v21 + v23))).bind fun v24 =>
    (some (l20.set (w64 ((w64 (s14.2 * v2)) + (bxor .i64 s4.2 s9.2))).toNat v24)).bind fun l25 =>
    (idx l25 (w64 ((w64 ((bxor .i64 s14.2 s9.2) * v2)) + s4.2))).bind fun v26 =>
    (idx v1 (bxor .i64 s14.2 s9.2)).bind fun v27 =>
    (idx v27 s9.2).bind fun v28 =>
    (s_l01Mod a0_0 (w64 (v26 - v28))).bind fun v29 =>
    (some (l25.set (w64 ((w64 ((bxor .i64 s14.2 s9.2) * v2)) + s4.2)).toNat v29)).bind fun l30 =>
    (idx l30 (w64 ((w64 ((bxor .i64 s14.2 s4.2) * v2)) + s9.2))).bind fun v31 =>
    (idx v22 (bxor .i64 s14.2 s4.2)).bind fun v32 =>
    (s_l01Mod a0_0 (w64 (v31 - v32))).bind fun v33 =>
    (chk (s14.1.length + [l30.set (w64 ((w64 ((bxor .i64 s14.2 s4.2) * v2)) + s9.2)).toNat v33].length ≤ 1099511627776)).bind fun _ =>
    some (.inl (s14.1 ++ [l30.set (w64 ((w64 ((bxor .i64 s14.2 s4.2) * v2)) + s9.2)).toNat v33], w64 (s14.2 + 1)))
  else
    some (.inr s14.1))
def s_l14Equations_L1 (a0_0 : Int) (v1 : List (List Int)) (v2 : Int) (s4 : (List (List Int)) × Int) (s9 : (List (List Int)) × Int) : Option (((List (List Int)) × Int) ⊕ (List (List Int))) :=
  (if s9.2 < v2 then
    (loop (s_l14Equations_L2 a0_0 v1 v2 s4 s9) BIG (s9.1, 0)).bind fun x14 =>
    some (.inl (x14, w64 (s9.2 + 1)))
  else
    some (.inr s9.1))
def s_l14Equations_L0 (a0_0 : Int) (v1 : List (List Int)) (v2 : Int) (s4 : (List (List Int)) × Int) : Option (((List (List Int)) × Int) ⊕ (List (List Int))) :=
  (if s4.2 < v2 then
    (loop (s_l14Equations_L1 a0_0 v1 v2 s4) BIG (s4.1, 0)).bind fun x9 =>
    some (.inl (x9, w64 (s4.2 + 1)))
  else
    some (.inr s4.1))
def s_l14Equations (a0_0 : Int) (a0_1 : List Int) : Option (List (List Int)) :=
  (s_l11Basis a0_0 a0_1).bind fun v1 =>
  (s_l11Size a0_0 a0_1).bind fun v2 =>
  (loop (s_l14Equations_L0 a0_0 v1 v2) BIG ([], 0)).bind fun x4 =>
  some x4

def s_l14Basis (a0_0 : Int) (a0_1 : List Int) : Option (List (List Int)) :=
  (s_l11Size a0_0 a0_1).bind fun v1 =>
  (s_l14Equations a0_0 a0_1).bind fun v2 =>
  (s_l12Kernel a0_0 (w64 (v1 * v1)) v2).bind fun v3 =>
  some v3

def s_FixingDimension_L1 (a1 : List Int) (v4 : Int) (s7 : (List (List Int)) × Int) (s14 : (List Int) × Int) : Option (((List Int) × Int) ⊕ (List Int)) :=
  (if s14.2 < v4 then
    (idx a1 s14.2).bind fun v19 =>
    (idx s14.1 (w64 ((w64 (s7.2 * v4)) + s14.2))).bind fun v20 =>
    some (.inl (s14.1.set (w64 ((w64 (s7.2 * v4)) + s14.2)).toNat v19, w64 (s14.2 + 1)))
  else
    some (.inr s14.1))
def s_FixingDimension_L0 (a1 : List Int) (v4 : Int) (s7 : (List (List Int)) × Int) : Option (((List (List Int)) × Int) ⊕ (List (List Int))) :=
  (if s7.2 < v4 then
    (chk (0 ≤ (w64 (v4 * v4)) ∧ (w64 (v4 * v4)) ≤ 1099511627776)).bind fun _ =>
    (loop (s_FixingDimension_L1 a1 v4 s7) BIG (List.replicate (w64 (v4 * v4)).toNat 0, 0)).bind fun x14 =>
    (chk (s7.1.length + [x14].length ≤ 1099511627776)).bind fun _ =>
    some (.inl (s7.1 ++ [x14], w64 (s7.2 + 1)))
  else
    some (.inr s7.1))
def s_FixingDimension (a0_0 : Int) (a0_1 : List Int) (a1 : List Int) : Option (Int × Int) :=
  (s_l14Elements a0_0 a0_1 [a1]).bind fun v2 =>
  (if ¬ v2 = 0 then
    some (0, v2)
  else
    (s_l11Size a0_0 a0_1).bind fun v4 =>
    (s_l14Equations a0_0 a0_1).bind fun v5 =>
    (loop (s_FixingDimension_L0 a1 v4) BIG (v5, 0)).bind fun x7 =>
    (s_l12Kernel a0_0 (w64 (v4 * v4)) x7).bind fun v22 =>
    some ((v22.length : Int), 0))

def s_l14Cut_L0 (a0 : List Int) (a1 : Int) (s2 : (List (List Int)) × Int) : Option (((List (List Int)) × Int) ⊕ (List (List Int))) :=
  (if s2.2 < (a0.length : Int) then
    (chk (0 ≤ s2.2 ∧ s2.2 ≤ (w64 (s2.2 + a1)) ∧ (w64 (s2.2 + a1)) ≤ (a0.length : Int))).bind fun _ =>
    (s_l01Own ((a0.take (w64 (s2.2 + a1)).toNat).drop s2.2.toNat)).bind fun v8 =>
    (chk (s2.1.length + [v8].length ≤ 1099511627776)).bind fun _ =>
    some (.inl (s2.1 ++ [v8], w64 (s2.2 + a1)))
  else
    some (.inr s2.1))
def s_l14Cut (a0 : List Int) (a1 : Int) : Option (List (List Int)) :=
  (loop (s_l14Cut_L0 a0 a1) BIG ([], 0)).bind fun x2 =>
  some x2

end Go.Vam

namespace Go.Vam
open Go Go.RowKit
set_option maxRecDepth 100000
set_option linter.unusedSimpArgs false
set_option linter.unusedVariables false

end Go.Vam

namespace Go.Vam
open Go Go.RowKit
set_option maxRecDepth 100000
set_option linter.unusedSimpArgs false
set_option linter.unusedVariables false

def kerV (p : Int) (red : List (List Int)) (free : Int) (e : Int × Int) : Option Int :=
  (idx red e.2).bind fun r => (idx r free).bind fun x => i_field_num p (w64 (0 - x))
def kerOk (p : Int) (red : List (List Int)) (free : Int) (n : Nat) (e : Int × Int) : Bool :=
  match kerV p red free e with
  | some _ => decide (0 ≤ e.1) && decide (e.1.toNat < n)
  | none => false
def kerPut (p : Int) (red : List (List Int)) (free : Int) (v : List Int) (e : Int × Int) : List Int := v.set e.1.toNat ((kerV p red free e).getD 0)
def kerS (p : Int) (red : List (List Int)) (free : Int) (es : List (Int × Int)) (v : List Int) (seen : List Nat) : List Int := (seen.map fun i => es.getD i (0, 0)).foldl (kerPut p red free) v
theorem kerPut_len (p : Int) (red : List (List Int)) (free : Int) (v : List Int) (e : Int × Int) : (kerPut p red free v e).length = v.length := by simp [kerPut]
theorem kerF_len (p : Int) (red : List (List Int)) (free : Int) : ∀ (es : List (Int × Int)) (v : List Int), (es.foldl (kerPut p red free) v).length = v.length
  | [], v => rfl
  | e :: r, v => by rw [List.foldl_cons, kerF_len, kerPut_len]
theorem kerF_get {p : Int} {red : List (List Int)} {free : Int} : ∀ (es : List (Int × Int)) (v : List Int), (∀ e ∈ es, 0 ≤ e.1) → (es.map (·.1)).Nodup → ∀ q : Nat,
    ((∀ e ∈ es, e.1.toNat ≠ q) → (es.foldl (kerPut p red free) v)[q]? = v[q]?) ∧ ∀ e ∈ es, e.1.toNat = q → (es.foldl (kerPut p red free) v)[q]? = if q < v.length then some ((kerV p red free e).getD 0) else none
  | [], v, _, _, q => ⟨fun _ => rfl, fun e he => absurd he List.not_mem_nil⟩
  | x :: r, v, h0, hn, q => by
    rw [List.map_cons, List.nodup_cons] at hn
    have ih := kerF_get (p := p) (red := red) (free := free) r (kerPut p red free v x) (fun e he => h0 e (List.mem_cons_of_mem _ he)) hn.2 q
    rw [List.foldl_cons]
    constructor
    · intro h
      rw [ih.1 fun e he => h e (List.mem_cons_of_mem _ he)]
      unfold kerPut
      rw [List.getElem?_set_ne (h x List.mem_cons_self)]
    · intro e he hq
      rcases List.mem_cons.1 he with rfl | he
      · rw [ih.1 fun e' he' hq' => hn.1 (List.mem_map.2 ⟨e', he', by
          have a1 := h0 e' (List.mem_cons_of_mem _ he')
          have a2 := h0 e List.mem_cons_self
          omega⟩)]
        unfold kerPut
        by_cases hl : q < v.length
        · rw [hq, List.getElem?_set_self hl, if_pos hl]
        · rw [if_neg hl, List.getElem?_eq_none (by rw [List.length_set]; omega)]
      · rw [ih.2 e he hq, kerPut_len]
theorem kerF_perm {p : Int} {red : List (List Int)} {free : Int} {es es' : List (Int × Int)} {v : List Int} (h0 : ∀ e ∈ es, 0 ≤ e.1) (hn : (es.map (·.1)).Nodup) (hn' : (es'.map (·.1)).Nodup) (hm : ∀ e, e ∈ es ↔ e ∈ es') :
    es.foldl (kerPut p red free) v = es'.foldl (kerPut p red free) v := by
  apply List.ext_getElem?
  intro q
  have a := kerF_get (p := p) (red := red) (free := free) es v h0 hn q
  have b := kerF_get (p := p) (red := red) (free := free) es' v (fun e he => h0 e ((hm e).2 he)) hn' q
  by_cases h : ∃ e, e ∈ es ∧ e.1.toNat = q
  · obtain ⟨e, he, hq⟩ := h
    rw [a.2 e he hq, b.2 e ((hm e).1 he) hq]
  · rw [a.1 fun e he hq => h ⟨e, he, hq⟩, b.1 fun e he hq => h ⟨e, (hm e).2 he, hq⟩]
theorem nodup_map_inj {α β : Type} {f : α → β} : ∀ {l : List α}, (∀ a ∈ l, ∀ b ∈ l, f a = f b → a = b) → l.Nodup → (l.map f).Nodup
  | [], _, _ => List.nodup_nil
  | x :: r, hi, hn => by
    rw [List.nodup_cons] at hn
    rw [List.map_cons, List.nodup_cons]
    refine ⟨fun hm => ?_, nodup_map_inj (fun a ha b hb => hi a (List.mem_cons_of_mem _ ha) b (List.mem_cons_of_mem _ hb)) hn.2⟩
    obtain ⟨b, hb, e⟩ := List.mem_map.1 hm
    rw [hi b (List.mem_cons_of_mem _ hb) x List.mem_cons_self e] at hb
    exact hn.1 hb
theorem nodup_get_inj {α : Type} [DecidableEq α] {l : List α} (hn : l.Nodup) {i j : Nat} (hi : i < l.length) (hj : j < l.length) (e : l[i] = l[j]) : i = j := by
  rcases Nat.lt_trichotomy i j with h1 | h1 | h1
  · exact absurd e (List.pairwise_iff_getElem.1 hn i j hi hj h1)
  · exact h1
  · exact absurd e.symm (List.pairwise_iff_getElem.1 hn j i hj hi h1)
theorem kerS_all {p : Int} {red : List (List Int)} {free : Int} {es : List (Int × Int)} {v : List Int} {seen : List Nat} (h0 : ∀ e ∈ es, 0 ≤ e.1) (hn : (es.map (·.1)).Nodup) (hs : seen.Nodup) (hlt : ∀ i ∈ seen, i < es.length) (hall : ∀ i, i < es.length → i ∈ seen) :
    kerS p red free es v seen = es.foldl (kerPut p red free) v := by
  unfold kerS
  have hg : ∀ (i : Nat) (hi : i < es.length), es.getD i (0, 0) = es[i] := fun i hi => by rw [List.getD_eq_getElem?_getD, List.getElem?_eq_getElem hi]; rfl
  have hmem : ∀ e, e ∈ (seen.map fun i => es.getD i (0, 0)) ↔ e ∈ es := by
    intro e
    rw [List.mem_map]
    constructor
    · rintro ⟨i, hi, rfl⟩
      rw [hg i (hlt i hi)]
      exact List.getElem_mem _
    · intro he
      obtain ⟨i, hi, e'⟩ := List.getElem_of_mem he
      exact ⟨i, hall i hi, by rw [hg i hi]; exact e'⟩
  have hn' : ((seen.map fun i => es.getD i (0, 0)).map (·.1)).Nodup := by
    rw [List.map_map]
    refine nodup_map_inj (fun i hi j hj e => ?_) hs
    simp only [Function.comp, hg i (hlt i hi), hg j (hlt j hj)] at e
    refine nodup_get_inj hn (i := i) (j := j) (by simpa using hlt i hi) (by simpa using hlt j hj) ?_
    simpa using e
  exact kerF_perm (fun e he => h0 e ((hmem e).1 he)) hn' hn hmem
theorem kerS_snoc {p : Int} {red : List (List Int)} {free : Int} {es : List (Int × Int)} {v : List Int} {seen : List Nat} {i : Nat} (hi : i < es.length) :
    kerS p red free es v (seen ++ [i]) = kerPut p red free (kerS p red free es v seen) es[i] := by
  unfold kerS
  rw [List.map_append, List.foldl_append]
  simp [hi]
theorem kerS_len {p : Int} {red : List (List Int)} {free : Int} {es : List (Int × Int)} {v : List Int} {seen : List Nat} : (kerS p red free es v seen).length = v.length := kerF_len ..
theorem kerOk_some {p : Int} {red : List (List Int)} {free : Int} {n : Nat} {e : Int × Int} (h : kerOk p red free n e = true) : ∃ r x y, idx red e.2 = some r ∧ idx r free = some x ∧ i_field_num p (w64 (0 - x)) = some y ∧ kerV p red free e = some y ∧ 0 ≤ e.1 ∧ e.1.toNat < n := by
  unfold kerOk at h
  split at h
  · rename_i y hy
    simp only [Bool.and_eq_true, decide_eq_true_eq] at h
    have hy' := hy
    unfold kerV at hy'
    obtain ⟨r, h1, hy'⟩ := bind_some hy'
    obtain ⟨x, h2, hy'⟩ := bind_some hy'
    exact ⟨r, x, y, h1, h2, hy', hy, h.1, h.2⟩
  · cases h
def i_field_kernel_L0 (red : List (List Int)) (s : List (Int × Int) × Int) : Option ((List (Int × Int) × Int) ⊕ List (Int × Int)) :=
  (if s.2 < (red.length : Int) then
    (idx red s.2).bind fun v28 =>
    (i_lead v28).bind fun v31 =>
    (chk (hasK s.1 v31 = false)).bind fun _ =>
    some (.inl (s.1 ++ [(v31, s.2)], w64 (s.2 + 1)))
  else
    some (.inr s.1))
def i_field_kernel_L1 (a0 : Int) (a2 : Int) (red : List (List Int)) (es : List (Int × Int)) (s : List (List Int) × Int) : Option ((List (List Int) × Int) ⊕ List (List Int)) :=
  (if s.2 < a2 then
    ((if hasK es s.2 = true then
      some s.1
    else
      (chk (0 ≤ a2 ∧ a2 ≤ 1099511627776)).bind fun _ =>
      (some (List.replicate a2.toNat (0 : Int))).bind fun l =>
      (idx l s.2).bind fun v50 =>
      (chk (es.all (kerOk a0 red s.2 l.length) = true)).bind fun _ =>
      (some (es.foldl (kerPut a0 red s.2) (l.set s.2.toNat 1))).bind fun vf =>
      (chk (s.1.length + [vf].length ≤ 1099511627776)).bind fun _ =>
      some (s.1 ++ [vf])) : Option (List (List Int))).bind fun x =>
    some (.inl (x, w64 (s.2 + 1)))
  else
    some (.inr s.1))
def i_field_kernel (a0 : Int) (a1 : List (List Int)) (a2 : Int) : Option (List (List Int)) :=
  (i_field_basis a0 a1).bind fun v20 =>
  (loop (i_field_kernel_L0 v20) BIG ([], 0)).bind fun es =>
  (chk ((es.map (·.1)).Nodup)).bind fun _ =>
  (loop (i_field_kernel_L1 a0 a2 v20 es) BIG ([], 0)).bind fun out =>
  (i_field_basis a0 out).bind fun v78 =>
  some v78

def i_Doubling_derivations_L2 (v1 : Int) (v2 : Int) (v3 : List (List Int)) (s5 : (List (List Int)) × Int) (s11 : (List (List Int)) × Int) (s16 : (List (List Int)) × Int) : Option (((List (List Int)) × Int) ⊕ (List (List Int))) :=
  (if s16.2 < v1 then
    (chk (0 ≤ (w64 (v1 * v1)) ∧ (w64 (v1 * v1)) ≤ 1099511627776)).bind fun _ =>
    (some (List.replicate (w64 (v1 * v1)).toNat 0)).bind fun l22 =>
    (idx l22 (w64 ((w64 (s16.2 * v1)) + (bxor .i64 s5.2 s11.2)))).bind fun v23 =>
    (idx v3 s5.2).bind fun v24 =>
    (idx v24 s11.2).bind fun v25 =>
    (i_field_num v2 (w64 (v23 + v25))).bind fun v26 =>
    (some (l22.set (w64 ((w64 (s16.2 * v1)) + (bxor .i64 s5.2 s11.2))).toNat v26)).bind fun l27 =>
    (idx l27 (w64 ((w64 ((bxor .i64 s16.2 s11.2) * v1)) + s5.2))).bind fun v28 =>
    (idx v3 (bxor .i64 s16.2 s11.2)).bind fun v29 =>
    (idx v29 s11.2).bind fun v30 =>
    (i_field_num v2 (w64 (v28 - v30))).bind fun v31 =>
    (some (l27.set (w64 ((w64 ((bxor .i64 s16.2 s11.2) * v1)) + s5.2)).toNat v31)).bind fun l32 =>
    (idx l32 (w64 ((w64 ((bxor .i64 s16.2 s5.2) * v1)) + s11.2))).bind fun v33 =>
    (idx v24 (bxor .i64 s16.2 s5.2)).bind fun v34 =>
    (i_field_num v2 (w64 (v33 - v34))).bind fun v35 =>
    (chk (s16.1.length + [l32.set (w64 ((w64 ((bxor .i64 s16.2 s5.2) * v1)) + s11.2)).toNat v35].length ≤ 1099511627776)).bind fun _ =>
    some (.inl (s16.1 ++ [l32.set (w64 ((w64 ((bxor .i64 s16.2 s5.2) * v1)) + s11.2)).toNat v35], w64 (s16.2 + 1)))
  else
    some (.inr s16.1))
def i_Doubling_derivations_L1 (v1 : Int) (v2 : Int) (v3 : List (List Int)) (s5 : (List (List Int)) × Int) (s11 : (List (List Int)) × Int) : Option (((List (List Int)) × Int) ⊕ (List (List Int))) :=
  (if s11.2 < v1 then
    (loop (i_Doubling_derivations_L2 v1 v2 v3 s5 s11) BIG (s11.1, 0)).bind fun x16 =>
    some (.inl (x16, w64 (s11.2 + 1)))
  else
    some (.inr s11.1))
def i_Doubling_derivations_L0 (v1 : Int) (v2 : Int) (v3 : List (List Int)) (s5 : (List (List Int)) × Int) : Option (((List (List Int)) × Int) ⊕ (List (List Int))) :=
  (if s5.2 < v1 then
    (loop (i_Doubling_derivations_L1 v1 v2 v3 s5) BIG (s5.1, 0)).bind fun x11 =>
    (i_field_basis v2 x11).bind fun v37 =>
    some (.inl (v37, w64 (s5.2 + 1)))
  else
    some (.inr s5.1))
def i_Doubling_derivations (a0_0 : Int) (a0_1 : List Int) : Option (List (List Int)) :=
  (i_Doubling_size a0_0 a0_1).bind fun v1 =>
  (i_Doubling_field a0_0 a0_1).bind fun v2 =>
  (i_Doubling_products a0_0 a0_1).bind fun v3 =>
  (loop (i_Doubling_derivations_L0 v1 v2 v3) BIG ([], 0)).bind fun x5 =>
  (i_field_kernel v2 x5 (w64 (v1 * v1))).bind fun v38 =>
  some v38

def i_rowsIn_L0 (a0 : List Int) (a1 : Int) (s2 : (List (List Int)) × Int) : Option (((List (List Int)) × Int) ⊕ (List (List Int))) :=
  (if s2.2 < (a0.length : Int) then
    (chk (0 ≤ s2.2 ∧ s2.2 ≤ (w64 (s2.2 + a1)) ∧ (w64 (s2.2 + a1)) ≤ (a0.length : Int))).bind fun _ =>
    (g_slices_Clone_LI_I ((a0.take (w64 (s2.2 + a1)).toNat).drop s2.2.toNat)).bind fun v8 =>
    (chk (s2.1.length + [v8].length ≤ 1099511627776)).bind fun _ =>
    some (.inl (s2.1 ++ [v8], w64 (s2.2 + a1)))
  else
    some (.inr s2.1))
def i_rowsIn (a0 : List Int) (a1 : Int) : Option (List (List Int)) :=
  (loop (i_rowsIn_L0 a0 a1) BIG ([], 0)).bind fun x2 =>
  some x2

def i_FixingDimension_L0 (a0_0 : Int) (a0_1 : List Int) (a1 : List Int) (v4 : List (List Int)) (s6 : (List (List Int)) × Int) : Option (((List (List Int)) × Int) ⊕ (List (List Int))) :=
  (if s6.2 < (v4.length : Int) then
    (idx v4 s6.2).bind fun v11 =>
    (i_Doubling_field a0_0 a0_1).bind fun v12 =>
    (i_Doubling_size a0_0 a0_1).bind fun v13 =>
    (i_rowsIn v11 v13).bind fun v14 =>
    (i_field_apply v12 v14 a1).bind fun v15 =>
    (chk (s6.1.length + [v15].length ≤ 1099511627776)).bind fun _ =>
    some (.inl (s6.1 ++ [v15], w64 (s6.2 + 1)))
  else
    some (.inr s6.1))
def i_FixingDimension (a0_0 : Int) (a0_1 : List Int) (a1 : List Int) : Option (Int × Int) :=
  (i_checkThree a0_0 a0_1 [a1] ([] : List (List (List Int)))).bind fun v2 =>
  (if ¬ v2 = 0 then
    some (0, v2)
  else
    (i_Doubling_derivations a0_0 a0_1).bind fun v4 =>
    (loop (i_FixingDimension_L0 a0_0 a0_1 a1 v4) BIG ([], 0)).bind fun x6 =>
    (i_Doubling_field a0_0 a0_1).bind fun v17 =>
    (i_field_basis v17 x6).bind fun v18 =>
    some (w64 ((v4.length : Int) - (v18.length : Int)), 0))

def i_DerivationDimension (a0_0 : Int) (a0_1 : List Int) : Option (Int × Int) :=
  (i_checkThree a0_0 a0_1 ([] : List (List Int)) ([] : List (List (List Int)))).bind fun v2 =>
  (if ¬ v2 = 0 then
    some (0, v2)
  else
    (i_Doubling_derivations a0_0 a0_1).bind fun v4 =>
    (i_length_LI v4).bind fun v5 =>
    some (v5, 0))

end Go.Vam

namespace Go.Vam
open Go Go.RowKit
set_option maxRecDepth 100000
set_option linter.unusedSimpArgs false
set_option linter.unusedVariables false

def s_l01From_L0 (a0 : List Int) (s2 : (List Int) × Int × Int × Int) : Option (((List Int) × Int × Int × Int) ⊕ ((List Int) × Int × Int)) :=
  ((if s2.2.2.2 < (a0.length : Int) then
    some (ilt s2.2.2.2 4096)
  else
    some false) : Option Bool).bind fun x6 =>
  (if x6 = true then
    (idx a0 s2.2.2.2).bind fun v9 =>
    some (.inl (s2.1, s2.2.1, IntKind.u64.wrap ((IntKind.u64.wrap ((IntKind.u64.wrap (s2.2.2.1 * 1099511628211)) + (IntKind.u64.wrap (v9)))) + 11), w64 (s2.2.2.2 + 1)))
  else
    some (.inr (s2.1, s2.2.1, s2.2.2.1)))
def s_l01From (a0 : List Int) : Option ((List Int) × Int × Int) :=
  (loop (s_l01From_L0 a0) BIG (a0, 0, IntKind.u64.wrap (4409 + (IntKind.u64.wrap ((a0.length : Int)))), 0)).bind fun x2 =>
  some (x2.1, x2.2.1, x2.2.2)

def s_l01Next (a0_0 : List Int) (a0_1 : Int) (a0_2 : Int) (a1 : Int) : Option (Int × ((List Int) × Int × Int)) :=
  (if a1 < 1 then
    some (0, (a0_0, a0_1, a0_2))
  else
    ((if a0_1 < (a0_0.length : Int) then
      (idx a0_0 a0_1).bind fun v7 =>
      some (a0_0, w64 (a0_1 + 1), IntKind.u64.wrap ((IntKind.u64.wrap (a0_2 * 6364136223846793005)) + 1442695040888963407), w64 ((w64 (band .u64 (shr .u64 (IntKind.u64.wrap ((IntKind.u64.wrap (a0_2 * 6364136223846793005)) + 1442695040888963407)) 33) 16777215)) + (w64 (v7))))
    else
      some (a0_0, a0_1, IntKind.u64.wrap ((IntKind.u64.wrap (a0_2 * 6364136223846793005)) + 1442695040888963407), w64 (band .u64 (shr .u64 (IntKind.u64.wrap ((IntKind.u64.wrap (a0_2 * 6364136223846793005)) + 1442695040888963407)) 33) 16777215))) : Option ((List Int) × Int × Int × Int)).bind fun x4 =>
    (chk (¬ a1 = 0)).bind fun _ =>
    some (x4.2.2.2.tmod a1, (x4.1, x4.2.1, x4.2.2.1)))

def s_l01Pick (a0_0 : List Int) (a0_1 : Int) (a0_2 : Int) (a1 : List Int) : Option (Int × ((List Int) × Int × Int)) :=
  (s_l01Next a0_0 a0_1 a0_2 (a1.length : Int)).bind fun v1 =>
  (idx a1 v1.1).bind fun v2 =>
  some (v2, (v1.2.1, v1.2.2.1, v1.2.2.2))

end Go.Vam

namespace Go.Vam
open Go Go.RowKit
set_option maxRecDepth 100000
set_option linter.unusedSimpArgs false
set_option linter.unusedVariables false

end Go.Vam

namespace Go.Vam
open Go Go.RowKit
set_option maxRecDepth 100000
set_option linter.unusedSimpArgs false
set_option linter.unusedVariables false



end Go.Vam

namespace Go.Vam
open Go Go.RowKit
set_option maxRecDepth 100000
set_option linter.unusedSimpArgs false
set_option linter.unusedVariables false

def s_l11Draw_L0 (s4 : (List Int) × Int × Int × Int × (List Int) × Int) : Option (((List Int) × Int × Int × Int × (List Int) × Int) ⊕ ((List Int) × Int × Int × Int × (List Int))) :=
  (if 0 < s4.2.2.2.2.2 then
    ((s_l01Next s4.1 s4.2.1 s4.2.2.1 2).bind fun v10 =>
    (if v10.1 = 0 then
      (chk (s4.2.2.2.2.1.length + [w64 (s4.2.2.2.1 - 1)].length ≤ 1099511627776)).bind fun _ =>
      some (v10.2.1, v10.2.2.1, v10.2.2.2, s4.2.2.2.1, s4.2.2.2.2.1 ++ [w64 (s4.2.2.2.1 - 1)])
    else
      (s_l01Next v10.2.1 v10.2.2.1 v10.2.2.2 (w64 (s4.2.2.2.1 - 1))).bind fun v13 =>
      (chk (s4.2.2.2.2.1.length + [w64 (1 + v13.1)].length ≤ 1099511627776)).bind fun _ =>
      some (v13.2.1, v13.2.2.1, v13.2.2.2, s4.2.2.2.1, s4.2.2.2.2.1 ++ [w64 (1 + v13.1)])) : Option ((List Int) × Int × Int × Int × (List Int))).bind fun x8 =>
    some (.inl (x8.1, x8.2.1, x8.2.2.1, x8.2.2.2.1, x8.2.2.2.2, w64 (s4.2.2.2.2.2 - 1)))
  else
    some (.inr (s4.1, s4.2.1, s4.2.2.1, s4.2.2.2.1, s4.2.2.2.2.1)))
def s_l11Draw (a0_0 : List Int) (a0_1 : Int) (a0_2 : Int) (a1 : Int) : Option ((Int × (List Int)) × ((List Int) × Int × Int)) :=
  (s_l01Pick a0_0 a0_1 a0_2 [3, 5, 7, 11, 13]).bind fun v1 =>
  (s_l01Pick v1.2.1 v1.2.2.1 v1.2.2.2 [0, 1, 2, 2, 3, 3, 3, 4]).bind fun v3 =>
  (loop s_l11Draw_L0 BIG (v3.2.1, v3.2.2.1, v3.2.2.2, v1.1, [], imin a1 v3.1)).bind fun x4 =>
  some ((x4.2.2.2.1, x4.2.2.2.2), (x4.1, x4.2.1, x4.2.2.1))

def s_l11DrawAny_L0 (s12 : Int × (List Int)) : Option ((Int × (List Int)) ⊕ (Int × (List Int))) :=
  (if (s12.2.length : Int) < 5 then
    (chk (s12.2.length + [1].length ≤ 1099511627776)).bind fun _ =>
    some (.inl (s12.1, s12.2 ++ [1]))
  else
    some (.inr (s12.1, s12.2)))
def s_l11DrawAny (a0_0 : List Int) (a0_1 : Int) (a0_2 : Int) (a1 : Int) : Option ((Int × (List Int)) × ((List Int) × Int × Int)) :=
  (s_l11Draw a0_0 a0_1 a0_2 a1).bind fun v1 =>
  (s_l01Next v1.2.1 v1.2.2.1 v1.2.2.2 30).bind fun v3 =>
  ((if v3.1 = 0 then
    (s_l01Pick v3.2.1 v3.2.2.1 v3.2.2.2 [2, 9, 17, 0]).bind fun v7 =>
    some (v7.2.1, v7.2.2.1, v7.2.2.2, v7.1, v1.1.2)
  else
    (if v3.1 = 1 then
      (s_l01Pick v3.2.1 v3.2.2.1 v3.2.2.2 [0, v1.1.1]).bind fun v9 =>
      (chk (v1.1.2.length + [v9.1].length ≤ 1099511627776)).bind fun _ =>
      some (v9.2.1, v9.2.2.1, v9.2.2.2, v1.1.1, v1.1.2 ++ [v9.1])
    else
      (if v3.1 = 2 then
        (loop s_l11DrawAny_L0 BIG (v1.1.1, v1.1.2)).bind fun x12 =>
        some (v3.2.1, v3.2.2.1, v3.2.2.2, x12.1, x12.2)
      else
        some (v3.2.1, v3.2.2.1, v3.2.2.2, v1.1.1, v1.1.2)))) : Option ((List Int) × Int × Int × Int × (List Int))).bind fun x4 =>
  some ((x4.2.2.2.1, x4.2.2.2.2), (x4.1, x4.2.1, x4.2.2.1))

def s_l11DrawElement_L0 (a1_0 : Int) (a1_1 : List Int) (v1 : Int × ((List Int) × Int × Int)) (s3 : (List Int) × Int × Int × (List Int) × Int) : Option (((List Int) × Int × Int × (List Int) × Int) ⊕ ((List Int) × Int × Int × (List Int))) :=
  (chk (0 ≤ (IntKind.u64.wrap (imin 4 (a1_1.length : Int))))).bind fun _ =>
  (if s3.2.2.2.2 < (shl .i64 1 (IntKind.u64.wrap (imin 4 (a1_1.length : Int)))) then
    (s_l01Next s3.1 s3.2.1 s3.2.2.1 (imax 1 a1_0)).bind fun v9 =>
    ((if v1.1 = 0 then
      (s_l01Next v9.2.1 v9.2.2.1 v9.2.2.2 3).bind fun v12 =>
      some (v12.2.1, v12.2.2.1, v12.2.2.2, ilt 0 v12.1)
    else
      some (v9.2.1, v9.2.2.1, v9.2.2.2, false)) : Option ((List Int) × Int × Int × Bool)).bind fun x13 =>
    ((if x13.2.2.2 = true then
      some 0
    else
      some v9.1) : Option Int).bind fun x14 =>
    (chk (s3.2.2.2.1.length + [x14].length ≤ 1099511627776)).bind fun _ =>
    some (.inl (x13.1, x13.2.1, x13.2.2.1, s3.2.2.2.1 ++ [x14], w64 (s3.2.2.2.2 + 1)))
  else
    some (.inr (s3.1, s3.2.1, s3.2.2.1, s3.2.2.2.1)))
def s_l11DrawElement (a0_0 : List Int) (a0_1 : Int) (a0_2 : Int) (a1_0 : Int) (a1_1 : List Int) : Option ((List Int) × ((List Int) × Int × Int)) :=
  (s_l01Next a0_0 a0_1 a0_2 4).bind fun v1 =>
  (loop (s_l11DrawElement_L0 a1_0 a1_1 v1) BIG (v1.2.1, v1.2.2.1, v1.2.2.2, [], 0)).bind fun x3 =>
  (s_l01Next x3.1 x3.2.1 x3.2.2.1 60).bind fun v19 =>
  ((if v19.1 = 0 then
    (s_l01Pick v19.2.1 v19.2.2.1 v19.2.2.2 [-1, a1_0]).bind fun v23 =>
    (idx x3.2.2.2 0).bind fun v24 =>
    some (v23.2.1, v23.2.2.1, v23.2.2.2, x3.2.2.2.set 0 v23.1)
  else
    (if v19.1 = 1 then
      (chk (1 ≤ (x3.2.2.2.length : Int))).bind fun _ =>
      some (v19.2.1, v19.2.2.1, v19.2.2.2, x3.2.2.2.drop 1)
    else
      some (v19.2.1, v19.2.2.1, v19.2.2.2, x3.2.2.2))) : Option ((List Int) × Int × Int × (List Int))).bind fun x20 =>
  some (x20.2.2.2, (x20.1, x20.2.1, x20.2.2.1))

def s_DrawDoubleConjugate (a0 : List Int) : Option ((Int × (List Int)) × (List Int)) :=
  (s_l01From a0).bind fun v1 =>
  (s_l11DrawAny v1.1 v1.2.1 v1.2.2 4).bind fun v2 =>
  (s_l11DrawElement v2.2.1 v2.2.2.1 v2.2.2.2 v2.1.1 v2.1.2).bind fun v3 =>
  some ((v2.1.1, v2.1.2), v3.1)

end Go.Vam

namespace Go.Vam
open Go Go.RowKit
set_option maxRecDepth 100000
set_option linter.unusedSimpArgs false
set_option linter.unusedVariables false

end Go.Vam

namespace Go.Vam
open Go Go.RowKit
set_option maxRecDepth 100000
set_option linter.unusedSimpArgs false
set_option linter.unusedVariables false

end Go.Vam

namespace Go.Vam
open Go Go.RowKit
set_option maxRecDepth 100000
set_option linter.unusedSimpArgs false
set_option linter.unusedVariables false

end Go.Vam

namespace Go.Vam
open Go Go.RowKit
set_option maxRecDepth 100000
set_option linter.unusedSimpArgs false
set_option linter.unusedVariables false

end Go.Vam

namespace Go.Vam
open Go Go.RowKit
set_option maxRecDepth 100000
set_option linter.unusedSimpArgs false
set_option linter.unusedVariables false

end Go.Vam

namespace Go.Vam
open Go Go.RowKit
set_option maxRecDepth 100000
set_option linter.unusedSimpArgs false
set_option linter.unusedVariables false

end Go.Vam

namespace Go.Vam
open Go Go.RowKit
set_option maxRecDepth 100000
set_option linter.unusedSimpArgs false
set_option linter.unusedVariables false

end Go.Vam

namespace Go.Vam
open Go Go.RowKit
set_option maxRecDepth 100000
set_option linter.unusedSimpArgs false
set_option linter.unusedVariables false

def i_DoubleUnit (a0_0 : Int) (a0_1 : List Int) : Option ((List Int) × Int) :=
  (i_IsDoubling a0_0 a0_1).bind fun v2 =>
  (if v2 = false then
    some (([] : List Int), 1)
  else
    (i_Doubling_element a0_0 a0_1 0).bind fun v4 =>
    some (v4, 0))

def i_DoubleNorm (a0_0 : Int) (a0_1 : List Int) (a1 : List Int) : Option (Int × Int) :=
  (i_checkElements a0_0 a0_1 [a1]).bind fun v2 =>
  (if ¬ v2 = 0 then
    some (0, v2)
  else
    (i_Doubling_norm a0_0 a0_1 a1).bind fun v4 =>
    some (v4, 0))

end Go.Vam

namespace Go.Vam
open Go Go.RowKit
set_option maxRecDepth 100000
set_option linter.unusedSimpArgs false
set_option linter.unusedVariables false

def s_DrawFixingDimension (a0 : List Int) : Option ((Int × (List Int)) × (List Int)) :=
  (s_DrawDoubleConjugate a0).bind fun v1 =>
  some ((v1.1.1, v1.1.2), v1.2)

end Go.Vam

namespace Go.Vam
open Go Go.RowKit
set_option maxRecDepth 100000
set_option linter.unusedSimpArgs false
set_option linter.unusedVariables false

end Go.Vam

namespace Go.Vam
open Go Go.RowKit
set_option maxRecDepth 100000
set_option linter.unusedSimpArgs false
set_option linter.unusedVariables false

def l_FnFixingDerivations (a0 : List Int) : Option Bool :=
  (l_big a0).bind fun v2 =>
  (if v2 = true then
    some true
  else
    (s_DrawFixingDimension a0).bind fun v4 =>
    (i_FixingDimension v4.1.1 v4.1.2 v4.2).bind fun v5 =>
    (s_FixingDimension v4.1.1 v4.1.2 v4.2).bind fun v7 =>
    ((if ¬ v5.2 = v7.2 then
      some true
    else
      some (!(ieq v5.1 v7.1))) : Option Bool).bind fun x9 =>
    (if x9 = true then
      some false
    else
      (if ¬ v5.2 = 0 then
        some (ieq v5.1 0)
      else
        (i_DerivationDimension v4.1.1 v4.1.2).bind fun v13 =>
        (i_DoubleUnit v4.1.1 v4.1.2).bind fun v14 =>
        (i_FixingDimension v4.1.1 v4.1.2 v14.1).bind fun v15 =>
        (chk (1 ≤ (v4.2.length : Int))).bind fun _ =>
        (chk ([0].length + (v4.2.drop 1).length ≤ 1099511627776)).bind fun _ =>
        (i_DoubleNorm v4.1.1 v4.1.2 ([0] ++ (v4.2.drop 1))).bind fun v18 =>
        ((if ¬ v13.2 = 0 then
          some true
        else
          (if ¬ v14.2 = 0 then
            some true
          else
            (if ¬ v15.2 = 0 then
              some true
            else
              (if ¬ v18.2 = 0 then
                some true
              else
                (if v13.1 < v5.1 then
                  some true
                else
                  some (!(ieq v15.1 v13.1))))))) : Option Bool).bind fun x25 =>
        (if x25 = true then
          some false
        else
          ((if ¬ (v4.1.2.length : Int) = 3 then
            some true
          else
            (if v4.1.1 = 3 then
              some true
            else
              (if v18.1 = 0 then
                some true
              else
                some (ieq v5.1 8)))) : Option Bool).bind fun x30 =>
          some x30))))

end Go.Vam
