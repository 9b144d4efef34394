import Derived.Test.YtomgbldkoehplaaVamT
namespace Go.Vam
open Go Go.RowKit
set_option maxRecDepth 100000
set_option linter.unusedSimpArgs false
set_option linter.unusedVariables false

def l_szInt64S (a0 : List Int) (a1 : Int) : Option Int :=
  (if (w64 (a1 - (a0.length : Int))) < 0 then
    some (-1)
  else
    some (w64 (a1 - (a0.length : Int))))

def l_szInt64SS_L0 (a0 : List (List Int)) (s4 : Int × Int) : Option ((Int × Int) ⊕ (Int ⊕ Int)) :=
  (if s4.2 < (a0.length : Int) then
    (idx a0 s4.2).bind fun v10 =>
    (l_szInt64S v10 s4.1).bind fun v11 =>
    (if v11 < 0 then
      some (.inr (.inr (-1)))
    else
      some (.inl (v11, w64 (s4.2 + 1))))
  else
    some (.inr (.inl s4.1)))
def l_szInt64SS (a0 : List (List Int)) (a1 : Int) : Option Int :=
  (if (w64 (a1 - (a0.length : Int))) < 0 then
    some (-1)
  else
    (loop (l_szInt64SS_L0 a0) BIG (w64 (a1 - (a0.length : Int)), 0)).bind fun x4 =>
    (match x4 with
    | .inl y6 =>
      some y6
    | .inr t => some t))

def l_toInt64S_L0 (a0 : List Int) (s3 : (List Int) × Int) : Option (((List Int) × Int) ⊕ (List Int)) :=
  (if s3.2 < (a0.length : Int) then
    (idx a0 s3.2).bind fun v8 =>
    (idx s3.1 s3.2).bind fun v9 =>
    some (.inl (s3.1.set s3.2.toNat v8, w64 (s3.2 + 1)))
  else
    some (.inr s3.1))
def l_toInt64S (a0 : List Int) : Option (List Int) :=
  (chk (0 ≤ (a0.length : Int) ∧ (a0.length : Int) ≤ 1099511627776)).bind fun _ =>
  (loop (l_toInt64S_L0 a0) BIG (List.replicate (a0.length : Int).toNat 0, 0)).bind fun x3 =>
  some x3

def l_toInt64SS_L0 (a0 : List (List Int)) (s3 : (List (List Int)) × Int) : Option (((List (List Int)) × Int) ⊕ (List (List Int))) :=
  (if s3.2 < (a0.length : Int) then
    (idx a0 s3.2).bind fun v8 =>
    (l_toInt64S v8).bind fun v9 =>
    (idx s3.1 s3.2).bind fun v10 =>
    some (.inl (s3.1.set s3.2.toNat v9, w64 (s3.2 + 1)))
  else
    some (.inr s3.1))
def l_toInt64SS (a0 : List (List Int)) : Option (List (List Int)) :=
  (chk (0 ≤ (a0.length : Int) ∧ (a0.length : Int) ≤ 1099511627776)).bind fun _ =>
  (loop (l_toInt64SS_L0 a0) BIG (List.replicate (a0.length : Int).toNat [], 0)).bind fun x3 =>
  some x3

def s_l01Prime (a0 : Int) : Option Bool :=
  ((if a0 = 3 then
    some true
  else
    (if a0 = 5 then
      some true
    else
      (if a0 = 7 then
        some true
      else
        (if a0 = 11 then
          some true
        else
          some (ieq a0 13))))) : Option Bool).bind fun x5 =>
  some x5

def s_l01In (a0 : Int) (a1 : Int) (a2 : Int) : Option Bool :=
  ((if a1 ≤ a0 then
    some (ile a0 a2)
  else
    some false) : Option Bool).bind fun x2 =>
  some x2

def i_IsPrime (a0 : Int) : Option Bool :=
  ((if a0 = 3 then
    some (ieq a0 3)
  else
    (if a0 = 5 then
      some (ieq a0 5)
    else
      (if a0 = 7 then
        some (ieq a0 7)
      else
        (if a0 = 11 then
          some (ieq a0 11)
        else
          some (ieq a0 13))))) : Option Bool).bind fun x3 =>
  (if x3 = true then
    some true
  else
    some false)

def i_inRange (a0 : Int) (a1 : Int) (a2 : Int) : Option Bool :=
  ((if a1 ≤ a0 then
    some (ile a0 a2)
  else
    some false) : Option Bool).bind fun x2 =>
  some x2

def i_field_is_L0 (a0 : Int) (a1 : List Int) (s2 : Int) : Option (Int ⊕ (Unit ⊕ Bool)) :=
  (if s2 < (a1.length : Int) then
    (idx a1 s2).bind fun v8 =>
    (i_inRange v8 0 (w64 (a0 - 1))).bind fun v9 =>
    (if v9 = false then
      some (.inr (.inr false))
    else
      some (.inl (w64 (s2 + 1))))
  else
    some (.inr (.inl ())))
def i_field_is (a0 : Int) (a1 : List Int) : Option Bool :=
  (loop (i_field_is_L0 a0 a1) BIG 0).bind fun x2 =>
  (match x2 with
  | .inl y4 =>
    some true
  | .inr t => some t)

def i_field_isTable_L0 (a0 : Int) (a1 : List (List Int)) (s4 : Int) : Option (Int ⊕ (Unit ⊕ Bool)) :=
  (if s4 < (a1.length : Int) then
    (idx a1 s4).bind fun v10 =>
    ((idx a1 0).bind fun v11 =>
    (if ¬ (v10.length : Int) = (v11.length : Int) then
      some true
    else
      (if (v10.length : Int) < 1 then
        some true
      else
        (if 16 < (v10.length : Int) then
          some true
        else
          (i_field_is a0 v10).bind fun v15 =>
          some (!v15)))) : Option Bool).bind fun x16 =>
    (if x16 = true then
      some (.inr (.inr false))
    else
      some (.inl (w64 (s4 + 1))))
  else
    some (.inr (.inl ())))
def i_field_isTable (a0 : Int) (a1 : List (List Int)) : Option Bool :=
  (if 16 < (a1.length : Int) then
    some false
  else
    (loop (i_field_isTable_L0 a0 a1) BIG 0).bind fun x4 =>
    (match x4 with
    | .inl y6 =>
      some true
    | .inr t => some t))

def i_field_isMatrix (a0 : Int) (a1 : List (List Int)) : Option Bool :=
  ((if 0 < (a1.length : Int) then
    (i_field_isTable a0 a1).bind fun v2 =>
    some v2
  else
    some false) : Option Bool).bind fun x3 =>
  some x3

def l_eqInt64S_L0 (a0 : List Int) (a1 : List Int) (s4 : Int) : Option (Int ⊕ (Unit ⊕ Bool)) :=
  (if s4 < (a0.length : Int) then
    (idx a0 s4).bind fun v10 =>
    (idx a1 s4).bind fun v11 =>
    (if ¬ v10 = v11 then
      some (.inr (.inr false))
    else
      some (.inl (w64 (s4 + 1))))
  else
    some (.inr (.inl ())))
def l_eqInt64S (a0 : List Int) (a1 : List Int) : Option Bool :=
  (if ¬ (a0.length : Int) = (a1.length : Int) then
    some false
  else
    (loop (l_eqInt64S_L0 a0 a1) BIG 0).bind fun x4 =>
    (match x4 with
    | .inl y6 =>
      some true
    | .inr t => some t))

def l_eqInt64SS_L0 (a0 : List (List Int)) (a1 : List (List Int)) (s4 : Int) : Option (Int ⊕ (Unit ⊕ Bool)) :=
  (if s4 < (a0.length : Int) then
    (idx a0 s4).bind fun v10 =>
    (idx a1 s4).bind fun v11 =>
    (l_eqInt64S v10 v11).bind fun v12 =>
    (if v12 = false then
      some (.inr (.inr false))
    else
      some (.inl (w64 (s4 + 1))))
  else
    some (.inr (.inl ())))
def l_eqInt64SS (a0 : List (List Int)) (a1 : List (List Int)) : Option Bool :=
  (if ¬ (a0.length : Int) = (a1.length : Int) then
    some false
  else
    (loop (l_eqInt64SS_L0 a0 a1) BIG 0).bind fun x4 =>
    (match x4 with
    | .inl y6 =>
      some true
    | .inr t => some t))

def i_field_num (a0 : Int) (a1 : Int) : Option Int :=
  (chk (¬ a0 = 0)).bind fun _ =>
  (chk (¬ a0 = 0)).bind fun _ =>
  some ((w64 ((a1.tmod a0) + a0)).tmod a0)

def i_transpose_L1 (a0 : List (List Int)) (s3 : (List (List Int)) × Int) (s9 : (List Int) × Int) : Option (((List Int) × Int) ⊕ (List Int)) :=
  (if s9.2 < (a0.length : Int) then
    (idx a0 s9.2).bind fun v14 =>
    (idx v14 s3.2).bind fun v15 =>
    (chk (s9.1.length + [v15].length ≤ 1099511627776)).bind fun _ =>
    some (.inl (s9.1 ++ [v15], w64 (s9.2 + 1)))
  else
    some (.inr s9.1))
def i_transpose_L0 (a0 : List (List Int)) (v2 : List Int) (s3 : (List (List Int)) × Int) : Option (((List (List Int)) × Int) ⊕ (List (List Int))) :=
  (if s3.2 < (v2.length : Int) then
    (loop (i_transpose_L1 a0 s3) BIG ([], 0)).bind fun x9 =>
    (chk (s3.1.length + [x9].length ≤ 1099511627776)).bind fun _ =>
    some (.inl (s3.1 ++ [x9], w64 (s3.2 + 1)))
  else
    some (.inr s3.1))
def i_transpose (a0 : List (List Int)) : Option (List (List Int)) :=
  (idx a0 0).bind fun v2 =>
  (loop (i_transpose_L0 a0 v2) BIG ([], 0)).bind fun x3 =>
  some x3

def l_markInt64S_L0 (s2 : (List Int) × Int × Int) : Option (((List Int) × Int × Int) ⊕ ((List Int) × Int)) :=
  (if s2.2.2 < (s2.1.length : Int) then
    (idx s2.1 s2.2.2).bind fun v7 =>
    some (.inl (s2.1.set s2.2.2.toNat s2.2.1, w64 (s2.2.1 + 1), w64 (s2.2.2 + 1)))
  else
    some (.inr (s2.1, s2.2.1)))
def l_markInt64S (a0 : List Int) (a1 : Int) : Option (Int × (List Int)) :=
  (loop l_markInt64S_L0 BIG (a0, a1, 0)).bind fun x2 =>
  some (x2.2, x2.1)

def l_markInt64SS_L0 (s2 : (List (List Int)) × Int × Int) : Option (((List (List Int)) × Int × Int) ⊕ ((List (List Int)) × Int)) :=
  (if s2.2.2 < (s2.1.length : Int) then
    (idx s2.1 s2.2.2).bind fun v7 =>
    (l_markInt64S v7 s2.2.1).bind fun v8 =>
    some (.inl (s2.1.set s2.2.2.toNat v8.2, v8.1, w64 (s2.2.2 + 1)))
  else
    some (.inr (s2.1, s2.2.1)))
def l_markInt64SS (a0 : List (List Int)) (a1 : Int) : Option (Int × (List (List Int))) :=
  (loop l_markInt64SS_L0 BIG (a0, a1, 0)).bind fun x2 =>
  some (x2.2, x2.1)

def l_heldInt64S_L0 (a0 : List Int) (s2 : Int × Int) : Option ((Int × Int) ⊕ (Int ⊕ Int)) :=
  (if s2.2 < (a0.length : Int) then
    (idx a0 s2.2).bind fun v9 =>
    (if ¬ v9 = s2.1 then
      some (.inr (.inr (-1)))
    else
      some (.inl (w64 (s2.1 + 1), w64 (s2.2 + 1))))
  else
    some (.inr (.inl s2.1)))
def l_heldInt64S (a0 : List Int) (a1 : Int) : Option Int :=
  (loop (l_heldInt64S_L0 a0) BIG (a1, 0)).bind fun x2 =>
  (match x2 with
  | .inl y4 =>
    some y4
  | .inr t => some t)

def l_heldInt64SS_L0 (a0 : List (List Int)) (s2 : Int × Int) : Option ((Int × Int) ⊕ (Int ⊕ Int)) :=
  (if s2.2 < (a0.length : Int) then
    (idx a0 s2.2).bind fun v8 =>
    (l_heldInt64S v8 s2.1).bind fun v9 =>
    (if v9 < 0 then
      some (.inr (.inr (-1)))
    else
      some (.inl (v9, w64 (s2.2 + 1))))
  else
    some (.inr (.inl s2.1)))
def l_heldInt64SS (a0 : List (List Int)) (a1 : Int) : Option Int :=
  (loop (l_heldInt64SS_L0 a0) BIG (a1, 0)).bind fun x2 =>
  (match x2 with
  | .inl y4 =>
    some y4
  | .inr t => some t)

def i_field_dot_L0 (a1 : List Int) (a2 : List Int) (s2 : Int × Int) : Option ((Int × Int) ⊕ Int) :=
  (if s2.2 < (a1.length : Int) then
    (idx a1 s2.2).bind fun v7 =>
    (idx a2 s2.2).bind fun v8 =>
    some (.inl (w64 (s2.1 + (w64 (v7 * v8))), w64 (s2.2 + 1)))
  else
    some (.inr s2.1))
def i_field_dot (a0 : Int) (a1 : List Int) (a2 : List Int) : Option Int :=
  (loop (i_field_dot_L0 a1 a2) BIG (0, 0)).bind fun x2 =>
  (i_field_num a0 x2).bind fun v9 =>
  some v9

def i_field_apply_L0 (a0 : Int) (a1 : List (List Int)) (a2 : List Int) (s2 : (List Int) × Int) : Option (((List Int) × Int) ⊕ (List Int)) :=
  (if s2.2 < (a1.length : Int) then
    (idx a1 s2.2).bind fun v7 =>
    (i_field_dot a0 v7 a2).bind fun v8 =>
    (chk (s2.1.length + [v8].length ≤ 1099511627776)).bind fun _ =>
    some (.inl (s2.1 ++ [v8], w64 (s2.2 + 1)))
  else
    some (.inr s2.1))
def i_field_apply (a0 : Int) (a1 : List (List Int)) (a2 : List Int) : Option (List Int) :=
  (loop (i_field_apply_L0 a0 a1 a2) BIG ([], 0)).bind fun x2 =>
  some x2

def s_l02Plus_L0 (a0 : Int) (a1 : List Int) (a2 : List Int) (a3 : Int) (s2 : (List Int) × Int) : Option (((List Int) × Int) ⊕ (List Int)) :=
  (if s2.2 < (a1.length : Int) then
    (idx a1 s2.2).bind fun v7 =>
    (idx a2 s2.2).bind fun v8 =>
    (chk (¬ a0 = 0)).bind fun _ =>
    (chk (s2.1.length + [(w64 (v7 + (w64 (a3 * v8)))).tmod a0].length ≤ 1099511627776)).bind fun _ =>
    some (.inl (s2.1 ++ [(w64 (v7 + (w64 (a3 * v8)))).tmod a0], w64 (s2.2 + 1)))
  else
    some (.inr s2.1))
def s_l02Plus (a0 : Int) (a1 : List Int) (a2 : List Int) (a3 : Int) : Option (List Int) :=
  (loop (s_l02Plus_L0 a0 a1 a2 a3) BIG ([], 0)).bind fun x2 =>
  some x2

def i_field_plus_L0 (a0 : Int) (a1 : List Int) (a2 : List Int) (a3 : Int) (s2 : (List Int) × Int) : Option (((List Int) × Int) ⊕ (List Int)) :=
  (if s2.2 < (a1.length : Int) then
    (idx a1 s2.2).bind fun v7 =>
    (idx a2 s2.2).bind fun v8 =>
    (i_field_num a0 (w64 (v7 + (w64 (a3 * v8))))).bind fun v9 =>
    (chk (s2.1.length + [v9].length ≤ 1099511627776)).bind fun _ =>
    some (.inl (s2.1 ++ [v9], w64 (s2.2 + 1)))
  else
    some (.inr s2.1))
def i_field_plus (a0 : Int) (a1 : List Int) (a2 : List Int) (a3 : Int) : Option (List Int) :=
  (loop (i_field_plus_L0 a0 a1 a2 a3) BIG ([], 0)).bind fun x2 =>
  some x2

def i_field_scaled_L0 (a0 : Int) (a1 : List Int) (a2 : Int) (s2 : (List Int) × Int) : Option (((List Int) × Int) ⊕ (List Int)) :=
  (if s2.2 < (a1.length : Int) then
    (idx a1 s2.2).bind fun v7 =>
    (i_field_num a0 (w64 (v7 * a2))).bind fun v8 =>
    (chk (s2.1.length + [v8].length ≤ 1099511627776)).bind fun _ =>
    some (.inl (s2.1 ++ [v8], w64 (s2.2 + 1)))
  else
    some (.inr s2.1))
def i_field_scaled (a0 : Int) (a1 : List Int) (a2 : Int) : Option (List Int) :=
  (loop (i_field_scaled_L0 a0 a1 a2) BIG ([], 0)).bind fun x2 =>
  some x2

def l_szDoubling (a0_0 : Int) (a0_1 : List Int) (a1 : Int) : Option Int :=
  (l_szInt64S a0_1 a1).bind fun v1 =>
  (if v1 < 0 then
    some (-1)
  else
    some v1)

def l_toDoubling (a0_0 : Int) (a0_1 : List Int) : Option (Int × (List Int)) :=
  (l_toInt64S a0_1).bind fun v1 =>
  some (a0_0, v1)

def s_l11Is_L0 (a0_0 : Int) (a0_1 : List Int) (s7 : Int) : Option (Int ⊕ (Unit ⊕ Bool)) :=
  (if s7 < (a0_1.length : Int) then
    (idx a0_1 s7).bind fun v13 =>
    (s_l01In v13 1 (w64 (a0_0 - 1))).bind fun v14 =>
    (if v14 = false then
      some (.inr (.inr false))
    else
      some (.inl (w64 (s7 + 1))))
  else
    some (.inr (.inl ())))
def s_l11Is (a0_0 : Int) (a0_1 : List Int) : Option Bool :=
  ((s_l01Prime a0_0).bind fun v2 =>
  (if v2 = false then
    some true
  else
    some (ilt 4 (a0_1.length : Int))) : Option Bool).bind fun x4 =>
  (if x4 = true then
    some false
  else
    (loop (s_l11Is_L0 a0_0 a0_1) BIG 0).bind fun x7 =>
    (match x7 with
    | .inl y9 =>
      some true
    | .inr t => some t))

def s_l14Code (a0_0 : Int) (a0_1 : List Int) : Option Int :=
  (s_l11Is a0_0 a0_1).bind fun v2 =>
  (if v2 = false then
    some 1
  else
    (if 3 < (a0_1.length : Int) then
      some 3
    else
      some 0))

def s_l11Size (a0_0 : Int) (a0_1 : List Int) : Option Int :=
  (chk (0 ≤ (IntKind.u64.wrap ((a0_1.length : Int))))).bind fun _ =>
  some (shl .i64 1 (IntKind.u64.wrap ((a0_1.length : Int))))

def s_l11Element_L0 (a0_0 : Int) (a1 : List Int) (s2 : Int) : Option (Int ⊕ (Unit ⊕ Bool)) :=
  (if s2 < (a1.length : Int) then
    (idx a1 s2).bind fun v8 =>
    (s_l01In v8 0 (w64 (a0_0 - 1))).bind fun v9 =>
    (if v9 = false then
      some (.inr (.inr false))
    else
      some (.inl (w64 (s2 + 1))))
  else
    some (.inr (.inl ())))
def s_l11Element (a0_0 : Int) (a0_1 : List Int) (a1 : List Int) : Option Bool :=
  (loop (s_l11Element_L0 a0_0 a1) BIG 0).bind fun x2 =>
  (match x2 with
  | .inl y4 =>
    (s_l11Size a0_0 a0_1).bind fun v11 =>
    some (ieq (a1.length : Int) v11)
  | .inr t => some t)

def s_l11Code_L0 (a0_0 : Int) (a0_1 : List Int) (a1 : List (List Int)) (s5 : Int) : Option (Int ⊕ (Unit ⊕ Int)) :=
  (if s5 < (a1.length : Int) then
    (idx a1 s5).bind fun v11 =>
    (s_l11Element a0_0 a0_1 v11).bind fun v12 =>
    (if v12 = false then
      some (.inr (.inr 2))
    else
      some (.inl (w64 (s5 + 1))))
  else
    some (.inr (.inl ())))
def s_l11Code (a0_0 : Int) (a0_1 : List Int) (a1 : List (List Int)) : Option Int :=
  (s_l11Is a0_0 a0_1).bind fun v2 =>
  (if v2 = false then
    some 1
  else
    (loop (s_l11Code_L0 a0_0 a0_1 a1) BIG 0).bind fun x5 =>
    (match x5 with
    | .inl y7 =>
      some 0
    | .inr t => some t))

def s_l14Elements (a0_0 : Int) (a0_1 : List Int) (a1 : List (List Int)) : Option Int :=
  (s_l14Code a0_0 a0_1).bind fun v2 =>
  (if ¬ v2 = 0 then
    some v2
  else
    (s_l11Code a0_0 a0_1 a1).bind fun v4 =>
    some v4)

def s_l11One (a0_0 : Int) (a0_1 : List Int) (a1 : Int) : Option (List Int) :=
  (s_l11Size a0_0 a0_1).bind fun v1 =>
  (chk (0 ≤ v1 ∧ v1 ≤ 1099511627776)).bind fun _ =>
  (some (List.replicate v1.toNat 0)).bind fun l3 =>
  (idx l3 a1).bind fun v4 =>
  some (l3.set a1.toNat 1)

def s_l01Mod (a0 : Int) (a1 : Int) : Option Int :=
  (chk (¬ a0 = 0)).bind fun _ =>
  (chk (¬ a0 = 0)).bind fun _ =>
  some ((w64 ((a1.tmod a0) + a0)).tmod a0)

def s_l11Scale_L0 (a0 : Int) (a1 : Int) (a2 : List Int) (s2 : (List Int) × Int) : Option (((List Int) × Int) ⊕ (List Int)) :=
  (if s2.2 < (a2.length : Int) then
    (idx a2 s2.2).bind fun v7 =>
    (s_l01Mod a0 (w64 (a1 * v7))).bind fun v8 =>
    (chk (s2.1.length + [v8].length ≤ 1099511627776)).bind fun _ =>
    some (.inl (s2.1 ++ [v8], w64 (s2.2 + 1)))
  else
    some (.inr s2.1))
def s_l11Scale (a0 : Int) (a1 : Int) (a2 : List Int) : Option (List Int) :=
  (loop (s_l11Scale_L0 a0 a1 a2) BIG ([], 0)).bind fun x2 =>
  some x2

def s_l11Star (a0 : Int) (a1 : List Int) : Option (List Int) :=
  (s_l11Scale a0 (w64 (a0 - 1)) a1).bind fun v1 =>
  (idx a1 0).bind fun v2 =>
  (idx v1 0).bind fun v3 =>
  some (v1.set 0 v2)

def s_l11Add_L0 (a0 : Int) (a1 : List Int) (a2 : List Int) (s2 : (List Int) × Int) : Option (((List Int) × Int) ⊕ (List Int)) :=
  (if s2.2 < (a1.length : Int) then
    (idx a1 s2.2).bind fun v7 =>
    (idx a2 s2.2).bind fun v8 =>
    (s_l01Mod a0 (w64 (v7 + v8))).bind fun v9 =>
    (chk (s2.1.length + [v9].length ≤ 1099511627776)).bind fun _ =>
    some (.inl (s2.1 ++ [v9], w64 (s2.2 + 1)))
  else
    some (.inr s2.1))
def s_l11Add (a0 : Int) (a1 : List Int) (a2 : List Int) : Option (List Int) :=
  (loop (s_l11Add_L0 a0 a1 a2) BIG ([], 0)).bind fun x2 =>
  some x2

def s_l11Mul_b (self : Int → (List Int) → (List Int) → (List Int) → Option (List Int)) (a0 : Int) (a1 : List Int) (a2 : List Int) (a3 : List Int) : Option (List Int) :=
  (if (a1.length : Int) = 0 then
    (idx a2 0).bind fun v3 =>
    (idx a3 0).bind fun v4 =>
    (s_l01Mod a0 (w64 (v3 * v4))).bind fun v5 =>
    some [v5]
  else
    (chk (0 ≤ (w64 ((a1.length : Int) - 1)) ∧ (w64 ((a1.length : Int) - 1)) ≤ (a1.length : Int))).bind fun _ =>
    (idx a1 (w64 ((a1.length : Int) - 1))).bind fun v7 =>
    (chk (0 ≤ (w64 ((a2.length : Int).tdiv 2)) ∧ (w64 ((a2.length : Int).tdiv 2)) ≤ (a2.length : Int))).bind fun _ =>
    (chk (0 ≤ (w64 ((a2.length : Int).tdiv 2)) ∧ (w64 ((a2.length : Int).tdiv 2)) ≤ (a2.length : Int))).bind fun _ =>
    (chk (0 ≤ (w64 ((a2.length : Int).tdiv 2)) ∧ (w64 ((a2.length : Int).tdiv 2)) ≤ (a3.length : Int))).bind fun _ =>
    (chk (0 ≤ (w64 ((a2.length : Int).tdiv 2)) ∧ (w64 ((a2.length : Int).tdiv 2)) ≤ (a3.length : Int))).bind fun _ =>
    (self a0 (a1.take (w64 ((a1.length : Int) - 1)).toNat) (a2.take (w64 ((a2.length : Int).tdiv 2)).toNat) (a3.take (w64 ((a2.length : Int).tdiv 2)).toNat)).bind fun v12 =>
    (s_l11Star a0 (a3.drop (w64 ((a2.length : Int).tdiv 2)).toNat)).bind fun v13 =>
    (self a0 (a1.take (w64 ((a1.length : Int) - 1)).toNat) v13 (a2.drop (w64 ((a2.length : Int).tdiv 2)).toNat)).bind fun v14 =>
    (s_l11Scale a0 v7 v14).bind fun v15 =>
    (s_l11Add a0 v12 v15).bind fun v16 =>
    (self a0 (a1.take (w64 ((a1.length : Int) - 1)).toNat) (a3.drop (w64 ((a2.length : Int).tdiv 2)).toNat) (a2.take (w64 ((a2.length : Int).tdiv 2)).toNat)).bind fun v17 =>
    (s_l11Star a0 (a3.take (w64 ((a2.length : Int).tdiv 2)).toNat)).bind fun v18 =>
    (self a0 (a1.take (w64 ((a1.length : Int) - 1)).toNat) (a2.drop (w64 ((a2.length : Int).tdiv 2)).toNat) v18).bind fun v19 =>
    (s_l11Add a0 v17 v19).bind fun v20 =>
    (chk (v16.length + v20.length ≤ 1099511627776)).bind fun _ =>
    some (v16 ++ v20))
def s_l11Mul : Nat → Int → (List Int) → (List Int) → (List Int) → Option (List Int)
  | 0 => fun _ _ _ _ => none
  | n + 1 => s_l11Mul_b (s_l11Mul n)

def s_l11Times (a0_0 : Int) (a0_1 : List Int) (a1 : List Int) (a2 : List Int) : Option (List Int) :=
  (s_l11Mul BIG a0_0 a0_1 a1 a2).bind fun v1 =>
  some v1

def s_l11Basis_L1 (a0_0 : Int) (a0_1 : List Int) (s2 : (List (List Int)) × Int) (s9 : (List Int) × Int) : Option (((List Int) × Int) ⊕ (List Int)) :=
  (s_l11Size a0_0 a0_1).bind fun v12 =>
  (if s9.2 < v12 then
    (s_l11One a0_0 a0_1 s2.2).bind fun v15 =>
    (s_l11One a0_0 a0_1 s9.2).bind fun v16 =>
    (s_l11Times a0_0 a0_1 v15 v16).bind fun v17 =>
    (idx v17 (bxor .i64 s2.2 s9.2)).bind fun v18 =>
    (chk (s9.1.length + [v18].length ≤ 1099511627776)).bind fun _ =>
    some (.inl (s9.1 ++ [v18], w64 (s9.2 + 1)))
  else
    some (.inr s9.1))
def s_l11Basis_L0 (a0_0 : Int) (a0_1 : List Int) (s2 : (List (List Int)) × Int) : Option (((List (List Int)) × Int) ⊕ (List (List Int))) :=
  (s_l11Size a0_0 a0_1).bind fun v5 =>
  (if s2.2 < v5 then
    (loop (s_l11Basis_L1 a0_0 a0_1 s2) BIG ([], 0)).bind fun x9 =>
    (chk (s2.1.length + [x9].length ≤ 1099511627776)).bind fun _ =>
    some (.inl (s2.1 ++ [x9], w64 (s2.2 + 1)))
  else
    some (.inr s2.1))
def s_l11Basis (a0_0 : Int) (a0_1 : List Int) : Option (List (List Int)) :=
  (loop (s_l11Basis_L0 a0_0 a0_1) BIG ([], 0)).bind fun x2 =>
  some x2

def s_l01Own (a0 : List Int) : Option (List Int) :=
  (chk (([] : List Int).length + a0.length ≤ 1099511627776)).bind fun _ =>
  some (([] : List Int) ++ a0)

def s_l01Inv_L0 (a0 : Int) (a1 : Int) (s2 : Int) : Option (Int ⊕ Int) :=
  (chk (¬ a0 = 0)).bind fun _ =>
  (if ¬ ((w64 (a1 * s2)).tmod a0) = 1 then
    some (.inl (w64 (s2 + 1)))
  else
    some (.inr s2))
def s_l01Inv (a0 : Int) (a1 : Int) : Option Int :=
  (loop (s_l01Inv_L0 a0 a1) BIG 1).bind fun x2 =>
  some x2

def s_l11Columns_L1 (a0 : List (List Int)) (s2 : (List (List Int)) × Int) (s8 : (List Int) × Int) : Option (((List Int) × Int) ⊕ (List Int)) :=
  (if s8.2 < (a0.length : Int) then
    (idx a0 s8.2).bind fun v13 =>
    (idx v13 s2.2).bind fun v14 =>
    (chk (s8.1.length + [v14].length ≤ 1099511627776)).bind fun _ =>
    some (.inl (s8.1 ++ [v14], w64 (s8.2 + 1)))
  else
    some (.inr s8.1))
def s_l11Columns_L0 (a0 : List (List Int)) (s2 : (List (List Int)) × Int) : Option (((List (List Int)) × Int) ⊕ (List (List Int))) :=
  (if s2.2 < (a0.length : Int) then
    (loop (s_l11Columns_L1 a0 s2) BIG ([], 0)).bind fun x8 =>
    (chk (s2.1.length + [x8].length ≤ 1099511627776)).bind fun _ =>
    some (.inl (s2.1 ++ [x8], w64 (s2.2 + 1)))
  else
    some (.inr s2.1))
def s_l11Columns (a0 : List (List Int)) : Option (List (List Int)) :=
  (loop (s_l11Columns_L0 a0) BIG ([], 0)).bind fun x2 =>
  some x2

def s_l14Column_L0 (a0 : List (List Int)) (a1 : Int) (s2 : (List Int) × Int) : Option (((List Int) × Int) ⊕ (List Int)) :=
  (if s2.2 < (a0.length : Int) then
    (idx a0 s2.2).bind fun v7 =>
    (idx v7 a1).bind fun v8 =>
    (chk (s2.1.length + [v8].length ≤ 1099511627776)).bind fun _ =>
    some (.inl (s2.1 ++ [v8], w64 (s2.2 + 1)))
  else
    some (.inr s2.1))
def s_l14Column (a0 : List (List Int)) (a1 : Int) : Option (List Int) :=
  (loop (s_l14Column_L0 a0 a1) BIG ([], 0)).bind fun x2 =>
  some x2

def s_l01Same_L0 (a0 : List Int) (a1 : List Int) (s4 : Int) : Option (Int ⊕ (Unit ⊕ Bool)) :=
  (if s4 < (a0.length : Int) then
    (idx a0 s4).bind fun v10 =>
    (idx a1 s4).bind fun v11 =>
    (if ¬ v10 = v11 then
      some (.inr (.inr false))
    else
      some (.inl (w64 (s4 + 1))))
  else
    some (.inr (.inl ())))
def s_l01Same (a0 : List Int) (a1 : List Int) : Option Bool :=
  (if ¬ (a0.length : Int) = (a1.length : Int) then
    some false
  else
    (loop (s_l01Same_L0 a0 a1) BIG 0).bind fun x4 =>
    (match x4 with
    | .inl y6 =>
      some true
    | .inr t => some t))

def s_l12First_L0 (a0 : List Int) (s2 : Int) : Option (Int ⊕ Int) :=
  ((if s2 < (a0.length : Int) then
    (idx a0 s2).bind fun v6 =>
    some (ieq v6 0)
  else
    some false) : Option Bool).bind fun x7 =>
  (if x7 = true then
    some (.inl (w64 (s2 + 1)))
  else
    some (.inr s2))
def s_l12First (a0 : List Int) : Option Int :=
  (loop (s_l12First_L0 a0) BIG 0).bind fun x2 =>
  some x2

def s_l11Minus (a0 : Int) (a1 : List Int) (a2 : List Int) : Option (List Int) :=
  (s_l11Scale a0 (w64 (a0 - 1)) a2).bind fun v1 =>
  (s_l11Add a0 a1 v1).bind fun v2 =>
  some v2

def s_l12Rest_L0 (a0 : Int) (a1 : List (List Int)) (s3 : (List Int) × Int) : Option (((List Int) × Int) ⊕ (List Int)) :=
  (if s3.2 < (a1.length : Int) then
    ((idx a1 s3.2).bind fun v9 =>
    (s_l12First v9).bind fun v10 =>
    (idx s3.1 v10).bind fun v11 =>
    (if ¬ v11 = 0 then
      (s_l11Scale a0 v11 v9).bind fun v13 =>
      (s_l11Minus a0 s3.1 v13).bind fun v14 =>
      some v14
    else
      some s3.1) : Option (List Int)).bind fun x7 =>
    some (.inl (x7, w64 (s3.2 + 1)))
  else
    some (.inr s3.1))
def s_l12Rest (a0 : Int) (a1 : List (List Int)) (a2 : List Int) : Option (List Int) :=
  (s_l01Own a2).bind fun v1 =>
  (loop (s_l12Rest_L0 a0 a1) BIG (v1, 0)).bind fun x3 =>
  some x3

def s_l12Put_L0 (a0 : Int) (a1 : List (List Int)) (v2 : Int) (v7 : List Int) (s9 : (List (List Int)) × Bool × Int) : Option (((List (List Int)) × Bool × Int) ⊕ ((List (List Int)) × Bool)) :=
  (if s9.2.2 < (a1.length : Int) then
    ((if s9.2.1 = false then
      (idx a1 s9.2.2).bind fun v16 =>
      (s_l12First v16).bind fun v17 =>
      some (ilt v2 v17)
    else
      some false) : Option Bool).bind fun x18 =>
    ((if x18 = true then
      (chk (s9.1.length + [v7].length ≤ 1099511627776)).bind fun _ =>
      some (s9.1 ++ [v7], true)
    else
      some (s9.1, s9.2.1)) : Option ((List (List Int)) × Bool)).bind fun x19 =>
    (idx a1 s9.2.2).bind fun v23 =>
    (idx v23 v2).bind fun v24 =>
    (s_l11Scale a0 v24 v7).bind fun v25 =>
    (s_l11Minus a0 v23 v25).bind fun v26 =>
    (chk (x19.1.length + [v26].length ≤ 1099511627776)).bind fun _ =>
    some (.inl (x19.1 ++ [v26], x19.2, w64 (s9.2.2 + 1)))
  else
    some (.inr (s9.1, s9.2.1)))
def s_l12Put (a0 : Int) (a1 : List (List Int)) (a2 : List Int) : Option (List (List Int)) :=
  (s_l12Rest a0 a1 a2).bind fun v1 =>
  (s_l12First v1).bind fun v2 =>
  (if v2 = (v1.length : Int) then
    some a1
  else
    (idx v1 v2).bind fun v5 =>
    (s_l01Inv a0 v5).bind fun v6 =>
    (s_l11Scale a0 v6 v1).bind fun v7 =>
    (loop (s_l12Put_L0 a0 a1 v2 v7) BIG ([], false, 0)).bind fun x9 =>
    ((if x9.2 = false then
      (chk (x9.1.length + [v7].length ≤ 1099511627776)).bind fun _ =>
      some (x9.1 ++ [v7])
    else
      some x9.1) : Option (List (List Int))).bind fun x29 =>
    some x29)

def s_l12Reduced_L0 (a0 : Int) (a1 : List (List Int)) (s2 : (List (List Int)) × Int) : Option (((List (List Int)) × Int) ⊕ (List (List Int))) :=
  (if s2.2 < (a1.length : Int) then
    (idx a1 s2.2).bind fun v7 =>
    (s_l12Put a0 s2.1 v7).bind fun v8 =>
    some (.inl (v8, w64 (s2.2 + 1)))
  else
    some (.inr s2.1))
def s_l12Reduced (a0 : Int) (a1 : List (List Int)) : Option (List (List Int)) :=
  (loop (s_l12Reduced_L0 a0 a1) BIG ([], 0)).bind fun x2 =>
  some x2

def s_l14Automorphism_L1 (a0_0 : Int) (a0_1 : List Int) (a1 : List (List Int)) (v1 : List (List Int)) (v2 : Int) (s4 : Int) (s10 : Int) : Option (Int ⊕ (Unit ⊕ (Int ⊕ (Unit ⊕ Bool)))) :=
  (if s10 < v2 then
    (idx v1 s4).bind fun v16 =>
    (idx v16 s10).bind fun v17 =>
    (s_l14Column a1 (bxor .i64 s4 s10)).bind fun v18 =>
    (s_l11Scale a0_0 v17 v18).bind fun v19 =>
    (s_l14Column a1 s4).bind fun v20 =>
    (s_l14Column a1 s10).bind fun v21 =>
    (s_l11Times a0_0 a0_1 v20 v21).bind fun v22 =>
    (s_l01Same v19 v22).bind fun v23 =>
    (if v23 = false then
      some (.inr (.inr (.inr (.inr false))))
    else
      some (.inl (w64 (s10 + 1))))
  else
    some (.inr (.inl ())))
def s_l14Automorphism_L0 (a0_0 : Int) (a0_1 : List Int) (a1 : List (List Int)) (v1 : List (List Int)) (v2 : Int) (s4 : Int) : Option (Int ⊕ (Unit ⊕ Bool)) :=
  (if s4 < v2 then
    (loop (s_l14Automorphism_L1 a0_0 a0_1 a1 v1 v2 s4) BIG 0).bind fun x10 =>
    (match x10 with
    | .inl y12 =>
      some (.inl (w64 (s4 + 1)))
    | .inr t => some t)
  else
    some (.inr (.inl ())))
def s_l14Automorphism (a0_0 : Int) (a0_1 : List Int) (a1 : List (List Int)) : Option Bool :=
  (s_l11Basis a0_0 a0_1).bind fun v1 =>
  (s_l11Size a0_0 a0_1).bind fun v2 =>
  (loop (s_l14Automorphism_L0 a0_0 a0_1 a1 v1 v2) BIG 0).bind fun x4 =>
  (match x4 with
  | .inl y6 =>
    (s_l12Reduced a0_0 a1).bind fun v25 =>
    some (ieq (v25.length : Int) v2)
  | .inr t => some t)

def s_AutomorphismFrom_L1 (a0_0 : Int) (a0_1 : List Int) (v5 : List (List Int)) (s8 : (List (List Int)) × Int) (v14 : List Int) (s17 : (List (List Int)) × Int) : Option (((List (List Int)) × Int) ⊕ (List (List Int))) :=
  (if s17.2 < (shl .i64 1 (IntKind.u64.wrap (s8.2))) then
    (idx v5 s17.2).bind fun v22 =>
    (idx v22 (shl .i64 1 (IntKind.u64.wrap (s8.2)))).bind fun v23 =>
    (s_l01Inv a0_0 v23).bind fun v24 =>
    (idx s17.1 s17.2).bind fun v25 =>
    (s_l11Times a0_0 a0_1 v25 v14).bind fun v26 =>
    (s_l11Scale a0_0 v24 v26).bind fun v27 =>
    (chk (s17.1.length + [v27].length ≤ 1099511627776)).bind fun _ =>
    some (.inl (s17.1 ++ [v27], w64 (s17.2 + 1)))
  else
    some (.inr s17.1))
def s_AutomorphismFrom_L0 (a0_0 : Int) (a0_1 : List Int) (a1 : List (List Int)) (v5 : List (List Int)) (s8 : (List (List Int)) × Int) : Option (((List (List Int)) × Int) ⊕ (List (List Int))) :=
  (if s8.2 < (a1.length : Int) then
    (chk (0 ≤ (IntKind.u64.wrap (s8.2)))).bind fun _ =>
    (idx a1 s8.2).bind fun v14 =>
    (s_l01Own v14).bind fun v15 =>
    (chk (s8.1.length + [v15].length ≤ 1099511627776)).bind fun _ =>
    (loop (s_AutomorphismFrom_L1 a0_0 a0_1 v5 s8 v14) BIG (s8.1 ++ [v15], 1)).bind fun x17 =>
    some (.inl (x17, w64 (s8.2 + 1)))
  else
    some (.inr s8.1))
def s_AutomorphismFrom (a0_0 : Int) (a0_1 : List Int) (a1 : List (List Int)) : Option ((List (List Int)) × Int) :=
  (s_l14Elements a0_0 a0_1 a1).bind fun v1 =>
  (if ¬ v1 = 0 then
    some (([] : List (List Int)), v1)
  else
    (if ¬ (a1.length : Int) = (a0_1.length : Int) then
      some (([] : List (List Int)), 2)
    else
      (s_l11Basis a0_0 a0_1).bind fun v5 =>
      (s_l11One a0_0 a0_1 0).bind fun v6 =>
      (loop (s_AutomorphismFrom_L0 a0_0 a0_1 a1 v5) BIG ([v6], 0)).bind fun x8 =>
      (s_l11Columns x8).bind fun v29 =>
      (s_l14Automorphism a0_0 a0_1 v29).bind fun v31 =>
      (if v31 = false then
        some (([] : List (List Int)), 5)
      else
        some (v29, 0))))

def i_Doubling_field (a0_0 : Int) (a0_1 : List Int) : Option Int :=
  some a0_0

def g_slices_Index_LI_I_L0 (a0 : List Int) (a1 : Int) (s2 : Int) : Option (Int ⊕ (Unit ⊕ Int)) :=
  (if s2 < (a0.length : Int) then
    (idx a0 s2).bind fun v8 =>
    (if a1 = v8 then
      some (.inr (.inr s2))
    else
      some (.inl (w64 (s2 + 1))))
  else
    some (.inr (.inl ())))
def g_slices_Index_LI_I (a0 : List Int) (a1 : Int) : Option Int :=
  (loop (g_slices_Index_LI_I_L0 a0 a1) BIG 0).bind fun x2 =>
  (match x2 with
  | .inl y4 =>
    some (-1)
  | .inr t => some t)

def g_slices_Contains_LI_I (a0 : List Int) (a1 : Int) : Option Bool :=
  (g_slices_Index_LI_I a0 a1).bind fun v1 =>
  some (ile 0 v1)

def i_IsDoubling (a0_0 : Int) (a0_1 : List Int) : Option Bool :=
  ((i_IsPrime a0_0).bind fun v1 =>
  (if v1 = true then
    (if (a0_1.length : Int) ≤ 4 then
      (i_Doubling_field a0_0 a0_1).bind fun v4 =>
      (i_field_is v4 a0_1).bind fun v5 =>
      (if v5 = true then
        (g_slices_Contains_LI_I a0_1 0).bind fun v7 =>
        some (!v7)
      else
        some false)
    else
      some false)
  else
    some false) : Option Bool).bind fun x8 =>
  some x8

def i_Doubling_size (a0_0 : Int) (a0_1 : List Int) : Option Int :=
  (chk (0 ≤ (a0_1.length : Int))).bind fun _ =>
  some (shl .i64 1 (a0_1.length : Int))

def i_checkElements_c1 (a0 : List Int) (a1_0 : Int) (a1_1 : List Int) : Option Bool :=
  ((i_Doubling_size a1_0 a1_1).bind fun v1 =>
  (if ¬ (a0.length : Int) = v1 then
    some true
  else
    (i_Doubling_field a1_0 a1_1).bind fun v3 =>
    (i_field_is v3 a0).bind fun v4 =>
    some (!v4)) : Option Bool).bind fun x5 =>
  some x5

def g_slices_IndexFunc_LLI_LI_of_i_checkElements_c1_L0 (a0 : List (List Int)) (a1_0_0 : Int) (a1_0_1 : List Int) (s2 : Int) : Option (Int ⊕ (Unit ⊕ Int)) :=
  (if s2 < (a0.length : Int) then
    (idx a0 s2).bind fun v8 =>
    (i_checkElements_c1 v8 a1_0_0 a1_0_1).bind fun v9 =>
    (if v9 = true then
      some (.inr (.inr s2))
    else
      some (.inl (w64 (s2 + 1))))
  else
    some (.inr (.inl ())))
def g_slices_IndexFunc_LLI_LI_of_i_checkElements_c1 (a0 : List (List Int)) (a1_0_0 : Int) (a1_0_1 : List Int) : Option Int :=
  (loop (g_slices_IndexFunc_LLI_LI_of_i_checkElements_c1_L0 a0 a1_0_0 a1_0_1) BIG 0).bind fun x2 =>
  (match x2 with
  | .inl y4 =>
    some (-1)
  | .inr t => some t)

def g_slices_ContainsFunc_LLI_LI_of_i_checkElements_c1 (a0 : List (List Int)) (a1_0_0 : Int) (a1_0_1 : List Int) : Option Bool :=
  (g_slices_IndexFunc_LLI_LI_of_i_checkElements_c1 a0 a1_0_0 a1_0_1).bind fun v1 =>
  some (ile 0 v1)

def i_checkElements (a0_0 : Int) (a0_1 : List Int) (a1 : List (List Int)) : Option Int :=
  (i_IsDoubling a0_0 a0_1).bind fun v2 =>
  (if v2 = false then
    some 1
  else
    (g_slices_ContainsFunc_LLI_LI_of_i_checkElements_c1 a1 a0_0 a0_1).bind fun v5 =>
    (if v5 = true then
      some 2
    else
      some 0))

def i_Doubling_isMatrix (a0_0 : Int) (a0_1 : List Int) (a1 : List (List Int)) : Option Bool :=
  ((i_Doubling_field a0_0 a0_1).bind fun v1 =>
  (i_field_isMatrix v1 a1).bind fun v2 =>
  (if v2 = true then
    (i_Doubling_size a0_0 a0_1).bind fun v4 =>
    (if (a1.length : Int) = v4 then
      (idx a1 0).bind fun v6 =>
      (i_Doubling_size a0_0 a0_1).bind fun v7 =>
      some (ieq (v6.length : Int) v7)
    else
      some false)
  else
    some false) : Option Bool).bind fun x8 =>
  some x8

def i_checkThree_c1 (a0 : List (List Int)) (a1_0 : Int) (a1_1 : List Int) : Option Bool :=
  (i_Doubling_isMatrix a1_0 a1_1 a0).bind fun v1 =>
  some (!v1)

def g_slices_IndexFunc_LLLI_LLI_of_i_checkThree_c1_L0 (a0 : List (List (List Int))) (a1_0_0 : Int) (a1_0_1 : List Int) (s2 : Int) : Option (Int ⊕ (Unit ⊕ Int)) :=
  (if s2 < (a0.length : Int) then
    (idx a0 s2).bind fun v8 =>
    (i_checkThree_c1 v8 a1_0_0 a1_0_1).bind fun v9 =>
    (if v9 = true then
      some (.inr (.inr s2))
    else
      some (.inl (w64 (s2 + 1))))
  else
    some (.inr (.inl ())))
def g_slices_IndexFunc_LLLI_LLI_of_i_checkThree_c1 (a0 : List (List (List Int))) (a1_0_0 : Int) (a1_0_1 : List Int) : Option Int :=
  (loop (g_slices_IndexFunc_LLLI_LLI_of_i_checkThree_c1_L0 a0 a1_0_0 a1_0_1) BIG 0).bind fun x2 =>
  (match x2 with
  | .inl y4 =>
    some (-1)
  | .inr t => some t)

def g_slices_ContainsFunc_LLLI_LLI_of_i_checkThree_c1 (a0 : List (List (List Int))) (a1_0_0 : Int) (a1_0_1 : List Int) : Option Bool :=
  (g_slices_IndexFunc_LLLI_LLI_of_i_checkThree_c1 a0 a1_0_0 a1_0_1).bind fun v1 =>
  some (ile 0 v1)

def i_checkThree (a0_0 : Int) (a0_1 : List Int) (a1 : List (List Int)) (a2 : List (List (List Int))) : Option Int :=
  (i_IsDoubling a0_0 a0_1).bind fun v2 =>
  (if v2 = false then
    some 1
  else
    (if 3 < (a0_1.length : Int) then
      some 3
    else
      ((i_checkElements a0_0 a0_1 a1).bind fun v5 =>
      (if ¬ v5 = 0 then
        some true
      else
        (g_slices_ContainsFunc_LLLI_LLI_of_i_checkThree_c1 a2 a0_0 a0_1).bind fun v7 =>
        some v7) : Option Bool).bind fun x8 =>
      (if x8 = true then
        some 2
      else
        some 0)))

def i_unit_L0 (a0 : Int) (s2 : (List (List Int)) × Int) : Option (((List (List Int)) × Int) ⊕ (List (List Int))) :=
  (if s2.2 < a0 then
    (chk (0 ≤ a0 ∧ a0 ≤ 1099511627776)).bind fun _ =>
    (some (List.replicate a0.toNat 0)).bind fun l8 =>
    (idx l8 s2.2).bind fun v9 =>
    (chk (s2.1.length + [l8.set s2.2.toNat 1].length ≤ 1099511627776)).bind fun _ =>
    some (.inl (s2.1 ++ [l8.set s2.2.toNat 1], w64 (s2.2 + 1)))
  else
    some (.inr s2.1))
def i_unit (a0 : Int) : Option (List (List Int)) :=
  (loop (i_unit_L0 a0) BIG ([], 0)).bind fun x2 =>
  some x2

def i_Doubling_element (a0_0 : Int) (a0_1 : List Int) (a1 : Int) : Option (List Int) :=
  (i_Doubling_size a0_0 a0_1).bind fun v1 =>
  (i_unit v1).bind fun v2 =>
  (idx v2 a1).bind fun v3 =>
  some v3

def i_field_conjugate (a0 : Int) (a1 : List Int) : Option (List Int) :=
  (i_field_scaled a0 a1 (-1)).bind fun v1 =>
  (idx a1 0).bind fun v2 =>
  (idx v1 0).bind fun v3 =>
  some (v1.set 0 v2)

end Go.Vam
