import Derived.Test.YtomgbldkoehplaaFnA
namespace Go.Vam
open Go Go.RowKit
set_option maxRecDepth 100000
set_option linter.unusedSimpArgs false
set_option linter.unusedVariables false

def i_field_times_L0 (a0 : Int) (a1 : List (List Int)) (v1 : List (List Int)) (s3 : (List (List Int)) × Int) : Option (((List (List Int)) × Int) ⊕ (List (List Int))) :=
  (if s3.2 < (a1.length : Int) then
    (idx a1 s3.2).bind fun v8 =>
    (i_field_apply a0 v1 v8).bind fun v9 =>
    (chk (s3.1.length + [v9].length ≤ 1099511627776)).bind fun _ =>
    some (.inl (s3.1 ++ [v9], w64 (s3.2 + 1)))
  else
    some (.inr s3.1))
def i_field_times (a0 : Int) (a1 : List (List Int)) (a2 : List (List Int)) : Option (List (List Int)) :=
  (i_transpose a2).bind fun v1 =>
  (loop (i_field_times_L0 a0 a1 v1) BIG ([], 0)).bind fun x3 =>
  some x3

def i_MultiplyMatrices (a0 : Int) (a1 : List (List Int)) (a2 : List (List Int)) : Option ((List (List Int)) × Int) :=
  (i_checkMatrices a0 [a1, a2]).bind fun v2 =>
  (if ¬ v2 = 0 then
    some (([] : List (List Int)), v2)
  else
    (idx a1 0).bind fun v5 =>
    (if ¬ (v5.length : Int) = (a2.length : Int) then
      some (([] : List (List Int)), 2)
    else
      (i_field_times a0 a1 a2).bind fun v7 =>
      some (v7, 0)))

def s_l01Own2_L0 (a0 : List (List Int)) (s2 : (List (List Int)) × Int) : Option (((List (List Int)) × Int) ⊕ (List (List Int))) :=
  (if s2.2 < (a0.length : Int) then
    (idx a0 s2.2).bind fun v7 =>
    (s_l01Own v7).bind fun v8 =>
    (chk (s2.1.length + [v8].length ≤ 1099511627776)).bind fun _ =>
    some (.inl (s2.1 ++ [v8], w64 (s2.2 + 1)))
  else
    some (.inr s2.1))
def s_l01Own2 (a0 : List (List Int)) : Option (List (List Int)) :=
  (loop (s_l01Own2_L0 a0) BIG ([], 0)).bind fun x2 =>
  some x2

def s_l02Basis_L1 (s3 : (List (List Int)) × Int × Int) (s14 : Int) : Option (Int ⊕ Int) :=
  ((if s14 < (s3.1.length : Int) then
    (idx s3.1 s14).bind fun v18 =>
    (idx v18 s3.2.2).bind fun v19 =>
    some (ieq v19 0)
  else
    some false) : Option Bool).bind fun x20 =>
  (if x20 = true then
    some (.inl (w64 (s14 + 1)))
  else
    some (.inr s14))
def s_l02Basis_L2 (a0 : Int) (s3 : (List (List Int)) × Int × Int) (v28 : List Int) (s32 : (List (List Int)) × Int) : Option (((List (List Int)) × Int) ⊕ (List (List Int))) :=
  (if s32.2 < (s32.1.length : Int) then
    ((if ¬ s32.2 = s3.2.1 then
      (idx s32.1 s32.2).bind fun v39 =>
      (idx v39 s3.2.2).bind fun v40 =>
      (chk (¬ a0 = 0)).bind fun _ =>
      (s_l02Plus a0 v39 v28 ((w64 (a0 - v40)).tmod a0)).bind fun v42 =>
      some (s32.1.set s32.2.toNat v42)
    else
      some s32.1) : Option (List (List Int))).bind fun x36 =>
    some (.inl (x36, w64 (s32.2 + 1)))
  else
    some (.inr s32.1))
def s_l02Basis_L0 (a0 : Int) (s3 : (List (List Int)) × Int × Int) : Option (((List (List Int)) × Int × Int) ⊕ ((List (List Int)) × Int)) :=
  ((if 0 < (s3.1.length : Int) then
    (idx s3.1 0).bind fun v7 =>
    some (ilt s3.2.2 (v7.length : Int))
  else
    some false) : Option Bool).bind fun x8 =>
  (if x8 = true then
    ((loop (s_l02Basis_L1 s3) BIG s3.2.1).bind fun x14 =>
    (if x14 = (s3.1.length : Int) then
      some (s3.1, s3.2.1)
    else
      (idx s3.1 x14).bind fun v24 =>
      (idx s3.1 s3.2.1).bind fun v25 =>
      (idx v24 s3.2.2).bind fun v26 =>
      (s_l01Inv a0 v26).bind fun v27 =>
      (s_l02Scale a0 v24 v27).bind fun v28 =>
      (some (s3.1.set x14.toNat v25)).bind fun l29 =>
      (idx l29 s3.2.1).bind fun v30 =>
      (loop (s_l02Basis_L2 a0 s3 v28) BIG (l29.set s3.2.1.toNat v28, 0)).bind fun x32 =>
      some (x32, w64 (s3.2.1 + 1))) : Option ((List (List Int)) × Int)).bind fun x11 =>
    some (.inl (x11.1, x11.2, w64 (s3.2.2 + 1)))
  else
    some (.inr (s3.1, s3.2.1)))
def s_l02Basis (a0 : Int) (a1 : List (List Int)) : Option (List (List Int)) :=
  (s_l01Own2 a1).bind fun v1 =>
  (loop (s_l02Basis_L0 a0) BIG (v1, 0, 0)).bind fun x3 =>
  (chk (0 ≤ x3.2 ∧ x3.2 ≤ (x3.1.length : Int))).bind fun _ =>
  some (x3.1.take x3.2.toNat)

def g_slices_Clone_LI_I (a0 : List Int) : Option (List Int) :=
  (chk (a0.length ≤ 1099511627776)).bind fun _ => some a0

def i_cloneRows_L0 (a0 : List (List Int)) (s2 : (List (List Int)) × Int) : Option (((List (List Int)) × Int) ⊕ (List (List Int))) :=
  (if s2.2 < (a0.length : Int) then
    (idx a0 s2.2).bind fun v7 =>
    (g_slices_Clone_LI_I v7).bind fun v8 =>
    (chk (s2.1.length + [v8].length ≤ 1099511627776)).bind fun _ =>
    some (.inl (s2.1 ++ [v8], w64 (s2.2 + 1)))
  else
    some (.inr s2.1))
def i_cloneRows (a0 : List (List Int)) : Option (List (List Int)) :=
  (loop (i_cloneRows_L0 a0) BIG ([], 0)).bind fun x2 =>
  some x2

def i_field_pow_L0 (a0 : Int) (a1 : Int) (a2 : Int) (s2 : Int × Int) : Option ((Int × Int) ⊕ Int) :=
  (if s2.2 < a2 then
    (i_field_num a0 (w64 (s2.1 * a1))).bind fun v7 =>
    some (.inl (v7, w64 (s2.2 + 1)))
  else
    some (.inr s2.1))
def i_field_pow (a0 : Int) (a1 : Int) (a2 : Int) : Option Int :=
  (loop (i_field_pow_L0 a0 a1 a2) BIG (1, 0)).bind fun x2 =>
  some x2

def i_field_inv (a0 : Int) (a1 : Int) : Option Int :=
  (i_field_pow a0 a1 (w64 (a0 - 2))).bind fun v1 =>
  some v1

def i_field_basis_L1 (s3 : (List (List Int)) × Int × Int) (s15 : Int) : Option (Int ⊕ Int) :=
  ((if s15 < (s3.1.length : Int) then
    (idx s3.1 s15).bind fun v19 =>
    (idx v19 s3.2.2).bind fun v20 =>
    some (ieq v20 0)
  else
    some false) : Option Bool).bind fun x21 =>
  (if x21 = true then
    some (.inl (w64 (s15 + 1)))
  else
    some (.inr s15))
def i_field_basis_L2 (a0 : Int) (s3 : (List (List Int)) × Int × Int) (l28 : List (List Int)) (v32 : List Int) (s34 : (List (List Int)) × Int) : Option (((List (List Int)) × Int) ⊕ (List (List Int))) :=
  (if s34.2 < ((l28.set s3.2.1.toNat v32).length : Int) then
    (((if ¬ s34.2 = s3.2.1 then
      (idx s34.1 s34.2).bind fun v41 =>
      (idx v41 s3.2.2).bind fun v42 =>
      some (!(ieq v42 0))
    else
      some false) : Option Bool).bind fun x43 =>
    (if x43 = true then
      (idx s34.1 s34.2).bind fun v45 =>
      (idx s34.1 s3.2.1).bind fun v46 =>
      (idx v45 s3.2.2).bind fun v47 =>
      (i_field_plus a0 v45 v46 (w64 (0 - v47))).bind fun v48 =>
      some (s34.1.set s34.2.toNat v48)
    else
      some s34.1) : Option (List (List Int))).bind fun x38 =>
    some (.inl (x38, w64 (s34.2 + 1)))
  else
    some (.inr s34.1))
def i_field_basis_L0 (a0 : Int) (s3 : (List (List Int)) × Int × Int) : Option (((List (List Int)) × Int × Int) ⊕ ((List (List Int)) × Int)) :=
  ((if 0 < (s3.1.length : Int) then
    (idx s3.1 0).bind fun v7 =>
    (if s3.2.2 < (v7.length : Int) then
      some (ilt s3.2.1 (s3.1.length : Int))
    else
      some false)
  else
    some false) : Option Bool).bind fun x9 =>
  (if x9 = true then
    ((loop (i_field_basis_L1 s3) BIG s3.2.1).bind fun x15 =>
    (if x15 = (s3.1.length : Int) then
      some (s3.1, s3.2.1)
    else
      (idx s3.1 x15).bind fun v25 =>
      (idx s3.1 s3.2.1).bind fun v26 =>
      (idx (s3.1.set s3.2.1.toNat v25) x15).bind fun v27 =>
      (some ((s3.1.set s3.2.1.toNat v25).set x15.toNat v26)).bind fun l28 =>
      (idx l28 s3.2.1).bind fun v29 =>
      (idx v29 s3.2.2).bind fun v30 =>
      (i_field_inv a0 v30).bind fun v31 =>
      (i_field_scaled a0 v29 v31).bind fun v32 =>
      (loop (i_field_basis_L2 a0 s3 l28 v32) BIG (l28.set s3.2.1.toNat v32, 0)).bind fun x34 =>
      some (x34, w64 (s3.2.1 + 1))) : Option ((List (List Int)) × Int)).bind fun x12 =>
    some (.inl (x12.1, x12.2, w64 (s3.2.2 + 1)))
  else
    some (.inr (s3.1, s3.2.1)))
def i_field_basis (a0 : Int) (a1 : List (List Int)) : Option (List (List Int)) :=
  (i_cloneRows a1).bind fun v1 =>
  (loop (i_field_basis_L0 a0) BIG (v1, 0, 0)).bind fun x3 =>
  (chk (0 ≤ x3.2 ∧ x3.2 ≤ (x3.1.length : Int))).bind fun _ =>
  some (x3.1.take x3.2.toNat)

def s_l02Det_L1 (s3 : (List (List Int)) × Int × Int) (s10 : Int) : Option (Int ⊕ Int) :=
  ((if s10 < (s3.1.length : Int) then
    (idx s3.1 s10).bind fun v14 =>
    (idx v14 s3.2.2).bind fun v15 =>
    some (ieq v15 0)
  else
    some false) : Option Bool).bind fun x16 =>
  (if x16 = true then
    some (.inl (w64 (s10 + 1)))
  else
    some (.inr s10))
def s_l02Det_L2 (a0 : Int) (s3 : (List (List Int)) × Int × Int) (v32 : Int) (s33 : (List (List Int)) × Int) : Option (((List (List Int)) × Int) ⊕ (List (List Int))) :=
  (if s33.2 < (s33.1.length : Int) then
    (idx s33.1 s33.2).bind fun v38 =>
    (idx s33.1 s3.2.2).bind fun v39 =>
    (idx v38 s3.2.2).bind fun v40 =>
    (chk (¬ a0 = 0)).bind fun _ =>
    (s_l02Plus a0 v38 v39 ((w64 ((w64 (a0 - v40)) * v32)).tmod a0)).bind fun v42 =>
    some (.inl (s33.1.set s33.2.toNat v42, w64 (s33.2 + 1)))
  else
    some (.inr s33.1))
def s_l02Det_L0 (a0 : Int) (s3 : (List (List Int)) × Int × Int) : Option (((List (List Int)) × Int × Int) ⊕ (Int ⊕ Int)) :=
  (if s3.2.2 < (s3.1.length : Int) then
    (loop (s_l02Det_L1 s3) BIG s3.2.2).bind fun x10 =>
    (if x10 = (s3.1.length : Int) then
      some (.inr (.inr 0))
    else
      ((if s3.2.2 < x10 then
        (idx s3.1 x10).bind fun v24 =>
        (idx s3.1 s3.2.2).bind fun v25 =>
        (some (s3.1.set x10.toNat v25)).bind fun l26 =>
        (idx l26 s3.2.2).bind fun v27 =>
        (chk (¬ a0 = 0)).bind fun _ =>
        some (l26.set s3.2.2.toNat v24, (w64 (a0 - s3.2.1)).tmod a0)
      else
        some (s3.1, s3.2.1)) : Option ((List (List Int)) × Int)).bind fun x21 =>
      (idx x21.1 s3.2.2).bind fun v29 =>
      (idx v29 s3.2.2).bind fun v30 =>
      (chk (¬ a0 = 0)).bind fun _ =>
      (s_l01Inv a0 v30).bind fun v32 =>
      (loop (s_l02Det_L2 a0 s3 v32) BIG (x21.1, w64 (s3.2.2 + 1))).bind fun x33 =>
      some (.inl (x33, (w64 (x21.2 * v30)).tmod a0, w64 (s3.2.2 + 1))))
  else
    some (.inr (.inl s3.2.1)))
def s_l02Det (a0 : Int) (a1 : List (List Int)) : Option Int :=
  (s_l01Own2 a1).bind fun v1 =>
  (loop (s_l02Det_L0 a0) BIG (v1, 1, 0)).bind fun x3 =>
  (match x3 with
  | .inl y5 =>
    some y5
  | .inr t => some t)

def i_field_determinant_L1 (s3 : (List (List Int)) × Int × Int) (s10 : Int) : Option (Int ⊕ Int) :=
  ((if s10 < (s3.1.length : Int) then
    (idx s3.1 s10).bind fun v14 =>
    (idx v14 s3.2.2).bind fun v15 =>
    some (ieq v15 0)
  else
    some false) : Option Bool).bind fun x16 =>
  (if x16 = true then
    some (.inl (w64 (s10 + 1)))
  else
    some (.inr s10))
def i_field_determinant_L2 (a0 : Int) (s3 : (List (List Int)) × Int × Int) (s31 : (List (List Int)) × Int) : Option (((List (List Int)) × Int) ⊕ (List (List Int))) :=
  (if s31.2 < (s31.1.length : Int) then
    (idx s31.1 s31.2).bind fun v36 =>
    (idx s31.1 s3.2.2).bind fun v37 =>
    (idx v36 s3.2.2).bind fun v38 =>
    (idx v37 s3.2.2).bind fun v39 =>
    (i_field_inv a0 v39).bind fun v40 =>
    (i_field_plus a0 v36 v37 (w64 ((w64 (0 - v38)) * v40))).bind fun v41 =>
    some (.inl (s31.1.set s31.2.toNat v41, w64 (s31.2 + 1)))
  else
    some (.inr s31.1))
def i_field_determinant_L0 (a0 : Int) (v1 : List (List Int)) (s3 : (List (List Int)) × Int × Int) : Option (((List (List Int)) × Int × Int) ⊕ (Int ⊕ Int)) :=
  (if s3.2.2 < (v1.length : Int) then
    (loop (i_field_determinant_L1 s3) BIG s3.2.2).bind fun x10 =>
    (if x10 = (s3.1.length : Int) then
      some (.inr (.inr 0))
    else
      ((if ¬ x10 = s3.2.2 then
        (idx s3.1 x10).bind fun v24 =>
        (idx s3.1 s3.2.2).bind fun v25 =>
        (idx (s3.1.set s3.2.2.toNat v24) x10).bind fun v26 =>
        (i_field_num a0 (w64 (0 - s3.2.1))).bind fun v27 =>
        some ((s3.1.set s3.2.2.toNat v24).set x10.toNat v25, v27)
      else
        some (s3.1, s3.2.1)) : Option ((List (List Int)) × Int)).bind fun x21 =>
      (idx x21.1 s3.2.2).bind fun v28 =>
      (idx v28 s3.2.2).bind fun v29 =>
      (i_field_num a0 (w64 (x21.2 * v29))).bind fun v30 =>
      (loop (i_field_determinant_L2 a0 s3) BIG (x21.1, w64 (s3.2.2 + 1))).bind fun x31 =>
      some (.inl (x31, v30, w64 (s3.2.2 + 1))))
  else
    some (.inr (.inl s3.2.1)))
def i_field_determinant (a0 : Int) (a1 : List (List Int)) : Option Int :=
  (i_cloneRows a1).bind fun v1 =>
  (loop (i_field_determinant_L0 a0 v1) BIG (v1, 1, 0)).bind fun x3 =>
  (match x3 with
  | .inl y5 =>
    some y5
  | .inr t => some t)

def i_Determinant (a0 : Int) (a1 : List (List Int)) : Option (Int × Int) :=
  (i_checkSquare a0 a1).bind fun v2 =>
  (if ¬ v2 = 0 then
    some (0, v2)
  else
    (i_field_determinant a0 a1).bind fun v4 =>
    some (v4, 0))

def l_big (a0 : List Int) : Option Bool :=
  some (ilt 4096 (a0.length : Int))

def s_l02Unit_L0 (a0 : Int) (s2 : (List (List Int)) × Int) : Option (((List (List Int)) × Int) ⊕ (List (List Int))) :=
  (if s2.2 < a0 then
    (chk (0 ≤ a0 ∧ a0 ≤ 1099511627776)).bind fun _ =>
    (some (List.replicate a0.toNat 0)).bind fun l8 =>
    (idx l8 s2.2).bind fun v9 =>
    (chk (s2.1.length + [l8.set s2.2.toNat 1].length ≤ 1099511627776)).bind fun _ =>
    some (.inl (s2.1 ++ [l8.set s2.2.toNat 1], w64 (s2.2 + 1)))
  else
    some (.inr s2.1))
def s_l02Unit (a0 : Int) : Option (List (List Int)) :=
  (loop (s_l02Unit_L0 a0) BIG ([], 0)).bind fun x2 =>
  some x2

def i_PowerMatrix_L0 (a0 : Int) (s10 : Int × (List (List Int)) × (List (List Int))) : Option ((Int × (List (List Int)) × (List (List Int))) ⊕ (List (List Int))) :=
  (if 0 < s10.1 then
    ((if (s10.1.tmod 2) = 1 then
      (i_field_times a0 s10.2.1 s10.2.2).bind fun v19 =>
      some v19
    else
      some s10.2.1) : Option (List (List Int))).bind fun x16 =>
    (i_field_times a0 s10.2.2 s10.2.2).bind fun v20 =>
    some (.inl (w64 (s10.1.tdiv 2), x16, v20))
  else
    some (.inr s10.2.1))
def i_PowerMatrix (a0 : Int) (a1 : List (List Int)) (a2 : Int) : Option ((List (List Int)) × Int) :=
  (i_checkSquare a0 a1).bind fun v2 =>
  (if ¬ v2 = 0 then
    some (([] : List (List Int)), v2)
  else
    (i_inRange a2 0 1000).bind fun v5 =>
    (if v5 = false then
      some (([] : List (List Int)), 2)
    else
      (i_unit (a1.length : Int)).bind fun v7 =>
      (i_cloneRows a1).bind fun v8 =>
      (loop (i_PowerMatrix_L0 a0) BIG (a2, v7, v8)).bind fun x10 =>
      some (x10, 0)))

end Go.Vam
