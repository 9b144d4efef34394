import Derived.Test.YtomgbldkoehplaaFnA
namespace Go.Vam
open Go Go.RowKit
set_option maxRecDepth 100000
set_option linter.unusedSimpArgs false
set_option linter.unusedVariables false

def i_field_doubled_b (self : Int → (List Int) → (List Int) → (List Int) → Option (List Int)) (a0 : Int) (a1 : List Int) (a2 : List Int) (a3 : List Int) : Option (List Int) :=
  (if (a1.length : Int) = 0 then
    (idx a2 0).bind fun v3 =>
    (idx a3 0).bind fun v4 =>
    (i_field_num a0 (w64 (v3 * v4))).bind fun v5 =>
    some [v5]
  else
    (chk (0 ≤ (w64 ((a2.length : Int).tdiv 2)) ∧ (w64 ((a2.length : Int).tdiv 2)) ≤ (a2.length : Int))).bind fun _ =>
    (chk (0 ≤ (w64 ((a2.length : Int).tdiv 2)) ∧ (w64 ((a2.length : Int).tdiv 2)) ≤ (a2.length : Int))).bind fun _ =>
    (chk (0 ≤ (w64 ((a2.length : Int).tdiv 2)) ∧ (w64 ((a2.length : Int).tdiv 2)) ≤ (a3.length : Int))).bind fun _ =>
    (chk (0 ≤ (w64 ((a2.length : Int).tdiv 2)) ∧ (w64 ((a2.length : Int).tdiv 2)) ≤ (a3.length : Int))).bind fun _ =>
    (chk (0 ≤ (w64 ((a1.length : Int) - 1)) ∧ (w64 ((a1.length : Int) - 1)) ≤ (a1.length : Int))).bind fun _ =>
    (self a0 (a1.take (w64 ((a1.length : Int) - 1)).toNat) (a2.take (w64 ((a2.length : Int).tdiv 2)).toNat) (a3.take (w64 ((a2.length : Int).tdiv 2)).toNat)).bind fun v11 =>
    (i_field_conjugate a0 (a3.drop (w64 ((a2.length : Int).tdiv 2)).toNat)).bind fun v12 =>
    (self a0 (a1.take (w64 ((a1.length : Int) - 1)).toNat) v12 (a2.drop (w64 ((a2.length : Int).tdiv 2)).toNat)).bind fun v13 =>
    (idx a1 (w64 ((a1.length : Int) - 1))).bind fun v14 =>
    (i_field_plus a0 v11 v13 v14).bind fun v15 =>
    (self a0 (a1.take (w64 ((a1.length : Int) - 1)).toNat) (a3.drop (w64 ((a2.length : Int).tdiv 2)).toNat) (a2.take (w64 ((a2.length : Int).tdiv 2)).toNat)).bind fun v16 =>
    (i_field_conjugate a0 (a3.take (w64 ((a2.length : Int).tdiv 2)).toNat)).bind fun v17 =>
    (self a0 (a1.take (w64 ((a1.length : Int) - 1)).toNat) (a2.drop (w64 ((a2.length : Int).tdiv 2)).toNat) v17).bind fun v18 =>
    (i_field_plus a0 v16 v18 1).bind fun v19 =>
    (chk (v15.length + v19.length ≤ 1099511627776)).bind fun _ =>
    some (v15 ++ v19))
def i_field_doubled : Nat → Int → (List Int) → (List Int) → (List Int) → Option (List Int)
  | 0 => fun _ _ _ _ => none
  | n + 1 => i_field_doubled_b (i_field_doubled n)

def i_Doubling_times (a0_0 : Int) (a0_1 : List Int) (a1 : List Int) (a2 : List Int) : Option (List Int) :=
  (i_Doubling_field a0_0 a0_1).bind fun v1 =>
  (i_field_doubled BIG v1 a0_1 a1 a2).bind fun v2 =>
  some v2

def s_l01Own2_L0 (a0 : List (List Int)) (s2 : (List (List Int)) × Int) : Option (((List (List Int)) × Int) ⊕ (List (List Int))) :=
  (if s2.2 < (a0.length : Int) then
    (idx a0 s2.2).bind fun v7 =>
    (s_l01Own v7).bind fun v8 =>
    (chk (s2.1.length + [v8].length ≤ 1099511627776)).bind fun _ =>
    some (.inl (s2.1 ++ [v8], w64 (s2.2 + 1)))
  else
    some (.inr s2.1))
def s_l01Own2 (a0 : List (List Int)) : Option (List (List Int)) :=
  (loop (s_l01Own2_L0 a0) BIG ([], 0)).bind fun x2 =>
  some x2

def g_slices_Clone_LI_I (a0 : List Int) : Option (List Int) :=
  (chk (a0.length ≤ 1099511627776)).bind fun _ => some a0

def i_cloneRows_L0 (a0 : List (List Int)) (s2 : (List (List Int)) × Int) : Option (((List (List Int)) × Int) ⊕ (List (List Int))) :=
  (if s2.2 < (a0.length : Int) then
    (idx a0 s2.2).bind fun v7 =>
    (g_slices_Clone_LI_I v7).bind fun v8 =>
    (chk (s2.1.length + [v8].length ≤ 1099511627776)).bind fun _ =>
    some (.inl (s2.1 ++ [v8], w64 (s2.2 + 1)))
  else
    some (.inr s2.1))
def i_cloneRows (a0 : List (List Int)) : Option (List (List Int)) :=
  (loop (i_cloneRows_L0 a0) BIG ([], 0)).bind fun x2 =>
  some x2

def i_field_pow_L0 (a0 : Int) (a1 : Int) (a2 : Int) (s2 : Int × Int) : Option ((Int × Int) ⊕ Int) :=
  (if s2.2 < a2 then
    (i_field_num a0 (w64 (s2.1 * a1))).bind fun v7 =>
    some (.inl (v7, w64 (s2.2 + 1)))
  else
    some (.inr s2.1))
def i_field_pow (a0 : Int) (a1 : Int) (a2 : Int) : Option Int :=
  (loop (i_field_pow_L0 a0 a1 a2) BIG (1, 0)).bind fun x2 =>
  some x2

def i_field_inv (a0 : Int) (a1 : Int) : Option Int :=
  (i_field_pow a0 a1 (w64 (a0 - 2))).bind fun v1 =>
  some v1

def s_l02Det_L1 (s3 : (List (List Int)) × Int × Int) (s10 : Int) : Option (Int ⊕ Int) :=
  ((if s10 < (s3.1.length : Int) then
    (idx s3.1 s10).bind fun v14 =>
    (idx v14 s3.2.2).bind fun v15 =>
    some (ieq v15 0)
  else
    some false) : Option Bool).bind fun x16 =>
  (if x16 = true then
    some (.inl (w64 (s10 + 1)))
  else
    some (.inr s10))
def s_l02Det_L2 (a0 : Int) (s3 : (List (List Int)) × Int × Int) (v32 : Int) (s33 : (List (List Int)) × Int) : Option (((List (List Int)) × Int) ⊕ (List (List Int))) :=
  (if s33.2 < (s33.1.length : Int) then
    (idx s33.1 s33.2).bind fun v38 =>
    (idx s33.1 s3.2.2).bind fun v39 =>
    (idx v38 s3.2.2).bind fun v40 =>
    (chk (¬ a0 = 0)).bind fun _ =>
    (s_l02Plus a0 v38 v39 ((w64 ((w64 (a0 - v40)) * v32)).tmod a0)).bind fun v42 =>
    some (.inl (s33.1.set s33.2.toNat v42, w64 (s33.2 + 1)))
  else
    some (.inr s33.1))
def s_l02Det_L0 (a0 : Int) (s3 : (List (List Int)) × Int × Int) : Option (((List (List Int)) × Int × Int) ⊕ (Int ⊕ Int)) :=
  (if s3.2.2 < (s3.1.length : Int) then
    (loop (s_l02Det_L1 s3) BIG s3.2.2).bind fun x10 =>
    (if x10 = (s3.1.length : Int) then
      some (.inr (.inr 0))
    else
      ((if s3.2.2 < x10 then
        (idx s3.1 x10).bind fun v24 =>
        (idx s3.1 s3.2.2).bind fun v25 =>
        (some (s3.1.set x10.toNat v25)).bind fun l26 =>
        (idx l26 s3.2.2).bind fun v27 =>
        (chk (¬ a0 = 0)).bind fun _ =>
        some (l26.set s3.2.2.toNat v24, (w64 (a0 - s3.2.1)).tmod a0)
      else
        some (s3.1, s3.2.1)) : Option ((List (List Int)) × Int)).bind fun x21 =>
      (idx x21.1 s3.2.2).bind fun v29 =>
      (idx v29 s3.2.2).bind fun v30 =>
      (chk (¬ a0 = 0)).bind fun _ =>
      (s_l01Inv a0 v30).bind fun v32 =>
      (loop (s_l02Det_L2 a0 s3 v32) BIG (x21.1, w64 (s3.2.2 + 1))).bind fun x33 =>
      some (.inl (x33, (w64 (x21.2 * v30)).tmod a0, w64 (s3.2.2 + 1))))
  else
    some (.inr (.inl s3.2.1)))
def s_l02Det (a0 : Int) (a1 : List (List Int)) : Option Int :=
  (s_l01Own2 a1).bind fun v1 =>
  (loop (s_l02Det_L0 a0) BIG (v1, 1, 0)).bind fun x3 =>
  (match x3 with
  | .inl y5 =>
    some y5
  | .inr t => some t)

def i_field_determinant_L1 (s3 : (List (List Int)) × Int × Int) (s10 : Int) : Option (Int ⊕ Int) :=
  ((if s10 < (s3.1.length : Int) then
    (idx s3.1 s10).bind fun v14 =>
    (idx v14 s3.2.2).bind fun v15 =>
    some (ieq v15 0)
  else
    some false) : Option Bool).bind fun x16 =>
  (if x16 = true then
    some (.inl (w64 (s10 + 1)))
  else
    some (.inr s10))
def i_field_determinant_L2 (a0 : Int) (s3 : (List (List Int)) × Int × Int) (s31 : (List (List Int)) × Int) : Option (((List (List Int)) × Int) ⊕ (List (List Int))) :=
  (if s31.2 < (s31.1.length : Int) then
    (idx s31.1 s31.2).bind fun v36 =>
    (idx s31.1 s3.2.2).bind fun v37 =>
    (idx v36 s3.2.2).bind fun v38 =>
    (idx v37 s3.2.2).bind fun v39 =>
    (i_field_inv a0 v39).bind fun v40 =>
    (i_field_plus a0 v36 v37 (w64 ((w64 (0 - v38)) * v40))).bind fun v41 =>
    some (.inl (s31.1.set s31.2.toNat v41, w64 (s31.2 + 1)))
  else
    some (.inr s31.1))
def i_field_determinant_L0 (a0 : Int) (v1 : List (List Int)) (s3 : (List (List Int)) × Int × Int) : Option (((List (List Int)) × Int × Int) ⊕ (Int ⊕ Int)) :=
  (if s3.2.2 < (v1.length : Int) then
    (loop (i_field_determinant_L1 s3) BIG s3.2.2).bind fun x10 =>
    (if x10 = (s3.1.length : Int) then
      some (.inr (.inr 0))
    else
      ((if ¬ x10 = s3.2.2 then
        (idx s3.1 x10).bind fun v24 =>
        (idx s3.1 s3.2.2).bind fun v25 =>
        (idx (s3.1.set s3.2.2.toNat v24) x10).bind fun v26 =>
        (i_field_num a0 (w64 (0 - s3.2.1))).bind fun v27 =>
        some ((s3.1.set s3.2.2.toNat v24).set x10.toNat v25, v27)
      else
        some (s3.1, s3.2.1)) : Option ((List (List Int)) × Int)).bind fun x21 =>
      (idx x21.1 s3.2.2).bind fun v28 =>
      (idx v28 s3.2.2).bind fun v29 =>
      (i_field_num a0 (w64 (x21.2 * v29))).bind fun v30 =>
      (loop (i_field_determinant_L2 a0 s3) BIG (x21.1, w64 (s3.2.2 + 1))).bind fun x31 =>
      some (.inl (x31, v30, w64 (s3.2.2 + 1))))
  else
    some (.inr (.inl s3.2.1)))
def i_field_determinant (a0 : Int) (a1 : List (List Int)) : Option Int :=
  (i_cloneRows a1).bind fun v1 =>
  (loop (i_field_determinant_L0 a0 v1) BIG (v1, 1, 0)).bind fun x3 =>
  (match x3 with
  | .inl y5 =>
    some y5
  | .inr t => some t)

def l_eqDoubling (a0_0 : Int) (a0_1 : List Int) (a1_0 : Int) (a1_1 : List Int) : Option Bool :=
  (if ¬ a0_0 = a1_0 then
    some false
  else
    (l_eqInt64S a0_1 a1_1).bind fun v4 =>
    (if v4 = false then
      some false
    else
      some true))

def l_markDoubling (a0_0 : Int) (a0_1 : List Int) (a1 : Int) : Option Int :=
  (l_markInt64S a0_1 a1).bind fun v1 =>
  some v1.1

end Go.Vam
