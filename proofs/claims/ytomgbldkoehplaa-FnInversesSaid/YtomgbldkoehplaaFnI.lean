import Derived.Test.YtomgbldkoehplaaFnH
import Derived.Test.YtomgbldkoehplaaVamY
namespace Go.Vam
open Go Go.RowKit
set_option maxRecDepth 100000
set_option linter.unusedSimpArgs false
set_option linter.unusedVariables false



def g_slices_Concat_LI_I_L0 (a0 : List (List Int)) (s2 : Int × Int) : Option ((Int × Int) ⊕ Int) :=
  (if s2.2 < (a0.length : Int) then
    (idx a0 s2.2).bind fun v7 =>
    (chk (¬ ((w64 (s2.1 + (v7.length : Int))) < 0))).bind fun _ =>
    some (.inl (w64 (s2.1 + (v7.length : Int)), w64 (s2.2 + 1)))
  else
    some (.inr s2.1))
def g_slices_Concat_LI_I_L1 (a0 : List (List Int)) (s12 : (List Int) × Int) : Option (((List Int) × Int) ⊕ (List Int)) :=
  (if s12.2 < (a0.length : Int) then
    (idx a0 s12.2).bind fun v17 =>
    (chk (s12.1.length + v17.length ≤ 1099511627776)).bind fun _ =>
    some (.inl (s12.1 ++ v17, w64 (s12.2 + 1)))
  else
    some (.inr s12.1))
def g_slices_Concat_LI_I (a0 : List (List Int)) : Option (List Int) :=
  (loop (g_slices_Concat_LI_I_L0 a0) BIG (0, 0)).bind fun x2 =>
  (chk (0 ≤ x2 ∧ x2 ≤ 1099511627776)).bind fun _ =>
  (loop (g_slices_Concat_LI_I_L1 a0) BIG ([], 0)).bind fun x12 =>
  some x12

def i_field_inverse_L0 (a1 : List (List Int)) (v2 : List (List Int)) (s3 : (List (List Int)) × Int) : Option (((List (List Int)) × Int) ⊕ (List (List Int))) :=
  (if s3.2 < (v2.length : Int) then
    (idx v2 s3.2).bind fun v8 =>
    (idx a1 s3.2).bind fun v9 =>
    (g_slices_Concat_LI_I [v9, v8]).bind fun v10 =>
    (chk (s3.1.length + [v10].length ≤ 1099511627776)).bind fun _ =>
    some (.inl (s3.1 ++ [v10], w64 (s3.2 + 1)))
  else
    some (.inr s3.1))
def i_field_inverse_L1 (a1 : List (List Int)) (v12 : List (List Int)) (s20 : (List (List Int)) × Int) : Option (((List (List Int)) × Int) ⊕ (List (List Int))) :=
  (if s20.2 < (v12.length : Int) then
    (idx s20.1 s20.2).bind fun v25 =>
    (chk (¬ (a1.length : Int) = 0 ∧ 0 ≤ (a1.length : Int) ∧ (a1.length : Int) ≤ (v25.length : Int))).bind fun _ =>
    (g_slices_Clone_LI_I (v25.drop (a1.length : Int).toNat)).bind fun v27 =>
    some (.inl (s20.1.set s20.2.toNat v27, w64 (s20.2 + 1)))
  else
    some (.inr s20.1))
def i_field_inverse (a0 : Int) (a1 : List (List Int)) : Option ((List (List Int)) × Bool) :=
  (i_unit (a1.length : Int)).bind fun v2 =>
  (loop (i_field_inverse_L0 a1 v2) BIG ([], 0)).bind fun x3 =>
  (i_field_basis a0 x3).bind fun v12 =>
  ((if (v12.length : Int) < (a1.length : Int) then
    some true
  else
    (idx v12 (w64 ((a1.length : Int) - 1))).bind fun v15 =>
    (i_lead v15).bind fun v16 =>
    some (ile (a1.length : Int) v16)) : Option Bool).bind fun x17 =>
  (if x17 = true then
    some (([] : List (List Int)), false)
  else
    (loop (i_field_inverse_L1 a1 v12) BIG (v12, 0)).bind fun x20 =>
    some (x20, true))

def i_InverseMatrix (a0 : Int) (a1 : List (List Int)) : Option ((List (List Int)) × Int) :=
  (i_checkSquare a0 a1).bind fun v2 =>
  (if ¬ v2 = 0 then
    some (([] : List (List Int)), v2)
  else
    (i_field_inverse a0 a1).bind fun v4 =>
    (if v4.2 = false then
      some (([] : List (List Int)), 5)
    else
      some (v4.1, 0)))

end Go.Vam
