import Derived.Test.YtijmfifejmgeaaaVamT
import Derived.Test.YtijmfifejmgeaaaVamV
import Derived.Test.YtijmfifejmgeaaaVamY
import Derived.Test.YtijmfifejmgeaaaVamZ
import Derived.Test.YtijmfifejmgeaaaVamAM
import Derived.Test.YtijmfifejmgeaaaVamAN
namespace Go.Vam
open Go Go.RowKit
set_option maxRecDepth 100000
set_option linter.unusedSimpArgs false
set_option linter.unusedVariables false

def l_szInt64S (a0 : List Int) (a1 : Int) : Option Int :=
  (if (w64 (a1 - (a0.length : Int))) < 0 then
    some (-1)
  else
    some (w64 (a1 - (a0.length : Int))))

def l_szInt64SS_L0 (a0 : List (List Int)) (s4 : Int × Int) : Option ((Int × Int) ⊕ (Int ⊕ Int)) :=
  (if s4.2 < (a0.length : Int) then
    (idx a0 s4.2).bind fun v10 =>
    (l_szInt64S v10 s4.1).bind fun v11 =>
    (if v11 < 0 then
      some (.inr (.inr (-1)))
    else
      some (.inl (v11, w64 (s4.2 + 1))))
  else
    some (.inr (.inl s4.1)))
def l_szInt64SS (a0 : List (List Int)) (a1 : Int) : Option Int :=
  (if (w64 (a1 - (a0.length : Int))) < 0 then
    some (-1)
  else
    (loop (l_szInt64SS_L0 a0) BIG (w64 (a1 - (a0.length : Int)), 0)).bind fun x4 =>
    (match x4 with
    | .inl y6 =>
      some y6
    | .inr t => some t))

def l_toInt64S_L0 (a0 : List Int) (s3 : (List Int) × Int) : Option (((List Int) × Int) ⊕ (List Int)) :=
  (if s3.2 < (a0.length : Int) then
    (idx a0 s3.2).bind fun v8 =>
    (idx s3.1 s3.2).bind fun v9 =>
    some (.inl (s3.1.set s3.2.toNat v8, w64 (s3.2 + 1)))
  else
    some (.inr s3.1))
def l_toInt64S (a0 : List Int) : Option (List Int) :=
  (chk (0 ≤ (a0.length : Int) ∧ (a0.length : Int) ≤ 1099511627776)).bind fun _ =>
  (loop (l_toInt64S_L0 a0) BIG (List.replicate (a0.length : Int).toNat 0, 0)).bind fun x3 =>
  some x3

def l_toInt64SS_L0 (a0 : List (List Int)) (s3 : (List (List Int)) × Int) : Option (((List (List Int)) × Int) ⊕ (List (List Int))) :=
  (if s3.2 < (a0.length : Int) then
    (idx a0 s3.2).bind fun v8 =>
    (l_toInt64S v8).bind fun v9 =>
    (idx s3.1 s3.2).bind fun v10 =>
    some (.inl (s3.1.set s3.2.toNat v9, w64 (s3.2 + 1)))
  else
    some (.inr s3.1))
def l_toInt64SS (a0 : List (List Int)) : Option (List (List Int)) :=
  (chk (0 ≤ (a0.length : Int) ∧ (a0.length : Int) ≤ 1099511627776)).bind fun _ =>
  (loop (l_toInt64SS_L0 a0) BIG (List.replicate (a0.length : Int).toNat [], 0)).bind fun x3 =>
  some x3

def s_l01In (a0 : Int) (a1 : Int) (a2 : Int) : Option Bool :=
  ((if a1 ≤ a0 then
    some (ile a0 a2)
  else
    some false) : Option Bool).bind fun x2 =>
  some x2

def i_inRange (a0 : Int) (a1 : Int) (a2 : Int) : Option Bool :=
  ((if a1 ≤ a0 then
    some (ile a0 a2)
  else
    some false) : Option Bool).bind fun x2 =>
  some x2

def l_eqInt64S_L0 (a0 : List Int) (a1 : List Int) (s4 : Int) : Option (Int ⊕ (Unit ⊕ Bool)) :=
  (if s4 < (a0.length : Int) then
    (idx a0 s4).bind fun v10 =>
    (idx a1 s4).bind fun v11 =>
    (if ¬ v10 = v11 then
      some (.inr (.inr false))
    else
      some (.inl (w64 (s4 + 1))))
  else
    some (.inr (.inl ())))
def l_eqInt64S (a0 : List Int) (a1 : List Int) : Option Bool :=
  (if ¬ (a0.length : Int) = (a1.length : Int) then
    some false
  else
    (loop (l_eqInt64S_L0 a0 a1) BIG 0).bind fun x4 =>
    (match x4 with
    | .inl y6 =>
      some true
    | .inr t => some t))

def l_eqInt64SS_L0 (a0 : List (List Int)) (a1 : List (List Int)) (s4 : Int) : Option (Int ⊕ (Unit ⊕ Bool)) :=
  (if s4 < (a0.length : Int) then
    (idx a0 s4).bind fun v10 =>
    (idx a1 s4).bind fun v11 =>
    (l_eqInt64S v10 v11).bind fun v12 =>
    (if v12 = false then
      some (.inr (.inr false))
    else
      some (.inl (w64 (s4 + 1))))
  else
    some (.inr (.inl ())))
def l_eqInt64SS (a0 : List (List Int)) (a1 : List (List Int)) : Option Bool :=
  (if ¬ (a0.length : Int) = (a1.length : Int) then
    some false
  else
    (loop (l_eqInt64SS_L0 a0 a1) BIG 0).bind fun x4 =>
    (match x4 with
    | .inl y6 =>
      some true
    | .inr t => some t))

def i_transpose_L1 (a0 : List (List Int)) (s3 : (List (List Int)) × Int) (s9 : (List Int) × Int) : Option (((List Int) × Int) ⊕ (List Int)) :=
  (if s9.2 < (a0.length : Int) then
    (idx a0 s9.2).bind fun v14 =>
    (idx v14 s3.2).bind fun v15 =>
    (chk (s9.1.length + [v15].length ≤ 1099511627776)).bind fun _ =>
    some (.inl (s9.1 ++ [v15], w64 (s9.2 + 1)))
  else
    some (.inr s9.1))
def i_transpose_L0 (a0 : List (List Int)) (v2 : List Int) (s3 : (List (List Int)) × Int) : Option (((List (List Int)) × Int) ⊕ (List (List Int))) :=
  (if s3.2 < (v2.length : Int) then
    (loop (i_transpose_L1 a0 s3) BIG ([], 0)).bind fun x9 =>
    (chk (s3.1.length + [x9].length ≤ 1099511627776)).bind fun _ =>
    some (.inl (s3.1 ++ [x9], w64 (s3.2 + 1)))
  else
    some (.inr s3.1))
def i_transpose (a0 : List (List Int)) : Option (List (List Int)) :=
  (idx a0 0).bind fun v2 =>
  (loop (i_transpose_L0 a0 v2) BIG ([], 0)).bind fun x3 =>
  some x3

def s_l12First_L0 (a0 : List Int) (s2 : Int) : Option (Int ⊕ Int) :=
  ((if s2 < (a0.length : Int) then
    (idx a0 s2).bind fun v6 =>
    some (ieq v6 0)
  else
    some false) : Option Bool).bind fun x7 =>
  (if x7 = true then
    some (.inl (w64 (s2 + 1)))
  else
    some (.inr s2))
def s_l12First (a0 : List Int) : Option Int :=
  (loop (s_l12First_L0 a0) BIG 0).bind fun x2 =>
  some x2

end Go.Vam

namespace Go.Vam
open Go Go.RowKit
set_option maxRecDepth 100000
set_option linter.unusedSimpArgs false
set_option linter.unusedVariables false

def i_length_I (a0 : List Int) : Option Int :=
  some (a0.length : Int)

def s_l13Is_L0 (a0 : List (List Int)) (s5 : Int) : Option (Int ⊕ (Unit ⊕ Bool)) :=
  (if s5 < (a0.length : Int) then
    (idx a0 s5).bind fun v11 =>
    (if ¬ (v11.length : Int) = (a0.length : Int) then
      some (.inr (.inr false))
    else
      some (.inl (w64 (s5 + 1))))
  else
    some (.inr (.inl ())))
def s_l13Is_L2 (a0 : List (List Int)) (s14 : Int) (s23 : (List Bool) × (List Bool) × Int) : Option (((List Bool) × (List Bool) × Int) ⊕ (Unit ⊕ (Int ⊕ (Unit ⊕ Bool)))) :=
  (if s23.2.2 < (a0.length : Int) then
    ((idx a0 s14).bind fun v30 =>
    (idx v30 s23.2.2).bind fun v31 =>
    (s_l01In v31 0 (w64 ((a0.length : Int) - 1))).bind fun v32 =>
    (if v32 = false then
      some true
    else
      (idx a0 s23.2.2).bind fun v34 =>
      (idx v34 s14).bind fun v35 =>
      (s_l01In v35 0 (w64 ((a0.length : Int) - 1))).bind fun v36 =>
      (if v36 = false then
        some true
      else
        (idx s23.1 v31).bind fun v38 =>
        (if v38 = true then
          some true
        else
          (idx s23.2.1 v35).bind fun v40 =>
          some v40))) : Option Bool).bind fun x41 =>
    (if x41 = true then
      some (.inr (.inr (.inr (.inr false))))
    else
      (idx a0 s14).bind fun v43 =>
      (idx v43 s23.2.2).bind fun v44 =>
      (idx s23.1 v44).bind fun v45 =>
      (idx a0 s23.2.2).bind fun v46 =>
      (idx v46 s14).bind fun v47 =>
      (idx s23.2.1 v47).bind fun v48 =>
      some (.inl (s23.1.set v44.toNat true, s23.2.1.set v47.toNat true, w64 (s23.2.2 + 1))))
  else
    some (.inr (.inl ())))
def s_l13Is_L1 (a0 : List (List Int)) (s14 : Int) : Option (Int ⊕ (Unit ⊕ Bool)) :=
  (if s14 < (a0.length : Int) then
    (chk (0 ≤ (a0.length : Int) ∧ (a0.length : Int) ≤ 1099511627776)).bind fun _ =>
    (chk (0 ≤ (a0.length : Int) ∧ (a0.length : Int) ≤ 1099511627776)).bind fun _ =>
    (loop (s_l13Is_L2 a0 s14) BIG (List.replicate (a0.length : Int).toNat false, List.replicate (a0.length : Int).toNat false, 0)).bind fun x23 =>
    (match x23 with
    | .inl y25 =>
      ((idx a0 0).bind fun v49 =>
      (idx v49 s14).bind fun v50 =>
      (if ¬ v50 = s14 then
        some true
      else
        (idx a0 s14).bind fun v52 =>
        (idx v52 0).bind fun v53 =>
        some (!(ieq v53 s14))) : Option Bool).bind fun x54 =>
      (if x54 = true then
        some (.inr (.inr false))
      else
        some (.inl (w64 (s14 + 1))))
    | .inr t => some t)
  else
    some (.inr (.inl ())))
def s_l13Is (a0 : List (List Int)) : Option Bool :=
  (s_l01In (a0.length : Int) 1 128).bind fun v2 =>
  (if v2 = false then
    some false
  else
    (loop (s_l13Is_L0 a0) BIG 0).bind fun x5 =>
    (match x5 with
    | .inl y7 =>
      (loop (s_l13Is_L1 a0) BIG 0).bind fun x14 =>
      (match x14 with
      | .inl y16 =>
        some true
      | .inr t => some t)
    | .inr t => some t))

def s_l13Associates (a0 : List (List Int)) (a1 : Int) (a2 : Int) (a3 : Int) : Option Bool :=
  (idx a0 a1).bind fun v1 =>
  (idx v1 a2).bind fun v2 =>
  (idx a0 v2).bind fun v3 =>
  (idx v3 a3).bind fun v4 =>
  (idx a0 a2).bind fun v5 =>
  (idx v5 a3).bind fun v6 =>
  (idx v1 v6).bind fun v7 =>
  some (ieq v4 v7)

def i_isOnce_L0 (a0 : List Int) (s3 : (List Bool) × Int) : Option (((List Bool) × Int) ⊕ (Unit ⊕ Bool)) :=
  (if s3.2 < (a0.length : Int) then
    (idx a0 s3.2).bind fun v9 =>
    ((i_length_I a0).bind fun v11 =>
    (i_inRange v9 0 (w64 (v11 - 1))).bind fun v12 =>
    (if v12 = false then
      some true
    else
      (idx s3.1 v9).bind fun v14 =>
      some v14) : Option Bool).bind fun x15 =>
    (if x15 = true then
      some (.inr (.inr false))
    else
      (idx s3.1 v9).bind fun v17 =>
      some (.inl (s3.1.set v9.toNat true, w64 (s3.2 + 1))))
  else
    some (.inr (.inl ())))
def i_isOnce (a0 : List Int) : Option Bool :=
  (chk (0 ≤ (a0.length : Int) ∧ (a0.length : Int) ≤ 1099511627776)).bind fun _ =>
  (loop (i_isOnce_L0 a0) BIG (List.replicate (a0.length : Int).toNat false, 0)).bind fun x3 =>
  (match x3 with
  | .inl y5 =>
    some true
  | .inr t => some t)

def i_IsLoop_c1 (a0 : List Int) : Option Bool :=
  (i_isOnce a0).bind fun v1 =>
  some (!v1)

def g_slices_IndexFunc_LLI_LI_of_i_IsLoop_c1_L0 (a0 : List (List Int)) (s2 : Int) : Option (Int ⊕ (Unit ⊕ Int)) :=
  (if s2 < (a0.length : Int) then
    (idx a0 s2).bind fun v8 =>
    (i_IsLoop_c1 v8).bind fun v9 =>
    (if v9 = true then
      some (.inr (.inr s2))
    else
      some (.inl (w64 (s2 + 1))))
  else
    some (.inr (.inl ())))
def g_slices_IndexFunc_LLI_LI_of_i_IsLoop_c1 (a0 : List (List Int)) : Option Int :=
  (loop (g_slices_IndexFunc_LLI_LI_of_i_IsLoop_c1_L0 a0) BIG 0).bind fun x2 =>
  (match x2 with
  | .inl y4 =>
    some (-1)
  | .inr t => some t)

def g_slices_ContainsFunc_LLI_LI_of_i_IsLoop_c1 (a0 : List (List Int)) : Option Bool :=
  (g_slices_IndexFunc_LLI_LI_of_i_IsLoop_c1 a0).bind fun v1 =>
  some (ile 0 v1)

def i_IsLoop_L0 (a0 : List (List Int)) (s6 : Int) : Option (Int ⊕ (Unit ⊕ Bool)) :=
  (if s6 < (a0.length : Int) then
    (idx a0 s6).bind fun v12 =>
    (if ¬ (v12.length : Int) = (a0.length : Int) then
      some (.inr (.inr false))
    else
      some (.inl (w64 (s6 + 1))))
  else
    some (.inr (.inl ())))
def i_IsLoop_L1 (a0 : List (List Int)) (s15 : Int) : Option (Int ⊕ (Unit ⊕ Bool)) :=
  (if s15 < (a0.length : Int) then
    (idx a0 s15).bind fun v21 =>
    ((idx v21 0).bind fun v22 =>
    (if ¬ v22 = s15 then
      some true
    else
      (idx a0 0).bind fun v24 =>
      (idx v24 s15).bind fun v25 =>
      (if ¬ v25 = s15 then
        some true
      else
        (i_isOnce v21).bind fun v27 =>
        some (!v27))) : Option Bool).bind fun x28 =>
    (if x28 = true then
      some (.inr (.inr false))
    else
      some (.inl (w64 (s15 + 1))))
  else
    some (.inr (.inl ())))
def i_IsLoop (a0 : List (List Int)) : Option Bool :=
  ((if (a0.length : Int) < 1 then
    some true
  else
    some (ilt 128 (a0.length : Int))) : Option Bool).bind fun x3 =>
  (if x3 = true then
    some false
  else
    (loop (i_IsLoop_L0 a0) BIG 0).bind fun x6 =>
    (match x6 with
    | .inl y8 =>
      (loop (i_IsLoop_L1 a0) BIG 0).bind fun x15 =>
      (match x15 with
      | .inl y17 =>
        (i_transpose a0).bind fun v30 =>
        (g_slices_ContainsFunc_LLI_LI_of_i_IsLoop_c1 v30).bind fun v31 =>
        some (!v31)
      | .inr t => some t)
    | .inr t => some t))

def i_length_LI (a0 : List (List Int)) : Option Int :=
  some (a0.length : Int)

def i_checkLoop_c1 (a0 : Int) (a1_0 : List (List Int)) : Option Bool :=
  (i_length_LI a1_0).bind fun v1 =>
  (i_inRange a0 0 (w64 (v1 - 1))).bind fun v2 =>
  some (!v2)

def g_slices_IndexFunc_LI_I_of_i_checkLoop_c1_L0 (a0 : List Int) (a1_0_0 : List (List Int)) (s2 : Int) : Option (Int ⊕ (Unit ⊕ Int)) :=
  (if s2 < (a0.length : Int) then
    (idx a0 s2).bind fun v8 =>
    (i_checkLoop_c1 v8 a1_0_0).bind fun v9 =>
    (if v9 = true then
      some (.inr (.inr s2))
    else
      some (.inl (w64 (s2 + 1))))
  else
    some (.inr (.inl ())))
def g_slices_IndexFunc_LI_I_of_i_checkLoop_c1 (a0 : List Int) (a1_0_0 : List (List Int)) : Option Int :=
  (loop (g_slices_IndexFunc_LI_I_of_i_checkLoop_c1_L0 a0 a1_0_0) BIG 0).bind fun x2 =>
  (match x2 with
  | .inl y4 =>
    some (-1)
  | .inr t => some t)

def g_slices_ContainsFunc_LI_I_of_i_checkLoop_c1 (a0 : List Int) (a1_0_0 : List (List Int)) : Option Bool :=
  (g_slices_IndexFunc_LI_I_of_i_checkLoop_c1 a0 a1_0_0).bind fun v1 =>
  some (ile 0 v1)

def i_checkLoop (a0 : List (List Int)) (a1 : List Int) : Option Int :=
  (i_IsLoop a0).bind fun v2 =>
  (if v2 = false then
    some 1
  else
    (g_slices_ContainsFunc_LI_I_of_i_checkLoop_c1 a1 a0).bind fun v5 =>
    (if v5 = true then
      some 2
    else
      some 0))

def i_associates (a0 : List (List Int)) (a1 : Int) (a2 : Int) (a3 : Int) : Option Bool :=
  (idx a0 a1).bind fun v1 =>
  (idx v1 a2).bind fun v2 =>
  (idx a0 v2).bind fun v3 =>
  (idx v3 a3).bind fun v4 =>
  (idx a0 a2).bind fun v5 =>
  (idx v5 a3).bind fun v6 =>
  (idx v1 v6).bind fun v7 =>
  some (ieq v4 v7)

end Go.Vam

namespace Go.Vam
open Go Go.RowKit
set_option maxRecDepth 100000
set_option linter.unusedSimpArgs false
set_option linter.unusedVariables false

def s_l02First_L0 (a0 : List Int) (s2 : Int) : Option (Int ⊕ (Unit ⊕ Int)) :=
  (if s2 < (a0.length : Int) then
    (idx a0 s2).bind fun v8 =>
    (if ¬ v8 = 0 then
      some (.inr (.inr s2))
    else
      some (.inl (w64 (s2 + 1))))
  else
    some (.inr (.inl ())))
def s_l02First (a0 : List Int) : Option Int :=
  (loop (s_l02First_L0 a0) BIG 0).bind fun x2 =>
  (match x2 with
  | .inl y4 =>
    some (-1)
  | .inr t => some t)

def i_lead_L0 (a0 : List Int) (s2 : Int) : Option (Int ⊕ Int) :=
  ((if s2 < (a0.length : Int) then
    (idx a0 s2).bind fun v6 =>
    some (ieq v6 0)
  else
    some false) : Option Bool).bind fun x7 =>
  (if x7 = true then
    some (.inl (w64 (s2 + 1)))
  else
    some (.inr s2))
def i_lead (a0 : List Int) : Option Int :=
  (loop (i_lead_L0 a0) BIG 0).bind fun x2 =>
  some x2

end Go.Vam

namespace Go.Vam
open Go Go.RowKit
set_option maxRecDepth 100000
set_option linter.unusedSimpArgs false
set_option linter.unusedVariables false

def s_l13Sub_L0 (a1 : List Int) (s5 : (List Bool) × (List Int) × Int) : Option (((List Bool) × (List Int) × Int) ⊕ ((List Bool) × (List Int))) :=
  (if s5.2.2 < (a1.length : Int) then
    ((idx a1 s5.2.2).bind fun v11 =>
    (idx s5.1 v11).bind fun v12 =>
    (if v12 = false then
      (chk (s5.2.1.length + [v11].length ≤ 1099511627776)).bind fun _ =>
      some (s5.1.set v11.toNat true, s5.2.1 ++ [v11])
    else
      some (s5.1, s5.2.1)) : Option ((List Bool) × (List Int))).bind fun x9 =>
    some (.inl (x9.1, x9.2, w64 (s5.2.2 + 1)))
  else
    some (.inr (s5.1, s5.2.1)))
def s_l13Sub_L3 (s32 : (List Bool) × (List Int) × (List Int) × Int) : Option (((List Bool) × (List Int) × (List Int) × Int) ⊕ ((List Bool) × (List Int))) :=
  (if s32.2.2.2 < 2 then
    ((idx s32.2.2.1 s32.2.2.2).bind fun v38 =>
    (idx s32.1 v38).bind fun v39 =>
    (if v39 = false then
      (chk (s32.2.1.length + [v38].length ≤ 1099511627776)).bind fun _ =>
      some (s32.1.set v38.toNat true, s32.2.1 ++ [v38])
    else
      some (s32.1, s32.2.1)) : Option ((List Bool) × (List Int))).bind fun x36 =>
    some (.inl (x36.1, x36.2, s32.2.2.1, w64 (s32.2.2.2 + 1)))
  else
    some (.inr (s32.1, s32.2.1)))
def s_l13Sub_L2 (a0 : List (List Int)) (s16 : (List Bool) × (List Int) × Int) (s21 : (List Bool) × (List Int) × Int) : Option (((List Bool) × (List Int) × Int) ⊕ ((List Bool) × (List Int))) :=
  (if s21.2.2 ≤ s16.2.2 then
    (idx s21.2.1 s16.2.2).bind fun v26 =>
    (idx a0 v26).bind fun v27 =>
    (idx s21.2.1 s21.2.2).bind fun v28 =>
    (idx v27 v28).bind fun v29 =>
    (idx a0 v28).bind fun v30 =>
    (idx v30 v26).bind fun v31 =>
    (loop s_l13Sub_L3 BIG (s21.1, s21.2.1, [v29, v31], 0)).bind fun x32 =>
    some (.inl (x32.1, x32.2, w64 (s21.2.2 + 1)))
  else
    some (.inr (s21.1, s21.2.1)))
def s_l13Sub_L1 (a0 : List (List Int)) (s16 : (List Bool) × (List Int) × Int) : Option (((List Bool) × (List Int) × Int) ⊕ (List Bool)) :=
  (if s16.2.2 < (s16.2.1.length : Int) then
    (loop (s_l13Sub_L2 a0 s16) BIG (s16.1, s16.2.1, 0)).bind fun x21 =>
    some (.inl (x21.1, x21.2, w64 (s16.2.2 + 1)))
  else
    some (.inr s16.1))
def s_l13Sub_L4 (a0 : List (List Int)) (x16 : List Bool) (s43 : (List Int) × Int) : Option (((List Int) × Int) ⊕ (List Int)) :=
  (if s43.2 < (a0.length : Int) then
    ((idx x16 s43.2).bind fun v49 =>
    (if v49 = true then
      (chk (s43.1.length + [s43.2].length ≤ 1099511627776)).bind fun _ =>
      some (s43.1 ++ [s43.2])
    else
      some s43.1) : Option (List Int)).bind fun x47 =>
    some (.inl (x47, w64 (s43.2 + 1)))
  else
    some (.inr s43.1))
def s_l13Sub (a0 : List (List Int)) (a1 : List Int) : Option (List Int) :=
  (chk (0 ≤ (a0.length : Int) ∧ (a0.length : Int) ≤ 1099511627776)).bind fun _ =>
  (some (List.replicate (a0.length : Int).toNat false)).bind fun l2 =>
  (idx l2 0).bind fun v3 =>
  (loop (s_l13Sub_L0 a1) BIG (l2.set 0 true, [0], 0)).bind fun x5 =>
  (loop (s_l13Sub_L1 a0) BIG (x5.1, x5.2, 0)).bind fun x16 =>
  (loop (s_l13Sub_L4 a0 x16) BIG ([], 0)).bind fun x43 =>
  some x43

def s_IsDiassociativeLoop_L4 (a0 : List (List Int)) (v18 : List Int) (s19 : Int) (s25 : Int) (s31 : Int) : Option (Int ⊕ (Unit ⊕ (Int ⊕ (Unit ⊕ (Int ⊕ (Unit ⊕ (Int ⊕ (Unit ⊕ (Int ⊕ (Unit ⊕ (Bool × Int))))))))))) :=
  (if s31 < (v18.length : Int) then
    (idx v18 s19).bind fun v37 =>
    (idx v18 s25).bind fun v38 =>
    (idx v18 s31).bind fun v39 =>
    (s_l13Associates a0 v37 v38 v39).bind fun v40 =>
    (if v40 = false then
      some (.inr (.inr (.inr (.inr (.inr (.inr (.inr (.inr (.inr (.inr (false, 0)))))))))))
    else
      some (.inl (w64 (s31 + 1))))
  else
    some (.inr (.inl ())))
def s_IsDiassociativeLoop_L3 (a0 : List (List Int)) (v18 : List Int) (s19 : Int) (s25 : Int) : Option (Int ⊕ (Unit ⊕ (Int ⊕ (Unit ⊕ (Int ⊕ (Unit ⊕ (Int ⊕ (Unit ⊕ (Bool × Int))))))))) :=
  (if s25 < (v18.length : Int) then
    (loop (s_IsDiassociativeLoop_L4 a0 v18 s19 s25) BIG 0).bind fun x31 =>
    (match x31 with
    | .inl y33 =>
      some (.inl (w64 (s25 + 1)))
    | .inr t => some t)
  else
    some (.inr (.inl ())))
def s_IsDiassociativeLoop_L2 (a0 : List (List Int)) (v18 : List Int) (s19 : Int) : Option (Int ⊕ (Unit ⊕ (Int ⊕ (Unit ⊕ (Int ⊕ (Unit ⊕ (Bool × Int))))))) :=
  (if s19 < (v18.length : Int) then
    (loop (s_IsDiassociativeLoop_L3 a0 v18 s19) BIG 0).bind fun x25 =>
    (match x25 with
    | .inl y27 =>
      some (.inl (w64 (s19 + 1)))
    | .inr t => some t)
  else
    some (.inr (.inl ())))
def s_IsDiassociativeLoop_L1 (a0 : List (List Int)) (s6 : Int) (s12 : Int) : Option (Int ⊕ (Unit ⊕ (Int ⊕ (Unit ⊕ (Bool × Int))))) :=
  (if s12 < (a0.length : Int) then
    (s_l13Sub a0 [s6, s12]).bind fun v18 =>
    (loop (s_IsDiassociativeLoop_L2 a0 v18) BIG 0).bind fun x19 =>
    (match x19 with
    | .inl y21 =>
      some (.inl (w64 (s12 + 1)))
    | .inr t => some t)
  else
    some (.inr (.inl ())))
def s_IsDiassociativeLoop_L0 (a0 : List (List Int)) (s6 : Int) : Option (Int ⊕ (Unit ⊕ (Bool × Int))) :=
  (if s6 < (a0.length : Int) then
    (loop (s_IsDiassociativeLoop_L1 a0 s6) BIG s6).bind fun x12 =>
    (match x12 with
    | .inl y14 =>
      some (.inl (w64 (s6 + 1)))
    | .inr t => some t)
  else
    some (.inr (.inl ())))
def s_IsDiassociativeLoop (a0 : List (List Int)) : Option (Bool × Int) :=
  (s_l13Is a0).bind fun v2 =>
  (if v2 = false then
    some (false, 1)
  else
    (if 32 < (a0.length : Int) then
      some (false, 3)
    else
      (loop (s_IsDiassociativeLoop_L0 a0) BIG 0).bind fun x6 =>
      (match x6 with
      | .inl y8 =>
        some (true, 0)
      | .inr t => some t)))

end Go.Vam

namespace Go.Vam
open Go Go.RowKit
set_option maxRecDepth 100000
set_option linter.unusedSimpArgs false
set_option linter.unusedVariables false

end Go.Vam

namespace Go.Vam
open Go Go.RowKit
set_option maxRecDepth 100000
set_option linter.unusedSimpArgs false
set_option linter.unusedVariables false

end Go.Vam

namespace Go.Vam
open Go Go.RowKit
set_option maxRecDepth 100000
set_option linter.unusedSimpArgs false
set_option linter.unusedVariables false

end Go.Vam

namespace Go.Vam
open Go Go.RowKit
set_option maxRecDepth 100000
set_option linter.unusedSimpArgs false
set_option linter.unusedVariables false

end Go.Vam

namespace Go.Vam
open Go Go.RowKit
set_option maxRecDepth 100000
set_option linter.unusedSimpArgs false
set_option linter.unusedVariables false



end Go.Vam

namespace Go.Vam
open Go Go.RowKit
set_option maxRecDepth 100000
set_option linter.unusedSimpArgs false
set_option linter.unusedVariables false

end Go.Vam

namespace Go.Vam
open Go Go.RowKit
set_option maxRecDepth 100000
set_option linter.unusedSimpArgs false
set_option linter.unusedVariables false

end Go.Vam

namespace Go.Vam
open Go Go.RowKit
set_option maxRecDepth 100000
set_option linter.unusedSimpArgs false
set_option linter.unusedVariables false

end Go.Vam

namespace Go.Vam
open Go Go.RowKit
set_option maxRecDepth 100000
set_option linter.unusedSimpArgs false
set_option linter.unusedVariables false

end Go.Vam

namespace Go.Vam
open Go Go.RowKit
set_option maxRecDepth 100000
set_option linter.unusedSimpArgs false
set_option linter.unusedVariables false

end Go.Vam

namespace Go.Vam
open Go Go.RowKit
set_option maxRecDepth 100000
set_option linter.unusedSimpArgs false
set_option linter.unusedVariables false

end Go.Vam

namespace Go.Vam
open Go Go.RowKit
set_option maxRecDepth 100000
set_option linter.unusedSimpArgs false
set_option linter.unusedVariables false

end Go.Vam

namespace Go.Vam
open Go Go.RowKit
set_option maxRecDepth 100000
set_option linter.unusedSimpArgs false
set_option linter.unusedVariables false

def i_subloop_c1 (a0 : Int) (a1_0 : List Bool) (a2_0 : List Int) : Option ((List Bool) × (List Int)) :=
  (idx a1_0 a0).bind fun v1 =>
  (if v1 = false then
    (chk (a2_0.length + [a0].length ≤ 1099511627776)).bind fun _ =>
    some (a1_0.set a0.toNat true, a2_0 ++ [a0])
  else
    some (a1_0, a2_0))

end Go.Vam

namespace Go.Vam
open Go Go.RowKit
set_option maxRecDepth 100000
set_option linter.unusedSimpArgs false
set_option linter.unusedVariables false

end Go.Vam

namespace Go.Vam
open Go Go.RowKit
set_option maxRecDepth 100000
set_option linter.unusedSimpArgs false
set_option linter.unusedVariables false

def i_subloop_L0 (a1 : List Int) (s4 : (List Bool) × (List Int) × Int) : Option (((List Bool) × (List Int) × Int) ⊕ ((List Bool) × (List Int))) :=
  (if s4.2.2 < (a1.length : Int) then
    (idx a1 s4.2.2).bind fun v9 =>
    (i_subloop_c1 v9 s4.1 s4.2.1).bind fun v10 =>
    some (.inl (v10.1, v10.2, w64 (s4.2.2 + 1)))
  else
    some (.inr (s4.1, s4.2.1)))
def i_subloop_L2 (a0 : List (List Int)) (s12 : (List Bool) × (List Int) × Int) (s17 : (List Bool) × (List Int) × Int) : Option (((List Bool) × (List Int) × Int) ⊕ ((List Bool) × (List Int))) :=
  (if s17.2.2 ≤ s12.2.2 then
    (idx s17.2.1 s12.2.2).bind fun v22 =>
    (idx a0 v22).bind fun v23 =>
    (idx s17.2.1 s17.2.2).bind fun v24 =>
    (idx v23 v24).bind fun v25 =>
    (i_subloop_c1 v25 s17.1 s17.2.1).bind fun v26 =>
    (idx v26.2 s17.2.2).bind fun v27 =>
    (idx a0 v27).bind fun v28 =>
    (idx v26.2 s12.2.2).bind fun v29 =>
    (idx v28 v29).bind fun v30 =>
    (i_subloop_c1 v30 v26.1 v26.2).bind fun v31 =>
    some (.inl (v31.1, v31.2, w64 (s17.2.2 + 1)))
  else
    some (.inr (s17.1, s17.2.1)))
def i_subloop_L1 (a0 : List (List Int)) (s12 : (List Bool) × (List Int) × Int) : Option (((List Bool) × (List Int) × Int) ⊕ (List Int)) :=
  (if s12.2.2 < (s12.2.1.length : Int) then
    (loop (i_subloop_L2 a0 s12) BIG (s12.1, s12.2.1, 0)).bind fun x17 =>
    some (.inl (x17.1, x17.2, w64 (s12.2.2 + 1)))
  else
    some (.inr s12.2.1))
def i_subloop (a0 : List (List Int)) (a1 : List Int) : Option (List Int) :=
  (chk (0 ≤ (a0.length : Int) ∧ (a0.length : Int) ≤ 1099511627776)).bind fun _ =>
  (i_subloop_c1 0 (List.replicate (a0.length : Int).toNat false) []).bind fun v2 =>
  (loop (i_subloop_L0 a1) BIG (v2.1, v2.2, 0)).bind fun x4 =>
  (loop (i_subloop_L1 a0) BIG (x4.1, x4.2, 0)).bind fun x12 =>
  (chk (x12.length ≤ 1099511627776)).bind fun _ =>
  some (srt x12)

def i_IsDiassociativeLoop_c1 (a0 : Int) (a1_0 : List (List Int)) (a2_0 : Int) (a3_0 : Int) : Option Bool :=
  (i_associates a1_0 a2_0 a3_0 a0).bind fun v1 =>
  some (!v1)

def g_slices_IndexFunc_LI_I_of_i_IsDiassociativeLoop_c1_L0 (a0 : List Int) (a1_0_0 : List (List Int)) (a1_1_0 : Int) (a1_2_0 : Int) (s2 : Int) : Option (Int ⊕ (Unit ⊕ Int)) :=
  (if s2 < (a0.length : Int) then
    (idx a0 s2).bind fun v8 =>
    (i_IsDiassociativeLoop_c1 v8 a1_0_0 a1_1_0 a1_2_0).bind fun v9 =>
    (if v9 = true then
      some (.inr (.inr s2))
    else
      some (.inl (w64 (s2 + 1))))
  else
    some (.inr (.inl ())))
def g_slices_IndexFunc_LI_I_of_i_IsDiassociativeLoop_c1 (a0 : List Int) (a1_0_0 : List (List Int)) (a1_1_0 : Int) (a1_2_0 : Int) : Option Int :=
  (loop (g_slices_IndexFunc_LI_I_of_i_IsDiassociativeLoop_c1_L0 a0 a1_0_0 a1_1_0 a1_2_0) BIG 0).bind fun x2 =>
  (match x2 with
  | .inl y4 =>
    some (-1)
  | .inr t => some t)

def g_slices_ContainsFunc_LI_I_of_i_IsDiassociativeLoop_c1 (a0 : List Int) (a1_0_0 : List (List Int)) (a1_1_0 : Int) (a1_2_0 : Int) : Option Bool :=
  (g_slices_IndexFunc_LI_I_of_i_IsDiassociativeLoop_c1 a0 a1_0_0 a1_1_0 a1_2_0).bind fun v1 =>
  some (ile 0 v1)

def i_IsDiassociativeLoop_L3 (a0 : List (List Int)) (v20 : List Int) (v27 : Int) (s28 : Int) : Option (Int ⊕ (Unit ⊕ (Int ⊕ (Unit ⊕ (Int ⊕ (Unit ⊕ (Int ⊕ (Unit ⊕ (Bool × Int))))))))) :=
  (if s28 < (v20.length : Int) then
    (idx v20 s28).bind fun v34 =>
    (g_slices_ContainsFunc_LI_I_of_i_IsDiassociativeLoop_c1 v20 a0 v27 v34).bind fun v35 =>
    (if v35 = true then
      some (.inr (.inr (.inr (.inr (.inr (.inr (.inr (.inr (false, 0)))))))))
    else
      some (.inl (w64 (s28 + 1))))
  else
    some (.inr (.inl ())))
def i_IsDiassociativeLoop_L2 (a0 : List (List Int)) (v20 : List Int) (s21 : Int) : Option (Int ⊕ (Unit ⊕ (Int ⊕ (Unit ⊕ (Int ⊕ (Unit ⊕ (Bool × Int))))))) :=
  (if s21 < (v20.length : Int) then
    (idx v20 s21).bind fun v27 =>
    (loop (i_IsDiassociativeLoop_L3 a0 v20 v27) BIG 0).bind fun x28 =>
    (match x28 with
    | .inl y30 =>
      some (.inl (w64 (s21 + 1)))
    | .inr t => some t)
  else
    some (.inr (.inl ())))
def i_IsDiassociativeLoop_L1 (a0 : List (List Int)) (s8 : Int) (s14 : Int) : Option (Int ⊕ (Unit ⊕ (Int ⊕ (Unit ⊕ (Bool × Int))))) :=
  (if s14 < (w64 (s8 + 1)) then
    (i_subloop a0 [s8, s14]).bind fun v20 =>
    (loop (i_IsDiassociativeLoop_L2 a0 v20) BIG 0).bind fun x21 =>
    (match x21 with
    | .inl y23 =>
      some (.inl (w64 (s14 + 1)))
    | .inr t => some t)
  else
    some (.inr (.inl ())))
def i_IsDiassociativeLoop_L0 (a0 : List (List Int)) (v7 : Int) (s8 : Int) : Option (Int ⊕ (Unit ⊕ (Bool × Int))) :=
  (if s8 < v7 then
    (loop (i_IsDiassociativeLoop_L1 a0 s8) BIG 0).bind fun x14 =>
    (match x14 with
    | .inl y16 =>
      some (.inl (w64 (s8 + 1)))
    | .inr t => some t)
  else
    some (.inr (.inl ())))
def i_IsDiassociativeLoop (a0 : List (List Int)) : Option (Bool × Int) :=
  (i_checkLoop a0 ([] : List Int)).bind fun v2 =>
  (if ¬ v2 = 0 then
    some (false, v2)
  else
    (if 32 < (a0.length : Int) then
      some (false, 3)
    else
      (i_length_LI a0).bind fun v7 =>
      (loop (i_IsDiassociativeLoop_L0 a0 v7) BIG 0).bind fun x8 =>
      (match x8 with
      | .inl y10 =>
        some (true, 0)
      | .inr t => some t)))

def l_FnExactIsDiassociativeLoop (a0 : List (List Int)) : Option Bool :=
  (l_szInt64SS a0 1048576).bind fun v1 =>
  (if v1 < 0 then
    some true
  else
    (l_toInt64SS a0).bind fun v4 =>
    (s_IsDiassociativeLoop v4).bind fun v5 =>
    (l_toInt64SS a0).bind fun v6 =>
    (i_IsDiassociativeLoop v6).bind fun v7 =>
    ((if (v7.1 != v5.1) = true then
      some true
    else
      some (!(ieq v7.2 v5.2))) : Option Bool).bind fun x10 =>
    (if x10 = true then
      some false
    else
      (l_toInt64SS a0).bind fun v13 =>
      (l_eqInt64SS v6 v13).bind fun v14 =>
      (if v14 = false then
        some false
      else
        some true)))

end Go.Vam
