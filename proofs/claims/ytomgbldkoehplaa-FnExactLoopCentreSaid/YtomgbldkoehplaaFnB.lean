import Derived.Test.YtomgbldkoehplaaFnA
namespace Go.Vam
open Go Go.RowKit
set_option maxRecDepth 100000
set_option linter.unusedSimpArgs false
set_option linter.unusedVariables false

def i_length_I (a0 : List Int) : Option Int :=
  some (a0.length : Int)

def s_l13Is_L0 (a0 : List (List Int)) (s5 : Int) : Option (Int ⊕ (Unit ⊕ Bool)) :=
  (if s5 < (a0.length : Int) then
    (idx a0 s5).bind fun v11 =>
    (if ¬ (v11.length : Int) = (a0.length : Int) then
      some (.inr (.inr false))
    else
      some (.inl (w64 (s5 + 1))))
  else
    some (.inr (.inl ())))
def s_l13Is_L2 (a0 : List (List Int)) (s14 : Int) (s23 : (List Bool) × (List Bool) × Int) : Option (((List Bool) × (List Bool) × Int) ⊕ (Unit ⊕ (Int ⊕ (Unit ⊕ Bool)))) :=
  (if s23.2.2 < (a0.length : Int) then
    ((idx a0 s14).bind fun v30 =>
    (idx v30 s23.2.2).bind fun v31 =>
    (s_l01In v31 0 (w64 ((a0.length : Int) - 1))).bind fun v32 =>
    (if v32 = false then
      some true
    else
      (idx a0 s23.2.2).bind fun v34 =>
      (idx v34 s14).bind fun v35 =>
      (s_l01In v35 0 (w64 ((a0.length : Int) - 1))).bind fun v36 =>
      (if v36 = false then
        some true
      else
        (idx s23.1 v31).bind fun v38 =>
        (if v38 = true then
          some true
        else
          (idx s23.2.1 v35).bind fun v40 =>
          some v40))) : Option Bool).bind fun x41 =>
    (if x41 = true then
      some (.inr (.inr (.inr (.inr false))))
    else
      (idx a0 s14).bind fun v43 =>
      (idx v43 s23.2.2).bind fun v44 =>
      (idx s23.1 v44).bind fun v45 =>
      (idx a0 s23.2.2).bind fun v46 =>
      (idx v46 s14).bind fun v47 =>
      (idx s23.2.1 v47).bind fun v48 =>
      some (.inl (s23.1.set v44.toNat true, s23.2.1.set v47.toNat true, w64 (s23.2.2 + 1))))
  else
    some (.inr (.inl ())))
def s_l13Is_L1 (a0 : List (List Int)) (s14 : Int) : Option (Int ⊕ (Unit ⊕ Bool)) :=
  (if s14 < (a0.length : Int) then
    (chk (0 ≤ (a0.length : Int) ∧ (a0.length : Int) ≤ 1099511627776)).bind fun _ =>
    (chk (0 ≤ (a0.length : Int) ∧ (a0.length : Int) ≤ 1099511627776)).bind fun _ =>
    (loop (s_l13Is_L2 a0 s14) BIG (List.replicate (a0.length : Int).toNat false, List.replicate (a0.length : Int).toNat false, 0)).bind fun x23 =>
    (match x23 with
    | .inl y25 =>
      ((idx a0 0).bind fun v49 =>
      (idx v49 s14).bind fun v50 =>
      (if ¬ v50 = s14 then
        some true
      else
        (idx a0 s14).bind fun v52 =>
        (idx v52 0).bind fun v53 =>
        some (!(ieq v53 s14))) : Option Bool).bind fun x54 =>
      (if x54 = true then
        some (.inr (.inr false))
      else
        some (.inl (w64 (s14 + 1))))
    | .inr t => some t)
  else
    some (.inr (.inl ())))
def s_l13Is (a0 : List (List Int)) : Option Bool :=
  (s_l01In (a0.length : Int) 1 128).bind fun v2 =>
  (if v2 = false then
    some false
  else
    (loop (s_l13Is_L0 a0) BIG 0).bind fun x5 =>
    (match x5 with
    | .inl y7 =>
      (loop (s_l13Is_L1 a0) BIG 0).bind fun x14 =>
      (match x14 with
      | .inl y16 =>
        some true
      | .inr t => some t)
    | .inr t => some t))

def s_l13Associates (a0 : List (List Int)) (a1 : Int) (a2 : Int) (a3 : Int) : Option Bool :=
  (idx a0 a1).bind fun v1 =>
  (idx v1 a2).bind fun v2 =>
  (idx a0 v2).bind fun v3 =>
  (idx v3 a3).bind fun v4 =>
  (idx a0 a2).bind fun v5 =>
  (idx v5 a3).bind fun v6 =>
  (idx v1 v6).bind fun v7 =>
  some (ieq v4 v7)

def s_l13Nucleus_L2 (a0 : List (List Int)) (s2 : (List Int) × Int) (s9 : Bool × Int) (s22 : Bool × Int) : Option ((Bool × Int) ⊕ Bool) :=
  ((if s22.2 < (a0.length : Int) then
    some s22.1
  else
    some false) : Option Bool).bind fun x26 =>
  (if x26 = true then
    ((s_l13Associates a0 s2.2 s9.2 s22.2).bind fun v29 =>
    (if v29 = true then
      (s_l13Associates a0 s9.2 s2.2 s22.2).bind fun v31 =>
      (if v31 = true then
        (s_l13Associates a0 s9.2 s22.2 s2.2).bind fun v33 =>
        some v33
      else
        some false)
    else
      some false) : Option Bool).bind fun x34 =>
    some (.inl (x34, w64 (s22.2 + 1)))
  else
    some (.inr s22.1))
def s_l13Nucleus_L1 (a0 : List (List Int)) (a1 : Bool) (s2 : (List Int) × Int) (s9 : Bool × Int) : Option ((Bool × Int) ⊕ Bool) :=
  ((if s9.2 < (a0.length : Int) then
    some s9.1
  else
    some false) : Option Bool).bind fun x13 =>
  (if x13 = true then
    ((if a1 = false then
      some true
    else
      (idx a0 s2.2).bind fun v17 =>
      (idx v17 s9.2).bind fun v18 =>
      (idx a0 s9.2).bind fun v19 =>
      (idx v19 s2.2).bind fun v20 =>
      some (ieq v18 v20)) : Option Bool).bind fun x21 =>
    (loop (s_l13Nucleus_L2 a0 s2 s9) BIG (x21, 0)).bind fun x22 =>
    some (.inl (x22, w64 (s9.2 + 1)))
  else
    some (.inr s9.1))
def s_l13Nucleus_L0 (a0 : List (List Int)) (a1 : Bool) (s2 : (List Int) × Int) : Option (((List Int) × Int) ⊕ (List Int)) :=
  (if s2.2 < (a0.length : Int) then
    ((loop (s_l13Nucleus_L1 a0 a1 s2) BIG (true, 0)).bind fun x9 =>
    (if x9 = true then
      (chk (s2.1.length + [s2.2].length ≤ 1099511627776)).bind fun _ =>
      some (s2.1 ++ [s2.2])
    else
      some s2.1) : Option (List Int)).bind fun x6 =>
    some (.inl (x6, w64 (s2.2 + 1)))
  else
    some (.inr s2.1))
def s_l13Nucleus (a0 : List (List Int)) (a1 : Bool) : Option (List Int) :=
  (loop (s_l13Nucleus_L0 a0 a1) BIG ([], 0)).bind fun x2 =>
  some x2

def s_LoopCentre (a0 : List (List Int)) : Option ((List Int) × Int) :=
  (s_l13Is a0).bind fun v2 =>
  (if v2 = false then
    some (([] : List Int), 1)
  else
    (s_l13Nucleus a0 true).bind fun v4 =>
    some (v4, 0))

def i_isOnce_L0 (a0 : List Int) (s3 : (List Bool) × Int) : Option (((List Bool) × Int) ⊕ (Unit ⊕ Bool)) :=
  (if s3.2 < (a0.length : Int) then
    (idx a0 s3.2).bind fun v9 =>
    ((i_length_I a0).bind fun v11 =>
    (i_inRange v9 0 (w64 (v11 - 1))).bind fun v12 =>
    (if v12 = false then
      some true
    else
      (idx s3.1 v9).bind fun v14 =>
      some v14) : Option Bool).bind fun x15 =>
    (if x15 = true then
      some (.inr (.inr false))
    else
      (idx s3.1 v9).bind fun v17 =>
      some (.inl (s3.1.set v9.toNat true, w64 (s3.2 + 1))))
  else
    some (.inr (.inl ())))
def i_isOnce (a0 : List Int) : Option Bool :=
  (chk (0 ≤ (a0.length : Int) ∧ (a0.length : Int) ≤ 1099511627776)).bind fun _ =>
  (loop (i_isOnce_L0 a0) BIG (List.replicate (a0.length : Int).toNat false, 0)).bind fun x3 =>
  (match x3 with
  | .inl y5 =>
    some true
  | .inr t => some t)

def i_IsLoop_c1 (a0 : List Int) : Option Bool :=
  (i_isOnce a0).bind fun v1 =>
  some (!v1)

def g_slices_IndexFunc_LLI_LI_of_i_IsLoop_c1_L0 (a0 : List (List Int)) (s2 : Int) : Option (Int ⊕ (Unit ⊕ Int)) :=
  (if s2 < (a0.length : Int) then
    (idx a0 s2).bind fun v8 =>
    (i_IsLoop_c1 v8).bind fun v9 =>
    (if v9 = true then
      some (.inr (.inr s2))
    else
      some (.inl (w64 (s2 + 1))))
  else
    some (.inr (.inl ())))
def g_slices_IndexFunc_LLI_LI_of_i_IsLoop_c1 (a0 : List (List Int)) : Option Int :=
  (loop (g_slices_IndexFunc_LLI_LI_of_i_IsLoop_c1_L0 a0) BIG 0).bind fun x2 =>
  (match x2 with
  | .inl y4 =>
    some (-1)
  | .inr t => some t)

def g_slices_ContainsFunc_LLI_LI_of_i_IsLoop_c1 (a0 : List (List Int)) : Option Bool :=
  (g_slices_IndexFunc_LLI_LI_of_i_IsLoop_c1 a0).bind fun v1 =>
  some (ile 0 v1)

def i_IsLoop_L0 (a0 : List (List Int)) (s6 : Int) : Option (Int ⊕ (Unit ⊕ Bool)) :=
  (if s6 < (a0.length : Int) then
    (idx a0 s6).bind fun v12 =>
    (if ¬ (v12.length : Int) = (a0.length : Int) then
      some (.inr (.inr false))
    else
      some (.inl (w64 (s6 + 1))))
  else
    some (.inr (.inl ())))
def i_IsLoop_L1 (a0 : List (List Int)) (s15 : Int) : Option (Int ⊕ (Unit ⊕ Bool)) :=
  (if s15 < (a0.length : Int) then
    (idx a0 s15).bind fun v21 =>
    ((idx v21 0).bind fun v22 =>
    (if ¬ v22 = s15 then
      some true
    else
      (idx a0 0).bind fun v24 =>
      (idx v24 s15).bind fun v25 =>
      (if ¬ v25 = s15 then
        some true
      else
        (i_isOnce v21).bind fun v27 =>
        some (!v27))) : Option Bool).bind fun x28 =>
    (if x28 = true then
      some (.inr (.inr false))
    else
      some (.inl (w64 (s15 + 1))))
  else
    some (.inr (.inl ())))
def i_IsLoop (a0 : List (List Int)) : Option Bool :=
  ((if (a0.length : Int) < 1 then
    some true
  else
    some (ilt 128 (a0.length : Int))) : Option Bool).bind fun x3 =>
  (if x3 = true then
    some false
  else
    (loop (i_IsLoop_L0 a0) BIG 0).bind fun x6 =>
    (match x6 with
    | .inl y8 =>
      (loop (i_IsLoop_L1 a0) BIG 0).bind fun x15 =>
      (match x15 with
      | .inl y17 =>
        (i_transpose a0).bind fun v30 =>
        (g_slices_ContainsFunc_LLI_LI_of_i_IsLoop_c1 v30).bind fun v31 =>
        some (!v31)
      | .inr t => some t)
    | .inr t => some t))

def i_length_LI (a0 : List (List Int)) : Option Int :=
  some (a0.length : Int)

def i_checkLoop_c1 (a0 : Int) (a1_0 : List (List Int)) : Option Bool :=
  (i_length_LI a1_0).bind fun v1 =>
  (i_inRange a0 0 (w64 (v1 - 1))).bind fun v2 =>
  some (!v2)

def g_slices_IndexFunc_LI_I_of_i_checkLoop_c1_L0 (a0 : List Int) (a1_0_0 : List (List Int)) (s2 : Int) : Option (Int ⊕ (Unit ⊕ Int)) :=
  (if s2 < (a0.length : Int) then
    (idx a0 s2).bind fun v8 =>
    (i_checkLoop_c1 v8 a1_0_0).bind fun v9 =>
    (if v9 = true then
      some (.inr (.inr s2))
    else
      some (.inl (w64 (s2 + 1))))
  else
    some (.inr (.inl ())))
def g_slices_IndexFunc_LI_I_of_i_checkLoop_c1 (a0 : List Int) (a1_0_0 : List (List Int)) : Option Int :=
  (loop (g_slices_IndexFunc_LI_I_of_i_checkLoop_c1_L0 a0 a1_0_0) BIG 0).bind fun x2 =>
  (match x2 with
  | .inl y4 =>
    some (-1)
  | .inr t => some t)

def g_slices_ContainsFunc_LI_I_of_i_checkLoop_c1 (a0 : List Int) (a1_0_0 : List (List Int)) : Option Bool :=
  (g_slices_IndexFunc_LI_I_of_i_checkLoop_c1 a0 a1_0_0).bind fun v1 =>
  some (ile 0 v1)

def i_checkLoop (a0 : List (List Int)) (a1 : List Int) : Option Int :=
  (i_IsLoop a0).bind fun v2 =>
  (if v2 = false then
    some 1
  else
    (g_slices_ContainsFunc_LI_I_of_i_checkLoop_c1 a1 a0).bind fun v5 =>
    (if v5 = true then
      some 2
    else
      some 0))

def i_associates (a0 : List (List Int)) (a1 : Int) (a2 : Int) (a3 : Int) : Option Bool :=
  (idx a0 a1).bind fun v1 =>
  (idx v1 a2).bind fun v2 =>
  (idx a0 v2).bind fun v3 =>
  (idx v3 a3).bind fun v4 =>
  (idx a0 a2).bind fun v5 =>
  (idx v5 a3).bind fun v6 =>
  (idx v1 v6).bind fun v7 =>
  some (ieq v4 v7)

def i_nucleus_L2 (a0 : List (List Int)) (s3 : (List Int) × Int) (s11 : Bool × Int) (v16 : Int) (s17 : Bool × Int) : Option ((Bool × Int) ⊕ Bool) :=
  (if s17.2 < v16 then
    ((if s17.1 = true then
      (i_associates a0 s3.2 s11.2 s17.2).bind fun v23 =>
      (if v23 = true then
        (i_associates a0 s11.2 s3.2 s17.2).bind fun v25 =>
        (if v25 = true then
          (i_associates a0 s11.2 s17.2 s3.2).bind fun v27 =>
          some v27
        else
          some false)
      else
        some false)
    else
      some false) : Option Bool).bind fun x28 =>
    some (.inl (x28, w64 (s17.2 + 1)))
  else
    some (.inr s17.1))
def i_nucleus_L1 (a0 : List (List Int)) (s3 : (List Int) × Int) (v10 : Int) (s11 : Bool × Int) : Option ((Bool × Int) ⊕ Bool) :=
  (if s11.2 < v10 then
    (i_length_LI a0).bind fun v16 =>
    (loop (i_nucleus_L2 a0 s3 s11 v16) BIG (s11.1, 0)).bind fun x17 =>
    some (.inl (x17, w64 (s11.2 + 1)))
  else
    some (.inr s11.1))
def i_nucleus_L0 (a0 : List (List Int)) (v2 : Int) (s3 : (List Int) × Int) : Option (((List Int) × Int) ⊕ (List Int)) :=
  (if s3.2 < v2 then
    ((i_length_LI a0).bind fun v10 =>
    (loop (i_nucleus_L1 a0 s3 v10) BIG (true, 0)).bind fun x11 =>
    (if x11 = true then
      (chk (s3.1.length + [s3.2].length ≤ 1099511627776)).bind fun _ =>
      some (s3.1 ++ [s3.2])
    else
      some s3.1) : Option (List Int)).bind fun x7 =>
    some (.inl (x7, w64 (s3.2 + 1)))
  else
    some (.inr s3.1))
def i_nucleus (a0 : List (List Int)) : Option (List Int) :=
  (i_length_LI a0).bind fun v2 =>
  (loop (i_nucleus_L0 a0 v2) BIG ([], 0)).bind fun x3 =>
  some x3

def i_LoopCentre_c1_L0 (a0 : Int) (a1_0 : List (List Int)) (s2 : Int) : Option (Int ⊕ (Unit ⊕ Bool)) :=
  (if s2 < (a1_0.length : Int) then
    (idx a1_0 a0).bind fun v8 =>
    (idx v8 s2).bind fun v9 =>
    (idx a1_0 s2).bind fun v10 =>
    (idx v10 a0).bind fun v11 =>
    (if ¬ v9 = v11 then
      some (.inr (.inr true))
    else
      some (.inl (w64 (s2 + 1))))
  else
    some (.inr (.inl ())))
def i_LoopCentre_c1 (a0 : Int) (a1_0 : List (List Int)) : Option Bool :=
  (loop (i_LoopCentre_c1_L0 a0 a1_0) BIG 0).bind fun x2 =>
  (match x2 with
  | .inl y4 =>
    some false
  | .inr t => some t)

def g_slices_IndexFunc_LI_I_of_i_LoopCentre_c1_L0 (a0 : List Int) (a1_0_0 : List (List Int)) (s2 : Int) : Option (Int ⊕ (Unit ⊕ Int)) :=
  (if s2 < (a0.length : Int) then
    (idx a0 s2).bind fun v8 =>
    (i_LoopCentre_c1 v8 a1_0_0).bind fun v9 =>
    (if v9 = true then
      some (.inr (.inr s2))
    else
      some (.inl (w64 (s2 + 1))))
  else
    some (.inr (.inl ())))
def g_slices_IndexFunc_LI_I_of_i_LoopCentre_c1 (a0 : List Int) (a1_0_0 : List (List Int)) : Option Int :=
  (loop (g_slices_IndexFunc_LI_I_of_i_LoopCentre_c1_L0 a0 a1_0_0) BIG 0).bind fun x2 =>
  (match x2 with
  | .inl y4 =>
    some (-1)
  | .inr t => some t)

end Go.Vam
