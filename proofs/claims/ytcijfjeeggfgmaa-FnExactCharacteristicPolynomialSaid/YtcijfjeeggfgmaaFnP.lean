import Derived.Test.YtcijfjeeggfgmaaFnO
import Derived.Test.YtcijfjeeggfgmaaVamZ
namespace Go.Vam
open Go Go.RowKit
set_option maxRecDepth 100000
set_option linter.unusedSimpArgs false
set_option linter.unusedVariables false

def s_l02Char_L1 (v1 : List (List Int)) (s3 : (List (List Int)) × Int) (s11 : Int) : Option (Int ⊕ Int) :=
  ((if s11 < (v1.length : Int) then
    (idx s3.1 s11).bind fun v15 =>
    (idx v15 s3.2).bind fun v16 =>
    some (ieq v16 0)
  else
    some false) : Option Bool).bind fun x17 =>
  (if x17 = true then
    some (.inl (w64 (s11 + 1)))
  else
    some (.inr s11))
def s_l02Char_L2 (v1 : List (List Int)) (s3 : (List (List Int)) × Int) (x11 : Int) (s28 : (List (List Int)) × Int) : Option (((List (List Int)) × Int) ⊕ (List (List Int))) :=
  (if s28.2 < (v1.length : Int) then
    (idx s28.1 s28.2).bind fun v33 =>
    (idx v33 x11).bind fun v34 =>
    (idx v33 (w64 (s3.2 + 1))).bind fun v35 =>
    (some (v33.set x11.toNat v35)).bind fun l36 =>
    (idx l36 (w64 (s3.2 + 1))).bind fun v37 =>
    some (.inl ((s28.1.set s28.2.toNat l36).set s28.2.toNat (l36.set (w64 (s3.2 + 1)).toNat v34), w64 (s28.2 + 1)))
  else
    some (.inr s28.1))
def s_l02Char_L4 (a0 : Int) (v1 : List (List Int)) (s3 : (List (List Int)) × Int) (v40 : Int) (s41 : (List (List Int)) × Int) (v47 : Int) (s52 : (List (List Int)) × Int) : Option (((List (List Int)) × Int) ⊕ (List (List Int))) :=
  (if s52.2 < (v1.length : Int) then
    (idx s52.1 s52.2).bind fun v57 =>
    (idx v57 (w64 (s3.2 + 1))).bind fun v58 =>
    (idx v57 s41.2).bind fun v59 =>
    (chk (¬ a0 = 0)).bind fun _ =>
    some (.inl (s52.1.set s52.2.toNat (v57.set (w64 (s3.2 + 1)).toNat ((w64 (v58 + (w64 (((w64 (v47 * v40)).tmod a0) * v59)))).tmod a0)), w64 (s52.2 + 1)))
  else
    some (.inr s52.1))
def s_l02Char_L3 (a0 : Int) (v1 : List (List Int)) (s3 : (List (List Int)) × Int) (v40 : Int) (s41 : (List (List Int)) × Int) : Option (((List (List Int)) × Int) ⊕ (List (List Int))) :=
  (if s41.2 < (v1.length : Int) then
    (idx s41.1 s41.2).bind fun v46 =>
    (idx v46 s3.2).bind fun v47 =>
    (chk (¬ a0 = 0)).bind fun _ =>
    (idx s41.1 (w64 (s3.2 + 1))).bind fun v49 =>
    (chk (¬ a0 = 0)).bind fun _ =>
    (s_l02Plus a0 v46 v49 ((w64 (a0 - ((w64 (v47 * v40)).tmod a0))).tmod a0)).bind fun v51 =>
    (loop (s_l02Char_L4 a0 v1 s3 v40 s41 v47) BIG (s41.1.set s41.2.toNat v51, 0)).bind fun x52 =>
    some (.inl (x52, w64 (s41.2 + 1)))
  else
    some (.inr s41.1))
def s_l02Char_L0 (a0 : Int) (v1 : List (List Int)) (s3 : (List (List Int)) × Int) : Option (((List (List Int)) × Int) ⊕ (List (List Int))) :=
  (if (w64 (s3.2 + 2)) < (v1.length : Int) then
    ((loop (s_l02Char_L1 v1 s3) BIG (w64 (s3.2 + 1))).bind fun x11 =>
    (if x11 = (v1.length : Int) then
      some s3.1
    else
      ((if (w64 (s3.2 + 1)) < x11 then
        (idx s3.1 x11).bind fun v25 =>
        (idx s3.1 (w64 (s3.2 + 1))).bind fun v26 =>
        (idx (s3.1.set x11.toNat v26) (w64 (s3.2 + 1))).bind fun v27 =>
        (loop (s_l02Char_L2 v1 s3 x11) BIG ((s3.1.set x11.toNat v26).set (w64 (s3.2 + 1)).toNat v25, 0)).bind fun x28 =>
        some x28
      else
        some s3.1) : Option (List (List Int))).bind fun x22 =>
      (idx x22 (w64 (s3.2 + 1))).bind fun v38 =>
      (idx v38 s3.2).bind fun v39 =>
      (s_l01Inv a0 v39).bind fun v40 =>
      (loop (s_l02Char_L3 a0 v1 s3 v40) BIG (x22, w64 (s3.2 + 2))).bind fun x41 =>
      some x41) : Option (List (List Int))).bind fun x8 =>
    some (.inl (x8, w64 (s3.2 + 1)))
  else
    some (.inr s3.1))
def s_l02Char_L6 (a0 : Int) (x3 : List (List Int)) (s62 : (List (List Int)) × Int) (s76 : (List Int) × Int × Int) : Option (((List Int) × Int × Int) ⊕ (List Int)) :=
  (if 0 ≤ s76.2.2 then
    (idx x3 (w64 (s76.2.2 + 1))).bind fun v81 =>
    (idx v81 s76.2.2).bind fun v82 =>
    (chk (¬ a0 = 0)).bind fun _ =>
    (idx s62.1 s76.2.2).bind fun v84 =>
    (s_l01Own v84).bind fun v85 =>
    (chk (0 ≤ (w64 ((s76.1.length : Int) - (v84.length : Int))) ∧ v85.length + (w64 ((s76.1.length : Int) - (v84.length : Int))).toNat ≤ 1099511627776)).bind fun _ =>
    (idx x3 s76.2.2).bind fun v87 =>
    (idx v87 s62.2).bind fun v88 =>
    (chk (¬ a0 = 0)).bind fun _ =>
    (chk (¬ a0 = 0)).bind fun _ =>
    (s_l02Plus a0 s76.1 (v85 ++ List.replicate (w64 ((s76.1.length : Int) - (v84.length : Int))).toNat 0) ((w64 (a0 - ((w64 (((w64 (s76.2.1 * v82)).tmod a0) * v88)).tmod a0))).tmod a0)).bind fun v91 =>
    some (.inl (v91, (w64 (s76.2.1 * v82)).tmod a0, w64 (s76.2.2 - 1)))
  else
    some (.inr s76.1))
def s_l02Char_L5 (a0 : Int) (v1 : List (List Int)) (x3 : List (List Int)) (s62 : (List (List Int)) × Int) : Option (((List (List Int)) × Int) ⊕ (List (List Int))) :=
  (if s62.2 < (v1.length : Int) then
    (idx s62.1 s62.2).bind fun v67 =>
    (chk ([0].length + v67.length ≤ 1099511627776)).bind fun _ =>
    (s_l01Own v67).bind fun v69 =>
    (chk (v69.length + [0].length ≤ 1099511627776)).bind fun _ =>
    (idx x3 s62.2).bind fun v71 =>
    (idx v71 s62.2).bind fun v72 =>
    (chk (¬ a0 = 0)).bind fun _ =>
    (s_l02Plus a0 ([0] ++ v67) (v69 ++ [0]) ((w64 (a0 - v72)).tmod a0)).bind fun v74 =>
    (loop (s_l02Char_L6 a0 x3 s62) BIG (v74, 1, w64 (s62.2 - 1))).bind fun x76 =>
    (chk (s62.1.length + [x76].length ≤ 1099511627776)).bind fun _ =>
    some (.inl (s62.1 ++ [x76], w64 (s62.2 + 1)))
  else
    some (.inr s62.1))
def s_l02Char (a0 : Int) (a1 : List (List Int)) : Option (List Int) :=
  (s_l01Own2 a1).bind fun v1 =>
  (loop (s_l02Char_L0 a0 v1) BIG (v1, 0)).bind fun x3 =>
  (loop (s_l02Char_L5 a0 v1 x3) BIG ([[1]], 0)).bind fun x62 =>
  (idx x62 (v1.length : Int)).bind fun v93 =>
  some v93

def s_CharacteristicPolynomial (a0 : Int) (a1 : List (List Int)) : Option ((List Int) × Int) :=
  (s_l02Square a0 a1).bind fun v1 =>
  (if ¬ v1 = 0 then
    some (([] : List Int), v1)
  else
    (s_l02Char a0 a1).bind fun v4 =>
    some (v4, 0))

def i_field_added_L0 (a0 : Int) (a2 : List Int) (a3 : Int) (s3 : (List Int) × Int) : Option (((List Int) × Int) ⊕ (List Int)) :=
  (if s3.2 < (a2.length : Int) then
    (idx a2 s3.2).bind fun v8 =>
    (idx s3.1 s3.2).bind fun v9 =>
    (i_field_num a0 (w64 (v9 + (w64 (a3 * v8))))).bind fun v10 =>
    some (.inl (s3.1.set s3.2.toNat v10, w64 (s3.2 + 1)))
  else
    some (.inr s3.1))
def i_field_added (a0 : Int) (a1 : List Int) (a2 : List Int) (a3 : Int) : Option (List Int) :=
  (g_slices_Clone_LI_I a1).bind fun v1 =>
  (loop (i_field_added_L0 a0 a2 a3) BIG (v1, 0)).bind fun x3 =>
  some x3

def i_field_characteristic_L1 (a1 : List (List Int)) (s4 : (List (List Int)) × Int) (s12 : Int) : Option (Int ⊕ Int) :=
  ((if s12 < (a1.length : Int) then
    (idx s4.1 s12).bind fun v16 =>
    (idx v16 (w64 (s4.2 - 1))).bind fun v17 =>
    some (ieq v17 0)
  else
    some false) : Option Bool).bind fun x18 =>
  (if x18 = true then
    some (.inl (w64 (s12 + 1)))
  else
    some (.inr s12))
def i_field_characteristic_L2 (s4 : (List (List Int)) × Int) (x12 : Int) (s26 : (List (List Int)) × Int × Int) : Option (((List (List Int)) × Int × Int) ⊕ (List (List Int))) :=
  (if s26.2.2 < s26.2.1 then
    (idx s26.1 s26.2.2).bind fun v31 =>
    (idx v31 s4.2).bind fun v32 =>
    (idx v31 x12).bind fun v33 =>
    (idx (v31.set x12.toNat v32) s4.2).bind fun v34 =>
    some (.inl ((s26.1.set s26.2.2.toNat (v31.set x12.toNat v32)).set s26.2.2.toNat ((v31.set x12.toNat v32).set s4.2.toNat v33), s26.2.1, w64 (s26.2.2 + 1)))
  else
    some (.inr s26.1))
def i_field_characteristic_L4 (a0 : Int) (s4 : (List (List Int)) × Int) (s35 : (List (List Int)) × Int) (v45 : Int) (s47 : (List (List Int)) × Int × Int) : Option (((List (List Int)) × Int × Int) ⊕ (List (List Int))) :=
  (if s47.2.2 < s47.2.1 then
    (idx s47.1 s47.2.2).bind fun v52 =>
    (idx v52 s4.2).bind fun v53 =>
    (idx v52 s35.2).bind fun v54 =>
    (i_field_num a0 (w64 (v53 + (w64 (v45 * v54))))).bind fun v55 =>
    some (.inl (s47.1.set s47.2.2.toNat (v52.set s4.2.toNat v55), s47.2.1, w64 (s47.2.2 + 1)))
  else
    some (.inr s47.1))
def i_field_characteristic_L3 (a0 : Int) (a1 : List (List Int)) (s4 : (List (List Int)) × Int) (s35 : (List (List Int)) × Int) : Option (((List (List Int)) × Int) ⊕ (List (List Int))) :=
  (if s35.2 < (a1.length : Int) then
    (idx s35.1 s35.2).bind fun v40 =>
    (idx v40 (w64 (s4.2 - 1))).bind fun v41 =>
    (idx s35.1 s4.2).bind fun v42 =>
    (idx v42 (w64 (s4.2 - 1))).bind fun v43 =>
    (i_field_inv a0 v43).bind fun v44 =>
    (i_field_num a0 (w64 (v41 * v44))).bind fun v45 =>
    (i_field_plus a0 v40 v42 (w64 (0 - v45))).bind fun v46 =>
    (loop (i_field_characteristic_L4 a0 s4 s35 v45) BIG (s35.1.set s35.2.toNat v46, ((s35.1.set s35.2.toNat v46).length : Int), 0)).bind fun x47 =>
    some (.inl (x47, w64 (s35.2 + 1)))
  else
    some (.inr s35.1))
def i_field_characteristic_L0 (a0 : Int) (a1 : List (List Int)) (s4 : (List (List Int)) × Int) : Option (((List (List Int)) × Int) ⊕ (List (List Int))) :=
  (if s4.2 < (w64 ((a1.length : Int) - 1)) then
    ((loop (i_field_characteristic_L1 a1 s4) BIG s4.2).bind fun x12 =>
    (if x12 = (a1.length : Int) then
      some s4.1
    else
      (idx s4.1 s4.2).bind fun v22 =>
      (idx s4.1 x12).bind fun v23 =>
      (idx (s4.1.set x12.toNat v22) s4.2).bind fun v24 =>
      (loop (i_field_characteristic_L2 s4 x12) BIG ((s4.1.set x12.toNat v22).set s4.2.toNat v23, (((s4.1.set x12.toNat v22).set s4.2.toNat v23).length : Int), 0)).bind fun x26 =>
      (loop (i_field_characteristic_L3 a0 a1 s4) BIG (x26, w64 (s4.2 + 1))).bind fun x35 =>
      some x35) : Option (List (List Int))).bind fun x9 =>
    some (.inl (x9, w64 (s4.2 + 1)))
  else
    some (.inr s4.1))
def i_field_characteristic_L6 (a0 : Int) (x4 : List (List Int)) (s57 : (List (List Int)) × Int) (s68 : (List Int) × Int × Int) : Option (((List Int) × Int × Int) ⊕ (List Int)) :=
  (if s68.2.2 < s57.2 then
    (idx x4 (w64 (s57.2 - s68.2.2))).bind fun v73 =>
    (idx v73 (w64 ((w64 (s57.2 - s68.2.2)) - 1))).bind fun v74 =>
    (i_field_num a0 (w64 (s68.2.1 * v74))).bind fun v75 =>
    (idx s57.1 (w64 ((w64 (s57.2 - s68.2.2)) - 1))).bind fun v76 =>
    (idx x4 (w64 ((w64 (s57.2 - s68.2.2)) - 1))).bind fun v77 =>
    (idx v77 (w64 (s57.2 - 1))).bind fun v78 =>
    (i_field_added a0 s68.1 v76 (w64 ((w64 (0 - v75)) * v78))).bind fun v79 =>
    some (.inl (v79, v75, w64 (s68.2.2 + 1)))
  else
    some (.inr s68.1))
def i_field_characteristic_L5 (a0 : Int) (a1 : List (List Int)) (x4 : List (List Int)) (s57 : (List (List Int)) × Int) : Option (((List (List Int)) × Int) ⊕ (List (List Int))) :=
  (if s57.2 ≤ (a1.length : Int) then
    (idx s57.1 (w64 (s57.2 - 1))).bind fun v62 =>
    (chk ([0].length + v62.length ≤ 1099511627776)).bind fun _ =>
    (idx x4 (w64 (s57.2 - 1))).bind fun v64 =>
    (idx v64 (w64 (s57.2 - 1))).bind fun v65 =>
    (i_field_added a0 ([0] ++ v62) v62 (w64 (0 - v65))).bind fun v66 =>
    (loop (i_field_characteristic_L6 a0 x4 s57) BIG (v66, 1, 1)).bind fun x68 =>
    (chk (s57.1.length + [x68].length ≤ 1099511627776)).bind fun _ =>
    some (.inl (s57.1 ++ [x68], w64 (s57.2 + 1)))
  else
    some (.inr s57.1))
def i_field_characteristic (a0 : Int) (a1 : List (List Int)) : Option (List Int) :=
  (chk (0 ≤ (w64 ((a1.length : Int) + 1)) ∧ (w64 ((a1.length : Int) + 1)) ≤ 1099511627776)).bind fun _ =>
  (i_cloneRows a1).bind fun v2 =>
  (loop (i_field_characteristic_L0 a0 a1) BIG (v2, 1)).bind fun x4 =>
  (loop (i_field_characteristic_L5 a0 a1 x4) BIG ([[1]], 1)).bind fun x57 =>
  (idx x57 (a1.length : Int)).bind fun v81 =>
  some (v81.take (List.replicate (w64 ((a1.length : Int) + 1)).toNat 0).length ++ (List.replicate (w64 ((a1.length : Int) + 1)).toNat 0).drop v81.length)

def i_CharacteristicPolynomial (a0 : Int) (a1 : List (List Int)) : Option ((List Int) × Int) :=
  (i_checkSquare a0 a1).bind fun v2 =>
  (if ¬ v2 = 0 then
    some (([] : List Int), v2)
  else
    (i_field_characteristic a0 a1).bind fun v4 =>
    some (v4, 0))

def l_FnExactCharacteristicPolynomial (a0 : Int) (a1 : List (List Int)) : Option Bool :=
  (l_szInt64SS a1 1048576).bind fun v1 =>
  (if v1 < 0 then
    some true
  else
    (l_toInt64SS a1).bind fun v4 =>
    (s_CharacteristicPolynomial a0 v4).bind fun v5 =>
    (l_toInt64SS a1).bind fun v6 =>
    (i_CharacteristicPolynomial a0 v6).bind fun v7 =>
    ((l_eqInt64S v7.1 v5.1).bind fun v9 =>
    (if v9 = false then
      some true
    else
      some (!(ieq v7.2 v5.2))) : Option Bool).bind fun x11 =>
    (if x11 = true then
      some false
    else
      (l_toInt64SS a1).bind fun v14 =>
      (l_eqInt64SS v6 v14).bind fun v15 =>
      (if v15 = false then
        some false
      else
        (l_markInt64SS v6 1).bind fun v17 =>
        ((if v17.1 < 0 then
          some true
        else
          (l_eqInt64S v7.1 v5.1).bind fun v20 =>
          (if v20 = false then
            some true
          else
            some (!(ieq v7.2 v5.2)))) : Option Bool).bind fun x22 =>
        (if x22 = true then
          some false
        else
          (l_markInt64S v7.1 1).bind fun v24 =>
          (l_heldInt64S v24.2 1).bind fun v25 =>
          (if v25 < 0 then
            some false
          else
            (if ¬ v25 = v24.1 then
              some false
            else
              (l_toInt64SS a1).bind fun v30 =>
              (i_CharacteristicPolynomial a0 v30).bind fun v31 =>
              ((l_eqInt64S v31.1 v5.1).bind fun v33 =>
              (if v33 = false then
                some true
              else
                some (!(ieq v31.2 v5.2))) : Option Bool).bind fun x35 =>
              (if x35 = true then
                some false
              else
                (l_heldInt64S v24.2 1).bind fun v37 =>
                (if v37 < 0 then
                  some false
                else
                  (if ¬ v37 = v24.1 then
                    some false
                  else
                    some true)))))))))

end Go.Vam
