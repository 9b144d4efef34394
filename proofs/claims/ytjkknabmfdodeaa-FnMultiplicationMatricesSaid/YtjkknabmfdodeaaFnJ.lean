import Derived.Test.YtjkknabmfdodeaaFnI
import Derived.Test.YtjkknabmfdodeaaVamY
namespace Go.Vam
open Go Go.RowKit
set_option maxRecDepth 100000
set_option linter.unusedSimpArgs false
set_option linter.unusedVariables false

def s_l11Draw_L0 (s4 : (List Int) × Int × Int × Int × (List Int) × Int) : Option (((List Int) × Int × Int × Int × (List Int) × Int) ⊕ ((List Int) × Int × Int × Int × (List Int))) :=
  (if 0 < s4.2.2.2.2.2 then
    ((s_l01Next s4.1 s4.2.1 s4.2.2.1 2).bind fun v10 =>
    (if v10.1 = 0 then
      (chk (s4.2.2.2.2.1.length + [w64 (s4.2.2.2.1 - 1)].length ≤ 1099511627776)).bind fun _ =>
      some (v10.2.1, v10.2.2.1, v10.2.2.2, s4.2.2.2.1, s4.2.2.2.2.1 ++ [w64 (s4.2.2.2.1 - 1)])
    else
      (s_l01Next v10.2.1 v10.2.2.1 v10.2.2.2 (w64 (s4.2.2.2.1 - 1))).bind fun v13 =>
      (chk (s4.2.2.2.2.1.length + [w64 (1 + v13.1)].length ≤ 1099511627776)).bind fun _ =>
      some (v13.2.1, v13.2.2.1, v13.2.2.2, s4.2.2.2.1, s4.2.2.2.2.1 ++ [w64 (1 + v13.1)])) : Option ((List Int) × Int × Int × Int × (List Int))).bind fun x8 =>
    some (.inl (x8.1, x8.2.1, x8.2.2.1, x8.2.2.2.1, x8.2.2.2.2, w64 (s4.2.2.2.2.2 - 1)))
  else
    some (.inr (s4.1, s4.2.1, s4.2.2.1, s4.2.2.2.1, s4.2.2.2.2.1)))
def s_l11Draw (a0_0 : List Int) (a0_1 : Int) (a0_2 : Int) (a1 : Int) : Option ((Int × (List Int)) × ((List Int) × Int × Int)) :=
  (s_l01Pick a0_0 a0_1 a0_2 [3, 5, 7, 11, 13]).bind fun v1 =>
  (s_l01Pick v1.2.1 v1.2.2.1 v1.2.2.2 [0, 1, 2, 2, 3, 3, 3, 4]).bind fun v3 =>
  (loop s_l11Draw_L0 BIG (v3.2.1, v3.2.2.1, v3.2.2.2, v1.1, [], imin a1 v3.1)).bind fun x4 =>
  some ((x4.2.2.2.1, x4.2.2.2.2), (x4.1, x4.2.1, x4.2.2.1))

def s_l11DrawAny_L0 (s12 : Int × (List Int)) : Option ((Int × (List Int)) ⊕ (Int × (List Int))) :=
  (if (s12.2.length : Int) < 5 then
    (chk (s12.2.length + [1].length ≤ 1099511627776)).bind fun _ =>
    some (.inl (s12.1, s12.2 ++ [1]))
  else
    some (.inr (s12.1, s12.2)))
def s_l11DrawAny (a0_0 : List Int) (a0_1 : Int) (a0_2 : Int) (a1 : Int) : Option ((Int × (List Int)) × ((List Int) × Int × Int)) :=
  (s_l11Draw a0_0 a0_1 a0_2 a1).bind fun v1 =>
  (s_l01Next v1.2.1 v1.2.2.1 v1.2.2.2 30).bind fun v3 =>
  ((if v3.1 = 0 then
    (s_l01Pick v3.2.1 v3.2.2.1 v3.2.2.2 [2, 9, 17, 0]).bind fun v7 =>
    some (v7.2.1, v7.2.2.1, v7.2.2.2, v7.1, v1.1.2)
  else
    (if v3.1 = 1 then
      (s_l01Pick v3.2.1 v3.2.2.1 v3.2.2.2 [0, v1.1.1]).bind fun v9 =>
      (chk (v1.1.2.length + [v9.1].length ≤ 1099511627776)).bind fun _ =>
      some (v9.2.1, v9.2.2.1, v9.2.2.2, v1.1.1, v1.1.2 ++ [v9.1])
    else
      (if v3.1 = 2 then
        (loop s_l11DrawAny_L0 BIG (v1.1.1, v1.1.2)).bind fun x12 =>
        some (v3.2.1, v3.2.2.1, v3.2.2.2, x12.1, x12.2)
      else
        some (v3.2.1, v3.2.2.1, v3.2.2.2, v1.1.1, v1.1.2)))) : Option ((List Int) × Int × Int × Int × (List Int))).bind fun x4 =>
  some ((x4.2.2.2.1, x4.2.2.2.2), (x4.1, x4.2.1, x4.2.2.1))

def s_l11DrawElement_L0 (a1_0 : Int) (a1_1 : List Int) (v1 : Int × ((List Int) × Int × Int)) (s3 : (List Int) × Int × Int × (List Int) × Int) : Option (((List Int) × Int × Int × (List Int) × Int) ⊕ ((List Int) × Int × Int × (List Int))) :=
  (chk (0 ≤ (IntKind.u64.wrap (imin 4 (a1_1.length : Int))))).bind fun _ =>
  (if s3.2.2.2.2 < (shl .i64 1 (IntKind.u64.wrap (imin 4 (a1_1.length : Int)))) then
    (s_l01Next s3.1 s3.2.1 s3.2.2.1 (imax 1 a1_0)).bind fun v9 =>
    ((if v1.1 = 0 then
      (s_l01Next v9.2.1 v9.2.2.1 v9.2.2.2 3).bind fun v12 =>
      some (v12.2.1, v12.2.2.1, v12.2.2.2, ilt 0 v12.1)
    else
      some (v9.2.1, v9.2.2.1, v9.2.2.2, false)) : Option ((List Int) × Int × Int × Bool)).bind fun x13 =>
    ((if x13.2.2.2 = true then
      some 0
    else
      some v9.1) : Option Int).bind fun x14 =>
    (chk (s3.2.2.2.1.length + [x14].length ≤ 1099511627776)).bind fun _ =>
    some (.inl (x13.1, x13.2.1, x13.2.2.1, s3.2.2.2.1 ++ [x14], w64 (s3.2.2.2.2 + 1)))
  else
    some (.inr (s3.1, s3.2.1, s3.2.2.1, s3.2.2.2.1)))
def s_l11DrawElement (a0_0 : List Int) (a0_1 : Int) (a0_2 : Int) (a1_0 : Int) (a1_1 : List Int) : Option ((List Int) × ((List Int) × Int × Int)) :=
  (s_l01Next a0_0 a0_1 a0_2 4).bind fun v1 =>
  (loop (s_l11DrawElement_L0 a1_0 a1_1 v1) BIG (v1.2.1, v1.2.2.1, v1.2.2.2, [], 0)).bind fun x3 =>
  (s_l01Next x3.1 x3.2.1 x3.2.2.1 60).bind fun v19 =>
  ((if v19.1 = 0 then
    (s_l01Pick v19.2.1 v19.2.2.1 v19.2.2.2 [-1, a1_0]).bind fun v23 =>
    (idx x3.2.2.2 0).bind fun v24 =>
    some (v23.2.1, v23.2.2.1, v23.2.2.2, x3.2.2.2.set 0 v23.1)
  else
    (if v19.1 = 1 then
      (chk (1 ≤ (x3.2.2.2.length : Int))).bind fun _ =>
      some (v19.2.1, v19.2.2.1, v19.2.2.2, x3.2.2.2.drop 1)
    else
      some (v19.2.1, v19.2.2.1, v19.2.2.2, x3.2.2.2))) : Option ((List Int) × Int × Int × (List Int))).bind fun x20 =>
  some (x20.2.2.2, (x20.1, x20.2.1, x20.2.2.1))

def s_DrawDoubleConjugate (a0 : List Int) : Option ((Int × (List Int)) × (List Int)) :=
  (s_l01From a0).bind fun v1 =>
  (s_l11DrawAny v1.1 v1.2.1 v1.2.2 4).bind fun v2 =>
  (s_l11DrawElement v2.2.1 v2.2.2.1 v2.2.2.2 v2.1.1 v2.1.2).bind fun v3 =>
  some ((v2.1.1, v2.1.2), v3.1)

def s_DrawLeftMatrixOf (a0 : List Int) : Option ((Int × (List Int)) × (List Int)) :=
  (s_DrawDoubleConjugate a0).bind fun v1 =>
  some ((v1.1.1, v1.1.2), v1.2)

def i_LeftMatrixOf (a0_0 : Int) (a0_1 : List Int) (a1 : List Int) : Option ((List (List Int)) × Int) :=
  (i_checkElements a0_0 a0_1 [a1]).bind fun v2 =>
  (if ¬ v2 = 0 then
    some (([] : List (List Int)), v2)
  else
    (i_Doubling_left a0_0 a0_1 a1).bind fun v4 =>
    some (v4, 0))

def s_LeftMatrixOf (a0_0 : Int) (a0_1 : List Int) (a1 : List Int) : Option ((List (List Int)) × Int) :=
  (s_l11Code a0_0 a0_1 [a1]).bind fun v2 =>
  (if ¬ v2 = 0 then
    some (([] : List (List Int)), v2)
  else
    (s_l11Left a0_0 a0_1 a1).bind fun v4 =>
    some (v4, 0))

def l_same9_L0 (a0 : List (List Int)) (a1 : List (List Int)) (s4 : Int) : Option (Int ⊕ (Unit ⊕ Bool)) :=
  (if s4 < (a0.length : Int) then
    (idx a0 s4).bind fun v10 =>
    (idx a1 s4).bind fun v11 =>
    (l_likeInts v10 v11).bind fun v12 =>
    (if v12 = false then
      some (.inr (.inr false))
    else
      some (.inl (w64 (s4 + 1))))
  else
    some (.inr (.inl ())))
def l_same9 (a0 : List (List Int)) (a1 : List (List Int)) : Option Bool :=
  (if ¬ (a0.length : Int) = (a1.length : Int) then
    some false
  else
    (loop (l_same9_L0 a0 a1) BIG 0).bind fun x4 =>
    (match x4 with
    | .inl y6 =>
      some true
    | .inr t => some t))

def i_RightMatrixOf (a0_0 : Int) (a0_1 : List Int) (a1 : List Int) : Option ((List (List Int)) × Int) :=
  (i_checkElements a0_0 a0_1 [a1]).bind fun v2 =>
  (if ¬ v2 = 0 then
    some (([] : List (List Int)), v2)
  else
    (i_Doubling_right a0_0 a0_1 a1).bind fun v4 =>
    some (v4, 0))

def s_RightMatrixOf (a0_0 : Int) (a0_1 : List Int) (a1 : List Int) : Option ((List (List Int)) × Int) :=
  (s_l11Code a0_0 a0_1 [a1]).bind fun v2 =>
  (if ¬ v2 = 0 then
    some (([] : List (List Int)), v2)
  else
    (s_l11Right a0_0 a0_1 a1).bind fun v4 =>
    some (v4, 0))

def l_element9_L0 (a1_0 : Int) (a1_1 : List Int) (s2 : (List Int) × Int × Int × (List Int) × Int) : Option (((List Int) × Int × Int × (List Int) × Int) ⊕ ((List Int) × Int × Int × (List Int))) :=
  (chk (0 ≤ (IntKind.u64.wrap ((a1_1.length : Int))))).bind fun _ =>
  (if s2.2.2.2.2 < (shl .i64 1 (IntKind.u64.wrap ((a1_1.length : Int)))) then
    (g_p_laws_dice_below s2.1 s2.2.1 s2.2.2.1 a1_0).bind fun v8 =>
    (chk (s2.2.2.2.1.length + [v8.1].length ≤ 1099511627776)).bind fun _ =>
    some (.inl (v8.2.1, v8.2.2.1, v8.2.2.2, s2.2.2.2.1 ++ [v8.1], w64 (s2.2.2.2.2 + 1)))
  else
    some (.inr (s2.1, s2.2.1, s2.2.2.1, s2.2.2.2.1)))
def l_element9 (a0_0 : List Int) (a0_1 : Int) (a0_2 : Int) (a1_0 : Int) (a1_1 : List Int) : Option ((List Int) × ((List Int) × Int × Int)) :=
  (loop (l_element9_L0 a1_0 a1_1) BIG (a0_0, a0_1, a0_2, [], 0)).bind fun x2 =>
  some (x2.2.2.2, (x2.1, x2.2.1, x2.2.2.1))

def i_DoubleTimes (a0_0 : Int) (a0_1 : List Int) (a1 : List Int) (a2 : List Int) : Option ((List Int) × Int) :=
  (i_checkElements a0_0 a0_1 [a1, a2]).bind fun v2 =>
  (if ¬ v2 = 0 then
    some (([] : List Int), v2)
  else
    (i_Doubling_times a0_0 a0_1 a1 a2).bind fun v4 =>
    some (v4, 0))

def l_times9 (a0_0 : Int) (a0_1 : List Int) (a1 : List Int) (a2 : List Int) : Option (List Int) :=
  (i_DoubleTimes a0_0 a0_1 a1 a2).bind fun v1 =>
  (if ¬ v1.2 = 0 then
    some ([] : List Int)
  else
    some v1.1)

def i_NormDiagonal (a0_0 : Int) (a0_1 : List Int) : Option ((List Int) × Int) :=
  (i_IsDoubling a0_0 a0_1).bind fun v2 =>
  (if v2 = false then
    some (([] : List Int), 1)
  else
    (i_Doubling_diagonal a0_0 a0_1).bind fun v4 =>
    some (v4, 0))

def l_FnMultiplicationMatrices_L0 (v4 : (Int × (List Int)) × (List Int)) (v45 : (List Int) × Int) (s57 : (List Int) × (List Int) × Int × Int) : Option (((List Int) × (List Int) × Int × Int) ⊕ Int) :=
  (if s57.2.2.2 < (v4.2.length : Int) then
    (idx v45.1 s57.2.2.2).bind fun v62 =>
    (idx s57.1 s57.2.2.2).bind fun v63 =>
    (idx s57.2.1 s57.2.2.2).bind fun v64 =>
    (chk (¬ v4.1.1 = 0)).bind fun _ =>
    some (.inl (s57.1, s57.2.1, (w64 (s57.2.2.1 + (w64 ((w64 (v62 * v63)) * v64)))).tmod v4.1.1, w64 (s57.2.2.2 + 1)))
  else
    some (.inr s57.2.2.1))
def l_FnMultiplicationMatrices_L2 (v4 : (Int × (List Int)) × (List Int)) (v43 : (List (List Int)) × Int) (v44 : (List (List Int)) × Int) (x57 : Int) (s67 : Int) (s73 : Int) : Option (Int ⊕ (Unit ⊕ (Int ⊕ (Unit ⊕ Bool)))) :=
  ((idx v43.1 s67).bind fun v77 =>
  (if s73 < (v77.length : Int) then
    (idx v44.1 s67).bind fun v79 =>
    some (ilt s73 (v79.length : Int))
  else
    some false) : Option Bool).bind fun x80 =>
  (if x80 = true then
    ((if s67 = s73 then
      (chk (¬ v4.1.1 = 0)).bind fun _ =>
      some ((w64 (2 * (w64 (v4.1.1 - x57)))).tmod v4.1.1)
    else
      some 0) : Option Int).bind fun x84 =>
    (idx v43.1 s67).bind fun v88 =>
    (idx v88 s73).bind fun v89 =>
    (idx v44.1 s67).bind fun v90 =>
    (idx v90 s73).bind fun v91 =>
    (chk (¬ v4.1.1 = 0)).bind fun _ =>
    (if ¬ ((w64 (v89 + v91)).tmod v4.1.1) = x84 then
      some (.inr (.inr (.inr (.inr false))))
    else
      some (.inl (w64 (s73 + 1))))
  else
    some (.inr (.inl ())))
def l_FnMultiplicationMatrices_L1 (v4 : (Int × (List Int)) × (List Int)) (v43 : (List (List Int)) × Int) (v44 : (List (List Int)) × Int) (x57 : Int) (s67 : Int) : Option (Int ⊕ (Unit ⊕ Bool)) :=
  (if s67 < (v43.1.length : Int) then
    (loop (l_FnMultiplicationMatrices_L2 v4 v43 v44 x57 s67) BIG 0).bind fun x73 =>
    (match x73 with
    | .inl y75 =>
      some (.inl (w64 (s67 + 1)))
    | .inr t => some t)
  else
    some (.inr (.inl ())))
def l_FnMultiplicationMatrices (a0 : List Int) : Option Bool :=
  (l_big a0).bind fun v2 =>
  (if v2 = true then
    some true
  else
    (s_DrawLeftMatrixOf a0).bind fun v4 =>
    (i_LeftMatrixOf v4.1.1 v4.1.2 v4.2).bind fun v5 =>
    (s_LeftMatrixOf v4.1.1 v4.1.2 v4.2).bind fun v7 =>
    ((if ¬ v5.2 = v7.2 then
      some true
    else
      (l_same9 v5.1 v7.1).bind fun v9 =>
      some (!v9)) : Option Bool).bind fun x10 =>
    (if x10 = true then
      some false
    else
      (i_RightMatrixOf v4.1.1 v4.1.2 v4.2).bind fun v12 =>
      (s_RightMatrixOf v4.1.1 v4.1.2 v4.2).bind fun v14 =>
      ((if ¬ v12.2 = v14.2 then
        some true
      else
        (l_same9 v12.1 v14.1).bind fun v16 =>
        some (!v16)) : Option Bool).bind fun x17 =>
      (if x17 = true then
        some false
      else
        (if ¬ v5.2 = 0 then
          some (ieq (v5.1.length : Int) 0)
        else
          (l_roll a0 3003).bind fun v21 =>
          (l_element9 v21.1 v21.2.1 v21.2.2 v4.1.1 v4.1.2).bind fun v22 =>
          (i_ApplyMatrix v4.1.1 v5.1 v22.1).bind fun v23 =>
          (i_ApplyMatrix v4.1.1 v12.1 v22.1).bind fun v24 =>
          ((if ¬ v23.2 = 0 then
            some true
          else
            (if ¬ v24.2 = 0 then
              some true
            else
              (l_times9 v4.1.1 v4.1.2 v4.2 v22.1).bind fun v28 =>
              (l_likeInts v23.1 v28).bind fun v29 =>
              (if v29 = false then
                some true
              else
                (l_times9 v4.1.1 v4.1.2 v22.1 v4.2).bind fun v31 =>
                (l_likeInts v24.1 v31).bind fun v32 =>
                some (!v32)))) : Option Bool).bind fun x33 =>
          (if x33 = true then
            some false
          else
            (if 3 < (v4.1.2.length : Int) then
              some true
            else
              (chk (1 ≤ (v4.2.length : Int))).bind fun _ =>
              (chk ([0].length + (v4.2.drop 1).length ≤ 1099511627776)).bind fun _ =>
              (chk (1 ≤ (v22.1.length : Int))).bind fun _ =>
              (chk ([0].length + (v22.1.drop 1).length ≤ 1099511627776)).bind fun _ =>
              (i_LeftMatrixOf v4.1.1 v4.1.2 ([0] ++ (v4.2.drop 1))).bind fun v41 =>
              (i_LeftMatrixOf v4.1.1 v4.1.2 ([0] ++ (v22.1.drop 1))).bind fun v42 =>
              (i_MultiplyMatrices v4.1.1 v41.1 v42.1).bind fun v43 =>
              (i_MultiplyMatrices v4.1.1 v42.1 v41.1).bind fun v44 =>
              (i_NormDiagonal v4.1.1 v4.1.2).bind fun v45 =>
              ((if ¬ v41.2 = 0 then
                some true
              else
                (if ¬ v42.2 = 0 then
                  some true
                else
                  (if ¬ v43.2 = 0 then
                    some true
                  else
                    (if ¬ v44.2 = 0 then
                      some true
                    else
                      (if ¬ v45.2 = 0 then
                        some true
                      else
                        (if ¬ (v43.1.length : Int) = (v41.1.length : Int) then
                          some true
                        else
                          (if ¬ (v44.1.length : Int) = (v41.1.length : Int) then
                            some true
                          else
                            some (!(ieq (v45.1.length : Int) (v4.2.length : Int)))))))))) : Option Bool).bind fun x54 =>
              (if x54 = true then
                some false
              else
                (loop (l_FnMultiplicationMatrices_L0 v4 v45) BIG ([0] ++ (v4.2.drop 1), [0] ++ (v22.1.drop 1), 0, 0)).bind fun x57 =>
                (loop (l_FnMultiplicationMatrices_L1 v4 v43 v44 x57) BIG 0).bind fun x67 =>
                (match x67 with
                | .inl y69 =>
                  some true
                | .inr t => some t))))))))

end Go.Vam
