import Derived.Test.YtomgbldkoehplaaFnF
import Derived.Test.YtomgbldkoehplaaVamY
namespace Go.Vam
open Go Go.RowKit
set_option maxRecDepth 100000
set_option linter.unusedSimpArgs false
set_option linter.unusedVariables false

def s_l01From_L0 (a0 : List Int) (s2 : (List Int) × Int × Int × Int) : Option (((List Int) × Int × Int × Int) ⊕ ((List Int) × Int × Int)) :=
  ((if s2.2.2.2 < (a0.length : Int) then
    some (ilt s2.2.2.2 4096)
  else
    some false) : Option Bool).bind fun x6 =>
  (if x6 = true then
    (idx a0 s2.2.2.2).bind fun v9 =>
    some (.inl (s2.1, s2.2.1, IntKind.u64.wrap ((IntKind.u64.wrap ((IntKind.u64.wrap (s2.2.2.1 * 1099511628211)) + (IntKind.u64.wrap (v9)))) + 11), w64 (s2.2.2.2 + 1)))
  else
    some (.inr (s2.1, s2.2.1, s2.2.2.1)))
def s_l01From (a0 : List Int) : Option ((List Int) × Int × Int) :=
  (loop (s_l01From_L0 a0) BIG (a0, 0, IntKind.u64.wrap (4409 + (IntKind.u64.wrap ((a0.length : Int)))), 0)).bind fun x2 =>
  some (x2.1, x2.2.1, x2.2.2)

def s_l01Next (a0_0 : List Int) (a0_1 : Int) (a0_2 : Int) (a1 : Int) : Option (Int × ((List Int) × Int × Int)) :=
  (if a1 < 1 then
    some (0, (a0_0, a0_1, a0_2))
  else
    ((if a0_1 < (a0_0.length : Int) then
      (idx a0_0 a0_1).bind fun v7 =>
      some (a0_0, w64 (a0_1 + 1), IntKind.u64.wrap ((IntKind.u64.wrap (a0_2 * 6364136223846793005)) + 1442695040888963407), w64 ((w64 (band .u64 (shr .u64 (IntKind.u64.wrap ((IntKind.u64.wrap (a0_2 * 6364136223846793005)) + 1442695040888963407)) 33) 16777215)) + (w64 (v7))))
    else
      some (a0_0, a0_1, IntKind.u64.wrap ((IntKind.u64.wrap (a0_2 * 6364136223846793005)) + 1442695040888963407), w64 (band .u64 (shr .u64 (IntKind.u64.wrap ((IntKind.u64.wrap (a0_2 * 6364136223846793005)) + 1442695040888963407)) 33) 16777215))) : Option ((List Int) × Int × Int × Int)).bind fun x4 =>
    (chk (¬ a1 = 0)).bind fun _ =>
    some (x4.2.2.2.tmod a1, (x4.1, x4.2.1, x4.2.2.1)))

def s_l01Pick (a0_0 : List Int) (a0_1 : Int) (a0_2 : Int) (a1 : List Int) : Option (Int × ((List Int) × Int × Int)) :=
  (s_l01Next a0_0 a0_1 a0_2 (a1.length : Int)).bind fun v1 =>
  (idx a1 v1.1).bind fun v2 =>
  some (v2, (v1.2.1, v1.2.2.1, v1.2.2.2))

def s_l02Size (a0_0 : List Int) (a0_1 : Int) (a0_2 : Int) : Option (Int × ((List Int) × Int × Int)) :=
  (s_l01Next a0_0 a0_1 a0_2 3).bind fun v1 =>
  (s_l01Next v1.2.1 v1.2.2.1 v1.2.2.2 4).bind fun v2 =>
  (s_l01Next v2.2.1 v2.2.2.1 v2.2.2.2 6).bind fun v3 =>
  (s_l01Pick v3.2.1 v3.2.2.1 v3.2.2.2 [v1.1, v2.1, v3.1]).bind fun v4 =>
  some (w64 (1 + v4.1), (v4.2.1, v4.2.2.1, v4.2.2.2))

def s_l01DrawPrime (a0_0 : List Int) (a0_1 : Int) (a0_2 : Int) : Option (Int × ((List Int) × Int × Int)) :=
  (s_l01Pick a0_0 a0_1 a0_2 [3, 5, 7, 11, 13, 3, 5, 7]).bind fun v1 =>
  some (v1.1, (v1.2.1, v1.2.2.1, v1.2.2.2))

def s_l01Bad (a0_0 : List Int) (a0_1 : Int) (a0_2 : Int) : Option (Int × ((List Int) × Int × Int)) :=
  (s_l01Next a0_0 a0_1 a0_2 24).bind fun v2 =>
  (if v2.1 = 0 then
    (s_l01Pick v2.2.1 v2.2.2.1 v2.2.2.2 [2, 9, 17, 1, 0, -3]).bind fun v4 =>
    some (v4.1, (v4.2.1, v4.2.2.1, v4.2.2.2))
  else
    (s_l01DrawPrime v2.2.1 v2.2.2.1 v2.2.2.2).bind fun v5 =>
    some (v5.1, (v5.2.1, v5.2.2.1, v5.2.2.2)))

def s_l01List_L0 (a1 : Int) (s2 : (List Int) × Int × Int × Int × (List Int)) : Option (((List Int) × Int × Int × Int × (List Int)) ⊕ ((List Int) × Int × Int × (List Int))) :=
  (if 0 < s2.2.2.2.1 then
    (s_l01Next s2.1 s2.2.1 s2.2.2.1 a1).bind fun v7 =>
    (chk (s2.2.2.2.2.length + [v7.1].length ≤ 1099511627776)).bind fun _ =>
    some (.inl (v7.2.1, v7.2.2.1, v7.2.2.2, w64 (s2.2.2.2.1 - 1), s2.2.2.2.2 ++ [v7.1]))
  else
    some (.inr (s2.1, s2.2.1, s2.2.2.1, s2.2.2.2.2)))
def s_l01List (a0_0 : List Int) (a0_1 : Int) (a0_2 : Int) (a1 : Int) (a2 : Int) : Option ((List Int) × ((List Int) × Int × Int)) :=
  (loop (s_l01List_L0 a1) BIG (a0_0, a0_1, a0_2, a2, [])).bind fun x2 =>
  some (x2.2.2.2, (x2.1, x2.2.1, x2.2.2.1))

def s_l02Draw_L0 (a1 : Int) (a2 : Int) (a3 : Int) (s2 : (List Int) × Int × Int × (List (List Int)) × Int) : Option (((List Int) × Int × Int × (List (List Int)) × Int) ⊕ ((List Int) × Int × Int × (List (List Int)))) :=
  (if s2.2.2.2.2 < a2 then
    (s_l01List s2.1 s2.2.1 s2.2.2.1 a1 a3).bind fun v7 =>
    ((if 0 < s2.2.2.2.2 then
      (s_l01Next v7.2.1 v7.2.2.1 v7.2.2.2 4).bind fun v10 =>
      some (v10.2.1, v10.2.2.1, v10.2.2.2, ieq v10.1 0)
    else
      some (v7.2.1, v7.2.2.1, v7.2.2.2, false)) : Option ((List Int) × Int × Int × Bool)).bind fun x11 =>
    ((if x11.2.2.2 = true then
      (s_l01Next x11.1 x11.2.1 x11.2.2.1 s2.2.2.2.2).bind fun v15 =>
      (idx s2.2.2.2.1 v15.1).bind fun v16 =>
      (s_l01Next v15.2.1 v15.2.2.1 v15.2.2.2 a1).bind fun v17 =>
      (s_l02Scale a1 v16 v17.1).bind fun v18 =>
      (s_l01Next v17.2.1 v17.2.2.1 v17.2.2.2 s2.2.2.2.2).bind fun v19 =>
      (idx s2.2.2.2.1 v19.1).bind fun v20 =>
      (s_l01Next v19.2.1 v19.2.2.1 v19.2.2.2 a1).bind fun v21 =>
      (s_l02Plus a1 v18 v20 v21.1).bind fun v22 =>
      some (v21.2.1, v21.2.2.1, v21.2.2.2, v22)
    else
      some (x11.1, x11.2.1, x11.2.2.1, v7.1)) : Option ((List Int) × Int × Int × (List Int))).bind fun x12 =>
    (chk (s2.2.2.2.1.length + [x12.2.2.2].length ≤ 1099511627776)).bind fun _ =>
    some (.inl (x12.1, x12.2.1, x12.2.2.1, s2.2.2.2.1 ++ [x12.2.2.2], w64 (s2.2.2.2.2 + 1)))
  else
    some (.inr (s2.1, s2.2.1, s2.2.2.1, s2.2.2.2.1)))
def s_l02Draw (a0_0 : List Int) (a0_1 : Int) (a0_2 : Int) (a1 : Int) (a2 : Int) (a3 : Int) : Option ((List (List Int)) × ((List Int) × Int × Int)) :=
  (loop (s_l02Draw_L0 a1 a2 a3) BIG (a0_0, a0_1, a0_2, [], 0)).bind fun x2 =>
  some (x2.2.2.2, (x2.1, x2.2.1, x2.2.2.1))

def s_l02Spoil (a0_0 : List Int) (a0_1 : Int) (a0_2 : Int) (a1 : Int) (a2 : Int) : Option ((Int × (List (List Int))) × ((List Int) × Int × Int)) :=
  (s_l01Bad a0_0 a0_1 a0_2).bind fun v1 =>
  (s_l01Prime v1.1).bind fun v3 =>
  (if v3 = false then
    some ((v1.1, [[1]]), (v1.2.1, v1.2.2.1, v1.2.2.2))
  else
    (s_l02Draw v1.2.1 v1.2.2.1 v1.2.2.2 v1.1 a1 a2).bind fun v5 =>
    (s_l01Next v5.2.1 v5.2.2.1 v5.2.2.2 36).bind fun v7 =>
    ((if v7.1 = 0 then
      (idx v5.1 0).bind fun v11 =>
      (s_l01Pick v7.2.1 v7.2.2.1 v7.2.2.2 [-1, v1.1]).bind fun v12 =>
      (idx v11 0).bind fun v13 =>
      some (v12.2.1, v12.2.2.1, v12.2.2.2, v5.1.set 0 (v11.set 0 v12.1))
    else
      (if v7.1 = 1 then
        (idx v5.1 0).bind fun v15 =>
        (chk (v15.length + [0].length ≤ 1099511627776)).bind fun _ =>
        some (v7.2.1, v7.2.2.1, v7.2.2.2, v5.1.set 0 (v15 ++ [0]))
      else
        (if v7.1 = 2 then
          some (v7.2.1, v7.2.2.1, v7.2.2.2, [])
        else
          (if v7.1 = 3 then
            (s_l02Draw v7.2.1 v7.2.2.1 v7.2.2.2 v1.1 17 2).bind fun v19 =>
            some (v19.2.1, v19.2.2.1, v19.2.2.2, v19.1)
          else
            (if v7.1 = 4 then
              (s_l02Draw v7.2.1 v7.2.2.1 v7.2.2.2 v1.1 2 17).bind fun v21 =>
              some (v21.2.1, v21.2.2.1, v21.2.2.2, v21.1)
            else
              some (v7.2.1, v7.2.2.1, v7.2.2.2, v5.1)))))) : Option ((List Int) × Int × Int × (List (List Int)))).bind fun x8 =>
    some ((v1.1, x8.2.2.2), (x8.1, x8.2.1, x8.2.2.1)))

def l_likeInts_L0 (a0 : List Int) (a1 : List Int) (s4 : Int) : Option (Int ⊕ (Unit ⊕ Bool)) :=
  (if s4 < (a0.length : Int) then
    (idx a0 s4).bind fun v10 =>
    (idx a1 s4).bind fun v11 =>
    (if ¬ v10 = v11 then
      some (.inr (.inr false))
    else
      some (.inl (w64 (s4 + 1))))
  else
    some (.inr (.inl ())))
def l_likeInts (a0 : List Int) (a1 : List Int) : Option Bool :=
  (if ¬ (a0.length : Int) = (a1.length : Int) then
    some false
  else
    (loop (l_likeInts_L0 a0 a1) BIG 0).bind fun x4 =>
    (match x4 with
    | .inl y6 =>
      some true
    | .inr t => some t))

def l_likeRows5_L0 (a0 : List (List Int)) (a1 : List (List Int)) (s4 : Int) : Option (Int ⊕ (Unit ⊕ Bool)) :=
  (if s4 < (a0.length : Int) then
    (idx a0 s4).bind fun v10 =>
    (idx a1 s4).bind fun v11 =>
    (l_likeInts v10 v11).bind fun v12 =>
    (if v12 = false then
      some (.inr (.inr false))
    else
      some (.inl (w64 (s4 + 1))))
  else
    some (.inr (.inl ())))
def l_likeRows5 (a0 : List (List Int)) (a1 : List (List Int)) : Option Bool :=
  (if ¬ (a0.length : Int) = (a1.length : Int) then
    some false
  else
    (loop (l_likeRows5_L0 a0 a1) BIG 0).bind fun x4 =>
    (match x4 with
    | .inl y6 =>
      some true
    | .inr t => some t))

def l_roll_L0 (a0 : List Int) (s2 : (List Int) × Int × Int × Int) : Option (((List Int) × Int × Int × Int) ⊕ ((List Int) × Int × Int)) :=
  (if s2.2.2.2 < (a0.length : Int) then
    (idx a0 s2.2.2.2).bind fun v7 =>
    some (.inl (s2.1, s2.2.1, IntKind.u64.wrap ((IntKind.u64.wrap ((IntKind.u64.wrap (s2.2.2.1 * 1099511628211)) + (IntKind.u64.wrap (v7)))) + 5), w64 (s2.2.2.2 + 1)))
  else
    some (.inr (s2.1, s2.2.1, s2.2.2.1)))
def l_roll (a0 : List Int) (a1 : Int) : Option ((List Int) × Int × Int) :=
  (loop (l_roll_L0 a0) BIG (a0, 0, IntKind.u64.wrap ((IntKind.u64.wrap (a1 * 7681)) + (IntKind.u64.wrap ((a0.length : Int)))), 0)).bind fun x2 =>
  some (x2.1, x2.2.1, x2.2.2)

def g_p_laws_dice_below (a0_0 : List Int) (a0_1 : Int) (a0_2 : Int) (a1 : Int) : Option (Int × ((List Int) × Int × Int)) :=
  (if a1 < 1 then
    some (0, (a0_0, a0_1, a0_2))
  else
    ((if a0_1 < (a0_0.length : Int) then
      (idx a0_0 a0_1).bind fun v7 =>
      some (a0_0, w64 (a0_1 + 1), IntKind.u64.wrap ((IntKind.u64.wrap (a0_2 * 6364136223846793005)) + 1442695040888963407), w64 ((w64 (band .u64 (shr .u64 (IntKind.u64.wrap ((IntKind.u64.wrap (a0_2 * 6364136223846793005)) + 1442695040888963407)) 33) 16777215)) + (w64 (v7))))
    else
      some (a0_0, a0_1, IntKind.u64.wrap ((IntKind.u64.wrap (a0_2 * 6364136223846793005)) + 1442695040888963407), w64 (band .u64 (shr .u64 (IntKind.u64.wrap ((IntKind.u64.wrap (a0_2 * 6364136223846793005)) + 1442695040888963407)) 33) 16777215))) : Option ((List Int) × Int × Int × Int)).bind fun x4 =>
    (chk (¬ a1 = 0)).bind fun _ =>
    some (x4.2.2.2.tmod a1, (x4.1, x4.2.1, x4.2.2.1)))

def s_l02DrawSquare (a0 : List Int) : Option (Int × (List (List Int))) :=
  (s_l01From a0).bind fun v1 =>
  (s_l02Size v1.1 v1.2.1 v1.2.2).bind fun v2 =>
  (s_l01Next v2.2.1 v2.2.2.1 v2.2.2.2 24).bind fun v4 =>
  ((if v4.1 = 0 then
    some (w64 (v2.1 + 1))
  else
    some v2.1) : Option Int).bind fun x5 =>
  (s_l02Spoil v4.2.1 v4.2.2.1 v4.2.2.2 v2.1 x5).bind fun v8 =>
  some (v8.1.1, v8.1.2)

end Go.Vam
