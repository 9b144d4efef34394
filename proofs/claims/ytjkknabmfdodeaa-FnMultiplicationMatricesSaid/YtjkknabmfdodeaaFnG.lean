import Derived.Test.YtjkknabmfdodeaaFnF
import Derived.Test.YtjkknabmfdodeaaVamY
namespace Go.Vam
open Go Go.RowKit
set_option maxRecDepth 100000
set_option linter.unusedSimpArgs false
set_option linter.unusedVariables false

def s_l01From_L0 (a0 : List Int) (s2 : (List Int) × Int × Int × Int) : Option (((List Int) × Int × Int × Int) ⊕ ((List Int) × Int × Int)) :=
  ((if s2.2.2.2 < (a0.length : Int) then
    some (ilt s2.2.2.2 4096)
  else
    some false) : Option Bool).bind fun x6 =>
  (if x6 = true then
    (idx a0 s2.2.2.2).bind fun v9 =>
    some (.inl (s2.1, s2.2.1, IntKind.u64.wrap ((IntKind.u64.wrap ((IntKind.u64.wrap (s2.2.2.1 * 1099511628211)) + (IntKind.u64.wrap (v9)))) + 11), w64 (s2.2.2.2 + 1)))
  else
    some (.inr (s2.1, s2.2.1, s2.2.2.1)))
def s_l01From (a0 : List Int) : Option ((List Int) × Int × Int) :=
  (loop (s_l01From_L0 a0) BIG (a0, 0, IntKind.u64.wrap (4409 + (IntKind.u64.wrap ((a0.length : Int)))), 0)).bind fun x2 =>
  some (x2.1, x2.2.1, x2.2.2)

def s_l01Next (a0_0 : List Int) (a0_1 : Int) (a0_2 : Int) (a1 : Int) : Option (Int × ((List Int) × Int × Int)) :=
  (if a1 < 1 then
    some (0, (a0_0, a0_1, a0_2))
  else
    ((if a0_1 < (a0_0.length : Int) then
      (idx a0_0 a0_1).bind fun v7 =>
      some (a0_0, w64 (a0_1 + 1), IntKind.u64.wrap ((IntKind.u64.wrap (a0_2 * 6364136223846793005)) + 1442695040888963407), w64 ((w64 (band .u64 (shr .u64 (IntKind.u64.wrap ((IntKind.u64.wrap (a0_2 * 6364136223846793005)) + 1442695040888963407)) 33) 16777215)) + (w64 (v7))))
    else
      some (a0_0, a0_1, IntKind.u64.wrap ((IntKind.u64.wrap (a0_2 * 6364136223846793005)) + 1442695040888963407), w64 (band .u64 (shr .u64 (IntKind.u64.wrap ((IntKind.u64.wrap (a0_2 * 6364136223846793005)) + 1442695040888963407)) 33) 16777215))) : Option ((List Int) × Int × Int × Int)).bind fun x4 =>
    (chk (¬ a1 = 0)).bind fun _ =>
    some (x4.2.2.2.tmod a1, (x4.1, x4.2.1, x4.2.2.1)))

def s_l01Pick (a0_0 : List Int) (a0_1 : Int) (a0_2 : Int) (a1 : List Int) : Option (Int × ((List Int) × Int × Int)) :=
  (s_l01Next a0_0 a0_1 a0_2 (a1.length : Int)).bind fun v1 =>
  (idx a1 v1.1).bind fun v2 =>
  some (v2, (v1.2.1, v1.2.2.1, v1.2.2.2))

def l_likeInts_L0 (a0 : List Int) (a1 : List Int) (s4 : Int) : Option (Int ⊕ (Unit ⊕ Bool)) :=
  (if s4 < (a0.length : Int) then
    (idx a0 s4).bind fun v10 =>
    (idx a1 s4).bind fun v11 =>
    (if ¬ v10 = v11 then
      some (.inr (.inr false))
    else
      some (.inl (w64 (s4 + 1))))
  else
    some (.inr (.inl ())))
def l_likeInts (a0 : List Int) (a1 : List Int) : Option Bool :=
  (if ¬ (a0.length : Int) = (a1.length : Int) then
    some false
  else
    (loop (l_likeInts_L0 a0 a1) BIG 0).bind fun x4 =>
    (match x4 with
    | .inl y6 =>
      some true
    | .inr t => some t))

def l_likeRows5_L0 (a0 : List (List Int)) (a1 : List (List Int)) (s4 : Int) : Option (Int ⊕ (Unit ⊕ Bool)) :=
  (if s4 < (a0.length : Int) then
    (idx a0 s4).bind fun v10 =>
    (idx a1 s4).bind fun v11 =>
    (l_likeInts v10 v11).bind fun v12 =>
    (if v12 = false then
      some (.inr (.inr false))
    else
      some (.inl (w64 (s4 + 1))))
  else
    some (.inr (.inl ())))
def l_likeRows5 (a0 : List (List Int)) (a1 : List (List Int)) : Option Bool :=
  (if ¬ (a0.length : Int) = (a1.length : Int) then
    some false
  else
    (loop (l_likeRows5_L0 a0 a1) BIG 0).bind fun x4 =>
    (match x4 with
    | .inl y6 =>
      some true
    | .inr t => some t))

def l_roll_L0 (a0 : List Int) (s2 : (List Int) × Int × Int × Int) : Option (((List Int) × Int × Int × Int) ⊕ ((List Int) × Int × Int)) :=
  (if s2.2.2.2 < (a0.length : Int) then
    (idx a0 s2.2.2.2).bind fun v7 =>
    some (.inl (s2.1, s2.2.1, IntKind.u64.wrap ((IntKind.u64.wrap ((IntKind.u64.wrap (s2.2.2.1 * 1099511628211)) + (IntKind.u64.wrap (v7)))) + 5), w64 (s2.2.2.2 + 1)))
  else
    some (.inr (s2.1, s2.2.1, s2.2.2.1)))
def l_roll (a0 : List Int) (a1 : Int) : Option ((List Int) × Int × Int) :=
  (loop (l_roll_L0 a0) BIG (a0, 0, IntKind.u64.wrap ((IntKind.u64.wrap (a1 * 7681)) + (IntKind.u64.wrap ((a0.length : Int)))), 0)).bind fun x2 =>
  some (x2.1, x2.2.1, x2.2.2)

def g_p_laws_dice_below (a0_0 : List Int) (a0_1 : Int) (a0_2 : Int) (a1 : Int) : Option (Int × ((List Int) × Int × Int)) :=
  (if a1 < 1 then
    some (0, (a0_0, a0_1, a0_2))
  else
    ((if a0_1 < (a0_0.length : Int) then
      (idx a0_0 a0_1).bind fun v7 =>
      some (a0_0, w64 (a0_1 + 1), IntKind.u64.wrap ((IntKind.u64.wrap (a0_2 * 6364136223846793005)) + 1442695040888963407), w64 ((w64 (band .u64 (shr .u64 (IntKind.u64.wrap ((IntKind.u64.wrap (a0_2 * 6364136223846793005)) + 1442695040888963407)) 33) 16777215)) + (w64 (v7))))
    else
      some (a0_0, a0_1, IntKind.u64.wrap ((IntKind.u64.wrap (a0_2 * 6364136223846793005)) + 1442695040888963407), w64 (band .u64 (shr .u64 (IntKind.u64.wrap ((IntKind.u64.wrap (a0_2 * 6364136223846793005)) + 1442695040888963407)) 33) 16777215))) : Option ((List Int) × Int × Int × Int)).bind fun x4 =>
    (chk (¬ a1 = 0)).bind fun _ =>
    some (x4.2.2.2.tmod a1, (x4.1, x4.2.1, x4.2.2.1)))

end Go.Vam
