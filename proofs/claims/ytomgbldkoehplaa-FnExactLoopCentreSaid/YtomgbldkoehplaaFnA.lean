import Derived.Test.YtomgbldkoehplaaVamT
namespace Go.Vam
open Go Go.RowKit
set_option maxRecDepth 100000
set_option linter.unusedSimpArgs false
set_option linter.unusedVariables false

def l_szInt64S (a0 : List Int) (a1 : Int) : Option Int :=
  (if (w64 (a1 - (a0.length : Int))) < 0 then
    some (-1)
  else
    some (w64 (a1 - (a0.length : Int))))

def l_szInt64SS_L0 (a0 : List (List Int)) (s4 : Int × Int) : Option ((Int × Int) ⊕ (Int ⊕ Int)) :=
  (if s4.2 < (a0.length : Int) then
    (idx a0 s4.2).bind fun v10 =>
    (l_szInt64S v10 s4.1).bind fun v11 =>
    (if v11 < 0 then
      some (.inr (.inr (-1)))
    else
      some (.inl (v11, w64 (s4.2 + 1))))
  else
    some (.inr (.inl s4.1)))
def l_szInt64SS (a0 : List (List Int)) (a1 : Int) : Option Int :=
  (if (w64 (a1 - (a0.length : Int))) < 0 then
    some (-1)
  else
    (loop (l_szInt64SS_L0 a0) BIG (w64 (a1 - (a0.length : Int)), 0)).bind fun x4 =>
    (match x4 with
    | .inl y6 =>
      some y6
    | .inr t => some t))

def l_toInt64S_L0 (a0 : List Int) (s3 : (List Int) × Int) : Option (((List Int) × Int) ⊕ (List Int)) :=
  (if s3.2 < (a0.length : Int) then
    (idx a0 s3.2).bind fun v8 =>
    (idx s3.1 s3.2).bind fun v9 =>
    some (.inl (s3.1.set s3.2.toNat v8, w64 (s3.2 + 1)))
  else
    some (.inr s3.1))
def l_toInt64S (a0 : List Int) : Option (List Int) :=
  (chk (0 ≤ (a0.length : Int) ∧ (a0.length : Int) ≤ 1099511627776)).bind fun _ =>
  (loop (l_toInt64S_L0 a0) BIG (List.replicate (a0.length : Int).toNat 0, 0)).bind fun x3 =>
  some x3

def l_toInt64SS_L0 (a0 : List (List Int)) (s3 : (List (List Int)) × Int) : Option (((List (List Int)) × Int) ⊕ (List (List Int))) :=
  (if s3.2 < (a0.length : Int) then
    (idx a0 s3.2).bind fun v8 =>
    (l_toInt64S v8).bind fun v9 =>
    (idx s3.1 s3.2).bind fun v10 =>
    some (.inl (s3.1.set s3.2.toNat v9, w64 (s3.2 + 1)))
  else
    some (.inr s3.1))
def l_toInt64SS (a0 : List (List Int)) : Option (List (List Int)) :=
  (chk (0 ≤ (a0.length : Int) ∧ (a0.length : Int) ≤ 1099511627776)).bind fun _ =>
  (loop (l_toInt64SS_L0 a0) BIG (List.replicate (a0.length : Int).toNat [], 0)).bind fun x3 =>
  some x3

def s_l01In (a0 : Int) (a1 : Int) (a2 : Int) : Option Bool :=
  ((if a1 ≤ a0 then
    some (ile a0 a2)
  else
    some false) : Option Bool).bind fun x2 =>
  some x2

def i_inRange (a0 : Int) (a1 : Int) (a2 : Int) : Option Bool :=
  ((if a1 ≤ a0 then
    some (ile a0 a2)
  else
    some false) : Option Bool).bind fun x2 =>
  some x2

def l_eqInt64S_L0 (a0 : List Int) (a1 : List Int) (s4 : Int) : Option (Int ⊕ (Unit ⊕ Bool)) :=
  (if s4 < (a0.length : Int) then
    (idx a0 s4).bind fun v10 =>
    (idx a1 s4).bind fun v11 =>
    (if ¬ v10 = v11 then
      some (.inr (.inr false))
    else
      some (.inl (w64 (s4 + 1))))
  else
    some (.inr (.inl ())))
def l_eqInt64S (a0 : List Int) (a1 : List Int) : Option Bool :=
  (if ¬ (a0.length : Int) = (a1.length : Int) then
    some false
  else
    (loop (l_eqInt64S_L0 a0 a1) BIG 0).bind fun x4 =>
    (match x4 with
    | .inl y6 =>
      some true
    | .inr t => some t))

def l_eqInt64SS_L0 (a0 : List (List Int)) (a1 : List (List Int)) (s4 : Int) : Option (Int ⊕ (Unit ⊕ Bool)) :=
  (if s4 < (a0.length : Int) then
    (idx a0 s4).bind fun v10 =>
    (idx a1 s4).bind fun v11 =>
    (l_eqInt64S v10 v11).bind fun v12 =>
    (if v12 = false then
      some (.inr (.inr false))
    else
      some (.inl (w64 (s4 + 1))))
  else
    some (.inr (.inl ())))
def l_eqInt64SS (a0 : List (List Int)) (a1 : List (List Int)) : Option Bool :=
  (if ¬ (a0.length : Int) = (a1.length : Int) then
    some false
  else
    (loop (l_eqInt64SS_L0 a0 a1) BIG 0).bind fun x4 =>
    (match x4 with
    | .inl y6 =>
      some true
    | .inr t => some t))

def i_transpose_L1 (a0 : List (List Int)) (s3 : (List (List Int)) × Int) (s9 : (List Int) × Int) : Option (((List Int) × Int) ⊕ (List Int)) :=
  (if s9.2 < (a0.length : Int) then
    (idx a0 s9.2).bind fun v14 =>
    (idx v14 s3.2).bind fun v15 =>
    (chk (s9.1.length + [v15].length ≤ 1099511627776)).bind fun _ =>
    some (.inl (s9.1 ++ [v15], w64 (s9.2 + 1)))
  else
    some (.inr s9.1))
def i_transpose_L0 (a0 : List (List Int)) (v2 : List Int) (s3 : (List (List Int)) × Int) : Option (((List (List Int)) × Int) ⊕ (List (List Int))) :=
  (if s3.2 < (v2.length : Int) then
    (loop (i_transpose_L1 a0 s3) BIG ([], 0)).bind fun x9 =>
    (chk (s3.1.length + [x9].length ≤ 1099511627776)).bind fun _ =>
    some (.inl (s3.1 ++ [x9], w64 (s3.2 + 1)))
  else
    some (.inr s3.1))
def i_transpose (a0 : List (List Int)) : Option (List (List Int)) :=
  (idx a0 0).bind fun v2 =>
  (loop (i_transpose_L0 a0 v2) BIG ([], 0)).bind fun x3 =>
  some x3

def l_markInt64S_L0 (s2 : (List Int) × Int × Int) : Option (((List Int) × Int × Int) ⊕ ((List Int) × Int)) :=
  (if s2.2.2 < (s2.1.length : Int) then
    (idx s2.1 s2.2.2).bind fun v7 =>
    some (.inl (s2.1.set s2.2.2.toNat s2.2.1, w64 (s2.2.1 + 1), w64 (s2.2.2 + 1)))
  else
    some (.inr (s2.1, s2.2.1)))
def l_markInt64S (a0 : List Int) (a1 : Int) : Option (Int × (List Int)) :=
  (loop l_markInt64S_L0 BIG (a0, a1, 0)).bind fun x2 =>
  some (x2.2, x2.1)

def l_markInt64SS_L0 (s2 : (List (List Int)) × Int × Int) : Option (((List (List Int)) × Int × Int) ⊕ ((List (List Int)) × Int)) :=
  (if s2.2.2 < (s2.1.length : Int) then
    (idx s2.1 s2.2.2).bind fun v7 =>
    (l_markInt64S v7 s2.2.1).bind fun v8 =>
    some (.inl (s2.1.set s2.2.2.toNat v8.2, v8.1, w64 (s2.2.2 + 1)))
  else
    some (.inr (s2.1, s2.2.1)))
def l_markInt64SS (a0 : List (List Int)) (a1 : Int) : Option (Int × (List (List Int))) :=
  (loop l_markInt64SS_L0 BIG (a0, a1, 0)).bind fun x2 =>
  some (x2.2, x2.1)

def l_heldInt64S_L0 (a0 : List Int) (s2 : Int × Int) : Option ((Int × Int) ⊕ (Int ⊕ Int)) :=
  (if s2.2 < (a0.length : Int) then
    (idx a0 s2.2).bind fun v9 =>
    (if ¬ v9 = s2.1 then
      some (.inr (.inr (-1)))
    else
      some (.inl (w64 (s2.1 + 1), w64 (s2.2 + 1))))
  else
    some (.inr (.inl s2.1)))
def l_heldInt64S (a0 : List Int) (a1 : Int) : Option Int :=
  (loop (l_heldInt64S_L0 a0) BIG (a1, 0)).bind fun x2 =>
  (match x2 with
  | .inl y4 =>
    some y4
  | .inr t => some t)

def s_l12First_L0 (a0 : List Int) (s2 : Int) : Option (Int ⊕ Int) :=
  ((if s2 < (a0.length : Int) then
    (idx a0 s2).bind fun v6 =>
    some (ieq v6 0)
  else
    some false) : Option Bool).bind fun x7 =>
  (if x7 = true then
    some (.inl (w64 (s2 + 1)))
  else
    some (.inr s2))
def s_l12First (a0 : List Int) : Option Int :=
  (loop (s_l12First_L0 a0) BIG 0).bind fun x2 =>
  some x2

end Go.Vam
