import Derived.Test.YtjkknabmfdodeaaFnB
namespace Go.Vam
open Go Go.RowKit
set_option maxRecDepth 100000
set_option linter.unusedSimpArgs false
set_option linter.unusedVariables false

def s_l11Diagonal_L0 (a0_0 : Int) (a0_1 : List Int) (s2 : (List Int) × Int) : Option (((List Int) × Int) ⊕ (List Int)) :=
  (if s2.2 < (a0_1.length : Int) then
    (idx a0_1 s2.2).bind fun v7 =>
    (s_l11Scale a0_0 (w64 (a0_0 - v7)) s2.1).bind fun v8 =>
    (chk (s2.1.length + v8.length ≤ 1099511627776)).bind fun _ =>
    some (.inl (s2.1 ++ v8, w64 (s2.2 + 1)))
  else
    some (.inr s2.1))
def s_l11Diagonal (a0_0 : Int) (a0_1 : List Int) : Option (List Int) :=
  (loop (s_l11Diagonal_L0 a0_0 a0_1) BIG ([1], 0)).bind fun x2 =>
  some x2

def i_Doubling_norm (a0_0 : Int) (a0_1 : List Int) (a1 : List Int) : Option Int :=
  (i_Doubling_field a0_0 a0_1).bind fun v1 =>
  (i_field_conjugate v1 a1).bind fun v2 =>
  (i_Doubling_times a0_0 a0_1 a1 v2).bind fun v3 =>
  (idx v3 0).bind fun v4 =>
  some v4

def s_l02First_L0 (a0 : List Int) (s2 : Int) : Option (Int ⊕ (Unit ⊕ Int)) :=
  (if s2 < (a0.length : Int) then
    (idx a0 s2).bind fun v8 =>
    (if ¬ v8 = 0 then
      some (.inr (.inr s2))
    else
      some (.inl (w64 (s2 + 1))))
  else
    some (.inr (.inl ())))
def s_l02First (a0 : List Int) : Option Int :=
  (loop (s_l02First_L0 a0) BIG 0).bind fun x2 =>
  (match x2 with
  | .inl y4 =>
    some (-1)
  | .inr t => some t)

def i_lead_L0 (a0 : List Int) (s2 : Int) : Option (Int ⊕ Int) :=
  ((if s2 < (a0.length : Int) then
    (idx a0 s2).bind fun v6 =>
    some (ieq v6 0)
  else
    some false) : Option Bool).bind fun x7 =>
  (if x7 = true then
    some (.inl (w64 (s2 + 1)))
  else
    some (.inr s2))
def i_lead (a0 : List Int) : Option Int :=
  (loop (i_lead_L0 a0) BIG 0).bind fun x2 =>
  some x2

end Go.Vam
