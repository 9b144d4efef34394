import Derived.Test.YtjkknabmfdodeaaFnB
namespace Go.Vam
open Go Go.RowKit
set_option maxRecDepth 100000
set_option linter.unusedSimpArgs false
set_option linter.unusedVariables false

def s_l01Index_L0 (a0 : List Int) (a1 : Int) (s2 : Int) : Option (Int ⊕ (Unit ⊕ Int)) :=
  (if s2 < (a0.length : Int) then
    (idx a0 s2).bind fun v8 =>
    (if v8 = a1 then
      some (.inr (.inr s2))
    else
      some (.inl (w64 (s2 + 1))))
  else
    some (.inr (.inl ())))
def s_l01Index (a0 : List Int) (a1 : Int) : Option Int :=
  (loop (s_l01Index_L0 a0 a1) BIG 0).bind fun x2 =>
  (match x2 with
  | .inl y4 =>
    some (-1)
  | .inr t => some t)

def s_l01Has (a0 : List Int) (a1 : Int) : Option Bool :=
  (s_l01Index a0 a1).bind fun v1 =>
  some (ile 0 v1)

def s_l02First_L0 (a0 : List Int) (s2 : Int) : Option (Int ⊕ (Unit ⊕ Int)) :=
  (if s2 < (a0.length : Int) then
    (idx a0 s2).bind fun v8 =>
    (if ¬ v8 = 0 then
      some (.inr (.inr s2))
    else
      some (.inl (w64 (s2 + 1))))
  else
    some (.inr (.inl ())))
def s_l02First (a0 : List Int) : Option Int :=
  (loop (s_l02First_L0 a0) BIG 0).bind fun x2 =>
  (match x2 with
  | .inl y4 =>
    some (-1)
  | .inr t => some t)

def i_lead_L0 (a0 : List Int) (s2 : Int) : Option (Int ⊕ Int) :=
  ((if s2 < (a0.length : Int) then
    (idx a0 s2).bind fun v6 =>
    some (ieq v6 0)
  else
    some false) : Option Bool).bind fun x7 =>
  (if x7 = true then
    some (.inl (w64 (s2 + 1)))
  else
    some (.inr s2))
def i_lead (a0 : List Int) : Option Int :=
  (loop (i_lead_L0 a0) BIG 0).bind fun x2 =>
  some x2

def s_l02Kernel_L0 (v1 : List (List Int)) (s4 : (List Int) × Int) : Option (((List Int) × Int) ⊕ (List Int)) :=
  (if s4.2 < (v1.length : Int) then
    (idx v1 s4.2).bind fun v9 =>
    (s_l02First v9).bind fun v10 =>
    (chk (s4.1.length + [v10].length ≤ 1099511627776)).bind fun _ =>
    some (.inl (s4.1 ++ [v10], w64 (s4.2 + 1)))
  else
    some (.inr s4.1))
def s_l02Kernel_L2 (a0 : Int) (v1 : List (List Int)) (x4 : List Int) (s13 : (List (List Int)) × Int) (s27 : (List Int) × Int) : Option (((List Int) × Int) ⊕ (List Int)) :=
  (if s27.2 < (v1.length : Int) then
    (idx x4 s27.2).bind fun v32 =>
    (idx v1 s27.2).bind fun v33 =>
    (idx v33 s13.2).bind fun v34 =>
    (chk (¬ a0 = 0)).bind fun _ =>
    (idx s27.1 v32).bind fun v36 =>
    some (.inl (s27.1.set v32.toNat ((w64 (a0 - v34)).tmod a0), w64 (s27.2 + 1)))
  else
    some (.inr s27.1))
def s_l02Kernel_L1 (a0 : Int) (v1 : List (List Int)) (v2 : List Int) (x4 : List Int) (s13 : (List (List Int)) × Int) : Option (((List (List Int)) × Int) ⊕ (List (List Int))) :=
  (if s13.2 < (v2.length : Int) then
    ((s_l01Has x4 s13.2).bind fun v21 =>
    (if v21 = true then
      some s13.1
    else
      (chk (0 ≤ (v2.length : Int) ∧ (v2.length : Int) ≤ 1099511627776)).bind fun _ =>
      (some (List.replicate (v2.length : Int).toNat 0)).bind fun l24 =>
      (idx l24 s13.2).bind fun v25 =>
      (loop (s_l02Kernel_L2 a0 v1 x4 s13) BIG (l24.set s13.2.toNat 1, 0)).bind fun x27 =>
      (chk (s13.1.length + [x27].length ≤ 1099511627776)).bind fun _ =>
      some (s13.1 ++ [x27])) : Option (List (List Int))).bind fun x18 =>
    some (.inl (x18, w64 (s13.2 + 1)))
  else
    some (.inr s13.1))
def s_l02Kernel (a0 : Int) (a1 : List (List Int)) : Option (List (List Int)) :=
  (s_l02Basis a0 a1).bind fun v1 =>
  (idx a1 0).bind fun v2 =>
  (loop (s_l02Kernel_L0 v1) BIG ([], 0)).bind fun x4 =>
  (loop (s_l02Kernel_L1 a0 v1 v2 x4) BIG ([], 0)).bind fun x13 =>
  (s_l02Basis a0 x13).bind fun v38 =>
  (s_l01Own2 v38).bind fun v39 =>
  some v39

def s_KernelBasis (a0 : Int) (a1 : List (List Int)) : Option ((List (List Int)) × Int) :=
  (s_l02Is a0 a1).bind fun v2 =>
  (if v2 = false then
    some (([] : List (List Int)), 1)
  else
    (s_l02Kernel a0 a1).bind fun v4 =>
    some (v4, 0))

end Go.Vam
