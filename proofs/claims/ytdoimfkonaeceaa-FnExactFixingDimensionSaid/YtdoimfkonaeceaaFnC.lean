import Derived.Test.YtdoimfkonaeceaaFnB
namespace Go.Vam
open Go Go.RowKit
set_option maxRecDepth 100000
set_option linter.unusedSimpArgs false
set_option linter.unusedVariables false

def i_Doubling_products_L1 (a0_0 : Int) (a0_1 : List Int) (s4 : (List (List Int)) × Int) (v9 : List Int) (v12 : List (List Int)) (s13 : (List Int) × Int) : Option (((List Int) × Int) ⊕ (List Int)) :=
  (if s13.2 < (v12.length : Int) then
    (idx v12 s13.2).bind fun v18 =>
    (i_Doubling_times a0_0 a0_1 v9 v18).bind fun v19 =>
    (idx v19 (bxor .i64 s4.2 s13.2)).bind fun v20 =>
    (chk (s13.1.length + [v20].length ≤ 1099511627776)).bind fun _ =>
    some (.inl (s13.1 ++ [v20], w64 (s13.2 + 1)))
  else
    some (.inr s13.1))
def i_Doubling_products_L0 (a0_0 : Int) (a0_1 : List Int) (v3 : List (List Int)) (s4 : (List (List Int)) × Int) : Option (((List (List Int)) × Int) ⊕ (List (List Int))) :=
  (if s4.2 < (v3.length : Int) then
    (idx v3 s4.2).bind fun v9 =>
    (i_Doubling_size a0_0 a0_1).bind fun v11 =>
    (i_unit v11).bind fun v12 =>
    (loop (i_Doubling_products_L1 a0_0 a0_1 s4 v9 v12) BIG ([], 0)).bind fun x13 =>
    (chk (s4.1.length + [x13].length ≤ 1099511627776)).bind fun _ =>
    some (.inl (s4.1 ++ [x13], w64 (s4.2 + 1)))
  else
    some (.inr s4.1))
def i_Doubling_products (a0_0 : Int) (a0_1 : List Int) : Option (List (List Int)) :=
  (i_Doubling_size a0_0 a0_1).bind fun v2 =>
  (i_unit v2).bind fun v3 =>
  (loop (i_Doubling_products_L0 a0_0 a0_1 v3) BIG ([], 0)).bind fun x4 =>
  some x4

def s_l01Index_L0 (a0 : List Int) (a1 : Int) (s2 : Int) : Option (Int ⊕ (Unit ⊕ Int)) :=
  (if s2 < (a0.length : Int) then
    (idx a0 s2).bind fun v8 =>
    (if v8 = a1 then
      some (.inr (.inr s2))
    else
      some (.inl (w64 (s2 + 1))))
  else
    some (.inr (.inl ())))
def s_l01Index (a0 : List Int) (a1 : Int) : Option Int :=
  (loop (s_l01Index_L0 a0 a1) BIG 0).bind fun x2 =>
  (match x2 with
  | .inl y4 =>
    some (-1)
  | .inr t => some t)

def s_l01Has (a0 : List Int) (a1 : Int) : Option Bool :=
  (s_l01Index a0 a1).bind fun v1 =>
  some (ile 0 v1)

def s_l12Kernel_L0 (v1 : List (List Int)) (s3 : (List Int) × Int) : Option (((List Int) × Int) ⊕ (List Int)) :=
  (if s3.2 < (v1.length : Int) then
    (idx v1 s3.2).bind fun v8 =>
    (s_l12First v8).bind fun v9 =>
    (chk (s3.1.length + [v9].length ≤ 1099511627776)).bind fun _ =>
    some (.inl (s3.1 ++ [v9], w64 (s3.2 + 1)))
  else
    some (.inr s3.1))
def s_l12Kernel_L2 (a0 : Int) (v1 : List (List Int)) (x3 : List Int) (s12 : (List (List Int)) × Int) (s26 : (List Int) × Int) : Option (((List Int) × Int) ⊕ (List Int)) :=
  (if s26.2 < (v1.length : Int) then
    (idx x3 s26.2).bind fun v31 =>
    (idx v1 s26.2).bind fun v32 =>
    (idx v32 s12.2).bind fun v33 =>
    (s_l01Mod a0 (w64 (0 - v33))).bind fun v34 =>
    (idx s26.1 v31).bind fun v35 =>
    some (.inl (s26.1.set v31.toNat v34, w64 (s26.2 + 1)))
  else
    some (.inr s26.1))
def s_l12Kernel_L1 (a0 : Int) (a1 : Int) (v1 : List (List Int)) (x3 : List Int) (s12 : (List (List Int)) × Int) : Option (((List (List Int)) × Int) ⊕ (List (List Int))) :=
  (if s12.2 < a1 then
    ((s_l01Has x3 s12.2).bind fun v20 =>
    (if v20 = true then
      some s12.1
    else
      (chk (0 ≤ a1 ∧ a1 ≤ 1099511627776)).bind fun _ =>
      (some (List.replicate a1.toNat 0)).bind fun l23 =>
      (idx l23 s12.2).bind fun v24 =>
      (loop (s_l12Kernel_L2 a0 v1 x3 s12) BIG (l23.set s12.2.toNat 1, 0)).bind fun x26 =>
      (chk (s12.1.length + [x26].length ≤ 1099511627776)).bind fun _ =>
      some (s12.1 ++ [x26])) : Option (List (List Int))).bind fun x17 =>
    some (.inl (x17, w64 (s12.2 + 1)))
  else
    some (.inr s12.1))
def s_l12Kernel (a0 : Int) (a1 : Int) (a2 : List (List Int)) : Option (List (List Int)) :=
  (s_l12Reduced a0 a2).bind fun v1 =>
  (loop (s_l12Kernel_L0 v1) BIG ([], 0)).bind fun x3 =>
  (loop (s_l12Kernel_L1 a0 a1 v1 x3) BIG ([], 0)).bind fun x12 =>
  (s_l12Reduced a0 x12).bind fun v37 =>
  some v37

def s_l02First_L0 (a0 : List Int) (s2 : Int) : Option (Int ⊕ (Unit ⊕ Int)) :=
  (if s2 < (a0.length : Int) then
    (idx a0 s2).bind fun v8 =>
    (if ¬ v8 = 0 then
      some (.inr (.inr s2))
    else
      some (.inl (w64 (s2 + 1))))
  else
    some (.inr (.inl ())))
def s_l02First (a0 : List Int) : Option Int :=
  (loop (s_l02First_L0 a0) BIG 0).bind fun x2 =>
  (match x2 with
  | .inl y4 =>
    some (-1)
  | .inr t => some t)

def i_lead_L0 (a0 : List Int) (s2 : Int) : Option (Int ⊕ Int) :=
  ((if s2 < (a0.length : Int) then
    (idx a0 s2).bind fun v6 =>
    some (ieq v6 0)
  else
    some false) : Option Bool).bind fun x7 =>
  (if x7 = true then
    some (.inl (w64 (s2 + 1)))
  else
    some (.inr s2))
def i_lead (a0 : List Int) : Option Int :=
  (loop (i_lead_L0 a0) BIG 0).bind fun x2 =>
  some x2

end Go.Vam
