import Derived.Test.YtjkknabmfdodeaaFnC
namespace Go.Vam
open Go Go.RowKit
set_option maxRecDepth 100000
set_option linter.unusedSimpArgs false
set_option linter.unusedVariables false

def s_l11Left_L0 (a0_0 : Int) (a0_1 : List Int) (a1 : List Int) (s2 : (List (List Int)) × Int) : Option (((List (List Int)) × Int) ⊕ (List (List Int))) :=
  (s_l11Size a0_0 a0_1).bind fun v5 =>
  (if s2.2 < v5 then
    (s_l11One a0_0 a0_1 s2.2).bind fun v8 =>
    (s_l11Times a0_0 a0_1 a1 v8).bind fun v9 =>
    (chk (s2.1.length + [v9].length ≤ 1099511627776)).bind fun _ =>
    some (.inl (s2.1 ++ [v9], w64 (s2.2 + 1)))
  else
    some (.inr s2.1))
def s_l11Left (a0_0 : Int) (a0_1 : List Int) (a1 : List Int) : Option (List (List Int)) :=
  (loop (s_l11Left_L0 a0_0 a0_1 a1) BIG ([], 0)).bind fun x2 =>
  (s_l11Columns x2).bind fun v11 =>
  some v11

def s_l11Right_L0 (a0_0 : Int) (a0_1 : List Int) (a1 : List Int) (s2 : (List (List Int)) × Int) : Option (((List (List Int)) × Int) ⊕ (List (List Int))) :=
  (s_l11Size a0_0 a0_1).bind fun v5 =>
  (if s2.2 < v5 then
    (s_l11One a0_0 a0_1 s2.2).bind fun v8 =>
    (s_l11Times a0_0 a0_1 v8 a1).bind fun v9 =>
    (chk (s2.1.length + [v9].length ≤ 1099511627776)).bind fun _ =>
    some (.inl (s2.1 ++ [v9], w64 (s2.2 + 1)))
  else
    some (.inr s2.1))
def s_l11Right (a0_0 : Int) (a0_1 : List Int) (a1 : List Int) : Option (List (List Int)) :=
  (loop (s_l11Right_L0 a0_0 a0_1 a1) BIG ([], 0)).bind fun x2 =>
  (s_l11Columns x2).bind fun v11 =>
  some v11

def i_Doubling_left_L0 (a0_0 : Int) (a0_1 : List Int) (a1 : List Int) (v3 : List (List Int)) (s4 : (List (List Int)) × Int) : Option (((List (List Int)) × Int) ⊕ (List (List Int))) :=
  (if s4.2 < (v3.length : Int) then
    (idx v3 s4.2).bind fun v9 =>
    (i_Doubling_times a0_0 a0_1 a1 v9).bind fun v10 =>
    (chk (s4.1.length + [v10].length ≤ 1099511627776)).bind fun _ =>
    some (.inl (s4.1 ++ [v10], w64 (s4.2 + 1)))
  else
    some (.inr s4.1))
def i_Doubling_left (a0_0 : Int) (a0_1 : List Int) (a1 : List Int) : Option (List (List Int)) :=
  (i_Doubling_size a0_0 a0_1).bind fun v2 =>
  (i_unit v2).bind fun v3 =>
  (loop (i_Doubling_left_L0 a0_0 a0_1 a1 v3) BIG ([], 0)).bind fun x4 =>
  (i_transpose x4).bind fun v12 =>
  some v12

def i_Doubling_right_L0 (a0_0 : Int) (a0_1 : List Int) (a1 : List Int) (v3 : List (List Int)) (s4 : (List (List Int)) × Int) : Option (((List (List Int)) × Int) ⊕ (List (List Int))) :=
  (if s4.2 < (v3.length : Int) then
    (idx v3 s4.2).bind fun v9 =>
    (i_Doubling_times a0_0 a0_1 v9 a1).bind fun v10 =>
    (chk (s4.1.length + [v10].length ≤ 1099511627776)).bind fun _ =>
    some (.inl (s4.1 ++ [v10], w64 (s4.2 + 1)))
  else
    some (.inr s4.1))
def i_Doubling_right (a0_0 : Int) (a0_1 : List Int) (a1 : List Int) : Option (List (List Int)) :=
  (i_Doubling_size a0_0 a0_1).bind fun v2 =>
  (i_unit v2).bind fun v3 =>
  (loop (i_Doubling_right_L0 a0_0 a0_1 a1 v3) BIG ([], 0)).bind fun x4 =>
  (i_transpose x4).bind fun v12 =>
  some v12

end Go.Vam
