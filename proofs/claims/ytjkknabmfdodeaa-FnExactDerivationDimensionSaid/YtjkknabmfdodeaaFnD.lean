import Derived.Test.YtjkknabmfdodeaaFnC
namespace Go.Vam
open Go Go.RowKit
set_option maxRecDepth 100000
set_option linter.unusedSimpArgs false
set_option linter.unusedVariables false

def s_l14Equations_L2 (a0_0 : Int) (v1 : List (List Int)) (v2 : Int) (s4 : (List (List Int)) × Int) (s9 : (List (List Int)) × Int) (s14 : (List (List Int)) × Int) : Option (((List (List Int)) × Int) ⊕ (List (List Int))) :=
  (if s14.2 < v2 then
    (chk (0 ≤ (w64 (v2 * v2)) ∧ (w64 (v2 * v2)) ≤ 1099511627776)).bind fun _ =>
    (some (List.replicate (w64 (v2 * v2)).toNat 0)).bind fun l20 =>
    (idx l20 (w64 ((w64 (s14.2 * v2)) + (bxor .i64 s4.2 s9.2)))).bind fun v21 =>
    (idx v1 s4.2).bind fun v22 =>
    (idx v22 s9.2).bind fun v23 =>
    (s_l01Mod a0_0 (w64 (v21 + v23))).bind fun v24 =>
    (some (l20.set (w64 ((w64 (s14.2 * v2)) + (bxor .i64 s4.2 s9.2))).toNat v24)).bind fun l25 =>
    (idx l25 (w64 ((w64 ((bxor .i64 s14.2 s9.2) * v2)) + s4.2))).bind fun v26 =>
    (idx v1 (bxor .i64 s14.2 s9.2)).bind fun v27 =>
    (idx v27 s9.2).bind fun v28 =>
    (s_l01Mod a0_0 (w64 (v26 - v28))).bind fun v29 =>
    (some (l25.set (w64 ((w64 ((bxor .i64 s14.2 s9.2) * v2)) + s4.2)).toNat v29)).bind fun l30 =>
    (idx l30 (w64 ((w64 ((bxor .i64 s14.2 s4.2) * v2)) + s9.2))).bind fun v31 =>
    (idx v22 (bxor .i64 s14.2 s4.2)).bind fun v32 =>
    (s_l01Mod a0_0 (w64 (v31 - v32))).bind fun v33 =>
    (chk (s14.1.length + [l30.set (w64 ((w64 ((bxor .i64 s14.2 s4.2) * v2)) + s9.2)).toNat v33].length ≤ 1099511627776)).bind fun _ =>
    some (.inl (s14.1 ++ [l30.set (w64 ((w64 ((bxor .i64 s14.2 s4.2) * v2)) + s9.2)).toNat v33], w64 (s14.2 + 1)))
  else
    some (.inr s14.1))
def s_l14Equations_L1 (a0_0 : Int) (v1 : List (List Int)) (v2 : Int) (s4 : (List (List Int)) × Int) (s9 : (List (List Int)) × Int) : Option (((List (List Int)) × Int) ⊕ (List (List Int))) :=
  (if s9.2 < v2 then
    (loop (s_l14Equations_L2 a0_0 v1 v2 s4 s9) BIG (s9.1, 0)).bind fun x14 =>
    some (.inl (x14, w64 (s9.2 + 1)))
  else
    some (.inr s9.1))
def s_l14Equations_L0 (a0_0 : Int) (v1 : List (List Int)) (v2 : Int) (s4 : (List (List Int)) × Int) : Option (((List (List Int)) × Int) ⊕ (List (List Int))) :=
  (if s4.2 < v2 then
    (loop (s_l14Equations_L1 a0_0 v1 v2 s4) BIG (s4.1, 0)).bind fun x9 =>
    some (.inl (x9, w64 (s4.2 + 1)))
  else
    some (.inr s4.1))
def s_l14Equations (a0_0 : Int) (a0_1 : List Int) : Option (List (List Int)) :=
  (s_l11Basis a0_0 a0_1).bind fun v1 =>
  (s_l11Size a0_0 a0_1).bind fun v2 =>
  (loop (s_l14Equations_L0 a0_0 v1 v2) BIG ([], 0)).bind fun x4 =>
  some x4

def s_l14Basis (a0_0 : Int) (a0_1 : List Int) : Option (List (List Int)) :=
  (s_l11Size a0_0 a0_1).bind fun v1 =>
  (s_l14Equations a0_0 a0_1).bind fun v2 =>
  (s_l12Kernel a0_0 (w64 (v1 * v1)) v2).bind fun v3 =>
  some v3

def s_DerivationDimension (a0_0 : Int) (a0_1 : List Int) : Option (Int × Int) :=
  (s_l14Code a0_0 a0_1).bind fun v2 =>
  (if ¬ v2 = 0 then
    some (0, v2)
  else
    (s_l14Basis a0_0 a0_1).bind fun v4 =>
    some ((v4.length : Int), 0))

end Go.Vam
