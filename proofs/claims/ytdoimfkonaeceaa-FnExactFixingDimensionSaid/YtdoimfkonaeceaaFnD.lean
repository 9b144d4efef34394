import Derived.Test.YtdoimfkonaeceaaFnC
namespace Go.Vam
open Go Go.RowKit
set_option maxRecDepth 100000
set_option linter.unusedSimpArgs false
set_option linter.unusedVariables false

def s_l14Equations_L2 (a0_0 : Int) (v1 : List (List Int)) (v2 : Int) (s4 : (List (List Int)) × Int) (s9 : (List (List Int)) × Int) (s14 : (List (List Int)) × Int) : Option (((List (List Int)) × Int) ⊕ (List (List Int))) :=
  (if s14.2 < v2 then
    (chk (0 ≤ (w64 (v2 * v2)) ∧ (w64 (v2 * v2)) ≤ 1099511627776)).bind fun _ =>
    (some (List.replicate (w64 (v2 * v2)).toNat 0)).bind fun l20 =>
    (idx l20 (w64 ((w64 (s14.2 * v2)) + (bxor .i64 s4.2 s9.2)))).bind fun v21 =>
    (idx v1 s4.2).bind fun v22 =>
    (idx v22 s9.2).bind fun v23 =>
    (s_l01Mod a0_0 (w64 (v21 + v23))).bind fun v24 =>
    (some (l20.set (w64 ((w64 (s14.2 * v2)) + (bxor .i64 s4.2 s9.2))).toNat v24)).bind fun l25 =>
    (idx l25 (w64 ((w64 ((bxor .i64 s14.2 s9.2) * v2)) + s4.2))).bind fun v26 =>
    (idx v1 (bxor .i64 s14.2 s9.2)).bind fun v27 =>
    (idx v27 s9.2).bind fun v28 =>
    (s_l01Mod a0_0 (w64 (v26 - v28))).bind fun v29 =>
    (some (l25.set (w64 ((w64 ((bxor .i64 s14.2 s9.2) * v2)) + s4.2)).toNat v29)).bind fun l30 =>
    (idx l30 (w64 ((w64 ((bxor .i64 s14.2 s4.2) * v2)) + s9.2))).bind fun v31 =>
    (idx v22 (bxor .i64 s14.2 s4.2)).bind fun v32 =>
    (s_l01Mod a0_0 (w64 (v31 - v32))).bind fun v33 =>
    (chk (s14.1.length + [l30.set (w64 ((w64 ((bxor .i64 s14.2 s4.2) * v2)) + s9.2)).toNat v33].length ≤ 1099511627776)).bind fun _ =>
    some (.inl (s14.1 ++ [l30.set (w64 ((w64 ((bxor .i64 s14.2 s4.2) * v2)) + s9.2)).toNat v33], w64 (s14.2 + 1)))
  else
    some (.inr s14.1))
def s_l14Equations_L1 (a0_0 : Int) (v1 : List (List Int)) (v2 : Int) (s4 : (List (List Int)) × Int) (s9 : (List (List Int)) × Int) : Option (((List (List Int)) × Int) ⊕ (List (List Int))) :=
  (if s9.2 < v2 then
    (loop (s_l14Equations_L2 a0_0 v1 v2 s4 s9) BIG (s9.1, 0)).bind fun x14 =>
    some (.inl (x14, w64 (s9.2 + 1)))
  else
    some (.inr s9.1))
def s_l14Equations_L0 (a0_0 : Int) (v1 : List (List Int)) (v2 : Int) (s4 : (List (List Int)) × Int) : Option (((List (List Int)) × Int) ⊕ (List (List Int))) :=
  (if s4.2 < v2 then
    (loop (s_l14Equations_L1 a0_0 v1 v2 s4) BIG (s4.1, 0)).bind fun x9 =>
    some (.inl (x9, w64 (s4.2 + 1)))
  else
    some (.inr s4.1))
def s_l14Equations (a0_0 : Int) (a0_1 : List Int) : Option (List (List Int)) :=
  (s_l11Basis a0_0 a0_1).bind fun v1 =>
  (s_l11Size a0_0 a0_1).bind fun v2 =>
  (loop (s_l14Equations_L0 a0_0 v1 v2) BIG ([], 0)).bind fun x4 =>
  some x4

def s_l14Basis (a0_0 : Int) (a0_1 : List Int) : Option (List (List Int)) :=
  (s_l11Size a0_0 a0_1).bind fun v1 =>
  (s_l14Equations a0_0 a0_1).bind fun v2 =>
  (s_l12Kernel a0_0 (w64 (v1 * v1)) v2).bind fun v3 =>
  some v3

def s_FixingDimension_L1 (a1 : List Int) (v4 : Int) (s7 : (List (List Int)) × Int) (s14 : (List Int) × Int) : Option (((List Int) × Int) ⊕ (List Int)) :=
  (if s14.2 < v4 then
    (idx a1 s14.2).bind fun v19 =>
    (idx s14.1 (w64 ((w64 (s7.2 * v4)) + s14.2))).bind fun v20 =>
    some (.inl (s14.1.set (w64 ((w64 (s7.2 * v4)) + s14.2)).toNat v19, w64 (s14.2 + 1)))
  else
    some (.inr s14.1))
def s_FixingDimension_L0 (a1 : List Int) (v4 : Int) (s7 : (List (List Int)) × Int) : Option (((List (List Int)) × Int) ⊕ (List (List Int))) :=
  (if s7.2 < v4 then
    (chk (0 ≤ (w64 (v4 * v4)) ∧ (w64 (v4 * v4)) ≤ 1099511627776)).bind fun _ =>
    (loop (s_FixingDimension_L1 a1 v4 s7) BIG (List.replicate (w64 (v4 * v4)).toNat 0, 0)).bind fun x14 =>
    (chk (s7.1.length + [x14].length ≤ 1099511627776)).bind fun _ =>
    some (.inl (s7.1 ++ [x14], w64 (s7.2 + 1)))
  else
    some (.inr s7.1))
def s_FixingDimension (a0_0 : Int) (a0_1 : List Int) (a1 : List Int) : Option (Int × Int) :=
  (s_l14Elements a0_0 a0_1 [a1]).bind fun v2 =>
  (if ¬ v2 = 0 then
    some (0, v2)
  else
    (s_l11Size a0_0 a0_1).bind fun v4 =>
    (s_l14Equations a0_0 a0_1).bind fun v5 =>
    (loop (s_FixingDimension_L0 a1 v4) BIG (v5, 0)).bind fun x7 =>
    (s_l12Kernel a0_0 (w64 (v4 * v4)) x7).bind fun v22 =>
    some ((v22.length : Int), 0))

def s_l14Cut_L0 (a0 : List Int) (a1 : Int) (s2 : (List (List Int)) × Int) : Option (((List (List Int)) × Int) ⊕ (List (List Int))) :=
  (if s2.2 < (a0.length : Int) then
    (chk (0 ≤ s2.2 ∧ s2.2 ≤ (w64 (s2.2 + a1)) ∧ (w64 (s2.2 + a1)) ≤ (a0.length : Int))).bind fun _ =>
    (s_l01Own ((a0.take (w64 (s2.2 + a1)).toNat).drop s2.2.toNat)).bind fun v8 =>
    (chk (s2.1.length + [v8].length ≤ 1099511627776)).bind fun _ =>
    some (.inl (s2.1 ++ [v8], w64 (s2.2 + a1)))
  else
    some (.inr s2.1))
def s_l14Cut (a0 : List Int) (a1 : Int) : Option (List (List Int)) :=
  (loop (s_l14Cut_L0 a0 a1) BIG ([], 0)).bind fun x2 =>
  some x2

end Go.Vam
