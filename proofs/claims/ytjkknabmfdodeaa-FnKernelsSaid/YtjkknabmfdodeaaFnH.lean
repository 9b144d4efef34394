import Derived.Test.YtjkknabmfdodeaaFnG
import Derived.Test.YtjkknabmfdodeaaVamY
namespace Go.Vam
open Go Go.RowKit
set_option maxRecDepth 100000
set_option linter.unusedSimpArgs false
set_option linter.unusedVariables false

def s_l02List (a0 : Int) (a1 : List (List Int)) : Option Bool :=
  ((s_l01Prime a0).bind fun v1 =>
  (if v1 = true then
    (if (a1.length : Int) = 0 then
      some true
    else
      (s_l02Is a0 a1).bind fun v4 =>
      some v4)
  else
    some false) : Option Bool).bind fun x5 =>
  some x5

def s_SpanBasis (a0 : Int) (a1 : List (List Int)) : Option ((List (List Int)) × Int) :=
  (s_l02List a0 a1).bind fun v2 =>
  (if v2 = false then
    some (([] : List (List Int)), 1)
  else
    (s_l02Basis a0 a1).bind fun v4 =>
    (s_l01Own2 v4).bind fun v5 =>
    some (v5, 0))

def l_zero5_L0 (a0 : List Int) (s2 : Int) : Option (Int ⊕ (Unit ⊕ Bool)) :=
  (if s2 < (a0.length : Int) then
    (idx a0 s2).bind fun v8 =>
    (if ¬ v8 = 0 then
      some (.inr (.inr false))
    else
      some (.inl (w64 (s2 + 1))))
  else
    some (.inr (.inl ())))
def l_zero5 (a0 : List Int) : Option Bool :=
  (loop (l_zero5_L0 a0) BIG 0).bind fun x2 =>
  (match x2 with
  | .inl y4 =>
    some true
  | .inr t => some t)

def l_FnKernels_L0 (v4 : Int × (List (List Int))) (v5 : (List (List Int)) × Int) (s28 : Int) : Option (Int ⊕ (Unit ⊕ Bool)) :=
  (if s28 < (v5.1.length : Int) then
    (idx v5.1 s28).bind fun v34 =>
    (i_ApplyMatrix v4.1 v4.2 v34).bind fun v35 =>
    ((if ¬ v35.2 = 0 then
      some true
    else
      (if ¬ (v35.1.length : Int) = (v4.2.length : Int) then
        some true
      else
        (l_zero5 v35.1).bind fun v38 =>
        some (!v38))) : Option Bool).bind fun x39 =>
    (if x39 = true then
      some (.inr (.inr false))
    else
      some (.inl (w64 (s28 + 1))))
  else
    some (.inr (.inl ())))
def l_FnKernels_L1 (v4 : Int × (List (List Int))) (s42 : Int) : Option (Int ⊕ (Unit ⊕ Bool)) :=
  (if s42 < (v4.2.length : Int) then
    (idx v4.2 s42).bind fun v48 =>
    (i_InSpan v4.1 v4.2 v48).bind fun v49 =>
    ((if ¬ v49.2 = 0 then
      some true
    else
      some (!v49.1)) : Option Bool).bind fun x51 =>
    (if x51 = true then
      some (.inr (.inr false))
    else
      some (.inl (w64 (s42 + 1))))
  else
    some (.inr (.inl ())))
def l_FnKernels (a0 : List Int) : Option Bool :=
  (l_big a0).bind fun v2 =>
  (if v2 = true then
    some true
  else
    (s_DrawKernelBasis a0).bind fun v4 =>
    (i_KernelBasis v4.1 v4.2).bind fun v5 =>
    (s_KernelBasis v4.1 v4.2).bind fun v6 =>
    ((if ¬ v5.2 = v6.2 then
      some true
    else
      (l_likeRows5 v5.1 v6.1).bind fun v9 =>
      some (!v9)) : Option Bool).bind fun x10 =>
    (if x10 = true then
      some false
    else
      (if ¬ v5.2 = 0 then
        some true
      else
        (i_RankOf v4.1 v4.2).bind fun v14 =>
        (i_SpanBasis v4.1 v4.2).bind fun v15 =>
        (s_SpanBasis v4.1 v4.2).bind fun v16 =>
        ((if ¬ v14.2 = 0 then
          some true
        else
          (if ¬ v15.2 = 0 then
            some true
          else
            (if ¬ v16.2 = 0 then
              some true
            else
              (l_likeRows5 v15.1 v16.1).bind fun v21 =>
              (if v21 = false then
                some true
              else
                (if ¬ v14.1 = (v15.1.length : Int) then
                  some true
                else
                  (idx v4.2 0).bind fun v24 =>
                  some (!(ieq (w64 (v14.1 + (v5.1.length : Int))) (v24.length : Int)))))))) : Option Bool).bind fun x25 =>
        (if x25 = true then
          some false
        else
          (loop (l_FnKernels_L0 v4 v5) BIG 0).bind fun x28 =>
          (match x28 with
          | .inl y30 =>
            (loop (l_FnKernels_L1 v4) BIG 0).bind fun x42 =>
            (match x42 with
            | .inl y44 =>
              some true
            | .inr t => some t)
          | .inr t => some t)))))

end Go.Vam
