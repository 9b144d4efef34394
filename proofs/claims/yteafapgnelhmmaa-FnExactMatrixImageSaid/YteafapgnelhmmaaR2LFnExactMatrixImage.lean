/- The law FnExactMatrixImage, lifted: the program and the reference answer alike. No condition. -/
import Derived.Test.YteafapgnelhmmaaVamO
import Derived.Test.YteafapgnelhmmaaVamT
import Derived.Test.YteafapgnelhmmaaVamU
import Derived.Test.YteafapgnelhmmaaR2W14
import Derived.Test.YteafapgnelhmmaaPlX
import Derived.Test.YteafapgnelhmmaaRows
namespace Go.Proofs.Yteafapgnelhmmaa
open Go.ChangeShapes Go.WideShapes Go.ChangeAt Go.RowKit Go.Vam

theorem Try.own : ownKnob Try.prog.godebug = none := by kernel_rfl
theorem Try.laidOut : laidOutB Try.prog = true := by kernel_rfl

set_option maxRecDepth 100000 in
theorem FnExactMatrixImage_lifted (os : Os) (started : os.Started) (H : Type) (enc : TypeId × Value → H) :
    ReturnsInHanded {} Try.checked os 11 .any (Rows.fnExactMatrixImageSpec.pre6 enc Try.prog Try.f11 Rows.fnExactMatrixImageRow.domain false) (Rows.fnExactMatrixImageSpec.post enc Try.prog Try.f11 false true false false) := by
  refine returnsInHanded_of_change (C := Try.checked) Try.own started (by kernel_rfl) Try.func11
    (ChangeSpec.witness6 (enc := enc) (C := Try.checked) false ⟨#[], #[.agg #[.int .i64 0, .slice none 0 0], .slice none 0 0, .slice none 0 0], []⟩ 8 (by kernel_rfl) (by kernel_rfl) (by kernel_rfl) (by kernel_rfl)) ?_
  intro W base args ds gs before hval0 hW hcnd _
  have hval : ∀ (j : Nat) t v, Try.f11.params[j]? = some t → args[j]? = some v → Value.okWide Try.prog W .any base t v := hval0
  have hW' := hW
  obtain ⟨p, q, hA0, hV, rfl, hfz, hnd⟩ := hW
  have hA : DataW.TrodAll enc Try.prog W 0 (fun _ => true) true Try.f11.params.toList args.toList ds p := hA0
  rw [Try.params11] at hA hval
  obtain ⟨v0, v1, v2, d0, d1, d2, p0, p1, p2, rfl, rfl, rfl, h0, h1, h2⟩ := trodAll_three hA
  obtain ⟨rfl, rfl⟩ := trodVars_none hV
  obtain ⟨x0, y0, r0, fit0⟩ := arg_st Try.underlying24 rfl rfl Try.underlying2 Try.underlying22 Try.underlying2 (by kernel_rfl) (by kernel_rfl) (by kernel_rfl) (by kernel_rfl) (hval 0 24 v0 rfl rfl) h0
  obtain ⟨x1, r1, fit1⟩ := arg_rows Try.underlying25 Try.underlying22 Try.underlying2 (by kernel_rfl) (by kernel_rfl) (hval 1 25 v1 rfl rfl) h1
  obtain ⟨x2, r2, fit2⟩ := arg_ints Try.underlying22 Try.underlying2 (by kernel_rfl) (hval 2 22 v2 rfl rfl) h2
  refine (VCall.law (l_FnExactMatrixImage_ok (a0_0 := x0) (a0_1 := y0) (a1 := x1) (a2 := x2) (r := true) (LawMatrixImage fit0.2.1 ⟨fit1.1, fun r h => (fit1.2 r h).1⟩ fit2.1)) (W := W) (vs := #[v0, v1, v2]) (by simp) ?_).mono ?_
  · intro i hi
    match i, hi with
    | 0, _ => exact ⟨v0, rfl, r0⟩
    | 1, _ => exact ⟨v1, rfl, r1⟩
    | 2, _ => exact ⟨v2, rfl, r2⟩
  · rintro e W' ⟨rfl, hB⟩
    exact ⟨_, rfl, law_post Try.laidOut rfl rfl Try.underlying4 (by kernel_rfl) hW' rfl hB⟩

/-- The law FnExactMatrixImage holds. -/
theorem FnExactMatrixImage_holds : Rows.FnExactMatrixImageSaid :=
  OpenClaim.holds_of_wide 11 Try.f11 rfl rfl rfl rfl rfl rfl rfl ⟨rfl, rfl, rfl, rfl, rfl⟩ rfl rfl rfl rfl rfl (by kernel_rfl) Try.func11 (by kernel_rfl)
    (of_decide_eq_true (by kernel_rfl)) (by unfold Func.isWrapper; rw [if_neg (of_decide_eq_false (by kernel_rfl))]; exact ⟨rfl, rfl⟩)
    (fun os started H enc _ => FnExactMatrixImage_lifted os started H enc)
end Go.Proofs.Yteafapgnelhmmaa
