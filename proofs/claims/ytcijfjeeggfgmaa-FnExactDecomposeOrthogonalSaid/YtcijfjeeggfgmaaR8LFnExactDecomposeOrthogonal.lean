/- The law FnExactDecomposeOrthogonal, lifted: the program and the reference answer alike. No condition. -/
import Derived.Test.YtcijfjeeggfgmaaVamO
import Derived.Test.YtcijfjeeggfgmaaVamT
import Derived.Test.YtcijfjeeggfgmaaVamU
import Derived.Test.YtcijfjeeggfgmaaR8DW3
import Derived.Test.YtcijfjeeggfgmaaPlG1
import Derived.Test.YtcijfjeeggfgmaaR8J
import Derived.Test.YtcijfjeeggfgmaaRows
namespace Go.Proofs.Ytcijfjeeggfgmaa
open Go.ChangeShapes Go.WideShapes Go.ChangeAt Go.RowKit Go.Vam

set_option maxRecDepth 100000 in
theorem FnExactDecomposeOrthogonal_lifted (os : Os) (started : os.Started) (H : Type) (enc : TypeId × Value → H) :
    ReturnsInHanded {} Try.checked os 3 .any (Rows.fnExactDecomposeOrthogonalSpec.pre6 enc Try.prog Try.f3 Rows.fnExactDecomposeOrthogonalRow.domain false) (Rows.fnExactDecomposeOrthogonalSpec.post enc Try.prog Try.f3 false true false false) := by
  refine returnsInHanded_of_change (C := Try.checked) Try.own started (by kernel_rfl) Try.func3
    (ChangeSpec.witness6 (enc := enc) (C := Try.checked) false ⟨#[], #[.agg #[.int .i64 0, .slice none 0 0], .slice none 0 0], []⟩ 8 (by kernel_rfl) (by kernel_rfl) (by kernel_rfl) (by kernel_rfl)) ?_
  intro W base args ds gs before hval0 hW hcnd _
  have hval : ∀ (j : Nat) t v, Try.f3.params[j]? = some t → args[j]? = some v → Value.okWide Try.prog W .any base t v := hval0
  have hW' := hW
  obtain ⟨p, q, hA0, hV, rfl, hfz, hnd⟩ := hW
  have hA : DataW.TrodAll enc Try.prog W 0 (fun _ => true) true Try.f3.params.toList args.toList ds p := hA0
  rw [Try.params3] at hA hval
  obtain ⟨v0, v1, d0, d1, p0, p1, rfl, rfl, rfl, h0, h1⟩ := trodAll_two hA
  obtain ⟨rfl, rfl⟩ := trodVars_none hV
  obtain ⟨x0, y0, r0, fit0⟩ := arg_st Try.underlying24 rfl rfl Try.underlying2 Try.underlying22 Try.underlying2 (by kernel_rfl) (by kernel_rfl) (by kernel_rfl) (by kernel_rfl) (hval 0 24 v0 rfl rfl) h0
  obtain ⟨x1, r1, fit1⟩ := arg_rows Try.underlying25 Try.underlying22 Try.underlying2 (by kernel_rfl) (by kernel_rfl) (hval 1 25 v1 rfl rfl) h1
  refine (VCall.law (l_FnExactDecomposeOrthogonal_ok (a0_0 := x0) (a0_1 := y0) (a1 := x1) (r := true) ((LawDecompose fit0.2.1 ⟨fit1.1, fun r h => (fit1.2 r h).1⟩))) (W := W) (vs := #[v0, v1]) (by simp) ?_).mono ?_
  · intro i hi
    match i, hi with
    | 0, _ => exact ⟨v0, rfl, r0⟩
    | 1, _ => exact ⟨v1, rfl, r1⟩
  · rintro e W' ⟨rfl, hB⟩
    exact ⟨_, rfl, law_post Try.laidOut rfl rfl Try.underlying4 (by kernel_rfl) hW' rfl hB⟩

set_option maxRecDepth 100000 in
set_option maxHeartbeats 4000000 in
theorem FnExactDecomposeOrthogonal_closed : joinedFacts Try.checked.prog 3 Try.f3 Rows.fnExactDecomposeOrthogonalSpec Rows.fnExactDecomposeOrthogonalRow = true := by
  unfold joinedFacts
  refine jf_and (jf_and (jf_and (jf_and (jf_and (jf_and (jf_and (jf_and (jf_and (jf_and (jf_and (jf_and (jf_and (jf_and (jf_and (jf_and (jf_and (jf_and (jf_and (jf_and (jf_and (jf_and (jf_and (jf_and (jf_and (jf_and (jf_and (jf_and (jf_and (jf_and (jf_and ?_ Try.jlaid) ?_) ?_) ?_) ?_) ?_) ?_) ?_) ?_) ?_) ?_) ?_) ?_) ?_) ?_) ?_) ?_) ?_) ?_) ?_) ?_) ?_) ?_) Try.jheard) Try.jenter) (by rw [Try.jlift]; kernel_rfl)) ?_) ?_) ?_) ?_) ?_
  all_goals as_aux_lemma => kernel_rfl

/-- The law FnExactDecomposeOrthogonal holds. -/
theorem FnExactDecomposeOrthogonal_holds : Rows.FnExactDecomposeOrthogonalSaid :=
  OpenClaim.holds_of_wide 3 Try.f3 rfl rfl rfl rfl rfl rfl rfl ⟨rfl, rfl, rfl, rfl, rfl⟩ rfl rfl rfl rfl rfl (by kernel_rfl) Try.func3 FnExactDecomposeOrthogonal_closed
    (of_decide_eq_true (by kernel_rfl)) (by unfold Func.isWrapper; rw [if_neg (of_decide_eq_false (by kernel_rfl))]; exact ⟨rfl, rfl⟩)
    (fun os started H enc _ => FnExactDecomposeOrthogonal_lifted os started H enc)
end Go.Proofs.Ytcijfjeeggfgmaa
