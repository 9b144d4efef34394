/- The law FnExactTimesTriple, lifted: the program and the reference answer alike. No condition. -/
import Derived.Test.YtjkknabmfdodeaaVamO
import Derived.Test.YtjkknabmfdodeaaVamT
import Derived.Test.YtjkknabmfdodeaaVamU
import Derived.Test.YtjkknabmfdodeaaVamAB
import Derived.Test.YtjkknabmfdodeaaR4WW2
import Derived.Test.YtjkknabmfdodeaaPlG1
import Derived.Test.YtjkknabmfdodeaaR4J
import Derived.Test.YtjkknabmfdodeaaRows
namespace Go.Proofs.Ytjkknabmfdodeaa
open Go.ChangeShapes Go.WideShapes Go.ChangeAt Go.RowKit Go.Vam

set_option maxRecDepth 100000 in
theorem FnExactTimesTriple_lifted (os : Os) (started : os.Started) (H : Type) (enc : TypeId × Value → H) :
    ReturnsInHanded {} Try.checked os 4 .any (Rows.fnExactTimesTripleSpec.pre6 enc Try.prog Try.f4 Rows.fnExactTimesTripleRow.domain false) (Rows.fnExactTimesTripleSpec.post enc Try.prog Try.f4 false true false false) := by
  refine returnsInHanded_of_change (C := Try.checked) Try.own started (by kernel_rfl) Try.func4
    (ChangeSpec.witness6 (enc := enc) (C := Try.checked) false ⟨#[], #[.agg #[.int .i64 0, .slice none 0 0], .agg #[.slice none 0 0, .slice none 0 0, .slice none 0 0], .agg #[.slice none 0 0, .slice none 0 0, .slice none 0 0]], []⟩ 8 (by kernel_rfl) (by kernel_rfl) (by kernel_rfl) (by kernel_rfl)) ?_
  intro W base args ds gs before hval0 hW hcnd _
  have hval : ∀ (j : Nat) t v, Try.f4.params[j]? = some t → args[j]? = some v → Value.okWide Try.prog W .any base t v := hval0
  have hW' := hW
  obtain ⟨p, q, hA0, hV, rfl, hfz, hnd⟩ := hW
  have hA : DataW.TrodAll enc Try.prog W 0 (fun _ => true) true Try.f4.params.toList args.toList ds p := hA0
  rw [Try.params4] at hA hval
  obtain ⟨v0, v1, v2, d0, d1, d2, p0, p1, p2, rfl, rfl, rfl, h0, h1, h2⟩ := trodAll_three hA
  obtain ⟨rfl, rfl⟩ := trodVars_none hV
  obtain ⟨x0, y0, r0, fit0⟩ := arg_st Try.underlying24 rfl rfl Try.underlying2 Try.underlying22 Try.underlying2 (by kernel_rfl) (by kernel_rfl) (by kernel_rfl) (by kernel_rfl) (hval 0 24 v0 rfl rfl) h0
  obtain ⟨x1a, x1b, x1c, r1, fit1⟩ := arg_tr Try.underlying37 rfl rfl rfl Try.underlying25 Try.underlying25 Try.underlying25 Try.underlying22 Try.underlying2 (by kernel_rfl) (by kernel_rfl) (by kernel_rfl) (by kernel_rfl) (by kernel_rfl) (by kernel_rfl) (hval 1 37 v1 rfl rfl) h1
  obtain ⟨x2a, x2b, x2c, r2, fit2⟩ := arg_tr Try.underlying37 rfl rfl rfl Try.underlying25 Try.underlying25 Try.underlying25 Try.underlying22 Try.underlying2 (by kernel_rfl) (by kernel_rfl) (by kernel_rfl) (by kernel_rfl) (by kernel_rfl) (by kernel_rfl) (hval 2 37 v2 rfl rfl) h2
  refine (VCall.law (l_FnExactTimesTriple_ok (a0_0 := x0) (a0_1 := y0) (a1_0 := x1a) (a1_1 := x1b) (a1_2 := x1c) (a2_0 := x2a) (a2_1 := x2b) (a2_2 := x2c) (r := true) ((LawTimesTriple fit0.2.1 ⟨fit1.1.1, fun r h => (fit1.1.2 r h).1⟩ ⟨fit1.2.1.1, fun r h => (fit1.2.1.2 r h).1⟩ ⟨fit1.2.2.1, fun r h => (fit1.2.2.2 r h).1⟩ ⟨fit2.1.1, fun r h => (fit2.1.2 r h).1⟩ ⟨fit2.2.1.1, fun r h => (fit2.2.1.2 r h).1⟩ ⟨fit2.2.2.1, fun r h => (fit2.2.2.2 r h).1⟩))) (W := W) (vs := #[v0, v1, v2]) (by simp) ?_).mono ?_
  · intro i hi
    match i, hi with
    | 0, _ => exact ⟨v0, rfl, r0⟩
    | 1, _ => exact ⟨v1, rfl, r1⟩
    | 2, _ => exact ⟨v2, rfl, r2⟩
  · rintro e W' ⟨rfl, hB⟩
    exact ⟨_, rfl, law_post Try.laidOut rfl rfl Try.underlying4 (by kernel_rfl) hW' rfl hB⟩

set_option maxRecDepth 100000 in
set_option maxHeartbeats 4000000 in
theorem FnExactTimesTriple_closed : joinedFacts Try.checked.prog 4 Try.f4 Rows.fnExactTimesTripleSpec Rows.fnExactTimesTripleRow = true := by
  unfold joinedFacts
  refine jf_and (jf_and (jf_and (jf_and (jf_and (jf_and (jf_and (jf_and (jf_and (jf_and (jf_and (jf_and (jf_and (jf_and (jf_and (jf_and (jf_and (jf_and (jf_and (jf_and (jf_and (jf_and (jf_and (jf_and (jf_and (jf_and (jf_and (jf_and (jf_and (jf_and (jf_and ?_ Try.jlaid) ?_) ?_) ?_) ?_) ?_) ?_) ?_) ?_) ?_) ?_) ?_) ?_) ?_) ?_) ?_) ?_) ?_) ?_) ?_) ?_) ?_) ?_) Try.jheard) Try.jenter) (by rw [Try.jlift]; kernel_rfl)) ?_) ?_) ?_) ?_) ?_
  all_goals as_aux_lemma => kernel_rfl

/-- The law FnExactTimesTriple holds. -/
theorem FnExactTimesTriple_holds : Rows.FnExactTimesTripleSaid :=
  OpenClaim.holds_of_wide 4 Try.f4 rfl rfl rfl rfl rfl rfl rfl ⟨rfl, rfl, rfl, rfl, rfl⟩ rfl rfl rfl rfl rfl (by kernel_rfl) Try.func4 FnExactTimesTriple_closed
    (of_decide_eq_true (by kernel_rfl)) (by unfold Func.isWrapper; rw [if_neg (of_decide_eq_false (by kernel_rfl))]; exact ⟨rfl, rfl⟩)
    (fun os started H enc _ => FnExactTimesTriple_lifted os started H enc)
end Go.Proofs.Ytjkknabmfdodeaa
