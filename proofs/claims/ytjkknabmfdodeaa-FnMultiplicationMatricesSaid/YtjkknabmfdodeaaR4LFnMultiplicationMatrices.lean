/- The law FnMultiplicationMatrices, lifted: the program and the reference answer alike. No condition. -/
import Derived.Test.YtjkknabmfdodeaaVamO
import Derived.Test.YtjkknabmfdodeaaVamT
import Derived.Test.YtjkknabmfdodeaaR4NW2
import Derived.Test.YtjkknabmfdodeaaPlG1
import Derived.Test.YtjkknabmfdodeaaR4J
import Derived.Test.YtjkknabmfdodeaaRows
namespace Go.Proofs.Ytjkknabmfdodeaa
open Go.ChangeShapes Go.WideShapes Go.ChangeAt Go.RowKit Go.Vam

set_option maxRecDepth 100000 in
theorem FnMultiplicationMatrices_lifted (os : Os) (started : os.Started) (H : Type) (enc : TypeId × Value → H) :
    ReturnsInHanded {} Try.checked os 12 .any (Rows.fnMultiplicationMatricesSpec.pre6 enc Try.prog Try.f12 Rows.fnMultiplicationMatricesRow.domain false) (Rows.fnMultiplicationMatricesSpec.post enc Try.prog Try.f12 false true false false) := by
  refine returnsInHanded_of_change (C := Try.checked) Try.own started (by kernel_rfl) Try.func12
    (ChangeSpec.witness6 (enc := enc) (C := Try.checked) false ⟨#[], #[.slice none 0 0], []⟩ 8 (by kernel_rfl) (by kernel_rfl) (by kernel_rfl) (by kernel_rfl)) ?_
  intro W base args ds gs before hval0 hW hcnd _
  have hval : ∀ (j : Nat) t v, Try.f12.params[j]? = some t → args[j]? = some v → Value.okWide Try.prog W .any base t v := hval0
  have hW' := hW
  obtain ⟨p, q, hA0, hV, rfl, hfz, hnd⟩ := hW
  have hA : DataW.TrodAll enc Try.prog W 0 (fun _ => true) true Try.f12.params.toList args.toList ds p := hA0
  rw [Try.params12] at hA hval
  obtain ⟨v0, d0, rfl, rfl, h0⟩ := trodAll_one hA
  obtain ⟨rfl, rfl⟩ := trodVars_none hV
  obtain ⟨x0, r0, fit0⟩ := arg_bytes Try.underlying53 Try.underlying5 (by kernel_rfl) (hval 0 53 v0 rfl rfl) h0
  refine (VCall.law (l_FnMultiplicationMatrices_ok (a0 := x0) (r := true) ((LawMultiplicationMatrices fit0.1 fit0.2))) (W := W) (vs := #[v0]) (by simp) ?_).mono ?_
  · intro i hi
    match i, hi with
    | 0, _ => exact ⟨v0, rfl, r0⟩
  · rintro e W' ⟨rfl, hB⟩
    exact ⟨_, rfl, law_post Try.laidOut rfl rfl Try.underlying4 (by kernel_rfl) hW' rfl hB⟩

set_option maxRecDepth 100000 in
set_option maxHeartbeats 4000000 in
theorem FnMultiplicationMatrices_closed : joinedFacts Try.checked.prog 12 Try.f12 Rows.fnMultiplicationMatricesSpec Rows.fnMultiplicationMatricesRow = true := by
  unfold joinedFacts
  refine jf_and (jf_and (jf_and (jf_and (jf_and (jf_and (jf_and (jf_and (jf_and (jf_and (jf_and (jf_and (jf_and (jf_and (jf_and (jf_and (jf_and (jf_and (jf_and (jf_and (jf_and (jf_and (jf_and (jf_and (jf_and (jf_and (jf_and (jf_and (jf_and (jf_and (jf_and ?_ Try.jlaid) ?_) ?_) ?_) ?_) ?_) ?_) ?_) ?_) ?_) ?_) ?_) ?_) ?_) ?_) ?_) ?_) ?_) ?_) ?_) ?_) ?_) ?_) Try.jheard) Try.jenter) (by rw [Try.jlift]; kernel_rfl)) ?_) ?_) ?_) ?_) ?_
  all_goals as_aux_lemma => kernel_rfl

/-- The law FnMultiplicationMatrices holds. -/
theorem FnMultiplicationMatrices_holds : Rows.FnMultiplicationMatricesSaid :=
  OpenClaim.holds_of_wide 12 Try.f12 rfl rfl rfl rfl rfl rfl rfl ⟨rfl, rfl, rfl, rfl, rfl⟩ rfl rfl rfl rfl rfl (by kernel_rfl) Try.func12 FnMultiplicationMatrices_closed
    (of_decide_eq_true (by kernel_rfl)) (by unfold Func.isWrapper; rw [if_neg (of_decide_eq_false (by kernel_rfl))]; exact ⟨rfl, rfl⟩)
    (fun os started H enc _ => FnMultiplicationMatrices_lifted os started H enc)
end Go.Proofs.Ytjkknabmfdodeaa
