/- The law FnOrthogonalGroups, lifted: the program and the reference answer alike. No condition. -/
import Derived.Test.YtalfgfpgenlokaaVamO
import Derived.Test.YtalfgfpgenlokaaVamT
import Derived.Test.YtalfgfpgenlokaaR10AW3
import Derived.Test.YtalfgfpgenlokaaPlG2
import Derived.Test.YtalfgfpgenlokaaR10J
import Derived.Test.YtalfgfpgenlokaaRows
namespace Go.Proofs.Ytalfgfpgenlokaa
open Go.ChangeShapes Go.WideShapes Go.ChangeAt Go.RowKit Go.Vam

set_option maxRecDepth 100000 in
theorem FnOrthogonalGroups_lifted (os : Os) (started : os.Started) (H : Type) (enc : TypeId × Value → H) :
    ReturnsInHanded {} Try.checked os 3 .any (Rows.fnOrthogonalGroupsSpec.pre6 enc Try.prog Try.f3 Rows.fnOrthogonalGroupsRow.domain false) (Rows.fnOrthogonalGroupsSpec.post enc Try.prog Try.f3 false true false false) := by
  refine returnsInHanded_of_change (C := Try.checked) Try.own started (by kernel_rfl) Try.func3
    (ChangeSpec.witness6 (enc := enc) (C := Try.checked) false ⟨#[], #[.slice none 0 0], []⟩ 8 (by kernel_rfl) (by kernel_rfl) (by kernel_rfl) (by kernel_rfl)) ?_
  intro W base args ds gs before hval0 hW hcnd _
  have hval : ∀ (j : Nat) t v, Try.f3.params[j]? = some t → args[j]? = some v → Value.okWide Try.prog W .any base t v := hval0
  have hW' := hW
  obtain ⟨p, q, hA0, hV, rfl, hfz, hnd⟩ := hW
  have hA : DataW.TrodAll enc Try.prog W 0 (fun _ => true) true Try.f3.params.toList args.toList ds p := hA0
  rw [Try.params3] at hA hval
  obtain ⟨v0, d0, rfl, rfl, h0⟩ := trodAll_one hA
  obtain ⟨rfl, rfl⟩ := trodVars_none hV
  obtain ⟨x0, r0, fit0⟩ := arg_bytes Try.underlying22 Try.underlying5 (by kernel_rfl) (hval 0 22 v0 rfl rfl) h0
  refine (VCall.law (l_FnOrthogonalGroups_ok (a0 := x0) (r := true) ((LawOrthogonalGroups fit0.1 fit0.2))) (W := W) (vs := #[v0]) (by simp) ?_).mono ?_
  · intro i hi
    match i, hi with
    | 0, _ => exact ⟨v0, rfl, r0⟩
  · rintro e W' ⟨rfl, hB⟩
    exact ⟨_, rfl, law_post Try.laidOut rfl rfl Try.underlying4 (by kernel_rfl) hW' rfl hB⟩

set_option maxRecDepth 100000 in
set_option maxHeartbeats 4000000 in
theorem FnOrthogonalGroups_closed : joinedFacts Try.checked.prog 3 Try.f3 Rows.fnOrthogonalGroupsSpec Rows.fnOrthogonalGroupsRow = true := by
  unfold joinedFacts
  refine jf_and (jf_and (jf_and (jf_and (jf_and (jf_and (jf_and (jf_and (jf_and (jf_and (jf_and (jf_and (jf_and (jf_and (jf_and (jf_and (jf_and (jf_and (jf_and (jf_and (jf_and (jf_and (jf_and (jf_and (jf_and (jf_and (jf_and (jf_and (jf_and (jf_and (jf_and ?_ Try.jlaid) ?_) ?_) ?_) ?_) ?_) ?_) ?_) ?_) ?_) ?_) ?_) ?_) ?_) ?_) ?_) ?_) ?_) ?_) ?_) ?_) ?_) ?_) Try.jheard) Try.jenter) (by rw [Try.jlift]; kernel_rfl)) ?_) ?_) ?_) ?_) ?_
  all_goals as_aux_lemma => kernel_rfl

/-- The law FnOrthogonalGroups holds. -/
theorem FnOrthogonalGroups_holds : Rows.FnOrthogonalGroupsSaid :=
  OpenClaim.holds_of_wide 3 Try.f3 rfl rfl rfl rfl rfl rfl rfl ⟨rfl, rfl, rfl, rfl, rfl⟩ rfl rfl rfl rfl rfl (by kernel_rfl) Try.func3 FnOrthogonalGroups_closed
    (of_decide_eq_true (by kernel_rfl)) (by unfold Func.isWrapper; rw [if_neg (of_decide_eq_false (by kernel_rfl))]; exact ⟨rfl, rfl⟩)
    (fun os started H enc _ => FnOrthogonalGroups_lifted os started H enc)
end Go.Proofs.Ytalfgfpgenlokaa
