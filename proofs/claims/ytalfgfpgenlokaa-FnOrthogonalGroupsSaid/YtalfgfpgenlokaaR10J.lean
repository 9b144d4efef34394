/- Facts of the program that no law needs anew. -/
import Derived.Test.YtalfgfpgenlokaaRows
import Derived.ProofKit
namespace Go.Proofs.Ytalfgfpgenlokaa
open Go.ChangeShapes
theorem jf_and {a b : Bool} (ha : a = true) (hb : b = true) : (a && b) = true := by rw [ha,hb]; rfl
theorem Try.own : ownKnob Try.prog.godebug = none := by kernel_rfl
theorem Try.laidOut : laidOutB Try.prog = true := by kernel_rfl
theorem Try.jheard : Try.checked.prog.stopsHeard = true := by kernel_rfl
theorem Try.jenter : Try.checked.prog.mayEnter = true := by kernel_rfl
theorem Try.jlaid : laidOutB Try.checked.prog = true := by kernel_rfl
theorem Try.jlift : Try.checked.prog.liftsFinal = Rows.fnOrthogonalGroupsRow.lifted := by kernel_rfl
end Go.Proofs.Ytalfgfpgenlokaa
