/-
  No cell of these rows narrows 'for every input' (looked for: loops, veiled, ifaces, maps, wideKeys, modest, calm, conditions, laid).
  DERIVED. THE GIVEN ROWS OF THIS SEAT. 8 by the template 'for every input the law returns true; each argument reads behind the call as it read before'; 0 by the template 'total and deterministic' (their statements: YtijmfifejmgeaaaTotals.lean).
  GIVEN WITH THE SEED: the statements are not yours to turn. If you find one false, say at which input.
  Laid BY PROGRAM, IN A SANDBOX (cutbox-rows.mjs): the forced cells as the released guide's own fill.sh prints them over the translation 40216a94274d875e… (all of the seat's roots in one cut). By AI agents, Wed Nov 11 2026. No macro, syntax, notation, axiom, sorry.
-/
import Derived.Test.YtijmfifejmgeaaaChecked
import GoSem.Claim
import GoSem.ClaimJoined
import GoSem.ClaimMapViews
import Derived.JoinedTies
import Derived.KernelRfl
namespace Go.Proofs.Ytijmfifejmgeaaa
/- THE CELL 'sum', in the pinned program and in every row, IS THE sha256 OF THE DUMP (.gsa) THAT YtijmfifejmgeaaaProg.lean LOADS. Nothing in Lean hashes anything: it is a label: what it is worth is what the hold of that sum in a sandbox is worth. -/
noncomputable def Try.pinned : Pinned := { name := "ytijmfifejmgeaaa", sum := "40216a94274d875e00dc2abc7869d3cd692c88c76add55f5ea27ddc11a54e52d", checked := Try.checked }
namespace Rows
def none {H : Type} : Left H := { results := [], args := [] }

/-- 'laws.FnExactSubloopFrom': WHATEVER THE INPUT: true; the input reads as it did. -/
def fnExactSubloopFromSpec : ChangeSpec := { name := "fnExactSubloopFrom", fn := fun _ => fun
  | [d1, d2] => { results := [.lit (.bool true)], args := [d1, d2] }
  | _ => none }
def fnExactSubloopFromRow : OpenClaim := { program := "ytijmfifejmgeaaa", sum := "40216a94274d875e00dc2abc7869d3cd692c88c76add55f5ea27ddc11a54e52d", func := "loop.example/g01124/laws.FnExactSubloopFrom", spec := "fnExactSubloopFrom", unfollowed := true, recurses := true, apart := false }
def FnExactSubloopFromSaid : Prop := fnExactSubloopFromRow.holds Try.pinned (OpenSpec.ofChange fnExactSubloopFromSpec)

/-- ITS FALSE NEIGHBOUR: 'it returns false'. Refute it at one input. -/
def fnExactSubloopFromWrong : ChangeSpec := { name := "fnExactSubloopFrom", fn := fun _ => fun
  | [d1, d2] => { results := [.lit (.bool false)], args := [d1, d2] }
  | _ => none }
def FnExactSubloopFromWrongFalsely : Prop := fnExactSubloopFromRow.holds Try.pinned (OpenSpec.ofChange fnExactSubloopFromWrong)

/-- 'laws.FnExactIsDiassociativeLoop': WHATEVER THE INPUT: true; the input reads as it did. -/
def fnExactIsDiassociativeLoopSpec : ChangeSpec := { name := "fnExactIsDiassociativeLoop", fn := fun _ => fun
  | [d] => { results := [.lit (.bool true)], args := [d] }
  | _ => none }
def fnExactIsDiassociativeLoopRow : OpenClaim := { program := "ytijmfifejmgeaaa", sum := "40216a94274d875e00dc2abc7869d3cd692c88c76add55f5ea27ddc11a54e52d", func := "loop.example/g01124/laws.FnExactIsDiassociativeLoop", spec := "fnExactIsDiassociativeLoop", unfollowed := true, recurses := true, apart := false }
def FnExactIsDiassociativeLoopSaid : Prop := fnExactIsDiassociativeLoopRow.holds Try.pinned (OpenSpec.ofChange fnExactIsDiassociativeLoopSpec)

/-- ITS FALSE NEIGHBOUR: 'it returns false'. Refute it at one input. -/
def fnExactIsDiassociativeLoopWrong : ChangeSpec := { name := "fnExactIsDiassociativeLoop", fn := fun _ => fun
  | [d] => { results := [.lit (.bool false)], args := [d] }
  | _ => none }
def FnExactIsDiassociativeLoopWrongFalsely : Prop := fnExactIsDiassociativeLoopRow.holds Try.pinned (OpenSpec.ofChange fnExactIsDiassociativeLoopWrong)

/-- 'laws.FnSignedBases': WHATEVER THE INPUT: true; the input reads as it did. -/
def fnSignedBasesSpec : ChangeSpec := { name := "fnSignedBases", fn := fun _ => fun
  | [d] => { results := [.lit (.bool true)], args := [d] }
  | _ => none }
def fnSignedBasesRow : OpenClaim := { program := "ytijmfifejmgeaaa", sum := "40216a94274d875e00dc2abc7869d3cd692c88c76add55f5ea27ddc11a54e52d", func := "loop.example/g01124/laws.FnSignedBases", spec := "fnSignedBases", unfollowed := true, recurses := true, apart := false }
def FnSignedBasesSaid : Prop := fnSignedBasesRow.holds Try.pinned (OpenSpec.ofChange fnSignedBasesSpec)

/-- ITS FALSE NEIGHBOUR: 'it returns false'. Refute it at one input. -/
def fnSignedBasesWrong : ChangeSpec := { name := "fnSignedBases", fn := fun _ => fun
  | [d] => { results := [.lit (.bool false)], args := [d] }
  | _ => none }
def FnSignedBasesWrongFalsely : Prop := fnSignedBasesRow.holds Try.pinned (OpenSpec.ofChange fnSignedBasesWrong)

/-- 'laws.FnLoops': WHATEVER THE INPUT: true; the input reads as it did. -/
def fnLoopsSpec : ChangeSpec := { name := "fnLoops", fn := fun _ => fun
  | [d] => { results := [.lit (.bool true)], args := [d] }
  | _ => none }
def fnLoopsRow : OpenClaim := { program := "ytijmfifejmgeaaa", sum := "40216a94274d875e00dc2abc7869d3cd692c88c76add55f5ea27ddc11a54e52d", func := "loop.example/g01124/laws.FnLoops", spec := "fnLoops", unfollowed := true, recurses := true, apart := false }
def FnLoopsSaid : Prop := fnLoopsRow.holds Try.pinned (OpenSpec.ofChange fnLoopsSpec)

/-- ITS FALSE NEIGHBOUR: 'it returns false'. Refute it at one input. -/
def fnLoopsWrong : ChangeSpec := { name := "fnLoops", fn := fun _ => fun
  | [d] => { results := [.lit (.bool false)], args := [d] }
  | _ => none }
def FnLoopsWrongFalsely : Prop := fnLoopsRow.holds Try.pinned (OpenSpec.ofChange fnLoopsWrong)

/-- 'laws.FnExactLocalDimension': WHATEVER THE INPUT: true; the input reads as it did. -/
def fnExactLocalDimensionSpec : ChangeSpec := { name := "fnExactLocalDimension", fn := fun _ => fun
  | [d] => { results := [.lit (.bool true)], args := [d] }
  | _ => none }
def fnExactLocalDimensionRow : OpenClaim := { program := "ytijmfifejmgeaaa", sum := "40216a94274d875e00dc2abc7869d3cd692c88c76add55f5ea27ddc11a54e52d", func := "loop.example/g01124/laws.FnExactLocalDimension", spec := "fnExactLocalDimension", unfollowed := true, recurses := true, apart := false }
def FnExactLocalDimensionSaid : Prop := fnExactLocalDimensionRow.holds Try.pinned (OpenSpec.ofChange fnExactLocalDimensionSpec)

/-- ITS FALSE NEIGHBOUR: 'it returns false'. Refute it at one input. -/
def fnExactLocalDimensionWrong : ChangeSpec := { name := "fnExactLocalDimension", fn := fun _ => fun
  | [d] => { results := [.lit (.bool false)], args := [d] }
  | _ => none }
def FnExactLocalDimensionWrongFalsely : Prop := fnExactLocalDimensionRow.holds Try.pinned (OpenSpec.ofChange fnExactLocalDimensionWrong)

/-- 'laws.FnFixingDerivations': WHATEVER THE INPUT: true; the input reads as it did. -/
def fnFixingDerivationsSpec : ChangeSpec := { name := "fnFixingDerivations", fn := fun _ => fun
  | [d] => { results := [.lit (.bool true)], args := [d] }
  | _ => none }
def fnFixingDerivationsRow : OpenClaim := { program := "ytijmfifejmgeaaa", sum := "40216a94274d875e00dc2abc7869d3cd692c88c76add55f5ea27ddc11a54e52d", func := "loop.example/g01124/laws.FnFixingDerivations", spec := "fnFixingDerivations", unfollowed := true, recurses := true, apart := false }
def FnFixingDerivationsSaid : Prop := fnFixingDerivationsRow.holds Try.pinned (OpenSpec.ofChange fnFixingDerivationsSpec)

/-- ITS FALSE NEIGHBOUR: 'it returns false'. Refute it at one input. -/
def fnFixingDerivationsWrong : ChangeSpec := { name := "fnFixingDerivations", fn := fun _ => fun
  | [d] => { results := [.lit (.bool false)], args := [d] }
  | _ => none }
def FnFixingDerivationsWrongFalsely : Prop := fnFixingDerivationsRow.holds Try.pinned (OpenSpec.ofChange fnFixingDerivationsWrong)

/-- 'laws.FnOrthogonalGroups': WHATEVER THE INPUT: true; the input reads as it did. -/
def fnOrthogonalGroupsSpec : ChangeSpec := { name := "fnOrthogonalGroups", fn := fun _ => fun
  | [d] => { results := [.lit (.bool true)], args := [d] }
  | _ => none }
def fnOrthogonalGroupsRow : OpenClaim := { program := "ytijmfifejmgeaaa", sum := "40216a94274d875e00dc2abc7869d3cd692c88c76add55f5ea27ddc11a54e52d", func := "loop.example/g01124/laws.FnOrthogonalGroups", spec := "fnOrthogonalGroups", unfollowed := true, recurses := true, apart := false }
def FnOrthogonalGroupsSaid : Prop := fnOrthogonalGroupsRow.holds Try.pinned (OpenSpec.ofChange fnOrthogonalGroupsSpec)

/-- ITS FALSE NEIGHBOUR: 'it returns false'. Refute it at one input. -/
def fnOrthogonalGroupsWrong : ChangeSpec := { name := "fnOrthogonalGroups", fn := fun _ => fun
  | [d] => { results := [.lit (.bool false)], args := [d] }
  | _ => none }
def FnOrthogonalGroupsWrongFalsely : Prop := fnOrthogonalGroupsRow.holds Try.pinned (OpenSpec.ofChange fnOrthogonalGroupsWrong)

/-- 'laws.FnIsometries': WHATEVER THE INPUT: true; the input reads as it did. -/
def fnIsometriesSpec : ChangeSpec := { name := "fnIsometries", fn := fun _ => fun
  | [d] => { results := [.lit (.bool true)], args := [d] }
  | _ => none }
def fnIsometriesRow : OpenClaim := { program := "ytijmfifejmgeaaa", sum := "40216a94274d875e00dc2abc7869d3cd692c88c76add55f5ea27ddc11a54e52d", func := "loop.example/g01124/laws.FnIsometries", spec := "fnIsometries", unfollowed := true, recurses := true, apart := false }
def FnIsometriesSaid : Prop := fnIsometriesRow.holds Try.pinned (OpenSpec.ofChange fnIsometriesSpec)

/-- ITS FALSE NEIGHBOUR: 'it returns false'. Refute it at one input. -/
def fnIsometriesWrong : ChangeSpec := { name := "fnIsometries", fn := fun _ => fun
  | [d] => { results := [.lit (.bool false)], args := [d] }
  | _ => none }
def FnIsometriesWrongFalsely : Prop := fnIsometriesRow.holds Try.pinned (OpenSpec.ofChange fnIsometriesWrong)

/- THE SECOND FORM. 'bulk': how many values and letters a reading holds, each counted each time it is reached (what is shared counts as often as it is met; a slice's spare places count too). A statement '..UptoSaid' is the law's where the arguments, and the package variables that the reading takes, are together of bulk at most 1048576: NARROWER than '..Said'. Prove '..Said' where nothing that the law and all that it calls make is longer than what came in: it says more and counts as full. Else prove '..UptoSaid'. A law counts once. -/
mutual
def uptoBulk {H : Type} : DataW H → Nat
  | .lit (.string bytes) => bytes.length + 1
  | .lit _ => 1
  | .nil => 1
  | .ptr d => uptoBulk d + 1
  | .slice elems spare => uptoBulkAll elems + uptoBulkAll spare + 1
  | .agg parts => uptoBulkAll parts + 1
  | .iface _ d => uptoBulk d + 1
  | .map entries => uptoBulkEntries entries + 1
  | .held _ => 1
def uptoBulkAll {H : Type} : List (DataW H) → Nat
  | [] => 0
  | d :: r => uptoBulk d + uptoBulkAll r
def uptoBulkEntries {H : Type} : List (Lit × DataW H) → Nat
  | [] => 0
  | x :: r => uptoBulkEntry x + uptoBulkEntries r
def uptoBulkEntry {H : Type} : Lit × DataW H → Nat
  | (.string bytes, d) => bytes.length + uptoBulk d + 1
  | (_, d) => uptoBulk d + 1
 end
def uptoSmall : (H : Type) → List (DataW H) → Bool := fun _ ds => decide (uptoBulkAll ds ≤ 1048576)
def OpenSpec.upto (s : _root_.Go.ChangeSpec) : _root_.Go.OpenSpec := { _root_.Go.OpenSpec.ofChange s with cond := some uptoSmall }

/-- 'laws.FnExactSubloopFrom', WHERE WHAT IT READS IS OF BULK AT MOST 1048576: true; the input reads as it did. -/
def fnExactSubloopFromUptoRow : OpenClaim := { program := "ytijmfifejmgeaaa", sum := "40216a94274d875e00dc2abc7869d3cd692c88c76add55f5ea27ddc11a54e52d", func := "loop.example/g01124/laws.FnExactSubloopFrom", spec := "fnExactSubloopFrom", unfollowed := true, recurses := true, apart := false, narrowed := true }
def FnExactSubloopFromUptoSaid : Prop := fnExactSubloopFromUptoRow.holds Try.pinned (OpenSpec.upto fnExactSubloopFromSpec)

/-- 'laws.FnExactIsDiassociativeLoop', WHERE WHAT IT READS IS OF BULK AT MOST 1048576: true; the input reads as it did. -/
def fnExactIsDiassociativeLoopUptoRow : OpenClaim := { program := "ytijmfifejmgeaaa", sum := "40216a94274d875e00dc2abc7869d3cd692c88c76add55f5ea27ddc11a54e52d", func := "loop.example/g01124/laws.FnExactIsDiassociativeLoop", spec := "fnExactIsDiassociativeLoop", unfollowed := true, recurses := true, apart := false, narrowed := true }
def FnExactIsDiassociativeLoopUptoSaid : Prop := fnExactIsDiassociativeLoopUptoRow.holds Try.pinned (OpenSpec.upto fnExactIsDiassociativeLoopSpec)

/-- 'laws.FnSignedBases', WHERE WHAT IT READS IS OF BULK AT MOST 1048576: true; the input reads as it did. -/
def fnSignedBasesUptoRow : OpenClaim := { program := "ytijmfifejmgeaaa", sum := "40216a94274d875e00dc2abc7869d3cd692c88c76add55f5ea27ddc11a54e52d", func := "loop.example/g01124/laws.FnSignedBases", spec := "fnSignedBases", unfollowed := true, recurses := true, apart := false, narrowed := true }
def FnSignedBasesUptoSaid : Prop := fnSignedBasesUptoRow.holds Try.pinned (OpenSpec.upto fnSignedBasesSpec)

/-- 'laws.FnLoops', WHERE WHAT IT READS IS OF BULK AT MOST 1048576: true; the input reads as it did. -/
def fnLoopsUptoRow : OpenClaim := { program := "ytijmfifejmgeaaa", sum := "40216a94274d875e00dc2abc7869d3cd692c88c76add55f5ea27ddc11a54e52d", func := "loop.example/g01124/laws.FnLoops", spec := "fnLoops", unfollowed := true, recurses := true, apart := false, narrowed := true }
def FnLoopsUptoSaid : Prop := fnLoopsUptoRow.holds Try.pinned (OpenSpec.upto fnLoopsSpec)

/-- 'laws.FnExactLocalDimension', WHERE WHAT IT READS IS OF BULK AT MOST 1048576: true; the input reads as it did. -/
def fnExactLocalDimensionUptoRow : OpenClaim := { program := "ytijmfifejmgeaaa", sum := "40216a94274d875e00dc2abc7869d3cd692c88c76add55f5ea27ddc11a54e52d", func := "loop.example/g01124/laws.FnExactLocalDimension", spec := "fnExactLocalDimension", unfollowed := true, recurses := true, apart := false, narrowed := true }
def FnExactLocalDimensionUptoSaid : Prop := fnExactLocalDimensionUptoRow.holds Try.pinned (OpenSpec.upto fnExactLocalDimensionSpec)

/-- 'laws.FnFixingDerivations', WHERE WHAT IT READS IS OF BULK AT MOST 1048576: true; the input reads as it did. -/
def fnFixingDerivationsUptoRow : OpenClaim := { program := "ytijmfifejmgeaaa", sum := "40216a94274d875e00dc2abc7869d3cd692c88c76add55f5ea27ddc11a54e52d", func := "loop.example/g01124/laws.FnFixingDerivations", spec := "fnFixingDerivations", unfollowed := true, recurses := true, apart := false, narrowed := true }
def FnFixingDerivationsUptoSaid : Prop := fnFixingDerivationsUptoRow.holds Try.pinned (OpenSpec.upto fnFixingDerivationsSpec)

/-- 'laws.FnOrthogonalGroups', WHERE WHAT IT READS IS OF BULK AT MOST 1048576: true; the input reads as it did. -/
def fnOrthogonalGroupsUptoRow : OpenClaim := { program := "ytijmfifejmgeaaa", sum := "40216a94274d875e00dc2abc7869d3cd692c88c76add55f5ea27ddc11a54e52d", func := "loop.example/g01124/laws.FnOrthogonalGroups", spec := "fnOrthogonalGroups", unfollowed := true, recurses := true, apart := false, narrowed := true }
def FnOrthogonalGroupsUptoSaid : Prop := fnOrthogonalGroupsUptoRow.holds Try.pinned (OpenSpec.upto fnOrthogonalGroupsSpec)

/-- 'laws.FnIsometries', WHERE WHAT IT READS IS OF BULK AT MOST 1048576: true; the input reads as it did. -/
def fnIsometriesUptoRow : OpenClaim := { program := "ytijmfifejmgeaaa", sum := "40216a94274d875e00dc2abc7869d3cd692c88c76add55f5ea27ddc11a54e52d", func := "loop.example/g01124/laws.FnIsometries", spec := "fnIsometries", unfollowed := true, recurses := true, apart := false, narrowed := true }
def FnIsometriesUptoSaid : Prop := fnIsometriesUptoRow.holds Try.pinned (OpenSpec.upto fnIsometriesSpec)

end Rows
end Go.Proofs.Ytijmfifejmgeaaa
