/-
  No cell of these rows narrows 'for every input' (looked for: loops, veiled, ifaces, maps, wideKeys, modest, calm, conditions, laid).
  DERIVED. THE GIVEN ROWS OF THIS SEAT. 12 by the template 'for every input the law returns true; each argument reads behind the call as it read before'; 0 by the template 'total and deterministic' (their statements: YtbbkiinopmnapaaTotals.lean).
  GIVEN WITH THE SEED: the statements are not yours to turn. If you find one false, say at which input.
  Laid BY PROGRAM, IN A SANDBOX (cutbox-rows.mjs): the forced cells as the released guide's own fill.sh prints them over the translation 54ae31d717fbfd96… (all of the seat's roots in one cut). By AI agents, Wed Nov 11 2026. No macro, syntax, notation, axiom, sorry.
-/
import Derived.Test.YtbbkiinopmnapaaChecked
import GoSem.Claim
import GoSem.ClaimJoined
import GoSem.ClaimMapViews
import Derived.JoinedTies
import Derived.KernelRfl
namespace Go.Proofs.Ytbbkiinopmnapaa
/- THE CELL 'sum', in the pinned program and in every row, IS THE sha256 OF THE DUMP (.gsa) THAT YtbbkiinopmnapaaProg.lean LOADS. Nothing in Lean hashes anything: it is a label: what it is worth is what the hold of that sum in a sandbox is worth. -/
noncomputable def Try.pinned : Pinned := { name := "ytbbkiinopmnapaa", sum := "54ae31d717fbfd9634bf30d646ac778c5080fa8ab20369e8408f139403ecc851", checked := Try.checked }
namespace Rows
def none {H : Type} : Left H := { results := [], args := [] }

/-- 'laws.FnExactCharacteristicPolynomial': WHATEVER THE INPUT: true; the input reads as it did. -/
def fnExactCharacteristicPolynomialSpec : ChangeSpec := { name := "fnExactCharacteristicPolynomial", fn := fun _ => fun
  | [d1, d2] => { results := [.lit (.bool true)], args := [d1, d2] }
  | _ => none }
def fnExactCharacteristicPolynomialRow : OpenClaim := { program := "ytbbkiinopmnapaa", sum := "54ae31d717fbfd9634bf30d646ac778c5080fa8ab20369e8408f139403ecc851", func := "loop.example/g01124/laws.FnExactCharacteristicPolynomial", spec := "fnExactCharacteristicPolynomial", unfollowed := true, recurses := true, apart := false }
def FnExactCharacteristicPolynomialSaid : Prop := fnExactCharacteristicPolynomialRow.holds Try.pinned (OpenSpec.ofChange fnExactCharacteristicPolynomialSpec)

/-- ITS FALSE NEIGHBOUR: 'it returns false'. Refute it at one input. -/
def fnExactCharacteristicPolynomialWrong : ChangeSpec := { name := "fnExactCharacteristicPolynomial", fn := fun _ => fun
  | [d1, d2] => { results := [.lit (.bool false)], args := [d1, d2] }
  | _ => none }
def FnExactCharacteristicPolynomialWrongFalsely : Prop := fnExactCharacteristicPolynomialRow.holds Try.pinned (OpenSpec.ofChange fnExactCharacteristicPolynomialWrong)

/-- 'laws.FnExactLocalDimension': WHATEVER THE INPUT: true; the input reads as it did. -/
def fnExactLocalDimensionSpec : ChangeSpec := { name := "fnExactLocalDimension", fn := fun _ => fun
  | [d] => { results := [.lit (.bool true)], args := [d] }
  | _ => none }
def fnExactLocalDimensionRow : OpenClaim := { program := "ytbbkiinopmnapaa", sum := "54ae31d717fbfd9634bf30d646ac778c5080fa8ab20369e8408f139403ecc851", func := "loop.example/g01124/laws.FnExactLocalDimension", spec := "fnExactLocalDimension", unfollowed := true, recurses := true, apart := false }
def FnExactLocalDimensionSaid : Prop := fnExactLocalDimensionRow.holds Try.pinned (OpenSpec.ofChange fnExactLocalDimensionSpec)

/-- ITS FALSE NEIGHBOUR: 'it returns false'. Refute it at one input. -/
def fnExactLocalDimensionWrong : ChangeSpec := { name := "fnExactLocalDimension", fn := fun _ => fun
  | [d] => { results := [.lit (.bool false)], args := [d] }
  | _ => none }
def FnExactLocalDimensionWrongFalsely : Prop := fnExactLocalDimensionRow.holds Try.pinned (OpenSpec.ofChange fnExactLocalDimensionWrong)

/-- 'laws.FnLoops': WHATEVER THE INPUT: true; the input reads as it did. -/
def fnLoopsSpec : ChangeSpec := { name := "fnLoops", fn := fun _ => fun
  | [d] => { results := [.lit (.bool true)], args := [d] }
  | _ => none }
def fnLoopsRow : OpenClaim := { program := "ytbbkiinopmnapaa", sum := "54ae31d717fbfd9634bf30d646ac778c5080fa8ab20369e8408f139403ecc851", func := "loop.example/g01124/laws.FnLoops", spec := "fnLoops", unfollowed := true, recurses := true, apart := false }
def FnLoopsSaid : Prop := fnLoopsRow.holds Try.pinned (OpenSpec.ofChange fnLoopsSpec)

/-- ITS FALSE NEIGHBOUR: 'it returns false'. Refute it at one input. -/
def fnLoopsWrong : ChangeSpec := { name := "fnLoops", fn := fun _ => fun
  | [d] => { results := [.lit (.bool false)], args := [d] }
  | _ => none }
def FnLoopsWrongFalsely : Prop := fnLoopsRow.holds Try.pinned (OpenSpec.ofChange fnLoopsWrong)

/-- 'laws.FnExactKeepsNorm': WHATEVER THE INPUT: true; the input reads as it did. -/
def fnExactKeepsNormSpec : ChangeSpec := { name := "fnExactKeepsNorm", fn := fun _ => fun
  | [d1, d2] => { results := [.lit (.bool true)], args := [d1, d2] }
  | _ => none }
def fnExactKeepsNormRow : OpenClaim := { program := "ytbbkiinopmnapaa", sum := "54ae31d717fbfd9634bf30d646ac778c5080fa8ab20369e8408f139403ecc851", func := "loop.example/g01124/laws.FnExactKeepsNorm", spec := "fnExactKeepsNorm", unfollowed := true, recurses := true, apart := false }
def FnExactKeepsNormSaid : Prop := fnExactKeepsNormRow.holds Try.pinned (OpenSpec.ofChange fnExactKeepsNormSpec)

/-- ITS FALSE NEIGHBOUR: 'it returns false'. Refute it at one input. -/
def fnExactKeepsNormWrong : ChangeSpec := { name := "fnExactKeepsNorm", fn := fun _ => fun
  | [d1, d2] => { results := [.lit (.bool false)], args := [d1, d2] }
  | _ => none }
def FnExactKeepsNormWrongFalsely : Prop := fnExactKeepsNormRow.holds Try.pinned (OpenSpec.ofChange fnExactKeepsNormWrong)

/-- 'laws.FnExactSolveMatrix': WHATEVER THE INPUT: true; the input reads as it did. -/
def fnExactSolveMatrixSpec : ChangeSpec := { name := "fnExactSolveMatrix", fn := fun _ => fun
  | [d1, d2, d3] => { results := [.lit (.bool true)], args := [d1, d2, d3] }
  | _ => none }
def fnExactSolveMatrixRow : OpenClaim := { program := "ytbbkiinopmnapaa", sum := "54ae31d717fbfd9634bf30d646ac778c5080fa8ab20369e8408f139403ecc851", func := "loop.example/g01124/laws.FnExactSolveMatrix", spec := "fnExactSolveMatrix", unfollowed := true, recurses := true, apart := false }
def FnExactSolveMatrixSaid : Prop := fnExactSolveMatrixRow.holds Try.pinned (OpenSpec.ofChange fnExactSolveMatrixSpec)

/-- ITS FALSE NEIGHBOUR: 'it returns false'. Refute it at one input. -/
def fnExactSolveMatrixWrong : ChangeSpec := { name := "fnExactSolveMatrix", fn := fun _ => fun
  | [d1, d2, d3] => { results := [.lit (.bool false)], args := [d1, d2, d3] }
  | _ => none }
def FnExactSolveMatrixWrongFalsely : Prop := fnExactSolveMatrixRow.holds Try.pinned (OpenSpec.ofChange fnExactSolveMatrixWrong)

/-- 'laws.FnExactRotateTriple': WHATEVER THE INPUT: true; the input reads as it did. -/
def fnExactRotateTripleSpec : ChangeSpec := { name := "fnExactRotateTriple", fn := fun _ => fun
  | [d1, d2] => { results := [.lit (.bool true)], args := [d1, d2] }
  | _ => none }
def fnExactRotateTripleRow : OpenClaim := { program := "ytbbkiinopmnapaa", sum := "54ae31d717fbfd9634bf30d646ac778c5080fa8ab20369e8408f139403ecc851", func := "loop.example/g01124/laws.FnExactRotateTriple", spec := "fnExactRotateTriple", unfollowed := true, recurses := true, apart := false }
def FnExactRotateTripleSaid : Prop := fnExactRotateTripleRow.holds Try.pinned (OpenSpec.ofChange fnExactRotateTripleSpec)

/-- ITS FALSE NEIGHBOUR: 'it returns false'. Refute it at one input. -/
def fnExactRotateTripleWrong : ChangeSpec := { name := "fnExactRotateTriple", fn := fun _ => fun
  | [d1, d2] => { results := [.lit (.bool false)], args := [d1, d2] }
  | _ => none }
def FnExactRotateTripleWrongFalsely : Prop := fnExactRotateTripleRow.holds Try.pinned (OpenSpec.ofChange fnExactRotateTripleWrong)

/-- 'laws.FnExactKernelBasis': WHATEVER THE INPUT: true; the input reads as it did. -/
def fnExactKernelBasisSpec : ChangeSpec := { name := "fnExactKernelBasis", fn := fun _ => fun
  | [d1, d2] => { results := [.lit (.bool true)], args := [d1, d2] }
  | _ => none }
def fnExactKernelBasisRow : OpenClaim := { program := "ytbbkiinopmnapaa", sum := "54ae31d717fbfd9634bf30d646ac778c5080fa8ab20369e8408f139403ecc851", func := "loop.example/g01124/laws.FnExactKernelBasis", spec := "fnExactKernelBasis", unfollowed := true, recurses := true, apart := false }
def FnExactKernelBasisSaid : Prop := fnExactKernelBasisRow.holds Try.pinned (OpenSpec.ofChange fnExactKernelBasisSpec)

/-- ITS FALSE NEIGHBOUR: 'it returns false'. Refute it at one input. -/
def fnExactKernelBasisWrong : ChangeSpec := { name := "fnExactKernelBasis", fn := fun _ => fun
  | [d1, d2] => { results := [.lit (.bool false)], args := [d1, d2] }
  | _ => none }
def FnExactKernelBasisWrongFalsely : Prop := fnExactKernelBasisRow.holds Try.pinned (OpenSpec.ofChange fnExactKernelBasisWrong)

/-- 'laws.FnExactUnitsOf': WHATEVER THE INPUT: true; the input reads as it did. -/
def fnExactUnitsOfSpec : ChangeSpec := { name := "fnExactUnitsOf", fn := fun _ => fun
  | [d] => { results := [.lit (.bool true)], args := [d] }
  | _ => none }
def fnExactUnitsOfRow : OpenClaim := { program := "ytbbkiinopmnapaa", sum := "54ae31d717fbfd9634bf30d646ac778c5080fa8ab20369e8408f139403ecc851", func := "loop.example/g01124/laws.FnExactUnitsOf", spec := "fnExactUnitsOf", unfollowed := true, recurses := true, apart := false }
def FnExactUnitsOfSaid : Prop := fnExactUnitsOfRow.holds Try.pinned (OpenSpec.ofChange fnExactUnitsOfSpec)

/-- ITS FALSE NEIGHBOUR: 'it returns false'. Refute it at one input. -/
def fnExactUnitsOfWrong : ChangeSpec := { name := "fnExactUnitsOf", fn := fun _ => fun
  | [d] => { results := [.lit (.bool false)], args := [d] }
  | _ => none }
def FnExactUnitsOfWrongFalsely : Prop := fnExactUnitsOfRow.holds Try.pinned (OpenSpec.ofChange fnExactUnitsOfWrong)

/-- 'laws.FnExactIsIsometry': WHATEVER THE INPUT: true; the input reads as it did. -/
def fnExactIsIsometrySpec : ChangeSpec := { name := "fnExactIsIsometry", fn := fun _ => fun
  | [d1, d2, d3] => { results := [.lit (.bool true)], args := [d1, d2, d3] }
  | _ => none }
def fnExactIsIsometryRow : OpenClaim := { program := "ytbbkiinopmnapaa", sum := "54ae31d717fbfd9634bf30d646ac778c5080fa8ab20369e8408f139403ecc851", func := "loop.example/g01124/laws.FnExactIsIsometry", spec := "fnExactIsIsometry", unfollowed := true, recurses := true, apart := false }
def FnExactIsIsometrySaid : Prop := fnExactIsIsometryRow.holds Try.pinned (OpenSpec.ofChange fnExactIsIsometrySpec)

/-- ITS FALSE NEIGHBOUR: 'it returns false'. Refute it at one input. -/
def fnExactIsIsometryWrong : ChangeSpec := { name := "fnExactIsIsometry", fn := fun _ => fun
  | [d1, d2, d3] => { results := [.lit (.bool false)], args := [d1, d2, d3] }
  | _ => none }
def FnExactIsIsometryWrongFalsely : Prop := fnExactIsIsometryRow.holds Try.pinned (OpenSpec.ofChange fnExactIsIsometryWrong)

/-- 'laws.FnExactIsOrthogonal': WHATEVER THE INPUT: true; the input reads as it did. -/
def fnExactIsOrthogonalSpec : ChangeSpec := { name := "fnExactIsOrthogonal", fn := fun _ => fun
  | [d1, d2] => { results := [.lit (.bool true)], args := [d1, d2] }
  | _ => none }
def fnExactIsOrthogonalRow : OpenClaim := { program := "ytbbkiinopmnapaa", sum := "54ae31d717fbfd9634bf30d646ac778c5080fa8ab20369e8408f139403ecc851", func := "loop.example/g01124/laws.FnExactIsOrthogonal", spec := "fnExactIsOrthogonal", apart := false }
def FnExactIsOrthogonalSaid : Prop := fnExactIsOrthogonalRow.holds Try.pinned (OpenSpec.ofChange fnExactIsOrthogonalSpec)

/-- ITS FALSE NEIGHBOUR: 'it returns false'. Refute it at one input. -/
def fnExactIsOrthogonalWrong : ChangeSpec := { name := "fnExactIsOrthogonal", fn := fun _ => fun
  | [d1, d2] => { results := [.lit (.bool false)], args := [d1, d2] }
  | _ => none }
def FnExactIsOrthogonalWrongFalsely : Prop := fnExactIsOrthogonalRow.holds Try.pinned (OpenSpec.ofChange fnExactIsOrthogonalWrong)

/-- 'laws.FnExactInnerDerivation': WHATEVER THE INPUT: true; the input reads as it did. -/
def fnExactInnerDerivationSpec : ChangeSpec := { name := "fnExactInnerDerivation", fn := fun _ => fun
  | [d1, d2, d3] => { results := [.lit (.bool true)], args := [d1, d2, d3] }
  | _ => none }
def fnExactInnerDerivationRow : OpenClaim := { program := "ytbbkiinopmnapaa", sum := "54ae31d717fbfd9634bf30d646ac778c5080fa8ab20369e8408f139403ecc851", func := "loop.example/g01124/laws.FnExactInnerDerivation", spec := "fnExactInnerDerivation", unfollowed := true, recurses := true, apart := false }
def FnExactInnerDerivationSaid : Prop := fnExactInnerDerivationRow.holds Try.pinned (OpenSpec.ofChange fnExactInnerDerivationSpec)

/-- ITS FALSE NEIGHBOUR: 'it returns false'. Refute it at one input. -/
def fnExactInnerDerivationWrong : ChangeSpec := { name := "fnExactInnerDerivation", fn := fun _ => fun
  | [d1, d2, d3] => { results := [.lit (.bool false)], args := [d1, d2, d3] }
  | _ => none }
def FnExactInnerDerivationWrongFalsely : Prop := fnExactInnerDerivationRow.holds Try.pinned (OpenSpec.ofChange fnExactInnerDerivationWrong)

/-- 'laws.FnExactIsProper': WHATEVER THE INPUT: true; the input reads as it did. -/
def fnExactIsProperSpec : ChangeSpec := { name := "fnExactIsProper", fn := fun _ => fun
  | [d1, d2] => { results := [.lit (.bool true)], args := [d1, d2] }
  | _ => none }
def fnExactIsProperRow : OpenClaim := { program := "ytbbkiinopmnapaa", sum := "54ae31d717fbfd9634bf30d646ac778c5080fa8ab20369e8408f139403ecc851", func := "loop.example/g01124/laws.FnExactIsProper", spec := "fnExactIsProper", apart := false }
def FnExactIsProperSaid : Prop := fnExactIsProperRow.holds Try.pinned (OpenSpec.ofChange fnExactIsProperSpec)

/-- ITS FALSE NEIGHBOUR: 'it returns false'. Refute it at one input. -/
def fnExactIsProperWrong : ChangeSpec := { name := "fnExactIsProper", fn := fun _ => fun
  | [d1, d2] => { results := [.lit (.bool false)], args := [d1, d2] }
  | _ => none }
def FnExactIsProperWrongFalsely : Prop := fnExactIsProperRow.holds Try.pinned (OpenSpec.ofChange fnExactIsProperWrong)

/- THE SECOND FORM. 'bulk': how many values and letters a reading holds, each counted each time it is reached (what is shared counts as often as it is met; a slice's spare places count too). A statement '..UptoSaid' is the law's where the arguments, and the package variables that the reading takes, are together of bulk at most 1048576: NARROWER than '..Said'. Prove '..Said' where nothing that the law and all that it calls make is longer than what came in: it says more and counts as full. Else prove '..UptoSaid'. A law counts once. -/
mutual
def uptoBulk {H : Type} : DataW H → Nat
  | .lit (.string bytes) => bytes.length + 1
  | .lit _ => 1
  | .nil => 1
  | .ptr d => uptoBulk d + 1
  | .slice elems spare => uptoBulkAll elems + uptoBulkAll spare + 1
  | .agg parts => uptoBulkAll parts + 1
  | .iface _ d => uptoBulk d + 1
  | .map entries => uptoBulkEntries entries + 1
  | .held _ => 1
def uptoBulkAll {H : Type} : List (DataW H) → Nat
  | [] => 0
  | d :: r => uptoBulk d + uptoBulkAll r
def uptoBulkEntries {H : Type} : List (Lit × DataW H) → Nat
  | [] => 0
  | x :: r => uptoBulkEntry x + uptoBulkEntries r
def uptoBulkEntry {H : Type} : Lit × DataW H → Nat
  | (.string bytes, d) => bytes.length + uptoBulk d + 1
  | (_, d) => uptoBulk d + 1
 end
def uptoSmall : (H : Type) → List (DataW H) → Bool := fun _ ds => decide (uptoBulkAll ds ≤ 1048576)
def OpenSpec.upto (s : _root_.Go.ChangeSpec) : _root_.Go.OpenSpec := { _root_.Go.OpenSpec.ofChange s with cond := some uptoSmall }

/-- 'laws.FnExactCharacteristicPolynomial', WHERE WHAT IT READS IS OF BULK AT MOST 1048576: true; the input reads as it did. -/
def fnExactCharacteristicPolynomialUptoRow : OpenClaim := { program := "ytbbkiinopmnapaa", sum := "54ae31d717fbfd9634bf30d646ac778c5080fa8ab20369e8408f139403ecc851", func := "loop.example/g01124/laws.FnExactCharacteristicPolynomial", spec := "fnExactCharacteristicPolynomial", unfollowed := true, recurses := true, apart := false, narrowed := true }
def FnExactCharacteristicPolynomialUptoSaid : Prop := fnExactCharacteristicPolynomialUptoRow.holds Try.pinned (OpenSpec.upto fnExactCharacteristicPolynomialSpec)

/-- 'laws.FnExactLocalDimension', WHERE WHAT IT READS IS OF BULK AT MOST 1048576: true; the input reads as it did. -/
def fnExactLocalDimensionUptoRow : OpenClaim := { program := "ytbbkiinopmnapaa", sum := "54ae31d717fbfd9634bf30d646ac778c5080fa8ab20369e8408f139403ecc851", func := "loop.example/g01124/laws.FnExactLocalDimension", spec := "fnExactLocalDimension", unfollowed := true, recurses := true, apart := false, narrowed := true }
def FnExactLocalDimensionUptoSaid : Prop := fnExactLocalDimensionUptoRow.holds Try.pinned (OpenSpec.upto fnExactLocalDimensionSpec)

/-- 'laws.FnLoops', WHERE WHAT IT READS IS OF BULK AT MOST 1048576: true; the input reads as it did. -/
def fnLoopsUptoRow : OpenClaim := { program := "ytbbkiinopmnapaa", sum := "54ae31d717fbfd9634bf30d646ac778c5080fa8ab20369e8408f139403ecc851", func := "loop.example/g01124/laws.FnLoops", spec := "fnLoops", unfollowed := true, recurses := true, apart := false, narrowed := true }
def FnLoopsUptoSaid : Prop := fnLoopsUptoRow.holds Try.pinned (OpenSpec.upto fnLoopsSpec)

/-- 'laws.FnExactKeepsNorm', WHERE WHAT IT READS IS OF BULK AT MOST 1048576: true; the input reads as it did. -/
def fnExactKeepsNormUptoRow : OpenClaim := { program := "ytbbkiinopmnapaa", sum := "54ae31d717fbfd9634bf30d646ac778c5080fa8ab20369e8408f139403ecc851", func := "loop.example/g01124/laws.FnExactKeepsNorm", spec := "fnExactKeepsNorm", unfollowed := true, recurses := true, apart := false, narrowed := true }
def FnExactKeepsNormUptoSaid : Prop := fnExactKeepsNormUptoRow.holds Try.pinned (OpenSpec.upto fnExactKeepsNormSpec)

/-- 'laws.FnExactSolveMatrix', WHERE WHAT IT READS IS OF BULK AT MOST 1048576: true; the input reads as it did. -/
def fnExactSolveMatrixUptoRow : OpenClaim := { program := "ytbbkiinopmnapaa", sum := "54ae31d717fbfd9634bf30d646ac778c5080fa8ab20369e8408f139403ecc851", func := "loop.example/g01124/laws.FnExactSolveMatrix", spec := "fnExactSolveMatrix", unfollowed := true, recurses := true, apart := false, narrowed := true }
def FnExactSolveMatrixUptoSaid : Prop := fnExactSolveMatrixUptoRow.holds Try.pinned (OpenSpec.upto fnExactSolveMatrixSpec)

/-- 'laws.FnExactRotateTriple', WHERE WHAT IT READS IS OF BULK AT MOST 1048576: true; the input reads as it did. -/
def fnExactRotateTripleUptoRow : OpenClaim := { program := "ytbbkiinopmnapaa", sum := "54ae31d717fbfd9634bf30d646ac778c5080fa8ab20369e8408f139403ecc851", func := "loop.example/g01124/laws.FnExactRotateTriple", spec := "fnExactRotateTriple", unfollowed := true, recurses := true, apart := false, narrowed := true }
def FnExactRotateTripleUptoSaid : Prop := fnExactRotateTripleUptoRow.holds Try.pinned (OpenSpec.upto fnExactRotateTripleSpec)

/-- 'laws.FnExactKernelBasis', WHERE WHAT IT READS IS OF BULK AT MOST 1048576: true; the input reads as it did. -/
def fnExactKernelBasisUptoRow : OpenClaim := { program := "ytbbkiinopmnapaa", sum := "54ae31d717fbfd9634bf30d646ac778c5080fa8ab20369e8408f139403ecc851", func := "loop.example/g01124/laws.FnExactKernelBasis", spec := "fnExactKernelBasis", unfollowed := true, recurses := true, apart := false, narrowed := true }
def FnExactKernelBasisUptoSaid : Prop := fnExactKernelBasisUptoRow.holds Try.pinned (OpenSpec.upto fnExactKernelBasisSpec)

/-- 'laws.FnExactUnitsOf', WHERE WHAT IT READS IS OF BULK AT MOST 1048576: true; the input reads as it did. -/
def fnExactUnitsOfUptoRow : OpenClaim := { program := "ytbbkiinopmnapaa", sum := "54ae31d717fbfd9634bf30d646ac778c5080fa8ab20369e8408f139403ecc851", func := "loop.example/g01124/laws.FnExactUnitsOf", spec := "fnExactUnitsOf", unfollowed := true, recurses := true, apart := false, narrowed := true }
def FnExactUnitsOfUptoSaid : Prop := fnExactUnitsOfUptoRow.holds Try.pinned (OpenSpec.upto fnExactUnitsOfSpec)

/-- 'laws.FnExactIsIsometry', WHERE WHAT IT READS IS OF BULK AT MOST 1048576: true; the input reads as it did. -/
def fnExactIsIsometryUptoRow : OpenClaim := { program := "ytbbkiinopmnapaa", sum := "54ae31d717fbfd9634bf30d646ac778c5080fa8ab20369e8408f139403ecc851", func := "loop.example/g01124/laws.FnExactIsIsometry", spec := "fnExactIsIsometry", unfollowed := true, recurses := true, apart := false, narrowed := true }
def FnExactIsIsometryUptoSaid : Prop := fnExactIsIsometryUptoRow.holds Try.pinned (OpenSpec.upto fnExactIsIsometrySpec)

/-- 'laws.FnExactIsOrthogonal', WHERE WHAT IT READS IS OF BULK AT MOST 1048576: true; the input reads as it did. -/
def fnExactIsOrthogonalUptoRow : OpenClaim := { program := "ytbbkiinopmnapaa", sum := "54ae31d717fbfd9634bf30d646ac778c5080fa8ab20369e8408f139403ecc851", func := "loop.example/g01124/laws.FnExactIsOrthogonal", spec := "fnExactIsOrthogonal", apart := false, narrowed := true }
def FnExactIsOrthogonalUptoSaid : Prop := fnExactIsOrthogonalUptoRow.holds Try.pinned (OpenSpec.upto fnExactIsOrthogonalSpec)

/-- 'laws.FnExactInnerDerivation', WHERE WHAT IT READS IS OF BULK AT MOST 1048576: true; the input reads as it did. -/
def fnExactInnerDerivationUptoRow : OpenClaim := { program := "ytbbkiinopmnapaa", sum := "54ae31d717fbfd9634bf30d646ac778c5080fa8ab20369e8408f139403ecc851", func := "loop.example/g01124/laws.FnExactInnerDerivation", spec := "fnExactInnerDerivation", unfollowed := true, recurses := true, apart := false, narrowed := true }
def FnExactInnerDerivationUptoSaid : Prop := fnExactInnerDerivationUptoRow.holds Try.pinned (OpenSpec.upto fnExactInnerDerivationSpec)

/-- 'laws.FnExactIsProper', WHERE WHAT IT READS IS OF BULK AT MOST 1048576: true; the input reads as it did. -/
def fnExactIsProperUptoRow : OpenClaim := { program := "ytbbkiinopmnapaa", sum := "54ae31d717fbfd9634bf30d646ac778c5080fa8ab20369e8408f139403ecc851", func := "loop.example/g01124/laws.FnExactIsProper", spec := "fnExactIsProper", apart := false, narrowed := true }
def FnExactIsProperUptoSaid : Prop := fnExactIsProperUptoRow.holds Try.pinned (OpenSpec.upto fnExactIsProperSpec)

end Rows
end Go.Proofs.Ytbbkiinopmnapaa
