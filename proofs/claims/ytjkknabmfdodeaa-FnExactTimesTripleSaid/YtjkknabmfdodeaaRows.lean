/-
  No cell of these rows narrows 'for every input' (looked for: loops, veiled, ifaces, maps, wideKeys, modest, calm, conditions, laid).
  DERIVED. THE GIVEN ROWS OF THIS SEAT. 12 by the template 'for every input the law returns true; each argument reads behind the call as it read before'; 0 by the template 'total and deterministic' (their statements: YtjkknabmfdodeaaTotals.lean).
  GIVEN WITH THE SEED: the statements are not yours to turn. If you find one false, say at which input.
  Laid BY PROGRAM, IN A SANDBOX (cutbox-rows.mjs): the forced cells as the released guide's own fill.sh prints them over the translation 80003132cf27c231… (all of the seat's roots in one cut). By AI agents, Wed Nov 11 2026. No macro, syntax, notation, axiom, sorry.
-/
import Derived.Test.YtjkknabmfdodeaaChecked
import GoSem.Claim
import GoSem.ClaimJoined
import GoSem.ClaimMapViews
import Derived.JoinedTies
import Derived.KernelRfl
namespace Go.Proofs.Ytjkknabmfdodeaa
/- THE CELL 'sum', in the pinned program and in every row, IS THE sha256 OF THE DUMP (.gsa) THAT YtjkknabmfdodeaaProg.lean LOADS. Nothing in Lean hashes anything: it is a label: what it is worth is what the hold of that sum in a sandbox is worth. -/
noncomputable def Try.pinned : Pinned := { name := "ytjkknabmfdodeaa", sum := "80003132cf27c231edaf6c8639f0eb25fadcf27f345ac1fbd2ecc03c75a77387", checked := Try.checked }
namespace Rows
def none {H : Type} : Left H := { results := [], args := [] }

/-- 'laws.FnExactIsDerivation': WHATEVER THE INPUT: true; the input reads as it did. -/
def fnExactIsDerivationSpec : ChangeSpec := { name := "fnExactIsDerivation", fn := fun _ => fun
  | [d1, d2] => { results := [.lit (.bool true)], args := [d1, d2] }
  | _ => none }
def fnExactIsDerivationRow : OpenClaim := { program := "ytjkknabmfdodeaa", sum := "80003132cf27c231edaf6c8639f0eb25fadcf27f345ac1fbd2ecc03c75a77387", func := "loop.example/g01124/laws.FnExactIsDerivation", spec := "fnExactIsDerivation", unfollowed := true, recurses := true, apart := false }
def FnExactIsDerivationSaid : Prop := fnExactIsDerivationRow.holds Try.pinned (OpenSpec.ofChange fnExactIsDerivationSpec)

/-- ITS FALSE NEIGHBOUR: 'it returns false'. Refute it at one input. -/
def fnExactIsDerivationWrong : ChangeSpec := { name := "fnExactIsDerivation", fn := fun _ => fun
  | [d1, d2] => { results := [.lit (.bool false)], args := [d1, d2] }
  | _ => none }
def FnExactIsDerivationWrongFalsely : Prop := fnExactIsDerivationRow.holds Try.pinned (OpenSpec.ofChange fnExactIsDerivationWrong)

/-- 'laws.FnExactTimesTriple': WHATEVER THE INPUT: true; the input reads as it did. -/
def fnExactTimesTripleSpec : ChangeSpec := { name := "fnExactTimesTriple", fn := fun _ => fun
  | [d1, d2, d3] => { results := [.lit (.bool true)], args := [d1, d2, d3] }
  | _ => none }
def fnExactTimesTripleRow : OpenClaim := { program := "ytjkknabmfdodeaa", sum := "80003132cf27c231edaf6c8639f0eb25fadcf27f345ac1fbd2ecc03c75a77387", func := "loop.example/g01124/laws.FnExactTimesTriple", spec := "fnExactTimesTriple", unfollowed := true, recurses := true, apart := false }
def FnExactTimesTripleSaid : Prop := fnExactTimesTripleRow.holds Try.pinned (OpenSpec.ofChange fnExactTimesTripleSpec)

/-- ITS FALSE NEIGHBOUR: 'it returns false'. Refute it at one input. -/
def fnExactTimesTripleWrong : ChangeSpec := { name := "fnExactTimesTriple", fn := fun _ => fun
  | [d1, d2, d3] => { results := [.lit (.bool false)], args := [d1, d2, d3] }
  | _ => none }
def FnExactTimesTripleWrongFalsely : Prop := fnExactTimesTripleRow.holds Try.pinned (OpenSpec.ofChange fnExactTimesTripleWrong)

/-- 'laws.FnExactConjugationBy': WHATEVER THE INPUT: true; the input reads as it did. -/
def fnExactConjugationBySpec : ChangeSpec := { name := "fnExactConjugationBy", fn := fun _ => fun
  | [d1, d2] => { results := [.lit (.bool true)], args := [d1, d2] }
  | _ => none }
def fnExactConjugationByRow : OpenClaim := { program := "ytjkknabmfdodeaa", sum := "80003132cf27c231edaf6c8639f0eb25fadcf27f345ac1fbd2ecc03c75a77387", func := "loop.example/g01124/laws.FnExactConjugationBy", spec := "fnExactConjugationBy", unfollowed := true, recurses := true, apart := false }
def FnExactConjugationBySaid : Prop := fnExactConjugationByRow.holds Try.pinned (OpenSpec.ofChange fnExactConjugationBySpec)

/-- ITS FALSE NEIGHBOUR: 'it returns false'. Refute it at one input. -/
def fnExactConjugationByWrong : ChangeSpec := { name := "fnExactConjugationBy", fn := fun _ => fun
  | [d1, d2] => { results := [.lit (.bool false)], args := [d1, d2] }
  | _ => none }
def FnExactConjugationByWrongFalsely : Prop := fnExactConjugationByRow.holds Try.pinned (OpenSpec.ofChange fnExactConjugationByWrong)

/-- 'laws.FnMatrixProducts': WHATEVER THE INPUT: true; the input reads as it did. -/
def fnMatrixProductsSpec : ChangeSpec := { name := "fnMatrixProducts", fn := fun _ => fun
  | [d] => { results := [.lit (.bool true)], args := [d] }
  | _ => none }
def fnMatrixProductsRow : OpenClaim := { program := "ytjkknabmfdodeaa", sum := "80003132cf27c231edaf6c8639f0eb25fadcf27f345ac1fbd2ecc03c75a77387", func := "loop.example/g01124/laws.FnMatrixProducts", spec := "fnMatrixProducts", unfollowed := true, recurses := true, apart := false }
def FnMatrixProductsSaid : Prop := fnMatrixProductsRow.holds Try.pinned (OpenSpec.ofChange fnMatrixProductsSpec)

/-- ITS FALSE NEIGHBOUR: 'it returns false'. Refute it at one input. -/
def fnMatrixProductsWrong : ChangeSpec := { name := "fnMatrixProducts", fn := fun _ => fun
  | [d] => { results := [.lit (.bool false)], args := [d] }
  | _ => none }
def FnMatrixProductsWrongFalsely : Prop := fnMatrixProductsRow.holds Try.pinned (OpenSpec.ofChange fnMatrixProductsWrong)

/-- 'laws.FnExactInverseMatrix': WHATEVER THE INPUT: true; the input reads as it did. -/
def fnExactInverseMatrixSpec : ChangeSpec := { name := "fnExactInverseMatrix", fn := fun _ => fun
  | [d1, d2] => { results := [.lit (.bool true)], args := [d1, d2] }
  | _ => none }
def fnExactInverseMatrixRow : OpenClaim := { program := "ytjkknabmfdodeaa", sum := "80003132cf27c231edaf6c8639f0eb25fadcf27f345ac1fbd2ecc03c75a77387", func := "loop.example/g01124/laws.FnExactInverseMatrix", spec := "fnExactInverseMatrix", unfollowed := true, recurses := true, apart := false }
def FnExactInverseMatrixSaid : Prop := fnExactInverseMatrixRow.holds Try.pinned (OpenSpec.ofChange fnExactInverseMatrixSpec)

/-- ITS FALSE NEIGHBOUR: 'it returns false'. Refute it at one input. -/
def fnExactInverseMatrixWrong : ChangeSpec := { name := "fnExactInverseMatrix", fn := fun _ => fun
  | [d1, d2] => { results := [.lit (.bool false)], args := [d1, d2] }
  | _ => none }
def FnExactInverseMatrixWrongFalsely : Prop := fnExactInverseMatrixRow.holds Try.pinned (OpenSpec.ofChange fnExactInverseMatrixWrong)

/-- 'laws.FnExactLoopOfUnits': WHATEVER THE INPUT: true; the input reads as it did. -/
def fnExactLoopOfUnitsSpec : ChangeSpec := { name := "fnExactLoopOfUnits", fn := fun _ => fun
  | [d] => { results := [.lit (.bool true)], args := [d] }
  | _ => none }
def fnExactLoopOfUnitsRow : OpenClaim := { program := "ytjkknabmfdodeaa", sum := "80003132cf27c231edaf6c8639f0eb25fadcf27f345ac1fbd2ecc03c75a77387", func := "loop.example/g01124/laws.FnExactLoopOfUnits", spec := "fnExactLoopOfUnits", unfollowed := true, recurses := true, apart := false }
def FnExactLoopOfUnitsSaid : Prop := fnExactLoopOfUnitsRow.holds Try.pinned (OpenSpec.ofChange fnExactLoopOfUnitsSpec)

/-- ITS FALSE NEIGHBOUR: 'it returns false'. Refute it at one input. -/
def fnExactLoopOfUnitsWrong : ChangeSpec := { name := "fnExactLoopOfUnits", fn := fun _ => fun
  | [d] => { results := [.lit (.bool false)], args := [d] }
  | _ => none }
def FnExactLoopOfUnitsWrongFalsely : Prop := fnExactLoopOfUnitsRow.holds Try.pinned (OpenSpec.ofChange fnExactLoopOfUnitsWrong)

/-- 'laws.FnKernels': WHATEVER THE INPUT: true; the input reads as it did. -/
def fnKernelsSpec : ChangeSpec := { name := "fnKernels", fn := fun _ => fun
  | [d] => { results := [.lit (.bool true)], args := [d] }
  | _ => none }
def fnKernelsRow : OpenClaim := { program := "ytjkknabmfdodeaa", sum := "80003132cf27c231edaf6c8639f0eb25fadcf27f345ac1fbd2ecc03c75a77387", func := "loop.example/g01124/laws.FnKernels", spec := "fnKernels", unfollowed := true, recurses := true, apart := false }
def FnKernelsSaid : Prop := fnKernelsRow.holds Try.pinned (OpenSpec.ofChange fnKernelsSpec)

/-- ITS FALSE NEIGHBOUR: 'it returns false'. Refute it at one input. -/
def fnKernelsWrong : ChangeSpec := { name := "fnKernels", fn := fun _ => fun
  | [d] => { results := [.lit (.bool false)], args := [d] }
  | _ => none }
def FnKernelsWrongFalsely : Prop := fnKernelsRow.holds Try.pinned (OpenSpec.ofChange fnKernelsWrong)

/-- 'laws.FnSolutions': WHATEVER THE INPUT: true; the input reads as it did. -/
def fnSolutionsSpec : ChangeSpec := { name := "fnSolutions", fn := fun _ => fun
  | [d] => { results := [.lit (.bool true)], args := [d] }
  | _ => none }
def fnSolutionsRow : OpenClaim := { program := "ytjkknabmfdodeaa", sum := "80003132cf27c231edaf6c8639f0eb25fadcf27f345ac1fbd2ecc03c75a77387", func := "loop.example/g01124/laws.FnSolutions", spec := "fnSolutions", unfollowed := true, recurses := true, apart := false }
def FnSolutionsSaid : Prop := fnSolutionsRow.holds Try.pinned (OpenSpec.ofChange fnSolutionsSpec)

/-- ITS FALSE NEIGHBOUR: 'it returns false'. Refute it at one input. -/
def fnSolutionsWrong : ChangeSpec := { name := "fnSolutions", fn := fun _ => fun
  | [d] => { results := [.lit (.bool false)], args := [d] }
  | _ => none }
def FnSolutionsWrongFalsely : Prop := fnSolutionsRow.holds Try.pinned (OpenSpec.ofChange fnSolutionsWrong)

/-- 'laws.FnExactUnitTriple': WHATEVER THE INPUT: true; the input reads as it did. -/
def fnExactUnitTripleSpec : ChangeSpec := { name := "fnExactUnitTriple", fn := fun _ => fun
  | [d1, d2] => { results := [.lit (.bool true)], args := [d1, d2] }
  | _ => none }
def fnExactUnitTripleRow : OpenClaim := { program := "ytjkknabmfdodeaa", sum := "80003132cf27c231edaf6c8639f0eb25fadcf27f345ac1fbd2ecc03c75a77387", func := "loop.example/g01124/laws.FnExactUnitTriple", spec := "fnExactUnitTriple", unfollowed := true, recurses := true, apart := false }
def FnExactUnitTripleSaid : Prop := fnExactUnitTripleRow.holds Try.pinned (OpenSpec.ofChange fnExactUnitTripleSpec)

/-- ITS FALSE NEIGHBOUR: 'it returns false'. Refute it at one input. -/
def fnExactUnitTripleWrong : ChangeSpec := { name := "fnExactUnitTriple", fn := fun _ => fun
  | [d1, d2] => { results := [.lit (.bool false)], args := [d1, d2] }
  | _ => none }
def FnExactUnitTripleWrongFalsely : Prop := fnExactUnitTripleRow.holds Try.pinned (OpenSpec.ofChange fnExactUnitTripleWrong)

/-- 'laws.FnMultiplicationMatrices': WHATEVER THE INPUT: true; the input reads as it did. -/
def fnMultiplicationMatricesSpec : ChangeSpec := { name := "fnMultiplicationMatrices", fn := fun _ => fun
  | [d] => { results := [.lit (.bool true)], args := [d] }
  | _ => none }
def fnMultiplicationMatricesRow : OpenClaim := { program := "ytjkknabmfdodeaa", sum := "80003132cf27c231edaf6c8639f0eb25fadcf27f345ac1fbd2ecc03c75a77387", func := "loop.example/g01124/laws.FnMultiplicationMatrices", spec := "fnMultiplicationMatrices", unfollowed := true, recurses := true, apart := false }
def FnMultiplicationMatricesSaid : Prop := fnMultiplicationMatricesRow.holds Try.pinned (OpenSpec.ofChange fnMultiplicationMatricesSpec)

/-- ITS FALSE NEIGHBOUR: 'it returns false'. Refute it at one input. -/
def fnMultiplicationMatricesWrong : ChangeSpec := { name := "fnMultiplicationMatrices", fn := fun _ => fun
  | [d] => { results := [.lit (.bool false)], args := [d] }
  | _ => none }
def FnMultiplicationMatricesWrongFalsely : Prop := fnMultiplicationMatricesRow.holds Try.pinned (OpenSpec.ofChange fnMultiplicationMatricesWrong)

/-- 'laws.FnExactDerivationDimension': WHATEVER THE INPUT: true; the input reads as it did. -/
def fnExactDerivationDimensionSpec : ChangeSpec := { name := "fnExactDerivationDimension", fn := fun _ => fun
  | [d] => { results := [.lit (.bool true)], args := [d] }
  | _ => none }
def fnExactDerivationDimensionRow : OpenClaim := { program := "ytjkknabmfdodeaa", sum := "80003132cf27c231edaf6c8639f0eb25fadcf27f345ac1fbd2ecc03c75a77387", func := "loop.example/g01124/laws.FnExactDerivationDimension", spec := "fnExactDerivationDimension", unfollowed := true, recurses := true, apart := false }
def FnExactDerivationDimensionSaid : Prop := fnExactDerivationDimensionRow.holds Try.pinned (OpenSpec.ofChange fnExactDerivationDimensionSpec)

/-- ITS FALSE NEIGHBOUR: 'it returns false'. Refute it at one input. -/
def fnExactDerivationDimensionWrong : ChangeSpec := { name := "fnExactDerivationDimension", fn := fun _ => fun
  | [d] => { results := [.lit (.bool false)], args := [d] }
  | _ => none }
def FnExactDerivationDimensionWrongFalsely : Prop := fnExactDerivationDimensionRow.holds Try.pinned (OpenSpec.ofChange fnExactDerivationDimensionWrong)

/-- 'laws.FnCharacteristics': WHATEVER THE INPUT: true; the input reads as it did. -/
def fnCharacteristicsSpec : ChangeSpec := { name := "fnCharacteristics", fn := fun _ => fun
  | [d] => { results := [.lit (.bool true)], args := [d] }
  | _ => none }
def fnCharacteristicsRow : OpenClaim := { program := "ytjkknabmfdodeaa", sum := "80003132cf27c231edaf6c8639f0eb25fadcf27f345ac1fbd2ecc03c75a77387", func := "loop.example/g01124/laws.FnCharacteristics", spec := "fnCharacteristics", unfollowed := true, recurses := true, apart := false }
def FnCharacteristicsSaid : Prop := fnCharacteristicsRow.holds Try.pinned (OpenSpec.ofChange fnCharacteristicsSpec)

/-- ITS FALSE NEIGHBOUR: 'it returns false'. Refute it at one input. -/
def fnCharacteristicsWrong : ChangeSpec := { name := "fnCharacteristics", fn := fun _ => fun
  | [d] => { results := [.lit (.bool false)], args := [d] }
  | _ => none }
def FnCharacteristicsWrongFalsely : Prop := fnCharacteristicsRow.holds Try.pinned (OpenSpec.ofChange fnCharacteristicsWrong)

/- THE SECOND FORM. 'bulk': how many values and letters a reading holds, each counted each time it is reached (what is shared counts as often as it is met; a slice's spare places count too). A statement '..UptoSaid' is the law's where the arguments, and the package variables that the reading takes, are together of bulk at most 1048576: NARROWER than '..Said'. Prove '..Said' where nothing that the law and all that it calls make is longer than what came in: it says more and counts as full. Else prove '..UptoSaid'. A law counts once. -/
mutual
def uptoBulk {H : Type} : DataW H → Nat
  | .lit (.string bytes) => bytes.length + 1
  | .lit _ => 1
  | .nil => 1
  | .ptr d => uptoBulk d + 1
  | .slice elems spare => uptoBulkAll elems + uptoBulkAll spare + 1
  | .agg parts => uptoBulkAll parts + 1
  | .iface _ d => uptoBulk d + 1
  | .map entries => uptoBulkEntries entries + 1
  | .held _ => 1
def uptoBulkAll {H : Type} : List (DataW H) → Nat
  | [] => 0
  | d :: r => uptoBulk d + uptoBulkAll r
def uptoBulkEntries {H : Type} : List (Lit × DataW H) → Nat
  | [] => 0
  | x :: r => uptoBulkEntry x + uptoBulkEntries r
def uptoBulkEntry {H : Type} : Lit × DataW H → Nat
  | (.string bytes, d) => bytes.length + uptoBulk d + 1
  | (_, d) => uptoBulk d + 1
 end
def uptoSmall : (H : Type) → List (DataW H) → Bool := fun _ ds => decide (uptoBulkAll ds ≤ 1048576)
def OpenSpec.upto (s : _root_.Go.ChangeSpec) : _root_.Go.OpenSpec := { _root_.Go.OpenSpec.ofChange s with cond := some uptoSmall }

/-- 'laws.FnExactIsDerivation', WHERE WHAT IT READS IS OF BULK AT MOST 1048576: true; the input reads as it did. -/
def fnExactIsDerivationUptoRow : OpenClaim := { program := "ytjkknabmfdodeaa", sum := "80003132cf27c231edaf6c8639f0eb25fadcf27f345ac1fbd2ecc03c75a77387", func := "loop.example/g01124/laws.FnExactIsDerivation", spec := "fnExactIsDerivation", unfollowed := true, recurses := true, apart := false, narrowed := true }
def FnExactIsDerivationUptoSaid : Prop := fnExactIsDerivationUptoRow.holds Try.pinned (OpenSpec.upto fnExactIsDerivationSpec)

/-- 'laws.FnExactTimesTriple', WHERE WHAT IT READS IS OF BULK AT MOST 1048576: true; the input reads as it did. -/
def fnExactTimesTripleUptoRow : OpenClaim := { program := "ytjkknabmfdodeaa", sum := "80003132cf27c231edaf6c8639f0eb25fadcf27f345ac1fbd2ecc03c75a77387", func := "loop.example/g01124/laws.FnExactTimesTriple", spec := "fnExactTimesTriple", unfollowed := true, recurses := true, apart := false, narrowed := true }
def FnExactTimesTripleUptoSaid : Prop := fnExactTimesTripleUptoRow.holds Try.pinned (OpenSpec.upto fnExactTimesTripleSpec)

/-- 'laws.FnExactConjugationBy', WHERE WHAT IT READS IS OF BULK AT MOST 1048576: true; the input reads as it did. -/
def fnExactConjugationByUptoRow : OpenClaim := { program := "ytjkknabmfdodeaa", sum := "80003132cf27c231edaf6c8639f0eb25fadcf27f345ac1fbd2ecc03c75a77387", func := "loop.example/g01124/laws.FnExactConjugationBy", spec := "fnExactConjugationBy", unfollowed := true, recurses := true, apart := false, narrowed := true }
def FnExactConjugationByUptoSaid : Prop := fnExactConjugationByUptoRow.holds Try.pinned (OpenSpec.upto fnExactConjugationBySpec)

/-- 'laws.FnMatrixProducts', WHERE WHAT IT READS IS OF BULK AT MOST 1048576: true; the input reads as it did. -/
def fnMatrixProductsUptoRow : OpenClaim := { program := "ytjkknabmfdodeaa", sum := "80003132cf27c231edaf6c8639f0eb25fadcf27f345ac1fbd2ecc03c75a77387", func := "loop.example/g01124/laws.FnMatrixProducts", spec := "fnMatrixProducts", unfollowed := true, recurses := true, apart := false, narrowed := true }
def FnMatrixProductsUptoSaid : Prop := fnMatrixProductsUptoRow.holds Try.pinned (OpenSpec.upto fnMatrixProductsSpec)

/-- 'laws.FnExactInverseMatrix', WHERE WHAT IT READS IS OF BULK AT MOST 1048576: true; the input reads as it did. -/
def fnExactInverseMatrixUptoRow : OpenClaim := { program := "ytjkknabmfdodeaa", sum := "80003132cf27c231edaf6c8639f0eb25fadcf27f345ac1fbd2ecc03c75a77387", func := "loop.example/g01124/laws.FnExactInverseMatrix", spec := "fnExactInverseMatrix", unfollowed := true, recurses := true, apart := false, narrowed := true }
def FnExactInverseMatrixUptoSaid : Prop := fnExactInverseMatrixUptoRow.holds Try.pinned (OpenSpec.upto fnExactInverseMatrixSpec)

/-- 'laws.FnExactLoopOfUnits', WHERE WHAT IT READS IS OF BULK AT MOST 1048576: true; the input reads as it did. -/
def fnExactLoopOfUnitsUptoRow : OpenClaim := { program := "ytjkknabmfdodeaa", sum := "80003132cf27c231edaf6c8639f0eb25fadcf27f345ac1fbd2ecc03c75a77387", func := "loop.example/g01124/laws.FnExactLoopOfUnits", spec := "fnExactLoopOfUnits", unfollowed := true, recurses := true, apart := false, narrowed := true }
def FnExactLoopOfUnitsUptoSaid : Prop := fnExactLoopOfUnitsUptoRow.holds Try.pinned (OpenSpec.upto fnExactLoopOfUnitsSpec)

/-- 'laws.FnKernels', WHERE WHAT IT READS IS OF BULK AT MOST 1048576: true; the input reads as it did. -/
def fnKernelsUptoRow : OpenClaim := { program := "ytjkknabmfdodeaa", sum := "80003132cf27c231edaf6c8639f0eb25fadcf27f345ac1fbd2ecc03c75a77387", func := "loop.example/g01124/laws.FnKernels", spec := "fnKernels", unfollowed := true, recurses := true, apart := false, narrowed := true }
def FnKernelsUptoSaid : Prop := fnKernelsUptoRow.holds Try.pinned (OpenSpec.upto fnKernelsSpec)

/-- 'laws.FnSolutions', WHERE WHAT IT READS IS OF BULK AT MOST 1048576: true; the input reads as it did. -/
def fnSolutionsUptoRow : OpenClaim := { program := "ytjkknabmfdodeaa", sum := "80003132cf27c231edaf6c8639f0eb25fadcf27f345ac1fbd2ecc03c75a77387", func := "loop.example/g01124/laws.FnSolutions", spec := "fnSolutions", unfollowed := true, recurses := true, apart := false, narrowed := true }
def FnSolutionsUptoSaid : Prop := fnSolutionsUptoRow.holds Try.pinned (OpenSpec.upto fnSolutionsSpec)

/-- 'laws.FnExactUnitTriple', WHERE WHAT IT READS IS OF BULK AT MOST 1048576: true; the input reads as it did. -/
def fnExactUnitTripleUptoRow : OpenClaim := { program := "ytjkknabmfdodeaa", sum := "80003132cf27c231edaf6c8639f0eb25fadcf27f345ac1fbd2ecc03c75a77387", func := "loop.example/g01124/laws.FnExactUnitTriple", spec := "fnExactUnitTriple", unfollowed := true, recurses := true, apart := false, narrowed := true }
def FnExactUnitTripleUptoSaid : Prop := fnExactUnitTripleUptoRow.holds Try.pinned (OpenSpec.upto fnExactUnitTripleSpec)

/-- 'laws.FnMultiplicationMatrices', WHERE WHAT IT READS IS OF BULK AT MOST 1048576: true; the input reads as it did. -/
def fnMultiplicationMatricesUptoRow : OpenClaim := { program := "ytjkknabmfdodeaa", sum := "80003132cf27c231edaf6c8639f0eb25fadcf27f345ac1fbd2ecc03c75a77387", func := "loop.example/g01124/laws.FnMultiplicationMatrices", spec := "fnMultiplicationMatrices", unfollowed := true, recurses := true, apart := false, narrowed := true }
def FnMultiplicationMatricesUptoSaid : Prop := fnMultiplicationMatricesUptoRow.holds Try.pinned (OpenSpec.upto fnMultiplicationMatricesSpec)

/-- 'laws.FnExactDerivationDimension', WHERE WHAT IT READS IS OF BULK AT MOST 1048576: true; the input reads as it did. -/
def fnExactDerivationDimensionUptoRow : OpenClaim := { program := "ytjkknabmfdodeaa", sum := "80003132cf27c231edaf6c8639f0eb25fadcf27f345ac1fbd2ecc03c75a77387", func := "loop.example/g01124/laws.FnExactDerivationDimension", spec := "fnExactDerivationDimension", unfollowed := true, recurses := true, apart := false, narrowed := true }
def FnExactDerivationDimensionUptoSaid : Prop := fnExactDerivationDimensionUptoRow.holds Try.pinned (OpenSpec.upto fnExactDerivationDimensionSpec)

/-- 'laws.FnCharacteristics', WHERE WHAT IT READS IS OF BULK AT MOST 1048576: true; the input reads as it did. -/
def fnCharacteristicsUptoRow : OpenClaim := { program := "ytjkknabmfdodeaa", sum := "80003132cf27c231edaf6c8639f0eb25fadcf27f345ac1fbd2ecc03c75a77387", func := "loop.example/g01124/laws.FnCharacteristics", spec := "fnCharacteristics", unfollowed := true, recurses := true, apart := false, narrowed := true }
def FnCharacteristicsUptoSaid : Prop := fnCharacteristicsUptoRow.holds Try.pinned (OpenSpec.upto fnCharacteristicsSpec)

end Rows
end Go.Proofs.Ytjkknabmfdodeaa
