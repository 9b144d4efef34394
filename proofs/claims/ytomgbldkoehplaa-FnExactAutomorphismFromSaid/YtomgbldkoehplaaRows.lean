/-
  No cell of these rows narrows 'for every input' (looked for: loops, veiled, ifaces, maps, wideKeys, modest, calm, conditions, laid).
  DERIVED. THE GIVEN ROWS OF THIS SEAT. 12 by the template 'for every input the law returns true; each argument reads behind the call as it read before'; 0 by the template 'total and deterministic' (their statements: YtomgbldkoehplaaTotals.lean).
  GIVEN WITH THE SEED: the statements are not yours to turn. If you find one false, say at which input.
  Laid BY PROGRAM, IN A SANDBOX (cutbox-rows.mjs): the forced cells as the released guide's own fill.sh prints them over the translation 2cbe0a11cdd145ae… (all of the seat's roots in one cut). By AI agents, Wed Nov 11 2026. No macro, syntax, notation, axiom, sorry.
-/
import Derived.Test.YtomgbldkoehplaaChecked
import GoSem.Claim
import GoSem.ClaimJoined
import GoSem.ClaimMapViews
import Derived.JoinedTies
import Derived.KernelRfl
namespace Go.Proofs.Ytomgbldkoehplaa
/- THE CELL 'sum', in the pinned program and in every row, IS THE sha256 OF THE DUMP (.gsa) THAT YtomgbldkoehplaaProg.lean LOADS. Nothing in Lean hashes anything: it is a label: what it is worth is what the hold of that sum in a sandbox is worth. -/
noncomputable def Try.pinned : Pinned := { name := "ytomgbldkoehplaa", sum := "2cbe0a11cdd145aead3472f1fbee48d4c60e034fdd4eedae6a2d5191244b2afd", checked := Try.checked }
namespace Rows
def none {H : Type} : Left H := { results := [], args := [] }

/-- 'laws.FnInverses': WHATEVER THE INPUT: true; the input reads as it did. -/
def fnInversesSpec : ChangeSpec := { name := "fnInverses", fn := fun _ => fun
  | [d] => { results := [.lit (.bool true)], args := [d] }
  | _ => none }
def fnInversesRow : OpenClaim := { program := "ytomgbldkoehplaa", sum := "2cbe0a11cdd145aead3472f1fbee48d4c60e034fdd4eedae6a2d5191244b2afd", func := "loop.example/g01124/laws.FnInverses", spec := "fnInverses", unfollowed := true, recurses := true, apart := false }
def FnInversesSaid : Prop := fnInversesRow.holds Try.pinned (OpenSpec.ofChange fnInversesSpec)

/-- ITS FALSE NEIGHBOUR: 'it returns false'. Refute it at one input. -/
def fnInversesWrong : ChangeSpec := { name := "fnInverses", fn := fun _ => fun
  | [d] => { results := [.lit (.bool false)], args := [d] }
  | _ => none }
def FnInversesWrongFalsely : Prop := fnInversesRow.holds Try.pinned (OpenSpec.ofChange fnInversesWrong)

/-- 'laws.FnExactRotateTriple': WHATEVER THE INPUT: true; the input reads as it did. -/
def fnExactRotateTripleSpec : ChangeSpec := { name := "fnExactRotateTriple", fn := fun _ => fun
  | [d1, d2] => { results := [.lit (.bool true)], args := [d1, d2] }
  | _ => none }
def fnExactRotateTripleRow : OpenClaim := { program := "ytomgbldkoehplaa", sum := "2cbe0a11cdd145aead3472f1fbee48d4c60e034fdd4eedae6a2d5191244b2afd", func := "loop.example/g01124/laws.FnExactRotateTriple", spec := "fnExactRotateTriple", unfollowed := true, recurses := true, apart := false }
def FnExactRotateTripleSaid : Prop := fnExactRotateTripleRow.holds Try.pinned (OpenSpec.ofChange fnExactRotateTripleSpec)

/-- ITS FALSE NEIGHBOUR: 'it returns false'. Refute it at one input. -/
def fnExactRotateTripleWrong : ChangeSpec := { name := "fnExactRotateTriple", fn := fun _ => fun
  | [d1, d2] => { results := [.lit (.bool false)], args := [d1, d2] }
  | _ => none }
def FnExactRotateTripleWrongFalsely : Prop := fnExactRotateTripleRow.holds Try.pinned (OpenSpec.ofChange fnExactRotateTripleWrong)

/-- 'laws.FnExactIsIsometry': WHATEVER THE INPUT: true; the input reads as it did. -/
def fnExactIsIsometrySpec : ChangeSpec := { name := "fnExactIsIsometry", fn := fun _ => fun
  | [d1, d2, d3] => { results := [.lit (.bool true)], args := [d1, d2, d3] }
  | _ => none }
def fnExactIsIsometryRow : OpenClaim := { program := "ytomgbldkoehplaa", sum := "2cbe0a11cdd145aead3472f1fbee48d4c60e034fdd4eedae6a2d5191244b2afd", func := "loop.example/g01124/laws.FnExactIsIsometry", spec := "fnExactIsIsometry", unfollowed := true, recurses := true, apart := false }
def FnExactIsIsometrySaid : Prop := fnExactIsIsometryRow.holds Try.pinned (OpenSpec.ofChange fnExactIsIsometrySpec)

/-- ITS FALSE NEIGHBOUR: 'it returns false'. Refute it at one input. -/
def fnExactIsIsometryWrong : ChangeSpec := { name := "fnExactIsIsometry", fn := fun _ => fun
  | [d1, d2, d3] => { results := [.lit (.bool false)], args := [d1, d2, d3] }
  | _ => none }
def FnExactIsIsometryWrongFalsely : Prop := fnExactIsIsometryRow.holds Try.pinned (OpenSpec.ofChange fnExactIsIsometryWrong)

/-- 'laws.FnExactDecomposeOrthogonal': WHATEVER THE INPUT: true; the input reads as it did. -/
def fnExactDecomposeOrthogonalSpec : ChangeSpec := { name := "fnExactDecomposeOrthogonal", fn := fun _ => fun
  | [d1, d2] => { results := [.lit (.bool true)], args := [d1, d2] }
  | _ => none }
def fnExactDecomposeOrthogonalRow : OpenClaim := { program := "ytomgbldkoehplaa", sum := "2cbe0a11cdd145aead3472f1fbee48d4c60e034fdd4eedae6a2d5191244b2afd", func := "loop.example/g01124/laws.FnExactDecomposeOrthogonal", spec := "fnExactDecomposeOrthogonal", unfollowed := true, recurses := true, apart := false }
def FnExactDecomposeOrthogonalSaid : Prop := fnExactDecomposeOrthogonalRow.holds Try.pinned (OpenSpec.ofChange fnExactDecomposeOrthogonalSpec)

/-- ITS FALSE NEIGHBOUR: 'it returns false'. Refute it at one input. -/
def fnExactDecomposeOrthogonalWrong : ChangeSpec := { name := "fnExactDecomposeOrthogonal", fn := fun _ => fun
  | [d1, d2] => { results := [.lit (.bool false)], args := [d1, d2] }
  | _ => none }
def FnExactDecomposeOrthogonalWrongFalsely : Prop := fnExactDecomposeOrthogonalRow.holds Try.pinned (OpenSpec.ofChange fnExactDecomposeOrthogonalWrong)

/-- 'laws.FnExactUnitsOf': WHATEVER THE INPUT: true; the input reads as it did. -/
def fnExactUnitsOfSpec : ChangeSpec := { name := "fnExactUnitsOf", fn := fun _ => fun
  | [d] => { results := [.lit (.bool true)], args := [d] }
  | _ => none }
def fnExactUnitsOfRow : OpenClaim := { program := "ytomgbldkoehplaa", sum := "2cbe0a11cdd145aead3472f1fbee48d4c60e034fdd4eedae6a2d5191244b2afd", func := "loop.example/g01124/laws.FnExactUnitsOf", spec := "fnExactUnitsOf", unfollowed := true, recurses := true, apart := false }
def FnExactUnitsOfSaid : Prop := fnExactUnitsOfRow.holds Try.pinned (OpenSpec.ofChange fnExactUnitsOfSpec)

/-- ITS FALSE NEIGHBOUR: 'it returns false'. Refute it at one input. -/
def fnExactUnitsOfWrong : ChangeSpec := { name := "fnExactUnitsOf", fn := fun _ => fun
  | [d] => { results := [.lit (.bool false)], args := [d] }
  | _ => none }
def FnExactUnitsOfWrongFalsely : Prop := fnExactUnitsOfRow.holds Try.pinned (OpenSpec.ofChange fnExactUnitsOfWrong)

/-- 'laws.FnUnits': WHATEVER THE INPUT: true; the input reads as it did. -/
def fnUnitsSpec : ChangeSpec := { name := "fnUnits", fn := fun _ => fun
  | [d] => { results := [.lit (.bool true)], args := [d] }
  | _ => none }
def fnUnitsRow : OpenClaim := { program := "ytomgbldkoehplaa", sum := "2cbe0a11cdd145aead3472f1fbee48d4c60e034fdd4eedae6a2d5191244b2afd", func := "loop.example/g01124/laws.FnUnits", spec := "fnUnits", unfollowed := true, recurses := true, apart := false }
def FnUnitsSaid : Prop := fnUnitsRow.holds Try.pinned (OpenSpec.ofChange fnUnitsSpec)

/-- ITS FALSE NEIGHBOUR: 'it returns false'. Refute it at one input. -/
def fnUnitsWrong : ChangeSpec := { name := "fnUnits", fn := fun _ => fun
  | [d] => { results := [.lit (.bool false)], args := [d] }
  | _ => none }
def FnUnitsWrongFalsely : Prop := fnUnitsRow.holds Try.pinned (OpenSpec.ofChange fnUnitsWrong)

/-- 'laws.FnSignedBases': WHATEVER THE INPUT: true; the input reads as it did. -/
def fnSignedBasesSpec : ChangeSpec := { name := "fnSignedBases", fn := fun _ => fun
  | [d] => { results := [.lit (.bool true)], args := [d] }
  | _ => none }
def fnSignedBasesRow : OpenClaim := { program := "ytomgbldkoehplaa", sum := "2cbe0a11cdd145aead3472f1fbee48d4c60e034fdd4eedae6a2d5191244b2afd", func := "loop.example/g01124/laws.FnSignedBases", spec := "fnSignedBases", unfollowed := true, recurses := true, apart := false }
def FnSignedBasesSaid : Prop := fnSignedBasesRow.holds Try.pinned (OpenSpec.ofChange fnSignedBasesSpec)

/-- ITS FALSE NEIGHBOUR: 'it returns false'. Refute it at one input. -/
def fnSignedBasesWrong : ChangeSpec := { name := "fnSignedBases", fn := fun _ => fun
  | [d] => { results := [.lit (.bool false)], args := [d] }
  | _ => none }
def FnSignedBasesWrongFalsely : Prop := fnSignedBasesRow.holds Try.pinned (OpenSpec.ofChange fnSignedBasesWrong)

/-- 'laws.FnLoops': WHATEVER THE INPUT: true; the input reads as it did. -/
def fnLoopsSpec : ChangeSpec := { name := "fnLoops", fn := fun _ => fun
  | [d] => { results := [.lit (.bool true)], args := [d] }
  | _ => none }
def fnLoopsRow : OpenClaim := { program := "ytomgbldkoehplaa", sum := "2cbe0a11cdd145aead3472f1fbee48d4c60e034fdd4eedae6a2d5191244b2afd", func := "loop.example/g01124/laws.FnLoops", spec := "fnLoops", unfollowed := true, recurses := true, apart := false }
def FnLoopsSaid : Prop := fnLoopsRow.holds Try.pinned (OpenSpec.ofChange fnLoopsSpec)

/-- ITS FALSE NEIGHBOUR: 'it returns false'. Refute it at one input. -/
def fnLoopsWrong : ChangeSpec := { name := "fnLoops", fn := fun _ => fun
  | [d] => { results := [.lit (.bool false)], args := [d] }
  | _ => none }
def FnLoopsWrongFalsely : Prop := fnLoopsRow.holds Try.pinned (OpenSpec.ofChange fnLoopsWrong)

/-- 'laws.FnExactLoopCentre': WHATEVER THE INPUT: true; the input reads as it did. -/
def fnExactLoopCentreSpec : ChangeSpec := { name := "fnExactLoopCentre", fn := fun _ => fun
  | [d] => { results := [.lit (.bool true)], args := [d] }
  | _ => none }
def fnExactLoopCentreRow : OpenClaim := { program := "ytomgbldkoehplaa", sum := "2cbe0a11cdd145aead3472f1fbee48d4c60e034fdd4eedae6a2d5191244b2afd", func := "loop.example/g01124/laws.FnExactLoopCentre", spec := "fnExactLoopCentre", unfollowed := true, recurses := true, apart := false }
def FnExactLoopCentreSaid : Prop := fnExactLoopCentreRow.holds Try.pinned (OpenSpec.ofChange fnExactLoopCentreSpec)

/-- ITS FALSE NEIGHBOUR: 'it returns false'. Refute it at one input. -/
def fnExactLoopCentreWrong : ChangeSpec := { name := "fnExactLoopCentre", fn := fun _ => fun
  | [d] => { results := [.lit (.bool false)], args := [d] }
  | _ => none }
def FnExactLoopCentreWrongFalsely : Prop := fnExactLoopCentreRow.holds Try.pinned (OpenSpec.ofChange fnExactLoopCentreWrong)

/-- 'laws.FnExactAutomorphismFrom': WHATEVER THE INPUT: true; the input reads as it did. -/
def fnExactAutomorphismFromSpec : ChangeSpec := { name := "fnExactAutomorphismFrom", fn := fun _ => fun
  | [d1, d2] => { results := [.lit (.bool true)], args := [d1, d2] }
  | _ => none }
def fnExactAutomorphismFromRow : OpenClaim := { program := "ytomgbldkoehplaa", sum := "2cbe0a11cdd145aead3472f1fbee48d4c60e034fdd4eedae6a2d5191244b2afd", func := "loop.example/g01124/laws.FnExactAutomorphismFrom", spec := "fnExactAutomorphismFrom", unfollowed := true, recurses := true, apart := false }
def FnExactAutomorphismFromSaid : Prop := fnExactAutomorphismFromRow.holds Try.pinned (OpenSpec.ofChange fnExactAutomorphismFromSpec)

/-- ITS FALSE NEIGHBOUR: 'it returns false'. Refute it at one input. -/
def fnExactAutomorphismFromWrong : ChangeSpec := { name := "fnExactAutomorphismFrom", fn := fun _ => fun
  | [d1, d2] => { results := [.lit (.bool false)], args := [d1, d2] }
  | _ => none }
def FnExactAutomorphismFromWrongFalsely : Prop := fnExactAutomorphismFromRow.holds Try.pinned (OpenSpec.ofChange fnExactAutomorphismFromWrong)

/-- 'laws.FnExactSubloopFrom': WHATEVER THE INPUT: true; the input reads as it did. -/
def fnExactSubloopFromSpec : ChangeSpec := { name := "fnExactSubloopFrom", fn := fun _ => fun
  | [d1, d2] => { results := [.lit (.bool true)], args := [d1, d2] }
  | _ => none }
def fnExactSubloopFromRow : OpenClaim := { program := "ytomgbldkoehplaa", sum := "2cbe0a11cdd145aead3472f1fbee48d4c60e034fdd4eedae6a2d5191244b2afd", func := "loop.example/g01124/laws.FnExactSubloopFrom", spec := "fnExactSubloopFrom", unfollowed := true, recurses := true, apart := false }
def FnExactSubloopFromSaid : Prop := fnExactSubloopFromRow.holds Try.pinned (OpenSpec.ofChange fnExactSubloopFromSpec)

/-- ITS FALSE NEIGHBOUR: 'it returns false'. Refute it at one input. -/
def fnExactSubloopFromWrong : ChangeSpec := { name := "fnExactSubloopFrom", fn := fun _ => fun
  | [d1, d2] => { results := [.lit (.bool false)], args := [d1, d2] }
  | _ => none }
def FnExactSubloopFromWrongFalsely : Prop := fnExactSubloopFromRow.holds Try.pinned (OpenSpec.ofChange fnExactSubloopFromWrong)

/-- 'laws.FnExactIsDiassociativeLoop': WHATEVER THE INPUT: true; the input reads as it did. -/
def fnExactIsDiassociativeLoopSpec : ChangeSpec := { name := "fnExactIsDiassociativeLoop", fn := fun _ => fun
  | [d] => { results := [.lit (.bool true)], args := [d] }
  | _ => none }
def fnExactIsDiassociativeLoopRow : OpenClaim := { program := "ytomgbldkoehplaa", sum := "2cbe0a11cdd145aead3472f1fbee48d4c60e034fdd4eedae6a2d5191244b2afd", func := "loop.example/g01124/laws.FnExactIsDiassociativeLoop", spec := "fnExactIsDiassociativeLoop", unfollowed := true, recurses := true, apart := false }
def FnExactIsDiassociativeLoopSaid : Prop := fnExactIsDiassociativeLoopRow.holds Try.pinned (OpenSpec.ofChange fnExactIsDiassociativeLoopSpec)

/-- ITS FALSE NEIGHBOUR: 'it returns false'. Refute it at one input. -/
def fnExactIsDiassociativeLoopWrong : ChangeSpec := { name := "fnExactIsDiassociativeLoop", fn := fun _ => fun
  | [d] => { results := [.lit (.bool false)], args := [d] }
  | _ => none }
def FnExactIsDiassociativeLoopWrongFalsely : Prop := fnExactIsDiassociativeLoopRow.holds Try.pinned (OpenSpec.ofChange fnExactIsDiassociativeLoopWrong)

/- THE SECOND FORM. 'bulk': how many values and letters a reading holds, each counted each time it is reached (what is shared counts as often as it is met; a slice's spare places count too). A statement '..UptoSaid' is the law's where the arguments, and the package variables that the reading takes, are together of bulk at most 1048576: NARROWER than '..Said'. Prove '..Said' where nothing that the law and all that it calls make is longer than what came in: it says more and counts as full. Else prove '..UptoSaid'. A law counts once. -/
mutual
def uptoBulk {H : Type} : DataW H → Nat
  | .lit (.string bytes) => bytes.length + 1
  | .lit _ => 1
  | .nil => 1
  | .ptr d => uptoBulk d + 1
  | .slice elems spare => uptoBulkAll elems + uptoBulkAll spare + 1
  | .agg parts => uptoBulkAll parts + 1
  | .iface _ d => uptoBulk d + 1
  | .map entries => uptoBulkEntries entries + 1
  | .held _ => 1
def uptoBulkAll {H : Type} : List (DataW H) → Nat
  | [] => 0
  | d :: r => uptoBulk d + uptoBulkAll r
def uptoBulkEntries {H : Type} : List (Lit × DataW H) → Nat
  | [] => 0
  | x :: r => uptoBulkEntry x + uptoBulkEntries r
def uptoBulkEntry {H : Type} : Lit × DataW H → Nat
  | (.string bytes, d) => bytes.length + uptoBulk d + 1
  | (_, d) => uptoBulk d + 1
 end
def uptoSmall : (H : Type) → List (DataW H) → Bool := fun _ ds => decide (uptoBulkAll ds ≤ 1048576)
def OpenSpec.upto (s : _root_.Go.ChangeSpec) : _root_.Go.OpenSpec := { _root_.Go.OpenSpec.ofChange s with cond := some uptoSmall }

/-- 'laws.FnInverses', WHERE WHAT IT READS IS OF BULK AT MOST 1048576: true; the input reads as it did. -/
def fnInversesUptoRow : OpenClaim := { program := "ytomgbldkoehplaa", sum := "2cbe0a11cdd145aead3472f1fbee48d4c60e034fdd4eedae6a2d5191244b2afd", func := "loop.example/g01124/laws.FnInverses", spec := "fnInverses", unfollowed := true, recurses := true, apart := false, narrowed := true }
def FnInversesUptoSaid : Prop := fnInversesUptoRow.holds Try.pinned (OpenSpec.upto fnInversesSpec)

/-- 'laws.FnExactRotateTriple', WHERE WHAT IT READS IS OF BULK AT MOST 1048576: true; the input reads as it did. -/
def fnExactRotateTripleUptoRow : OpenClaim := { program := "ytomgbldkoehplaa", sum := "2cbe0a11cdd145aead3472f1fbee48d4c60e034fdd4eedae6a2d5191244b2afd", func := "loop.example/g01124/laws.FnExactRotateTriple", spec := "fnExactRotateTriple", unfollowed := true, recurses := true, apart := false, narrowed := true }
def FnExactRotateTripleUptoSaid : Prop := fnExactRotateTripleUptoRow.holds Try.pinned (OpenSpec.upto fnExactRotateTripleSpec)

/-- 'laws.FnExactIsIsometry', WHERE WHAT IT READS IS OF BULK AT MOST 1048576: true; the input reads as it did. -/
def fnExactIsIsometryUptoRow : OpenClaim := { program := "ytomgbldkoehplaa", sum := "2cbe0a11cdd145aead3472f1fbee48d4c60e034fdd4eedae6a2d5191244b2afd", func := "loop.example/g01124/laws.FnExactIsIsometry", spec := "fnExactIsIsometry", unfollowed := true, recurses := true, apart := false, narrowed := true }
def FnExactIsIsometryUptoSaid : Prop := fnExactIsIsometryUptoRow.holds Try.pinned (OpenSpec.upto fnExactIsIsometrySpec)

/-- 'laws.FnExactDecomposeOrthogonal', WHERE WHAT IT READS IS OF BULK AT MOST 1048576: true; the input reads as it did. -/
def fnExactDecomposeOrthogonalUptoRow : OpenClaim := { program := "ytomgbldkoehplaa", sum := "2cbe0a11cdd145aead3472f1fbee48d4c60e034fdd4eedae6a2d5191244b2afd", func := "loop.example/g01124/laws.FnExactDecomposeOrthogonal", spec := "fnExactDecomposeOrthogonal", unfollowed := true, recurses := true, apart := false, narrowed := true }
def FnExactDecomposeOrthogonalUptoSaid : Prop := fnExactDecomposeOrthogonalUptoRow.holds Try.pinned (OpenSpec.upto fnExactDecomposeOrthogonalSpec)

/-- 'laws.FnExactUnitsOf', WHERE WHAT IT READS IS OF BULK AT MOST 1048576: true; the input reads as it did. -/
def fnExactUnitsOfUptoRow : OpenClaim := { program := "ytomgbldkoehplaa", sum := "2cbe0a11cdd145aead3472f1fbee48d4c60e034fdd4eedae6a2d5191244b2afd", func := "loop.example/g01124/laws.FnExactUnitsOf", spec := "fnExactUnitsOf", unfollowed := true, recurses := true, apart := false, narrowed := true }
def FnExactUnitsOfUptoSaid : Prop := fnExactUnitsOfUptoRow.holds Try.pinned (OpenSpec.upto fnExactUnitsOfSpec)

/-- 'laws.FnUnits', WHERE WHAT IT READS IS OF BULK AT MOST 1048576: true; the input reads as it did. -/
def fnUnitsUptoRow : OpenClaim := { program := "ytomgbldkoehplaa", sum := "2cbe0a11cdd145aead3472f1fbee48d4c60e034fdd4eedae6a2d5191244b2afd", func := "loop.example/g01124/laws.FnUnits", spec := "fnUnits", unfollowed := true, recurses := true, apart := false, narrowed := true }
def FnUnitsUptoSaid : Prop := fnUnitsUptoRow.holds Try.pinned (OpenSpec.upto fnUnitsSpec)

/-- 'laws.FnSignedBases', WHERE WHAT IT READS IS OF BULK AT MOST 1048576: true; the input reads as it did. -/
def fnSignedBasesUptoRow : OpenClaim := { program := "ytomgbldkoehplaa", sum := "2cbe0a11cdd145aead3472f1fbee48d4c60e034fdd4eedae6a2d5191244b2afd", func := "loop.example/g01124/laws.FnSignedBases", spec := "fnSignedBases", unfollowed := true, recurses := true, apart := false, narrowed := true }
def FnSignedBasesUptoSaid : Prop := fnSignedBasesUptoRow.holds Try.pinned (OpenSpec.upto fnSignedBasesSpec)

/-- 'laws.FnLoops', WHERE WHAT IT READS IS OF BULK AT MOST 1048576: true; the input reads as it did. -/
def fnLoopsUptoRow : OpenClaim := { program := "ytomgbldkoehplaa", sum := "2cbe0a11cdd145aead3472f1fbee48d4c60e034fdd4eedae6a2d5191244b2afd", func := "loop.example/g01124/laws.FnLoops", spec := "fnLoops", unfollowed := true, recurses := true, apart := false, narrowed := true }
def FnLoopsUptoSaid : Prop := fnLoopsUptoRow.holds Try.pinned (OpenSpec.upto fnLoopsSpec)

/-- 'laws.FnExactLoopCentre', WHERE WHAT IT READS IS OF BULK AT MOST 1048576: true; the input reads as it did. -/
def fnExactLoopCentreUptoRow : OpenClaim := { program := "ytomgbldkoehplaa", sum := "2cbe0a11cdd145aead3472f1fbee48d4c60e034fdd4eedae6a2d5191244b2afd", func := "loop.example/g01124/laws.FnExactLoopCentre", spec := "fnExactLoopCentre", unfollowed := true, recurses := true, apart := false, narrowed := true }
def FnExactLoopCentreUptoSaid : Prop := fnExactLoopCentreUptoRow.holds Try.pinned (OpenSpec.upto fnExactLoopCentreSpec)

/-- 'laws.FnExactAutomorphismFrom', WHERE WHAT IT READS IS OF BULK AT MOST 1048576: true; the input reads as it did. -/
def fnExactAutomorphismFromUptoRow : OpenClaim := { program := "ytomgbldkoehplaa", sum := "2cbe0a11cdd145aead3472f1fbee48d4c60e034fdd4eedae6a2d5191244b2afd", func := "loop.example/g01124/laws.FnExactAutomorphismFrom", spec := "fnExactAutomorphismFrom", unfollowed := true, recurses := true, apart := false, narrowed := true }
def FnExactAutomorphismFromUptoSaid : Prop := fnExactAutomorphismFromUptoRow.holds Try.pinned (OpenSpec.upto fnExactAutomorphismFromSpec)

/-- 'laws.FnExactSubloopFrom', WHERE WHAT IT READS IS OF BULK AT MOST 1048576: true; the input reads as it did. -/
def fnExactSubloopFromUptoRow : OpenClaim := { program := "ytomgbldkoehplaa", sum := "2cbe0a11cdd145aead3472f1fbee48d4c60e034fdd4eedae6a2d5191244b2afd", func := "loop.example/g01124/laws.FnExactSubloopFrom", spec := "fnExactSubloopFrom", unfollowed := true, recurses := true, apart := false, narrowed := true }
def FnExactSubloopFromUptoSaid : Prop := fnExactSubloopFromUptoRow.holds Try.pinned (OpenSpec.upto fnExactSubloopFromSpec)

/-- 'laws.FnExactIsDiassociativeLoop', WHERE WHAT IT READS IS OF BULK AT MOST 1048576: true; the input reads as it did. -/
def fnExactIsDiassociativeLoopUptoRow : OpenClaim := { program := "ytomgbldkoehplaa", sum := "2cbe0a11cdd145aead3472f1fbee48d4c60e034fdd4eedae6a2d5191244b2afd", func := "loop.example/g01124/laws.FnExactIsDiassociativeLoop", spec := "fnExactIsDiassociativeLoop", unfollowed := true, recurses := true, apart := false, narrowed := true }
def FnExactIsDiassociativeLoopUptoSaid : Prop := fnExactIsDiassociativeLoopUptoRow.holds Try.pinned (OpenSpec.upto fnExactIsDiassociativeLoopSpec)

end Rows
end Go.Proofs.Ytomgbldkoehplaa
