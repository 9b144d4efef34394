/-
  No cell of these rows narrows 'for every input' (looked for: loops, veiled, ifaces, maps, wideKeys, modest, calm, conditions, laid).
  DERIVED. THE GIVEN ROWS OF THIS SEAT. 12 by the template 'for every input the law returns true; each argument reads behind the call as it read before'; 0 by the template 'total and deterministic' (their statements: YtdoimfkonaeceaaTotals.lean).
  GIVEN WITH THE SEED: the statements are not yours to turn. If you find one false, say at which input.
  Laid BY PROGRAM, IN A SANDBOX (cutbox-rows.mjs): the forced cells as the released guide's own fill.sh prints them over the translation 949718f109c5d760… (all of the seat's roots in one cut). By AI agents, Wed Nov 11 2026. No macro, syntax, notation, axiom, sorry.
-/
import Derived.Test.YtdoimfkonaeceaaChecked
import GoSem.Claim
import GoSem.ClaimJoined
import GoSem.ClaimMapViews
import Derived.JoinedTies
import Derived.KernelRfl
namespace Go.Proofs.Ytdoimfkonaeceaa
/- THE CELL 'sum', in the pinned program and in every row, IS THE sha256 OF THE DUMP (.gsa) THAT YtdoimfkonaeceaaProg.lean LOADS. Nothing in Lean hashes anything: it is a label: what it is worth is what the hold of that sum in a sandbox is worth. -/
noncomputable def Try.pinned : Pinned := { name := "ytdoimfkonaeceaa", sum := "949718f109c5d760e518906e6a8d376ed6f02c3b935a07b7ad804d7006ad54d4", checked := Try.checked }
namespace Rows
def none {H : Type} : Left H := { results := [], args := [] }

/-- 'laws.FnExactIsAutomorphism': WHATEVER THE INPUT: true; the input reads as it did. -/
def fnExactIsAutomorphismSpec : ChangeSpec := { name := "fnExactIsAutomorphism", fn := fun _ => fun
  | [d1, d2] => { results := [.lit (.bool true)], args := [d1, d2] }
  | _ => none }
def fnExactIsAutomorphismRow : OpenClaim := { program := "ytdoimfkonaeceaa", sum := "949718f109c5d760e518906e6a8d376ed6f02c3b935a07b7ad804d7006ad54d4", func := "loop.example/g01124/laws.FnExactIsAutomorphism", spec := "fnExactIsAutomorphism", unfollowed := true, recurses := true, apart := false }
def FnExactIsAutomorphismSaid : Prop := fnExactIsAutomorphismRow.holds Try.pinned (OpenSpec.ofChange fnExactIsAutomorphismSpec)

/-- ITS FALSE NEIGHBOUR: 'it returns false'. Refute it at one input. -/
def fnExactIsAutomorphismWrong : ChangeSpec := { name := "fnExactIsAutomorphism", fn := fun _ => fun
  | [d1, d2] => { results := [.lit (.bool false)], args := [d1, d2] }
  | _ => none }
def FnExactIsAutomorphismWrongFalsely : Prop := fnExactIsAutomorphismRow.holds Try.pinned (OpenSpec.ofChange fnExactIsAutomorphismWrong)

/-- 'laws.FnExactOrthogonalOrder': WHATEVER THE INPUT: true; the input reads as it did. -/
def fnExactOrthogonalOrderSpec : ChangeSpec := { name := "fnExactOrthogonalOrder", fn := fun _ => fun
  | [d1, d2] => { results := [.lit (.bool true)], args := [d1, d2] }
  | _ => none }
def fnExactOrthogonalOrderRow : OpenClaim := { program := "ytdoimfkonaeceaa", sum := "949718f109c5d760e518906e6a8d376ed6f02c3b935a07b7ad804d7006ad54d4", func := "loop.example/g01124/laws.FnExactOrthogonalOrder", spec := "fnExactOrthogonalOrder", unfollowed := true, recurses := true, apart := false }
def FnExactOrthogonalOrderSaid : Prop := fnExactOrthogonalOrderRow.holds Try.pinned (OpenSpec.ofChange fnExactOrthogonalOrderSpec)

/-- ITS FALSE NEIGHBOUR: 'it returns false'. Refute it at one input. -/
def fnExactOrthogonalOrderWrong : ChangeSpec := { name := "fnExactOrthogonalOrder", fn := fun _ => fun
  | [d1, d2] => { results := [.lit (.bool false)], args := [d1, d2] }
  | _ => none }
def FnExactOrthogonalOrderWrongFalsely : Prop := fnExactOrthogonalOrderRow.holds Try.pinned (OpenSpec.ofChange fnExactOrthogonalOrderWrong)

/-- 'laws.FnExactFixingDimension': WHATEVER THE INPUT: true; the input reads as it did. -/
def fnExactFixingDimensionSpec : ChangeSpec := { name := "fnExactFixingDimension", fn := fun _ => fun
  | [d1, d2] => { results := [.lit (.bool true)], args := [d1, d2] }
  | _ => none }
def fnExactFixingDimensionRow : OpenClaim := { program := "ytdoimfkonaeceaa", sum := "949718f109c5d760e518906e6a8d376ed6f02c3b935a07b7ad804d7006ad54d4", func := "loop.example/g01124/laws.FnExactFixingDimension", spec := "fnExactFixingDimension", unfollowed := true, recurses := true, apart := false }
def FnExactFixingDimensionSaid : Prop := fnExactFixingDimensionRow.holds Try.pinned (OpenSpec.ofChange fnExactFixingDimensionSpec)

/-- ITS FALSE NEIGHBOUR: 'it returns false'. Refute it at one input. -/
def fnExactFixingDimensionWrong : ChangeSpec := { name := "fnExactFixingDimension", fn := fun _ => fun
  | [d1, d2] => { results := [.lit (.bool false)], args := [d1, d2] }
  | _ => none }
def FnExactFixingDimensionWrongFalsely : Prop := fnExactFixingDimensionRow.holds Try.pinned (OpenSpec.ofChange fnExactFixingDimensionWrong)

/-- 'laws.FnExactHasSquareNorm': WHATEVER THE INPUT: true; the input reads as it did. -/
def fnExactHasSquareNormSpec : ChangeSpec := { name := "fnExactHasSquareNorm", fn := fun _ => fun
  | [d1, d2] => { results := [.lit (.bool true)], args := [d1, d2] }
  | _ => none }
def fnExactHasSquareNormRow : OpenClaim := { program := "ytdoimfkonaeceaa", sum := "949718f109c5d760e518906e6a8d376ed6f02c3b935a07b7ad804d7006ad54d4", func := "loop.example/g01124/laws.FnExactHasSquareNorm", spec := "fnExactHasSquareNorm", unfollowed := true, recurses := true, apart := false }
def FnExactHasSquareNormSaid : Prop := fnExactHasSquareNormRow.holds Try.pinned (OpenSpec.ofChange fnExactHasSquareNormSpec)

/-- ITS FALSE NEIGHBOUR: 'it returns false'. Refute it at one input. -/
def fnExactHasSquareNormWrong : ChangeSpec := { name := "fnExactHasSquareNorm", fn := fun _ => fun
  | [d1, d2] => { results := [.lit (.bool false)], args := [d1, d2] }
  | _ => none }
def FnExactHasSquareNormWrongFalsely : Prop := fnExactHasSquareNormRow.holds Try.pinned (OpenSpec.ofChange fnExactHasSquareNormWrong)

/-- 'laws.FnUnits': WHATEVER THE INPUT: true; the input reads as it did. -/
def fnUnitsSpec : ChangeSpec := { name := "fnUnits", fn := fun _ => fun
  | [d] => { results := [.lit (.bool true)], args := [d] }
  | _ => none }
def fnUnitsRow : OpenClaim := { program := "ytdoimfkonaeceaa", sum := "949718f109c5d760e518906e6a8d376ed6f02c3b935a07b7ad804d7006ad54d4", func := "loop.example/g01124/laws.FnUnits", spec := "fnUnits", unfollowed := true, recurses := true, apart := false }
def FnUnitsSaid : Prop := fnUnitsRow.holds Try.pinned (OpenSpec.ofChange fnUnitsSpec)

/-- ITS FALSE NEIGHBOUR: 'it returns false'. Refute it at one input. -/
def fnUnitsWrong : ChangeSpec := { name := "fnUnits", fn := fun _ => fun
  | [d] => { results := [.lit (.bool false)], args := [d] }
  | _ => none }
def FnUnitsWrongFalsely : Prop := fnUnitsRow.holds Try.pinned (OpenSpec.ofChange fnUnitsWrong)

/-- 'laws.FnInverses': WHATEVER THE INPUT: true; the input reads as it did. -/
def fnInversesSpec : ChangeSpec := { name := "fnInverses", fn := fun _ => fun
  | [d] => { results := [.lit (.bool true)], args := [d] }
  | _ => none }
def fnInversesRow : OpenClaim := { program := "ytdoimfkonaeceaa", sum := "949718f109c5d760e518906e6a8d376ed6f02c3b935a07b7ad804d7006ad54d4", func := "loop.example/g01124/laws.FnInverses", spec := "fnInverses", unfollowed := true, recurses := true, apart := false }
def FnInversesSaid : Prop := fnInversesRow.holds Try.pinned (OpenSpec.ofChange fnInversesSpec)

/-- ITS FALSE NEIGHBOUR: 'it returns false'. Refute it at one input. -/
def fnInversesWrong : ChangeSpec := { name := "fnInverses", fn := fun _ => fun
  | [d] => { results := [.lit (.bool false)], args := [d] }
  | _ => none }
def FnInversesWrongFalsely : Prop := fnInversesRow.holds Try.pinned (OpenSpec.ofChange fnInversesWrong)

/-- 'laws.FnExactDecomposeOrthogonal': WHATEVER THE INPUT: true; the input reads as it did. -/
def fnExactDecomposeOrthogonalSpec : ChangeSpec := { name := "fnExactDecomposeOrthogonal", fn := fun _ => fun
  | [d1, d2] => { results := [.lit (.bool true)], args := [d1, d2] }
  | _ => none }
def fnExactDecomposeOrthogonalRow : OpenClaim := { program := "ytdoimfkonaeceaa", sum := "949718f109c5d760e518906e6a8d376ed6f02c3b935a07b7ad804d7006ad54d4", func := "loop.example/g01124/laws.FnExactDecomposeOrthogonal", spec := "fnExactDecomposeOrthogonal", unfollowed := true, recurses := true, apart := false }
def FnExactDecomposeOrthogonalSaid : Prop := fnExactDecomposeOrthogonalRow.holds Try.pinned (OpenSpec.ofChange fnExactDecomposeOrthogonalSpec)

/-- ITS FALSE NEIGHBOUR: 'it returns false'. Refute it at one input. -/
def fnExactDecomposeOrthogonalWrong : ChangeSpec := { name := "fnExactDecomposeOrthogonal", fn := fun _ => fun
  | [d1, d2] => { results := [.lit (.bool false)], args := [d1, d2] }
  | _ => none }
def FnExactDecomposeOrthogonalWrongFalsely : Prop := fnExactDecomposeOrthogonalRow.holds Try.pinned (OpenSpec.ofChange fnExactDecomposeOrthogonalWrong)

/-- 'laws.FnOrthogonalGroups': WHATEVER THE INPUT: true; the input reads as it did. -/
def fnOrthogonalGroupsSpec : ChangeSpec := { name := "fnOrthogonalGroups", fn := fun _ => fun
  | [d] => { results := [.lit (.bool true)], args := [d] }
  | _ => none }
def fnOrthogonalGroupsRow : OpenClaim := { program := "ytdoimfkonaeceaa", sum := "949718f109c5d760e518906e6a8d376ed6f02c3b935a07b7ad804d7006ad54d4", func := "loop.example/g01124/laws.FnOrthogonalGroups", spec := "fnOrthogonalGroups", unfollowed := true, recurses := true, apart := false }
def FnOrthogonalGroupsSaid : Prop := fnOrthogonalGroupsRow.holds Try.pinned (OpenSpec.ofChange fnOrthogonalGroupsSpec)

/-- ITS FALSE NEIGHBOUR: 'it returns false'. Refute it at one input. -/
def fnOrthogonalGroupsWrong : ChangeSpec := { name := "fnOrthogonalGroups", fn := fun _ => fun
  | [d] => { results := [.lit (.bool false)], args := [d] }
  | _ => none }
def FnOrthogonalGroupsWrongFalsely : Prop := fnOrthogonalGroupsRow.holds Try.pinned (OpenSpec.ofChange fnOrthogonalGroupsWrong)

/-- 'laws.FnExactDerivationBasis': WHATEVER THE INPUT: true; the input reads as it did. -/
def fnExactDerivationBasisSpec : ChangeSpec := { name := "fnExactDerivationBasis", fn := fun _ => fun
  | [d] => { results := [.lit (.bool true)], args := [d] }
  | _ => none }
def fnExactDerivationBasisRow : OpenClaim := { program := "ytdoimfkonaeceaa", sum := "949718f109c5d760e518906e6a8d376ed6f02c3b935a07b7ad804d7006ad54d4", func := "loop.example/g01124/laws.FnExactDerivationBasis", spec := "fnExactDerivationBasis", unfollowed := true, recurses := true, apart := false }
def FnExactDerivationBasisSaid : Prop := fnExactDerivationBasisRow.holds Try.pinned (OpenSpec.ofChange fnExactDerivationBasisSpec)

/-- ITS FALSE NEIGHBOUR: 'it returns false'. Refute it at one input. -/
def fnExactDerivationBasisWrong : ChangeSpec := { name := "fnExactDerivationBasis", fn := fun _ => fun
  | [d] => { results := [.lit (.bool false)], args := [d] }
  | _ => none }
def FnExactDerivationBasisWrongFalsely : Prop := fnExactDerivationBasisRow.holds Try.pinned (OpenSpec.ofChange fnExactDerivationBasisWrong)

/-- 'laws.FnFixingDerivations': WHATEVER THE INPUT: true; the input reads as it did. -/
def fnFixingDerivationsSpec : ChangeSpec := { name := "fnFixingDerivations", fn := fun _ => fun
  | [d] => { results := [.lit (.bool true)], args := [d] }
  | _ => none }
def fnFixingDerivationsRow : OpenClaim := { program := "ytdoimfkonaeceaa", sum := "949718f109c5d760e518906e6a8d376ed6f02c3b935a07b7ad804d7006ad54d4", func := "loop.example/g01124/laws.FnFixingDerivations", spec := "fnFixingDerivations", unfollowed := true, recurses := true, apart := false }
def FnFixingDerivationsSaid : Prop := fnFixingDerivationsRow.holds Try.pinned (OpenSpec.ofChange fnFixingDerivationsSpec)

/-- ITS FALSE NEIGHBOUR: 'it returns false'. Refute it at one input. -/
def fnFixingDerivationsWrong : ChangeSpec := { name := "fnFixingDerivations", fn := fun _ => fun
  | [d] => { results := [.lit (.bool false)], args := [d] }
  | _ => none }
def FnFixingDerivationsWrongFalsely : Prop := fnFixingDerivationsRow.holds Try.pinned (OpenSpec.ofChange fnFixingDerivationsWrong)

/-- 'laws.FnIsometries': WHATEVER THE INPUT: true; the input reads as it did. -/
def fnIsometriesSpec : ChangeSpec := { name := "fnIsometries", fn := fun _ => fun
  | [d] => { results := [.lit (.bool true)], args := [d] }
  | _ => none }
def fnIsometriesRow : OpenClaim := { program := "ytdoimfkonaeceaa", sum := "949718f109c5d760e518906e6a8d376ed6f02c3b935a07b7ad804d7006ad54d4", func := "loop.example/g01124/laws.FnIsometries", spec := "fnIsometries", unfollowed := true, recurses := true, apart := false }
def FnIsometriesSaid : Prop := fnIsometriesRow.holds Try.pinned (OpenSpec.ofChange fnIsometriesSpec)

/-- ITS FALSE NEIGHBOUR: 'it returns false'. Refute it at one input. -/
def fnIsometriesWrong : ChangeSpec := { name := "fnIsometries", fn := fun _ => fun
  | [d] => { results := [.lit (.bool false)], args := [d] }
  | _ => none }
def FnIsometriesWrongFalsely : Prop := fnIsometriesRow.holds Try.pinned (OpenSpec.ofChange fnIsometriesWrong)

/-- 'laws.FnExactSubloopFrom': WHATEVER THE INPUT: true; the input reads as it did. -/
def fnExactSubloopFromSpec : ChangeSpec := { name := "fnExactSubloopFrom", fn := fun _ => fun
  | [d1, d2] => { results := [.lit (.bool true)], args := [d1, d2] }
  | _ => none }
def fnExactSubloopFromRow : OpenClaim := { program := "ytdoimfkonaeceaa", sum := "949718f109c5d760e518906e6a8d376ed6f02c3b935a07b7ad804d7006ad54d4", func := "loop.example/g01124/laws.FnExactSubloopFrom", spec := "fnExactSubloopFrom", unfollowed := true, recurses := true, apart := false }
def FnExactSubloopFromSaid : Prop := fnExactSubloopFromRow.holds Try.pinned (OpenSpec.ofChange fnExactSubloopFromSpec)

/-- ITS FALSE NEIGHBOUR: 'it returns false'. Refute it at one input. -/
def fnExactSubloopFromWrong : ChangeSpec := { name := "fnExactSubloopFrom", fn := fun _ => fun
  | [d1, d2] => { results := [.lit (.bool false)], args := [d1, d2] }
  | _ => none }
def FnExactSubloopFromWrongFalsely : Prop := fnExactSubloopFromRow.holds Try.pinned (OpenSpec.ofChange fnExactSubloopFromWrong)

/- THE SECOND FORM. 'bulk': how many values and letters a reading holds, each counted each time it is reached (what is shared counts as often as it is met; a slice's spare places count too). A statement '..UptoSaid' is the law's where the arguments, and the package variables that the reading takes, are together of bulk at most 1048576: NARROWER than '..Said'. Prove '..Said' where nothing that the law and all that it calls make is longer than what came in: it says more and counts as full. Else prove '..UptoSaid'. A law counts once. -/
mutual
def uptoBulk {H : Type} : DataW H → Nat
  | .lit (.string bytes) => bytes.length + 1
  | .lit _ => 1
  | .nil => 1
  | .ptr d => uptoBulk d + 1
  | .slice elems spare => uptoBulkAll elems + uptoBulkAll spare + 1
  | .agg parts => uptoBulkAll parts + 1
  | .iface _ d => uptoBulk d + 1
  | .map entries => uptoBulkEntries entries + 1
  | .held _ => 1
def uptoBulkAll {H : Type} : List (DataW H) → Nat
  | [] => 0
  | d :: r => uptoBulk d + uptoBulkAll r
def uptoBulkEntries {H : Type} : List (Lit × DataW H) → Nat
  | [] => 0
  | x :: r => uptoBulkEntry x + uptoBulkEntries r
def uptoBulkEntry {H : Type} : Lit × DataW H → Nat
  | (.string bytes, d) => bytes.length + uptoBulk d + 1
  | (_, d) => uptoBulk d + 1
 end
def uptoSmall : (H : Type) → List (DataW H) → Bool := fun _ ds => decide (uptoBulkAll ds ≤ 1048576)
def OpenSpec.upto (s : _root_.Go.ChangeSpec) : _root_.Go.OpenSpec := { _root_.Go.OpenSpec.ofChange s with cond := some uptoSmall }

/-- 'laws.FnExactIsAutomorphism', WHERE WHAT IT READS IS OF BULK AT MOST 1048576: true; the input reads as it did. -/
def fnExactIsAutomorphismUptoRow : OpenClaim := { program := "ytdoimfkonaeceaa", sum := "949718f109c5d760e518906e6a8d376ed6f02c3b935a07b7ad804d7006ad54d4", func := "loop.example/g01124/laws.FnExactIsAutomorphism", spec := "fnExactIsAutomorphism", unfollowed := true, recurses := true, apart := false, narrowed := true }
def FnExactIsAutomorphismUptoSaid : Prop := fnExactIsAutomorphismUptoRow.holds Try.pinned (OpenSpec.upto fnExactIsAutomorphismSpec)

/-- 'laws.FnExactOrthogonalOrder', WHERE WHAT IT READS IS OF BULK AT MOST 1048576: true; the input reads as it did. -/
def fnExactOrthogonalOrderUptoRow : OpenClaim := { program := "ytdoimfkonaeceaa", sum := "949718f109c5d760e518906e6a8d376ed6f02c3b935a07b7ad804d7006ad54d4", func := "loop.example/g01124/laws.FnExactOrthogonalOrder", spec := "fnExactOrthogonalOrder", unfollowed := true, recurses := true, apart := false, narrowed := true }
def FnExactOrthogonalOrderUptoSaid : Prop := fnExactOrthogonalOrderUptoRow.holds Try.pinned (OpenSpec.upto fnExactOrthogonalOrderSpec)

/-- 'laws.FnExactFixingDimension', WHERE WHAT IT READS IS OF BULK AT MOST 1048576: true; the input reads as it did. -/
def fnExactFixingDimensionUptoRow : OpenClaim := { program := "ytdoimfkonaeceaa", sum := "949718f109c5d760e518906e6a8d376ed6f02c3b935a07b7ad804d7006ad54d4", func := "loop.example/g01124/laws.FnExactFixingDimension", spec := "fnExactFixingDimension", unfollowed := true, recurses := true, apart := false, narrowed := true }
def FnExactFixingDimensionUptoSaid : Prop := fnExactFixingDimensionUptoRow.holds Try.pinned (OpenSpec.upto fnExactFixingDimensionSpec)

/-- 'laws.FnExactHasSquareNorm', WHERE WHAT IT READS IS OF BULK AT MOST 1048576: true; the input reads as it did. -/
def fnExactHasSquareNormUptoRow : OpenClaim := { program := "ytdoimfkonaeceaa", sum := "949718f109c5d760e518906e6a8d376ed6f02c3b935a07b7ad804d7006ad54d4", func := "loop.example/g01124/laws.FnExactHasSquareNorm", spec := "fnExactHasSquareNorm", unfollowed := true, recurses := true, apart := false, narrowed := true }
def FnExactHasSquareNormUptoSaid : Prop := fnExactHasSquareNormUptoRow.holds Try.pinned (OpenSpec.upto fnExactHasSquareNormSpec)

/-- 'laws.FnUnits', WHERE WHAT IT READS IS OF BULK AT MOST 1048576: true; the input reads as it did. -/
def fnUnitsUptoRow : OpenClaim := { program := "ytdoimfkonaeceaa", sum := "949718f109c5d760e518906e6a8d376ed6f02c3b935a07b7ad804d7006ad54d4", func := "loop.example/g01124/laws.FnUnits", spec := "fnUnits", unfollowed := true, recurses := true, apart := false, narrowed := true }
def FnUnitsUptoSaid : Prop := fnUnitsUptoRow.holds Try.pinned (OpenSpec.upto fnUnitsSpec)

/-- 'laws.FnInverses', WHERE WHAT IT READS IS OF BULK AT MOST 1048576: true; the input reads as it did. -/
def fnInversesUptoRow : OpenClaim := { program := "ytdoimfkonaeceaa", sum := "949718f109c5d760e518906e6a8d376ed6f02c3b935a07b7ad804d7006ad54d4", func := "loop.example/g01124/laws.FnInverses", spec := "fnInverses", unfollowed := true, recurses := true, apart := false, narrowed := true }
def FnInversesUptoSaid : Prop := fnInversesUptoRow.holds Try.pinned (OpenSpec.upto fnInversesSpec)

/-- 'laws.FnExactDecomposeOrthogonal', WHERE WHAT IT READS IS OF BULK AT MOST 1048576: true; the input reads as it did. -/
def fnExactDecomposeOrthogonalUptoRow : OpenClaim := { program := "ytdoimfkonaeceaa", sum := "949718f109c5d760e518906e6a8d376ed6f02c3b935a07b7ad804d7006ad54d4", func := "loop.example/g01124/laws.FnExactDecomposeOrthogonal", spec := "fnExactDecomposeOrthogonal", unfollowed := true, recurses := true, apart := false, narrowed := true }
def FnExactDecomposeOrthogonalUptoSaid : Prop := fnExactDecomposeOrthogonalUptoRow.holds Try.pinned (OpenSpec.upto fnExactDecomposeOrthogonalSpec)

/-- 'laws.FnOrthogonalGroups', WHERE WHAT IT READS IS OF BULK AT MOST 1048576: true; the input reads as it did. -/
def fnOrthogonalGroupsUptoRow : OpenClaim := { program := "ytdoimfkonaeceaa", sum := "949718f109c5d760e518906e6a8d376ed6f02c3b935a07b7ad804d7006ad54d4", func := "loop.example/g01124/laws.FnOrthogonalGroups", spec := "fnOrthogonalGroups", unfollowed := true, recurses := true, apart := false, narrowed := true }
def FnOrthogonalGroupsUptoSaid : Prop := fnOrthogonalGroupsUptoRow.holds Try.pinned (OpenSpec.upto fnOrthogonalGroupsSpec)

/-- 'laws.FnExactDerivationBasis', WHERE WHAT IT READS IS OF BULK AT MOST 1048576: true; the input reads as it did. -/
def fnExactDerivationBasisUptoRow : OpenClaim := { program := "ytdoimfkonaeceaa", sum := "949718f109c5d760e518906e6a8d376ed6f02c3b935a07b7ad804d7006ad54d4", func := "loop.example/g01124/laws.FnExactDerivationBasis", spec := "fnExactDerivationBasis", unfollowed := true, recurses := true, apart := false, narrowed := true }
def FnExactDerivationBasisUptoSaid : Prop := fnExactDerivationBasisUptoRow.holds Try.pinned (OpenSpec.upto fnExactDerivationBasisSpec)

/-- 'laws.FnFixingDerivations', WHERE WHAT IT READS IS OF BULK AT MOST 1048576: true; the input reads as it did. -/
def fnFixingDerivationsUptoRow : OpenClaim := { program := "ytdoimfkonaeceaa", sum := "949718f109c5d760e518906e6a8d376ed6f02c3b935a07b7ad804d7006ad54d4", func := "loop.example/g01124/laws.FnFixingDerivations", spec := "fnFixingDerivations", unfollowed := true, recurses := true, apart := false, narrowed := true }
def FnFixingDerivationsUptoSaid : Prop := fnFixingDerivationsUptoRow.holds Try.pinned (OpenSpec.upto fnFixingDerivationsSpec)

/-- 'laws.FnIsometries', WHERE WHAT IT READS IS OF BULK AT MOST 1048576: true; the input reads as it did. -/
def fnIsometriesUptoRow : OpenClaim := { program := "ytdoimfkonaeceaa", sum := "949718f109c5d760e518906e6a8d376ed6f02c3b935a07b7ad804d7006ad54d4", func := "loop.example/g01124/laws.FnIsometries", spec := "fnIsometries", unfollowed := true, recurses := true, apart := false, narrowed := true }
def FnIsometriesUptoSaid : Prop := fnIsometriesUptoRow.holds Try.pinned (OpenSpec.upto fnIsometriesSpec)

/-- 'laws.FnExactSubloopFrom', WHERE WHAT IT READS IS OF BULK AT MOST 1048576: true; the input reads as it did. -/
def fnExactSubloopFromUptoRow : OpenClaim := { program := "ytdoimfkonaeceaa", sum := "949718f109c5d760e518906e6a8d376ed6f02c3b935a07b7ad804d7006ad54d4", func := "loop.example/g01124/laws.FnExactSubloopFrom", spec := "fnExactSubloopFrom", unfollowed := true, recurses := true, apart := false, narrowed := true }
def FnExactSubloopFromUptoSaid : Prop := fnExactSubloopFromUptoRow.holds Try.pinned (OpenSpec.upto fnExactSubloopFromSpec)

end Rows
end Go.Proofs.Ytdoimfkonaeceaa
