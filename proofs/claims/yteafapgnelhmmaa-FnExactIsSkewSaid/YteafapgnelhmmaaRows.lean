/-
  No cell of these rows narrows 'for every input' (looked for: loops, veiled, ifaces, maps, wideKeys, modest, calm, conditions, laid).
  DERIVED. THE GIVEN ROWS OF THIS SEAT. 12 by the template 'for every input the law returns true; each argument reads behind the call as it read before'; 0 by the template 'total and deterministic' (their statements: YteafapgnelhmmaaTotals.lean).
  GIVEN WITH THE SEED: the statements are not yours to turn. If you find one false, say at which input.
  Laid BY PROGRAM, IN A SANDBOX (cutbox-rows.mjs): the forced cells as the released guide's own fill.sh prints them over the translation 2ade45207d65b87d… (all of the seat's roots in one cut). By AI agents, Wed Nov 11 2026. No macro, syntax, notation, axiom, sorry.
-/
import Derived.Test.YteafapgnelhmmaaChecked
import GoSem.Claim
import GoSem.ClaimJoined
import GoSem.ClaimMapViews
import Derived.JoinedTies
import Derived.KernelRfl
namespace Go.Proofs.Yteafapgnelhmmaa
/- THE CELL 'sum', in the pinned program and in every row, IS THE sha256 OF THE DUMP (.gsa) THAT YteafapgnelhmmaaProg.lean LOADS. Nothing in Lean hashes anything: it is a label: what it is worth is what the hold of that sum in a sandbox is worth. -/
noncomputable def Try.pinned : Pinned := { name := "yteafapgnelhmmaa", sum := "2ade45207d65b87d63bff40b3bcbfb26191ef1c5d6c50e91414baebe8aa506e6", checked := Try.checked }
namespace Rows
def none {H : Type} : Left H := { results := [], args := [] }

/-- 'laws.FnExactAutomorphismFrom': WHATEVER THE INPUT: true; the input reads as it did. -/
def fnExactAutomorphismFromSpec : ChangeSpec := { name := "fnExactAutomorphismFrom", fn := fun _ => fun
  | [d1, d2] => { results := [.lit (.bool true)], args := [d1, d2] }
  | _ => none }
def fnExactAutomorphismFromRow : OpenClaim := { program := "yteafapgnelhmmaa", sum := "2ade45207d65b87d63bff40b3bcbfb26191ef1c5d6c50e91414baebe8aa506e6", func := "loop.example/g01124/laws.FnExactAutomorphismFrom", spec := "fnExactAutomorphismFrom", unfollowed := true, recurses := true, apart := false }
def FnExactAutomorphismFromSaid : Prop := fnExactAutomorphismFromRow.holds Try.pinned (OpenSpec.ofChange fnExactAutomorphismFromSpec)

/-- ITS FALSE NEIGHBOUR: 'it returns false'. Refute it at one input. -/
def fnExactAutomorphismFromWrong : ChangeSpec := { name := "fnExactAutomorphismFrom", fn := fun _ => fun
  | [d1, d2] => { results := [.lit (.bool false)], args := [d1, d2] }
  | _ => none }
def FnExactAutomorphismFromWrongFalsely : Prop := fnExactAutomorphismFromRow.holds Try.pinned (OpenSpec.ofChange fnExactAutomorphismFromWrong)

/-- 'laws.FnExactIsSkewMatrix': WHATEVER THE INPUT: true; the input reads as it did. -/
def fnExactIsSkewMatrixSpec : ChangeSpec := { name := "fnExactIsSkewMatrix", fn := fun _ => fun
  | [d1, d2] => { results := [.lit (.bool true)], args := [d1, d2] }
  | _ => none }
def fnExactIsSkewMatrixRow : OpenClaim := { program := "yteafapgnelhmmaa", sum := "2ade45207d65b87d63bff40b3bcbfb26191ef1c5d6c50e91414baebe8aa506e6", func := "loop.example/g01124/laws.FnExactIsSkewMatrix", spec := "fnExactIsSkewMatrix", apart := false }
def FnExactIsSkewMatrixSaid : Prop := fnExactIsSkewMatrixRow.holds Try.pinned (OpenSpec.ofChange fnExactIsSkewMatrixSpec)

/-- ITS FALSE NEIGHBOUR: 'it returns false'. Refute it at one input. -/
def fnExactIsSkewMatrixWrong : ChangeSpec := { name := "fnExactIsSkewMatrix", fn := fun _ => fun
  | [d1, d2] => { results := [.lit (.bool false)], args := [d1, d2] }
  | _ => none }
def FnExactIsSkewMatrixWrongFalsely : Prop := fnExactIsSkewMatrixRow.holds Try.pinned (OpenSpec.ofChange fnExactIsSkewMatrixWrong)

/-- 'laws.FnExactMultiplyMatrices': WHATEVER THE INPUT: true; the input reads as it did. -/
def fnExactMultiplyMatricesSpec : ChangeSpec := { name := "fnExactMultiplyMatrices", fn := fun _ => fun
  | [d1, d2, d3] => { results := [.lit (.bool true)], args := [d1, d2, d3] }
  | _ => none }
def fnExactMultiplyMatricesRow : OpenClaim := { program := "yteafapgnelhmmaa", sum := "2ade45207d65b87d63bff40b3bcbfb26191ef1c5d6c50e91414baebe8aa506e6", func := "loop.example/g01124/laws.FnExactMultiplyMatrices", spec := "fnExactMultiplyMatrices", unfollowed := true, recurses := true, apart := false }
def FnExactMultiplyMatricesSaid : Prop := fnExactMultiplyMatricesRow.holds Try.pinned (OpenSpec.ofChange fnExactMultiplyMatricesSpec)

/-- ITS FALSE NEIGHBOUR: 'it returns false'. Refute it at one input. -/
def fnExactMultiplyMatricesWrong : ChangeSpec := { name := "fnExactMultiplyMatrices", fn := fun _ => fun
  | [d1, d2, d3] => { results := [.lit (.bool false)], args := [d1, d2, d3] }
  | _ => none }
def FnExactMultiplyMatricesWrongFalsely : Prop := fnExactMultiplyMatricesRow.holds Try.pinned (OpenSpec.ofChange fnExactMultiplyMatricesWrong)

/-- 'laws.FnExactLoopCentre': WHATEVER THE INPUT: true; the input reads as it did. -/
def fnExactLoopCentreSpec : ChangeSpec := { name := "fnExactLoopCentre", fn := fun _ => fun
  | [d] => { results := [.lit (.bool true)], args := [d] }
  | _ => none }
def fnExactLoopCentreRow : OpenClaim := { program := "yteafapgnelhmmaa", sum := "2ade45207d65b87d63bff40b3bcbfb26191ef1c5d6c50e91414baebe8aa506e6", func := "loop.example/g01124/laws.FnExactLoopCentre", spec := "fnExactLoopCentre", unfollowed := true, recurses := true, apart := false }
def FnExactLoopCentreSaid : Prop := fnExactLoopCentreRow.holds Try.pinned (OpenSpec.ofChange fnExactLoopCentreSpec)

/-- ITS FALSE NEIGHBOUR: 'it returns false'. Refute it at one input. -/
def fnExactLoopCentreWrong : ChangeSpec := { name := "fnExactLoopCentre", fn := fun _ => fun
  | [d] => { results := [.lit (.bool false)], args := [d] }
  | _ => none }
def FnExactLoopCentreWrongFalsely : Prop := fnExactLoopCentreRow.holds Try.pinned (OpenSpec.ofChange fnExactLoopCentreWrong)

/-- 'laws.FnExactRankOf': WHATEVER THE INPUT: true; the input reads as it did. -/
def fnExactRankOfSpec : ChangeSpec := { name := "fnExactRankOf", fn := fun _ => fun
  | [d1, d2] => { results := [.lit (.bool true)], args := [d1, d2] }
  | _ => none }
def fnExactRankOfRow : OpenClaim := { program := "yteafapgnelhmmaa", sum := "2ade45207d65b87d63bff40b3bcbfb26191ef1c5d6c50e91414baebe8aa506e6", func := "loop.example/g01124/laws.FnExactRankOf", spec := "fnExactRankOf", unfollowed := true, recurses := true, apart := false }
def FnExactRankOfSaid : Prop := fnExactRankOfRow.holds Try.pinned (OpenSpec.ofChange fnExactRankOfSpec)

/-- ITS FALSE NEIGHBOUR: 'it returns false'. Refute it at one input. -/
def fnExactRankOfWrong : ChangeSpec := { name := "fnExactRankOf", fn := fun _ => fun
  | [d1, d2] => { results := [.lit (.bool false)], args := [d1, d2] }
  | _ => none }
def FnExactRankOfWrongFalsely : Prop := fnExactRankOfRow.holds Try.pinned (OpenSpec.ofChange fnExactRankOfWrong)

/-- 'laws.FnExactDeterminant': WHATEVER THE INPUT: true; the input reads as it did. -/
def fnExactDeterminantSpec : ChangeSpec := { name := "fnExactDeterminant", fn := fun _ => fun
  | [d1, d2] => { results := [.lit (.bool true)], args := [d1, d2] }
  | _ => none }
def fnExactDeterminantRow : OpenClaim := { program := "yteafapgnelhmmaa", sum := "2ade45207d65b87d63bff40b3bcbfb26191ef1c5d6c50e91414baebe8aa506e6", func := "loop.example/g01124/laws.FnExactDeterminant", spec := "fnExactDeterminant", unfollowed := true, recurses := true, apart := false }
def FnExactDeterminantSaid : Prop := fnExactDeterminantRow.holds Try.pinned (OpenSpec.ofChange fnExactDeterminantSpec)

/-- ITS FALSE NEIGHBOUR: 'it returns false'. Refute it at one input. -/
def fnExactDeterminantWrong : ChangeSpec := { name := "fnExactDeterminant", fn := fun _ => fun
  | [d1, d2] => { results := [.lit (.bool false)], args := [d1, d2] }
  | _ => none }
def FnExactDeterminantWrongFalsely : Prop := fnExactDeterminantRow.holds Try.pinned (OpenSpec.ofChange fnExactDeterminantWrong)

/-- 'laws.FnExactBivectorOfMatrix': WHATEVER THE INPUT: true; the input reads as it did. -/
def fnExactBivectorOfMatrixSpec : ChangeSpec := { name := "fnExactBivectorOfMatrix", fn := fun _ => fun
  | [d1, d2] => { results := [.lit (.bool true)], args := [d1, d2] }
  | _ => none }
def fnExactBivectorOfMatrixRow : OpenClaim := { program := "yteafapgnelhmmaa", sum := "2ade45207d65b87d63bff40b3bcbfb26191ef1c5d6c50e91414baebe8aa506e6", func := "loop.example/g01124/laws.FnExactBivectorOfMatrix", spec := "fnExactBivectorOfMatrix", apart := false }
def FnExactBivectorOfMatrixSaid : Prop := fnExactBivectorOfMatrixRow.holds Try.pinned (OpenSpec.ofChange fnExactBivectorOfMatrixSpec)

/-- ITS FALSE NEIGHBOUR: 'it returns false'. Refute it at one input. -/
def fnExactBivectorOfMatrixWrong : ChangeSpec := { name := "fnExactBivectorOfMatrix", fn := fun _ => fun
  | [d1, d2] => { results := [.lit (.bool false)], args := [d1, d2] }
  | _ => none }
def FnExactBivectorOfMatrixWrongFalsely : Prop := fnExactBivectorOfMatrixRow.holds Try.pinned (OpenSpec.ofChange fnExactBivectorOfMatrixWrong)

/-- 'laws.FnSignedBases': WHATEVER THE INPUT: true; the input reads as it did. -/
def fnSignedBasesSpec : ChangeSpec := { name := "fnSignedBases", fn := fun _ => fun
  | [d] => { results := [.lit (.bool true)], args := [d] }
  | _ => none }
def fnSignedBasesRow : OpenClaim := { program := "yteafapgnelhmmaa", sum := "2ade45207d65b87d63bff40b3bcbfb26191ef1c5d6c50e91414baebe8aa506e6", func := "loop.example/g01124/laws.FnSignedBases", spec := "fnSignedBases", unfollowed := true, recurses := true, apart := false }
def FnSignedBasesSaid : Prop := fnSignedBasesRow.holds Try.pinned (OpenSpec.ofChange fnSignedBasesSpec)

/-- ITS FALSE NEIGHBOUR: 'it returns false'. Refute it at one input. -/
def fnSignedBasesWrong : ChangeSpec := { name := "fnSignedBases", fn := fun _ => fun
  | [d] => { results := [.lit (.bool false)], args := [d] }
  | _ => none }
def FnSignedBasesWrongFalsely : Prop := fnSignedBasesRow.holds Try.pinned (OpenSpec.ofChange fnSignedBasesWrong)

/-- 'laws.FnExactMatrixImage': WHATEVER THE INPUT: true; the input reads as it did. -/
def fnExactMatrixImageSpec : ChangeSpec := { name := "fnExactMatrixImage", fn := fun _ => fun
  | [d1, d2, d3] => { results := [.lit (.bool true)], args := [d1, d2, d3] }
  | _ => none }
def fnExactMatrixImageRow : OpenClaim := { program := "yteafapgnelhmmaa", sum := "2ade45207d65b87d63bff40b3bcbfb26191ef1c5d6c50e91414baebe8aa506e6", func := "loop.example/g01124/laws.FnExactMatrixImage", spec := "fnExactMatrixImage", unfollowed := true, recurses := true, apart := false }
def FnExactMatrixImageSaid : Prop := fnExactMatrixImageRow.holds Try.pinned (OpenSpec.ofChange fnExactMatrixImageSpec)

/-- ITS FALSE NEIGHBOUR: 'it returns false'. Refute it at one input. -/
def fnExactMatrixImageWrong : ChangeSpec := { name := "fnExactMatrixImage", fn := fun _ => fun
  | [d1, d2, d3] => { results := [.lit (.bool false)], args := [d1, d2, d3] }
  | _ => none }
def FnExactMatrixImageWrongFalsely : Prop := fnExactMatrixImageRow.holds Try.pinned (OpenSpec.ofChange fnExactMatrixImageWrong)

/-- 'laws.FnExactPowerMatrix': WHATEVER THE INPUT: true; the input reads as it did. -/
def fnExactPowerMatrixSpec : ChangeSpec := { name := "fnExactPowerMatrix", fn := fun _ => fun
  | [d1, d2, d3] => { results := [.lit (.bool true)], args := [d1, d2, d3] }
  | _ => none }
def fnExactPowerMatrixRow : OpenClaim := { program := "yteafapgnelhmmaa", sum := "2ade45207d65b87d63bff40b3bcbfb26191ef1c5d6c50e91414baebe8aa506e6", func := "loop.example/g01124/laws.FnExactPowerMatrix", spec := "fnExactPowerMatrix", unfollowed := true, recurses := true, apart := false }
def FnExactPowerMatrixSaid : Prop := fnExactPowerMatrixRow.holds Try.pinned (OpenSpec.ofChange fnExactPowerMatrixSpec)

/-- ITS FALSE NEIGHBOUR: 'it returns false'. Refute it at one input. -/
def fnExactPowerMatrixWrong : ChangeSpec := { name := "fnExactPowerMatrix", fn := fun _ => fun
  | [d1, d2, d3] => { results := [.lit (.bool false)], args := [d1, d2, d3] }
  | _ => none }
def FnExactPowerMatrixWrongFalsely : Prop := fnExactPowerMatrixRow.holds Try.pinned (OpenSpec.ofChange fnExactPowerMatrixWrong)

/-- 'laws.FnExactSignedBasis': WHATEVER THE INPUT: true; the input reads as it did. -/
def fnExactSignedBasisSpec : ChangeSpec := { name := "fnExactSignedBasis", fn := fun _ => fun
  | [d] => { results := [.lit (.bool true)], args := [d] }
  | _ => none }
def fnExactSignedBasisRow : OpenClaim := { program := "yteafapgnelhmmaa", sum := "2ade45207d65b87d63bff40b3bcbfb26191ef1c5d6c50e91414baebe8aa506e6", func := "loop.example/g01124/laws.FnExactSignedBasis", spec := "fnExactSignedBasis", unfollowed := true, recurses := true, apart := false }
def FnExactSignedBasisSaid : Prop := fnExactSignedBasisRow.holds Try.pinned (OpenSpec.ofChange fnExactSignedBasisSpec)

/-- ITS FALSE NEIGHBOUR: 'it returns false'. Refute it at one input. -/
def fnExactSignedBasisWrong : ChangeSpec := { name := "fnExactSignedBasis", fn := fun _ => fun
  | [d] => { results := [.lit (.bool false)], args := [d] }
  | _ => none }
def FnExactSignedBasisWrongFalsely : Prop := fnExactSignedBasisRow.holds Try.pinned (OpenSpec.ofChange fnExactSignedBasisWrong)

/-- 'laws.FnExactIsSkew': WHATEVER THE INPUT: true; the input reads as it did. -/
def fnExactIsSkewSpec : ChangeSpec := { name := "fnExactIsSkew", fn := fun _ => fun
  | [d1, d2] => { results := [.lit (.bool true)], args := [d1, d2] }
  | _ => none }
def fnExactIsSkewRow : OpenClaim := { program := "yteafapgnelhmmaa", sum := "2ade45207d65b87d63bff40b3bcbfb26191ef1c5d6c50e91414baebe8aa506e6", func := "loop.example/g01124/laws.FnExactIsSkew", spec := "fnExactIsSkew", unfollowed := true, recurses := true, apart := false }
def FnExactIsSkewSaid : Prop := fnExactIsSkewRow.holds Try.pinned (OpenSpec.ofChange fnExactIsSkewSpec)

/-- ITS FALSE NEIGHBOUR: 'it returns false'. Refute it at one input. -/
def fnExactIsSkewWrong : ChangeSpec := { name := "fnExactIsSkew", fn := fun _ => fun
  | [d1, d2] => { results := [.lit (.bool false)], args := [d1, d2] }
  | _ => none }
def FnExactIsSkewWrongFalsely : Prop := fnExactIsSkewRow.holds Try.pinned (OpenSpec.ofChange fnExactIsSkewWrong)

/- THE SECOND FORM. 'bulk': how many values and letters a reading holds, each counted each time it is reached (what is shared counts as often as it is met; a slice's spare places count too). A statement '..UptoSaid' is the law's where the arguments, and the package variables that the reading takes, are together of bulk at most 1048576: NARROWER than '..Said'. Prove '..Said' where nothing that the law and all that it calls make is longer than what came in: it says more and counts as full. Else prove '..UptoSaid'. A law counts once. -/
mutual
def uptoBulk {H : Type} : DataW H → Nat
  | .lit (.string bytes) => bytes.length + 1
  | .lit _ => 1
  | .nil => 1
  | .ptr d => uptoBulk d + 1
  | .slice elems spare => uptoBulkAll elems + uptoBulkAll spare + 1
  | .agg parts => uptoBulkAll parts + 1
  | .iface _ d => uptoBulk d + 1
  | .map entries => uptoBulkEntries entries + 1
  | .held _ => 1
def uptoBulkAll {H : Type} : List (DataW H) → Nat
  | [] => 0
  | d :: r => uptoBulk d + uptoBulkAll r
def uptoBulkEntries {H : Type} : List (Lit × DataW H) → Nat
  | [] => 0
  | x :: r => uptoBulkEntry x + uptoBulkEntries r
def uptoBulkEntry {H : Type} : Lit × DataW H → Nat
  | (.string bytes, d) => bytes.length + uptoBulk d + 1
  | (_, d) => uptoBulk d + 1
 end
def uptoSmall : (H : Type) → List (DataW H) → Bool := fun _ ds => decide (uptoBulkAll ds ≤ 1048576)
def OpenSpec.upto (s : _root_.Go.ChangeSpec) : _root_.Go.OpenSpec := { _root_.Go.OpenSpec.ofChange s with cond := some uptoSmall }

/-- 'laws.FnExactAutomorphismFrom', WHERE WHAT IT READS IS OF BULK AT MOST 1048576: true; the input reads as it did. -/
def fnExactAutomorphismFromUptoRow : OpenClaim := { program := "yteafapgnelhmmaa", sum := "2ade45207d65b87d63bff40b3bcbfb26191ef1c5d6c50e91414baebe8aa506e6", func := "loop.example/g01124/laws.FnExactAutomorphismFrom", spec := "fnExactAutomorphismFrom", unfollowed := true, recurses := true, apart := false, narrowed := true }
def FnExactAutomorphismFromUptoSaid : Prop := fnExactAutomorphismFromUptoRow.holds Try.pinned (OpenSpec.upto fnExactAutomorphismFromSpec)

/-- 'laws.FnExactIsSkewMatrix', WHERE WHAT IT READS IS OF BULK AT MOST 1048576: true; the input reads as it did. -/
def fnExactIsSkewMatrixUptoRow : OpenClaim := { program := "yteafapgnelhmmaa", sum := "2ade45207d65b87d63bff40b3bcbfb26191ef1c5d6c50e91414baebe8aa506e6", func := "loop.example/g01124/laws.FnExactIsSkewMatrix", spec := "fnExactIsSkewMatrix", apart := false, narrowed := true }
def FnExactIsSkewMatrixUptoSaid : Prop := fnExactIsSkewMatrixUptoRow.holds Try.pinned (OpenSpec.upto fnExactIsSkewMatrixSpec)

/-- 'laws.FnExactMultiplyMatrices', WHERE WHAT IT READS IS OF BULK AT MOST 1048576: true; the input reads as it did. -/
def fnExactMultiplyMatricesUptoRow : OpenClaim := { program := "yteafapgnelhmmaa", sum := "2ade45207d65b87d63bff40b3bcbfb26191ef1c5d6c50e91414baebe8aa506e6", func := "loop.example/g01124/laws.FnExactMultiplyMatrices", spec := "fnExactMultiplyMatrices", unfollowed := true, recurses := true, apart := false, narrowed := true }
def FnExactMultiplyMatricesUptoSaid : Prop := fnExactMultiplyMatricesUptoRow.holds Try.pinned (OpenSpec.upto fnExactMultiplyMatricesSpec)

/-- 'laws.FnExactLoopCentre', WHERE WHAT IT READS IS OF BULK AT MOST 1048576: true; the input reads as it did. -/
def fnExactLoopCentreUptoRow : OpenClaim := { program := "yteafapgnelhmmaa", sum := "2ade45207d65b87d63bff40b3bcbfb26191ef1c5d6c50e91414baebe8aa506e6", func := "loop.example/g01124/laws.FnExactLoopCentre", spec := "fnExactLoopCentre", unfollowed := true, recurses := true, apart := false, narrowed := true }
def FnExactLoopCentreUptoSaid : Prop := fnExactLoopCentreUptoRow.holds Try.pinned (OpenSpec.upto fnExactLoopCentreSpec)

/-- 'laws.FnExactRankOf', WHERE WHAT IT READS IS OF BULK AT MOST 1048576: true; the input reads as it did. -/
def fnExactRankOfUptoRow : OpenClaim := { program := "yteafapgnelhmmaa", sum := "2ade45207d65b87d63bff40b3bcbfb26191ef1c5d6c50e91414baebe8aa506e6", func := "loop.example/g01124/laws.FnExactRankOf", spec := "fnExactRankOf", unfollowed := true, recurses := true, apart := false, narrowed := true }
def FnExactRankOfUptoSaid : Prop := fnExactRankOfUptoRow.holds Try.pinned (OpenSpec.upto fnExactRankOfSpec)

/-- 'laws.FnExactDeterminant', WHERE WHAT IT READS IS OF BULK AT MOST 1048576: true; the input reads as it did. -/
def fnExactDeterminantUptoRow : OpenClaim := { program := "yteafapgnelhmmaa", sum := "2ade45207d65b87d63bff40b3bcbfb26191ef1c5d6c50e91414baebe8aa506e6", func := "loop.example/g01124/laws.FnExactDeterminant", spec := "fnExactDeterminant", unfollowed := true, recurses := true, apart := false, narrowed := true }
def FnExactDeterminantUptoSaid : Prop := fnExactDeterminantUptoRow.holds Try.pinned (OpenSpec.upto fnExactDeterminantSpec)

/-- 'laws.FnExactBivectorOfMatrix', WHERE WHAT IT READS IS OF BULK AT MOST 1048576: true; the input reads as it did. -/
def fnExactBivectorOfMatrixUptoRow : OpenClaim := { program := "yteafapgnelhmmaa", sum := "2ade45207d65b87d63bff40b3bcbfb26191ef1c5d6c50e91414baebe8aa506e6", func := "loop.example/g01124/laws.FnExactBivectorOfMatrix", spec := "fnExactBivectorOfMatrix", apart := false, narrowed := true }
def FnExactBivectorOfMatrixUptoSaid : Prop := fnExactBivectorOfMatrixUptoRow.holds Try.pinned (OpenSpec.upto fnExactBivectorOfMatrixSpec)

/-- 'laws.FnSignedBases', WHERE WHAT IT READS IS OF BULK AT MOST 1048576: true; the input reads as it did. -/
def fnSignedBasesUptoRow : OpenClaim := { program := "yteafapgnelhmmaa", sum := "2ade45207d65b87d63bff40b3bcbfb26191ef1c5d6c50e91414baebe8aa506e6", func := "loop.example/g01124/laws.FnSignedBases", spec := "fnSignedBases", unfollowed := true, recurses := true, apart := false, narrowed := true }
def FnSignedBasesUptoSaid : Prop := fnSignedBasesUptoRow.holds Try.pinned (OpenSpec.upto fnSignedBasesSpec)

/-- 'laws.FnExactMatrixImage', WHERE WHAT IT READS IS OF BULK AT MOST 1048576: true; the input reads as it did. -/
def fnExactMatrixImageUptoRow : OpenClaim := { program := "yteafapgnelhmmaa", sum := "2ade45207d65b87d63bff40b3bcbfb26191ef1c5d6c50e91414baebe8aa506e6", func := "loop.example/g01124/laws.FnExactMatrixImage", spec := "fnExactMatrixImage", unfollowed := true, recurses := true, apart := false, narrowed := true }
def FnExactMatrixImageUptoSaid : Prop := fnExactMatrixImageUptoRow.holds Try.pinned (OpenSpec.upto fnExactMatrixImageSpec)

/-- 'laws.FnExactPowerMatrix', WHERE WHAT IT READS IS OF BULK AT MOST 1048576: true; the input reads as it did. -/
def fnExactPowerMatrixUptoRow : OpenClaim := { program := "yteafapgnelhmmaa", sum := "2ade45207d65b87d63bff40b3bcbfb26191ef1c5d6c50e91414baebe8aa506e6", func := "loop.example/g01124/laws.FnExactPowerMatrix", spec := "fnExactPowerMatrix", unfollowed := true, recurses := true, apart := false, narrowed := true }
def FnExactPowerMatrixUptoSaid : Prop := fnExactPowerMatrixUptoRow.holds Try.pinned (OpenSpec.upto fnExactPowerMatrixSpec)

/-- 'laws.FnExactSignedBasis', WHERE WHAT IT READS IS OF BULK AT MOST 1048576: true; the input reads as it did. -/
def fnExactSignedBasisUptoRow : OpenClaim := { program := "yteafapgnelhmmaa", sum := "2ade45207d65b87d63bff40b3bcbfb26191ef1c5d6c50e91414baebe8aa506e6", func := "loop.example/g01124/laws.FnExactSignedBasis", spec := "fnExactSignedBasis", unfollowed := true, recurses := true, apart := false, narrowed := true }
def FnExactSignedBasisUptoSaid : Prop := fnExactSignedBasisUptoRow.holds Try.pinned (OpenSpec.upto fnExactSignedBasisSpec)

/-- 'laws.FnExactIsSkew', WHERE WHAT IT READS IS OF BULK AT MOST 1048576: true; the input reads as it did. -/
def fnExactIsSkewUptoRow : OpenClaim := { program := "yteafapgnelhmmaa", sum := "2ade45207d65b87d63bff40b3bcbfb26191ef1c5d6c50e91414baebe8aa506e6", func := "loop.example/g01124/laws.FnExactIsSkew", spec := "fnExactIsSkew", unfollowed := true, recurses := true, apart := false, narrowed := true }
def FnExactIsSkewUptoSaid : Prop := fnExactIsSkewUptoRow.holds Try.pinned (OpenSpec.upto fnExactIsSkewSpec)

end Rows
end Go.Proofs.Yteafapgnelhmmaa
