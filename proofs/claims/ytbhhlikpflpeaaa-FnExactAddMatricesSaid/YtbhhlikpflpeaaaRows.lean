/-
  No cell of these rows narrows 'for every input' (looked for: loops, veiled, ifaces, maps, wideKeys, modest, calm, conditions, laid).
  DERIVED. THE GIVEN ROWS OF THIS SEAT. 6 by the template 'for every input the law returns true; each argument reads behind the call as it read before'; 0 by the template 'total and deterministic' (their statements: YtbhhlikpflpeaaaTotals.lean).
  GIVEN WITH THE SEED: the statements are not yours to turn. If you find one false, say at which input.
  Laid BY PROGRAM, IN A SANDBOX (cutbox-rows.mjs): the forced cells as the released guide's own fill.sh prints them over the translation 141336941cea5161… (all of the seat's roots in one cut). By AI agents, Wed Nov 11 2026. No macro, syntax, notation, axiom, sorry.
-/
import Derived.Test.YtbhhlikpflpeaaaChecked
import GoSem.Claim
import GoSem.ClaimJoined
import GoSem.ClaimMapViews
import Derived.JoinedTies
import Derived.KernelRfl
namespace Go.Proofs.Ytbhhlikpflpeaaa
/- THE CELL 'sum', in the pinned program and in every row, IS THE sha256 OF THE DUMP (.gsa) THAT YtbhhlikpflpeaaaProg.lean LOADS. Nothing in Lean hashes anything: it is a label: what it is worth is what the hold of that sum in a sandbox is worth. -/
noncomputable def Try.pinned : Pinned := { name := "ytbhhlikpflpeaaa", sum := "141336941cea516107857b4d9a2cf224d8453bfa58b8019a00a748dcbdc9f8c6", checked := Try.checked }
namespace Rows
def none {H : Type} : Left H := { results := [], args := [] }

/-- 'laws.FnExactIsMatrix': WHATEVER THE INPUT: true; the input reads as it did. -/
def fnExactIsMatrixSpec : ChangeSpec := { name := "fnExactIsMatrix", fn := fun _ => fun
  | [d1, d2] => { results := [.lit (.bool true)], args := [d1, d2] }
  | _ => none }
def fnExactIsMatrixRow : OpenClaim := { program := "ytbhhlikpflpeaaa", sum := "141336941cea516107857b4d9a2cf224d8453bfa58b8019a00a748dcbdc9f8c6", func := "loop.example/g01124/laws.FnExactIsMatrix", spec := "fnExactIsMatrix", apart := false }
def FnExactIsMatrixSaid : Prop := fnExactIsMatrixRow.holds Try.pinned (OpenSpec.ofChange fnExactIsMatrixSpec)

/-- ITS FALSE NEIGHBOUR: 'it returns false'. Refute it at one input. -/
def fnExactIsMatrixWrong : ChangeSpec := { name := "fnExactIsMatrix", fn := fun _ => fun
  | [d1, d2] => { results := [.lit (.bool false)], args := [d1, d2] }
  | _ => none }
def FnExactIsMatrixWrongFalsely : Prop := fnExactIsMatrixRow.holds Try.pinned (OpenSpec.ofChange fnExactIsMatrixWrong)

/-- 'laws.FnExactTraceOf': WHATEVER THE INPUT: true; the input reads as it did. -/
def fnExactTraceOfSpec : ChangeSpec := { name := "fnExactTraceOf", fn := fun _ => fun
  | [d1, d2] => { results := [.lit (.bool true)], args := [d1, d2] }
  | _ => none }
def fnExactTraceOfRow : OpenClaim := { program := "ytbhhlikpflpeaaa", sum := "141336941cea516107857b4d9a2cf224d8453bfa58b8019a00a748dcbdc9f8c6", func := "loop.example/g01124/laws.FnExactTraceOf", spec := "fnExactTraceOf", unfollowed := true, recurses := true, apart := false }
def FnExactTraceOfSaid : Prop := fnExactTraceOfRow.holds Try.pinned (OpenSpec.ofChange fnExactTraceOfSpec)

/-- ITS FALSE NEIGHBOUR: 'it returns false'. Refute it at one input. -/
def fnExactTraceOfWrong : ChangeSpec := { name := "fnExactTraceOf", fn := fun _ => fun
  | [d1, d2] => { results := [.lit (.bool false)], args := [d1, d2] }
  | _ => none }
def FnExactTraceOfWrongFalsely : Prop := fnExactTraceOfRow.holds Try.pinned (OpenSpec.ofChange fnExactTraceOfWrong)

/-- 'laws.FnExactTransposeMatrix': WHATEVER THE INPUT: true; the input reads as it did. -/
def fnExactTransposeMatrixSpec : ChangeSpec := { name := "fnExactTransposeMatrix", fn := fun _ => fun
  | [d1, d2] => { results := [.lit (.bool true)], args := [d1, d2] }
  | _ => none }
def fnExactTransposeMatrixRow : OpenClaim := { program := "ytbhhlikpflpeaaa", sum := "141336941cea516107857b4d9a2cf224d8453bfa58b8019a00a748dcbdc9f8c6", func := "loop.example/g01124/laws.FnExactTransposeMatrix", spec := "fnExactTransposeMatrix", unfollowed := true, recurses := true, apart := false }
def FnExactTransposeMatrixSaid : Prop := fnExactTransposeMatrixRow.holds Try.pinned (OpenSpec.ofChange fnExactTransposeMatrixSpec)

/-- ITS FALSE NEIGHBOUR: 'it returns false'. Refute it at one input. -/
def fnExactTransposeMatrixWrong : ChangeSpec := { name := "fnExactTransposeMatrix", fn := fun _ => fun
  | [d1, d2] => { results := [.lit (.bool false)], args := [d1, d2] }
  | _ => none }
def FnExactTransposeMatrixWrongFalsely : Prop := fnExactTransposeMatrixRow.holds Try.pinned (OpenSpec.ofChange fnExactTransposeMatrixWrong)

/-- 'laws.FnExactApplyMatrix': WHATEVER THE INPUT: true; the input reads as it did. -/
def fnExactApplyMatrixSpec : ChangeSpec := { name := "fnExactApplyMatrix", fn := fun _ => fun
  | [d1, d2, d3] => { results := [.lit (.bool true)], args := [d1, d2, d3] }
  | _ => none }
def fnExactApplyMatrixRow : OpenClaim := { program := "ytbhhlikpflpeaaa", sum := "141336941cea516107857b4d9a2cf224d8453bfa58b8019a00a748dcbdc9f8c6", func := "loop.example/g01124/laws.FnExactApplyMatrix", spec := "fnExactApplyMatrix", unfollowed := true, recurses := true, apart := false }
def FnExactApplyMatrixSaid : Prop := fnExactApplyMatrixRow.holds Try.pinned (OpenSpec.ofChange fnExactApplyMatrixSpec)

/-- ITS FALSE NEIGHBOUR: 'it returns false'. Refute it at one input. -/
def fnExactApplyMatrixWrong : ChangeSpec := { name := "fnExactApplyMatrix", fn := fun _ => fun
  | [d1, d2, d3] => { results := [.lit (.bool false)], args := [d1, d2, d3] }
  | _ => none }
def FnExactApplyMatrixWrongFalsely : Prop := fnExactApplyMatrixRow.holds Try.pinned (OpenSpec.ofChange fnExactApplyMatrixWrong)

/-- 'laws.FnExactAddMatrices': WHATEVER THE INPUT: true; the input reads as it did. -/
def fnExactAddMatricesSpec : ChangeSpec := { name := "fnExactAddMatrices", fn := fun _ => fun
  | [d1, d2, d3] => { results := [.lit (.bool true)], args := [d1, d2, d3] }
  | _ => none }
def fnExactAddMatricesRow : OpenClaim := { program := "ytbhhlikpflpeaaa", sum := "141336941cea516107857b4d9a2cf224d8453bfa58b8019a00a748dcbdc9f8c6", func := "loop.example/g01124/laws.FnExactAddMatrices", spec := "fnExactAddMatrices", unfollowed := true, recurses := true, apart := false }
def FnExactAddMatricesSaid : Prop := fnExactAddMatricesRow.holds Try.pinned (OpenSpec.ofChange fnExactAddMatricesSpec)

/-- ITS FALSE NEIGHBOUR: 'it returns false'. Refute it at one input. -/
def fnExactAddMatricesWrong : ChangeSpec := { name := "fnExactAddMatrices", fn := fun _ => fun
  | [d1, d2, d3] => { results := [.lit (.bool false)], args := [d1, d2, d3] }
  | _ => none }
def FnExactAddMatricesWrongFalsely : Prop := fnExactAddMatricesRow.holds Try.pinned (OpenSpec.ofChange fnExactAddMatricesWrong)

/-- 'laws.FnExactScaleMatrix': WHATEVER THE INPUT: true; the input reads as it did. -/
def fnExactScaleMatrixSpec : ChangeSpec := { name := "fnExactScaleMatrix", fn := fun _ => fun
  | [d1, d2, d3] => { results := [.lit (.bool true)], args := [d1, d2, d3] }
  | _ => none }
def fnExactScaleMatrixRow : OpenClaim := { program := "ytbhhlikpflpeaaa", sum := "141336941cea516107857b4d9a2cf224d8453bfa58b8019a00a748dcbdc9f8c6", func := "loop.example/g01124/laws.FnExactScaleMatrix", spec := "fnExactScaleMatrix", unfollowed := true, recurses := true, apart := false }
def FnExactScaleMatrixSaid : Prop := fnExactScaleMatrixRow.holds Try.pinned (OpenSpec.ofChange fnExactScaleMatrixSpec)

/-- ITS FALSE NEIGHBOUR: 'it returns false'. Refute it at one input. -/
def fnExactScaleMatrixWrong : ChangeSpec := { name := "fnExactScaleMatrix", fn := fun _ => fun
  | [d1, d2, d3] => { results := [.lit (.bool false)], args := [d1, d2, d3] }
  | _ => none }
def FnExactScaleMatrixWrongFalsely : Prop := fnExactScaleMatrixRow.holds Try.pinned (OpenSpec.ofChange fnExactScaleMatrixWrong)

/- THE SECOND FORM. 'bulk': how many values and letters a reading holds, each counted each time it is reached (what is shared counts as often as it is met; a slice's spare places count too). A statement '..UptoSaid' is the law's where the arguments, and the package variables that the reading takes, are together of bulk at most 1048576: NARROWER than '..Said'. Prove '..Said' where nothing that the law and all that it calls make is longer than what came in: it says more and counts as full. Else prove '..UptoSaid'. A law counts once. -/
mutual
def uptoBulk {H : Type} : DataW H → Nat
  | .lit (.string bytes) => bytes.length + 1
  | .lit _ => 1
  | .nil => 1
  | .ptr d => uptoBulk d + 1
  | .slice elems spare => uptoBulkAll elems + uptoBulkAll spare + 1
  | .agg parts => uptoBulkAll parts + 1
  | .iface _ d => uptoBulk d + 1
  | .map entries => uptoBulkEntries entries + 1
  | .held _ => 1
def uptoBulkAll {H : Type} : List (DataW H) → Nat
  | [] => 0
  | d :: r => uptoBulk d + uptoBulkAll r
def uptoBulkEntries {H : Type} : List (Lit × DataW H) → Nat
  | [] => 0
  | x :: r => uptoBulkEntry x + uptoBulkEntries r
def uptoBulkEntry {H : Type} : Lit × DataW H → Nat
  | (.string bytes, d) => bytes.length + uptoBulk d + 1
  | (_, d) => uptoBulk d + 1
 end
def uptoSmall : (H : Type) → List (DataW H) → Bool := fun _ ds => decide (uptoBulkAll ds ≤ 1048576)
def OpenSpec.upto (s : _root_.Go.ChangeSpec) : _root_.Go.OpenSpec := { _root_.Go.OpenSpec.ofChange s with cond := some uptoSmall }

/-- 'laws.FnExactIsMatrix', WHERE WHAT IT READS IS OF BULK AT MOST 1048576: true; the input reads as it did. -/
def fnExactIsMatrixUptoRow : OpenClaim := { program := "ytbhhlikpflpeaaa", sum := "141336941cea516107857b4d9a2cf224d8453bfa58b8019a00a748dcbdc9f8c6", func := "loop.example/g01124/laws.FnExactIsMatrix", spec := "fnExactIsMatrix", apart := false, narrowed := true }
def FnExactIsMatrixUptoSaid : Prop := fnExactIsMatrixUptoRow.holds Try.pinned (OpenSpec.upto fnExactIsMatrixSpec)

/-- 'laws.FnExactTraceOf', WHERE WHAT IT READS IS OF BULK AT MOST 1048576: true; the input reads as it did. -/
def fnExactTraceOfUptoRow : OpenClaim := { program := "ytbhhlikpflpeaaa", sum := "141336941cea516107857b4d9a2cf224d8453bfa58b8019a00a748dcbdc9f8c6", func := "loop.example/g01124/laws.FnExactTraceOf", spec := "fnExactTraceOf", unfollowed := true, recurses := true, apart := false, narrowed := true }
def FnExactTraceOfUptoSaid : Prop := fnExactTraceOfUptoRow.holds Try.pinned (OpenSpec.upto fnExactTraceOfSpec)

/-- 'laws.FnExactTransposeMatrix', WHERE WHAT IT READS IS OF BULK AT MOST 1048576: true; the input reads as it did. -/
def fnExactTransposeMatrixUptoRow : OpenClaim := { program := "ytbhhlikpflpeaaa", sum := "141336941cea516107857b4d9a2cf224d8453bfa58b8019a00a748dcbdc9f8c6", func := "loop.example/g01124/laws.FnExactTransposeMatrix", spec := "fnExactTransposeMatrix", unfollowed := true, recurses := true, apart := false, narrowed := true }
def FnExactTransposeMatrixUptoSaid : Prop := fnExactTransposeMatrixUptoRow.holds Try.pinned (OpenSpec.upto fnExactTransposeMatrixSpec)

/-- 'laws.FnExactApplyMatrix', WHERE WHAT IT READS IS OF BULK AT MOST 1048576: true; the input reads as it did. -/
def fnExactApplyMatrixUptoRow : OpenClaim := { program := "ytbhhlikpflpeaaa", sum := "141336941cea516107857b4d9a2cf224d8453bfa58b8019a00a748dcbdc9f8c6", func := "loop.example/g01124/laws.FnExactApplyMatrix", spec := "fnExactApplyMatrix", unfollowed := true, recurses := true, apart := false, narrowed := true }
def FnExactApplyMatrixUptoSaid : Prop := fnExactApplyMatrixUptoRow.holds Try.pinned (OpenSpec.upto fnExactApplyMatrixSpec)

/-- 'laws.FnExactAddMatrices', WHERE WHAT IT READS IS OF BULK AT MOST 1048576: true; the input reads as it did. -/
def fnExactAddMatricesUptoRow : OpenClaim := { program := "ytbhhlikpflpeaaa", sum := "141336941cea516107857b4d9a2cf224d8453bfa58b8019a00a748dcbdc9f8c6", func := "loop.example/g01124/laws.FnExactAddMatrices", spec := "fnExactAddMatrices", unfollowed := true, recurses := true, apart := false, narrowed := true }
def FnExactAddMatricesUptoSaid : Prop := fnExactAddMatricesUptoRow.holds Try.pinned (OpenSpec.upto fnExactAddMatricesSpec)

/-- 'laws.FnExactScaleMatrix', WHERE WHAT IT READS IS OF BULK AT MOST 1048576: true; the input reads as it did. -/
def fnExactScaleMatrixUptoRow : OpenClaim := { program := "ytbhhlikpflpeaaa", sum := "141336941cea516107857b4d9a2cf224d8453bfa58b8019a00a748dcbdc9f8c6", func := "loop.example/g01124/laws.FnExactScaleMatrix", spec := "fnExactScaleMatrix", unfollowed := true, recurses := true, apart := false, narrowed := true }
def FnExactScaleMatrixUptoSaid : Prop := fnExactScaleMatrixUptoRow.holds Try.pinned (OpenSpec.upto fnExactScaleMatrixSpec)

end Rows
end Go.Proofs.Ytbhhlikpflpeaaa
