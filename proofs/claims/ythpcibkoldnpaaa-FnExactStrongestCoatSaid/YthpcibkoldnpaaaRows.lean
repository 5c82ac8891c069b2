/-
  No cell of these rows narrows 'for every input' (looked for: loops, veiled, ifaces, maps, wideKeys, modest, calm, conditions, laid).
  DERIVED. THE GIVEN ROWS OF THIS SEAT. 12 by the template 'for every input the law returns true; each argument reads behind the call as it read before'; 0 by the template 'total and deterministic' (their statements: YthpcibkoldnpaaaTotals.lean).
  GIVEN WITH THE SEED: the statements are not yours to turn. If you find one false, say at which input.
  Laid BY PROGRAM, IN A SANDBOX (cutbox-rows.mjs): the forced cells as the released guide's own fill.sh prints them over the translation e6f80367fdbdd133… (all of the seat's roots in one cut). By AI agents, Wed Nov 11 2026. No macro, syntax, notation, axiom, sorry.
-/
import Derived.Test.YthpcibkoldnpaaaChecked
import GoSem.Claim
import GoSem.ClaimJoined
import GoSem.ClaimMapViews
import Derived.JoinedTies
import Derived.KernelRfl
namespace Go.Proofs.Ythpcibkoldnpaaa
/- THE CELL 'sum', in the pinned program and in every row, IS THE sha256 OF THE DUMP (.gsa) THAT YthpcibkoldnpaaaProg.lean LOADS. Nothing in Lean hashes anything: it is a label: what it is worth is what the hold of that sum in a sandbox is worth. -/
noncomputable def Try.pinned : Pinned := { name := "ythpcibkoldnpaaa", sum := "e6f80367fdbdd133ae84990d057b65160b4720c91ba80eb901bff09db2e7c52a", checked := Try.checked }
namespace Rows
def none {H : Type} : Left H := { results := [], args := [] }

/-- 'laws.FnExactLowestOf': WHATEVER THE INPUT: true; the input reads as it did. -/
def fnExactLowestOfSpec : ChangeSpec := { name := "fnExactLowestOf", fn := fun _ => fun
  | [d1, d2] => { results := [.lit (.bool true)], args := [d1, d2] }
  | _ => none }
def fnExactLowestOfRow : OpenClaim := { program := "ythpcibkoldnpaaa", sum := "e6f80367fdbdd133ae84990d057b65160b4720c91ba80eb901bff09db2e7c52a", func := "loop.example/g01061/laws.FnExactLowestOf", spec := "fnExactLowestOf", apart := false }
def FnExactLowestOfSaid : Prop := fnExactLowestOfRow.holds Try.pinned (OpenSpec.ofChange fnExactLowestOfSpec)

/-- ITS FALSE NEIGHBOUR: 'it returns false'. Refute it at one input. -/
def fnExactLowestOfWrong : ChangeSpec := { name := "fnExactLowestOf", fn := fun _ => fun
  | [d1, d2] => { results := [.lit (.bool false)], args := [d1, d2] }
  | _ => none }
def FnExactLowestOfWrongFalsely : Prop := fnExactLowestOfRow.holds Try.pinned (OpenSpec.ofChange fnExactLowestOfWrong)

/-- 'laws.FnExactMoveOutline': WHATEVER THE INPUT: true; the input reads as it did. -/
def fnExactMoveOutlineSpec : ChangeSpec := { name := "fnExactMoveOutline", fn := fun _ => fun
  | [d1, d2, d3] => { results := [.lit (.bool true)], args := [d1, d2, d3] }
  | _ => none }
def fnExactMoveOutlineRow : OpenClaim := { program := "ythpcibkoldnpaaa", sum := "e6f80367fdbdd133ae84990d057b65160b4720c91ba80eb901bff09db2e7c52a", func := "loop.example/g01061/laws.FnExactMoveOutline", spec := "fnExactMoveOutline", apart := false }
def FnExactMoveOutlineSaid : Prop := fnExactMoveOutlineRow.holds Try.pinned (OpenSpec.ofChange fnExactMoveOutlineSpec)

/-- ITS FALSE NEIGHBOUR: 'it returns false'. Refute it at one input. -/
def fnExactMoveOutlineWrong : ChangeSpec := { name := "fnExactMoveOutline", fn := fun _ => fun
  | [d1, d2, d3] => { results := [.lit (.bool false)], args := [d1, d2, d3] }
  | _ => none }
def FnExactMoveOutlineWrongFalsely : Prop := fnExactMoveOutlineRow.holds Try.pinned (OpenSpec.ofChange fnExactMoveOutlineWrong)

/-- 'laws.FnExactCornersOf': WHATEVER THE INPUT: true; the input reads as it did. -/
def fnExactCornersOfSpec : ChangeSpec := { name := "fnExactCornersOf", fn := fun _ => fun
  | [d] => { results := [.lit (.bool true)], args := [d] }
  | _ => none }
def fnExactCornersOfRow : OpenClaim := { program := "ythpcibkoldnpaaa", sum := "e6f80367fdbdd133ae84990d057b65160b4720c91ba80eb901bff09db2e7c52a", func := "loop.example/g01061/laws.FnExactCornersOf", spec := "fnExactCornersOf", apart := false }
def FnExactCornersOfSaid : Prop := fnExactCornersOfRow.holds Try.pinned (OpenSpec.ofChange fnExactCornersOfSpec)

/-- ITS FALSE NEIGHBOUR: 'it returns false'. Refute it at one input. -/
def fnExactCornersOfWrong : ChangeSpec := { name := "fnExactCornersOf", fn := fun _ => fun
  | [d] => { results := [.lit (.bool false)], args := [d] }
  | _ => none }
def FnExactCornersOfWrongFalsely : Prop := fnExactCornersOfRow.holds Try.pinned (OpenSpec.ofChange fnExactCornersOfWrong)

/-- 'laws.FnExactCreditOf': WHATEVER THE INPUT: true; the input reads as it did. -/
def fnExactCreditOfSpec : ChangeSpec := { name := "fnExactCreditOf", fn := fun _ => fun
  | [d1, d2, d3, d4] => { results := [.lit (.bool true)], args := [d1, d2, d3, d4] }
  | _ => none }
def fnExactCreditOfRow : OpenClaim := { program := "ythpcibkoldnpaaa", sum := "e6f80367fdbdd133ae84990d057b65160b4720c91ba80eb901bff09db2e7c52a", func := "loop.example/g01061/laws.FnExactCreditOf", spec := "fnExactCreditOf", unfollowed := true, recurses := true, apart := false }
def FnExactCreditOfSaid : Prop := fnExactCreditOfRow.holds Try.pinned (OpenSpec.ofChange fnExactCreditOfSpec)

/-- ITS FALSE NEIGHBOUR: 'it returns false'. Refute it at one input. -/
def fnExactCreditOfWrong : ChangeSpec := { name := "fnExactCreditOf", fn := fun _ => fun
  | [d1, d2, d3, d4] => { results := [.lit (.bool false)], args := [d1, d2, d3, d4] }
  | _ => none }
def FnExactCreditOfWrongFalsely : Prop := fnExactCreditOfRow.holds Try.pinned (OpenSpec.ofChange fnExactCreditOfWrong)

/-- 'laws.FnExactStrongestCoat': WHATEVER THE INPUT: true; the input reads as it did. -/
def fnExactStrongestCoatSpec : ChangeSpec := { name := "fnExactStrongestCoat", fn := fun _ => fun
  | [d] => { results := [.lit (.bool true)], args := [d] }
  | _ => none }
def fnExactStrongestCoatRow : OpenClaim := { program := "ythpcibkoldnpaaa", sum := "e6f80367fdbdd133ae84990d057b65160b4720c91ba80eb901bff09db2e7c52a", func := "loop.example/g01061/laws.FnExactStrongestCoat", spec := "fnExactStrongestCoat", apart := false }
def FnExactStrongestCoatSaid : Prop := fnExactStrongestCoatRow.holds Try.pinned (OpenSpec.ofChange fnExactStrongestCoatSpec)

/-- ITS FALSE NEIGHBOUR: 'it returns false'. Refute it at one input. -/
def fnExactStrongestCoatWrong : ChangeSpec := { name := "fnExactStrongestCoat", fn := fun _ => fun
  | [d] => { results := [.lit (.bool false)], args := [d] }
  | _ => none }
def FnExactStrongestCoatWrongFalsely : Prop := fnExactStrongestCoatRow.holds Try.pinned (OpenSpec.ofChange fnExactStrongestCoatWrong)

/-- 'laws.FnExactLooseDays': WHATEVER THE INPUT: true; the input reads as it did. -/
def fnExactLooseDaysSpec : ChangeSpec := { name := "fnExactLooseDays", fn := fun _ => fun
  | [d] => { results := [.lit (.bool true)], args := [d] }
  | _ => none }
def fnExactLooseDaysRow : OpenClaim := { program := "ythpcibkoldnpaaa", sum := "e6f80367fdbdd133ae84990d057b65160b4720c91ba80eb901bff09db2e7c52a", func := "loop.example/g01061/laws.FnExactLooseDays", spec := "fnExactLooseDays", apart := false }
def FnExactLooseDaysSaid : Prop := fnExactLooseDaysRow.holds Try.pinned (OpenSpec.ofChange fnExactLooseDaysSpec)

/-- ITS FALSE NEIGHBOUR: 'it returns false'. Refute it at one input. -/
def fnExactLooseDaysWrong : ChangeSpec := { name := "fnExactLooseDays", fn := fun _ => fun
  | [d] => { results := [.lit (.bool false)], args := [d] }
  | _ => none }
def FnExactLooseDaysWrongFalsely : Prop := fnExactLooseDaysRow.holds Try.pinned (OpenSpec.ofChange fnExactLooseDaysWrong)

/-- 'laws.FnExactCanBuild': WHATEVER THE INPUT: true; the input reads as it did. -/
def fnExactCanBuildSpec : ChangeSpec := { name := "fnExactCanBuild", fn := fun _ => fun
  | [d1, d2, d3] => { results := [.lit (.bool true)], args := [d1, d2, d3] }
  | _ => none }
def fnExactCanBuildRow : OpenClaim := { program := "ythpcibkoldnpaaa", sum := "e6f80367fdbdd133ae84990d057b65160b4720c91ba80eb901bff09db2e7c52a", func := "loop.example/g01061/laws.FnExactCanBuild", spec := "fnExactCanBuild", unfollowed := true, recurses := true, apart := false }
def FnExactCanBuildSaid : Prop := fnExactCanBuildRow.holds Try.pinned (OpenSpec.ofChange fnExactCanBuildSpec)

/-- ITS FALSE NEIGHBOUR: 'it returns false'. Refute it at one input. -/
def fnExactCanBuildWrong : ChangeSpec := { name := "fnExactCanBuild", fn := fun _ => fun
  | [d1, d2, d3] => { results := [.lit (.bool false)], args := [d1, d2, d3] }
  | _ => none }
def FnExactCanBuildWrongFalsely : Prop := fnExactCanBuildRow.holds Try.pinned (OpenSpec.ofChange fnExactCanBuildWrong)

/-- 'laws.FnExactByKinds': WHATEVER THE INPUT: true; the input reads as it did. -/
def fnExactByKindsSpec : ChangeSpec := { name := "fnExactByKinds", fn := fun _ => fun
  | [d] => { results := [.lit (.bool true)], args := [d] }
  | _ => none }
def fnExactByKindsRow : OpenClaim := { program := "ythpcibkoldnpaaa", sum := "e6f80367fdbdd133ae84990d057b65160b4720c91ba80eb901bff09db2e7c52a", func := "loop.example/g01061/laws.FnExactByKinds", spec := "fnExactByKinds", apart := false }
def FnExactByKindsSaid : Prop := fnExactByKindsRow.holds Try.pinned (OpenSpec.ofChange fnExactByKindsSpec)

/-- ITS FALSE NEIGHBOUR: 'it returns false'. Refute it at one input. -/
def fnExactByKindsWrong : ChangeSpec := { name := "fnExactByKinds", fn := fun _ => fun
  | [d] => { results := [.lit (.bool false)], args := [d] }
  | _ => none }
def FnExactByKindsWrongFalsely : Prop := fnExactByKindsRow.holds Try.pinned (OpenSpec.ofChange fnExactByKindsWrong)

/-- 'laws.FnExactMovedPart': WHATEVER THE INPUT: true; the input reads as it did. -/
def fnExactMovedPartSpec : ChangeSpec := { name := "fnExactMovedPart", fn := fun _ => fun
  | [d1, d2, d3] => { results := [.lit (.bool true)], args := [d1, d2, d3] }
  | _ => none }
def fnExactMovedPartRow : OpenClaim := { program := "ythpcibkoldnpaaa", sum := "e6f80367fdbdd133ae84990d057b65160b4720c91ba80eb901bff09db2e7c52a", func := "loop.example/g01061/laws.FnExactMovedPart", spec := "fnExactMovedPart", apart := false }
def FnExactMovedPartSaid : Prop := fnExactMovedPartRow.holds Try.pinned (OpenSpec.ofChange fnExactMovedPartSpec)

/-- ITS FALSE NEIGHBOUR: 'it returns false'. Refute it at one input. -/
def fnExactMovedPartWrong : ChangeSpec := { name := "fnExactMovedPart", fn := fun _ => fun
  | [d1, d2, d3] => { results := [.lit (.bool false)], args := [d1, d2, d3] }
  | _ => none }
def FnExactMovedPartWrongFalsely : Prop := fnExactMovedPartRow.holds Try.pinned (OpenSpec.ofChange fnExactMovedPartWrong)

/-- 'laws.FnExactWithoutPart': WHATEVER THE INPUT: true; the input reads as it did. -/
def fnExactWithoutPartSpec : ChangeSpec := { name := "fnExactWithoutPart", fn := fun _ => fun
  | [d1, d2] => { results := [.lit (.bool true)], args := [d1, d2] }
  | _ => none }
def fnExactWithoutPartRow : OpenClaim := { program := "ythpcibkoldnpaaa", sum := "e6f80367fdbdd133ae84990d057b65160b4720c91ba80eb901bff09db2e7c52a", func := "loop.example/g01061/laws.FnExactWithoutPart", spec := "fnExactWithoutPart", apart := false }
def FnExactWithoutPartSaid : Prop := fnExactWithoutPartRow.holds Try.pinned (OpenSpec.ofChange fnExactWithoutPartSpec)

/-- ITS FALSE NEIGHBOUR: 'it returns false'. Refute it at one input. -/
def fnExactWithoutPartWrong : ChangeSpec := { name := "fnExactWithoutPart", fn := fun _ => fun
  | [d1, d2] => { results := [.lit (.bool false)], args := [d1, d2] }
  | _ => none }
def FnExactWithoutPartWrongFalsely : Prop := fnExactWithoutPartRow.holds Try.pinned (OpenSpec.ofChange fnExactWithoutPartWrong)

/-- 'laws.FnExactAgrees': WHATEVER THE INPUT: true; the input reads as it did. -/
def fnExactAgreesSpec : ChangeSpec := { name := "fnExactAgrees", fn := fun _ => fun
  | [d1, d2] => { results := [.lit (.bool true)], args := [d1, d2] }
  | _ => none }
def fnExactAgreesRow : OpenClaim := { program := "ythpcibkoldnpaaa", sum := "e6f80367fdbdd133ae84990d057b65160b4720c91ba80eb901bff09db2e7c52a", func := "loop.example/g01061/laws.FnExactAgrees", spec := "fnExactAgrees", unfollowed := true, recurses := true, apart := false }
def FnExactAgreesSaid : Prop := fnExactAgreesRow.holds Try.pinned (OpenSpec.ofChange fnExactAgreesSpec)

/-- ITS FALSE NEIGHBOUR: 'it returns false'. Refute it at one input. -/
def fnExactAgreesWrong : ChangeSpec := { name := "fnExactAgrees", fn := fun _ => fun
  | [d1, d2] => { results := [.lit (.bool false)], args := [d1, d2] }
  | _ => none }
def FnExactAgreesWrongFalsely : Prop := fnExactAgreesRow.holds Try.pinned (OpenSpec.ofChange fnExactAgreesWrong)

/-- 'laws.FnExactBlocksAt': WHATEVER THE INPUT: true; the input reads as it did. -/
def fnExactBlocksAtSpec : ChangeSpec := { name := "fnExactBlocksAt", fn := fun _ => fun
  | [d1, d2] => { results := [.lit (.bool true)], args := [d1, d2] }
  | _ => none }
def fnExactBlocksAtRow : OpenClaim := { program := "ythpcibkoldnpaaa", sum := "e6f80367fdbdd133ae84990d057b65160b4720c91ba80eb901bff09db2e7c52a", func := "loop.example/g01061/laws.FnExactBlocksAt", spec := "fnExactBlocksAt", apart := false }
def FnExactBlocksAtSaid : Prop := fnExactBlocksAtRow.holds Try.pinned (OpenSpec.ofChange fnExactBlocksAtSpec)

/-- ITS FALSE NEIGHBOUR: 'it returns false'. Refute it at one input. -/
def fnExactBlocksAtWrong : ChangeSpec := { name := "fnExactBlocksAt", fn := fun _ => fun
  | [d1, d2] => { results := [.lit (.bool false)], args := [d1, d2] }
  | _ => none }
def FnExactBlocksAtWrongFalsely : Prop := fnExactBlocksAtRow.holds Try.pinned (OpenSpec.ofChange fnExactBlocksAtWrong)

/- THE SECOND FORM. 'bulk': how many values and letters a reading holds, each counted each time it is reached (what is shared counts as often as it is met; a slice's spare places count too). A statement '..UptoSaid' is the law's where the arguments, and the package variables that the reading takes, are together of bulk at most 1048576: NARROWER than '..Said'. Prove '..Said' where nothing that the law and all that it calls make is longer than what came in: it says more and counts as full. Else prove '..UptoSaid'. A law counts once. -/
mutual
def uptoBulk {H : Type} : DataW H → Nat
  | .lit (.string bytes) => bytes.length + 1
  | .lit _ => 1
  | .nil => 1
  | .ptr d => uptoBulk d + 1
  | .slice elems spare => uptoBulkAll elems + uptoBulkAll spare + 1
  | .agg parts => uptoBulkAll parts + 1
  | .iface _ d => uptoBulk d + 1
  | .map entries => uptoBulkEntries entries + 1
  | .held _ => 1
def uptoBulkAll {H : Type} : List (DataW H) → Nat
  | [] => 0
  | d :: r => uptoBulk d + uptoBulkAll r
def uptoBulkEntries {H : Type} : List (Lit × DataW H) → Nat
  | [] => 0
  | x :: r => uptoBulkEntry x + uptoBulkEntries r
def uptoBulkEntry {H : Type} : Lit × DataW H → Nat
  | (.string bytes, d) => bytes.length + uptoBulk d + 1
  | (_, d) => uptoBulk d + 1
 end
def uptoSmall : (H : Type) → List (DataW H) → Bool := fun _ ds => decide (uptoBulkAll ds ≤ 1048576)
def OpenSpec.upto (s : _root_.Go.ChangeSpec) : _root_.Go.OpenSpec := { _root_.Go.OpenSpec.ofChange s with cond := some uptoSmall }

/-- 'laws.FnExactLowestOf', WHERE WHAT IT READS IS OF BULK AT MOST 1048576: true; the input reads as it did. -/
def fnExactLowestOfUptoRow : OpenClaim := { program := "ythpcibkoldnpaaa", sum := "e6f80367fdbdd133ae84990d057b65160b4720c91ba80eb901bff09db2e7c52a", func := "loop.example/g01061/laws.FnExactLowestOf", spec := "fnExactLowestOf", apart := false, narrowed := true }
def FnExactLowestOfUptoSaid : Prop := fnExactLowestOfUptoRow.holds Try.pinned (OpenSpec.upto fnExactLowestOfSpec)

/-- 'laws.FnExactMoveOutline', WHERE WHAT IT READS IS OF BULK AT MOST 1048576: true; the input reads as it did. -/
def fnExactMoveOutlineUptoRow : OpenClaim := { program := "ythpcibkoldnpaaa", sum := "e6f80367fdbdd133ae84990d057b65160b4720c91ba80eb901bff09db2e7c52a", func := "loop.example/g01061/laws.FnExactMoveOutline", spec := "fnExactMoveOutline", apart := false, narrowed := true }
def FnExactMoveOutlineUptoSaid : Prop := fnExactMoveOutlineUptoRow.holds Try.pinned (OpenSpec.upto fnExactMoveOutlineSpec)

/-- 'laws.FnExactCornersOf', WHERE WHAT IT READS IS OF BULK AT MOST 1048576: true; the input reads as it did. -/
def fnExactCornersOfUptoRow : OpenClaim := { program := "ythpcibkoldnpaaa", sum := "e6f80367fdbdd133ae84990d057b65160b4720c91ba80eb901bff09db2e7c52a", func := "loop.example/g01061/laws.FnExactCornersOf", spec := "fnExactCornersOf", apart := false, narrowed := true }
def FnExactCornersOfUptoSaid : Prop := fnExactCornersOfUptoRow.holds Try.pinned (OpenSpec.upto fnExactCornersOfSpec)

/-- 'laws.FnExactCreditOf', WHERE WHAT IT READS IS OF BULK AT MOST 1048576: true; the input reads as it did. -/
def fnExactCreditOfUptoRow : OpenClaim := { program := "ythpcibkoldnpaaa", sum := "e6f80367fdbdd133ae84990d057b65160b4720c91ba80eb901bff09db2e7c52a", func := "loop.example/g01061/laws.FnExactCreditOf", spec := "fnExactCreditOf", unfollowed := true, recurses := true, apart := false, narrowed := true }
def FnExactCreditOfUptoSaid : Prop := fnExactCreditOfUptoRow.holds Try.pinned (OpenSpec.upto fnExactCreditOfSpec)

/-- 'laws.FnExactStrongestCoat', WHERE WHAT IT READS IS OF BULK AT MOST 1048576: true; the input reads as it did. -/
def fnExactStrongestCoatUptoRow : OpenClaim := { program := "ythpcibkoldnpaaa", sum := "e6f80367fdbdd133ae84990d057b65160b4720c91ba80eb901bff09db2e7c52a", func := "loop.example/g01061/laws.FnExactStrongestCoat", spec := "fnExactStrongestCoat", apart := false, narrowed := true }
def FnExactStrongestCoatUptoSaid : Prop := fnExactStrongestCoatUptoRow.holds Try.pinned (OpenSpec.upto fnExactStrongestCoatSpec)

/-- 'laws.FnExactLooseDays', WHERE WHAT IT READS IS OF BULK AT MOST 1048576: true; the input reads as it did. -/
def fnExactLooseDaysUptoRow : OpenClaim := { program := "ythpcibkoldnpaaa", sum := "e6f80367fdbdd133ae84990d057b65160b4720c91ba80eb901bff09db2e7c52a", func := "loop.example/g01061/laws.FnExactLooseDays", spec := "fnExactLooseDays", apart := false, narrowed := true }
def FnExactLooseDaysUptoSaid : Prop := fnExactLooseDaysUptoRow.holds Try.pinned (OpenSpec.upto fnExactLooseDaysSpec)

/-- 'laws.FnExactCanBuild', WHERE WHAT IT READS IS OF BULK AT MOST 1048576: true; the input reads as it did. -/
def fnExactCanBuildUptoRow : OpenClaim := { program := "ythpcibkoldnpaaa", sum := "e6f80367fdbdd133ae84990d057b65160b4720c91ba80eb901bff09db2e7c52a", func := "loop.example/g01061/laws.FnExactCanBuild", spec := "fnExactCanBuild", unfollowed := true, recurses := true, apart := false, narrowed := true }
def FnExactCanBuildUptoSaid : Prop := fnExactCanBuildUptoRow.holds Try.pinned (OpenSpec.upto fnExactCanBuildSpec)

/-- 'laws.FnExactByKinds', WHERE WHAT IT READS IS OF BULK AT MOST 1048576: true; the input reads as it did. -/
def fnExactByKindsUptoRow : OpenClaim := { program := "ythpcibkoldnpaaa", sum := "e6f80367fdbdd133ae84990d057b65160b4720c91ba80eb901bff09db2e7c52a", func := "loop.example/g01061/laws.FnExactByKinds", spec := "fnExactByKinds", apart := false, narrowed := true }
def FnExactByKindsUptoSaid : Prop := fnExactByKindsUptoRow.holds Try.pinned (OpenSpec.upto fnExactByKindsSpec)

/-- 'laws.FnExactMovedPart', WHERE WHAT IT READS IS OF BULK AT MOST 1048576: true; the input reads as it did. -/
def fnExactMovedPartUptoRow : OpenClaim := { program := "ythpcibkoldnpaaa", sum := "e6f80367fdbdd133ae84990d057b65160b4720c91ba80eb901bff09db2e7c52a", func := "loop.example/g01061/laws.FnExactMovedPart", spec := "fnExactMovedPart", apart := false, narrowed := true }
def FnExactMovedPartUptoSaid : Prop := fnExactMovedPartUptoRow.holds Try.pinned (OpenSpec.upto fnExactMovedPartSpec)

/-- 'laws.FnExactWithoutPart', WHERE WHAT IT READS IS OF BULK AT MOST 1048576: true; the input reads as it did. -/
def fnExactWithoutPartUptoRow : OpenClaim := { program := "ythpcibkoldnpaaa", sum := "e6f80367fdbdd133ae84990d057b65160b4720c91ba80eb901bff09db2e7c52a", func := "loop.example/g01061/laws.FnExactWithoutPart", spec := "fnExactWithoutPart", apart := false, narrowed := true }
def FnExactWithoutPartUptoSaid : Prop := fnExactWithoutPartUptoRow.holds Try.pinned (OpenSpec.upto fnExactWithoutPartSpec)

/-- 'laws.FnExactAgrees', WHERE WHAT IT READS IS OF BULK AT MOST 1048576: true; the input reads as it did. -/
def fnExactAgreesUptoRow : OpenClaim := { program := "ythpcibkoldnpaaa", sum := "e6f80367fdbdd133ae84990d057b65160b4720c91ba80eb901bff09db2e7c52a", func := "loop.example/g01061/laws.FnExactAgrees", spec := "fnExactAgrees", unfollowed := true, recurses := true, apart := false, narrowed := true }
def FnExactAgreesUptoSaid : Prop := fnExactAgreesUptoRow.holds Try.pinned (OpenSpec.upto fnExactAgreesSpec)

/-- 'laws.FnExactBlocksAt', WHERE WHAT IT READS IS OF BULK AT MOST 1048576: true; the input reads as it did. -/
def fnExactBlocksAtUptoRow : OpenClaim := { program := "ythpcibkoldnpaaa", sum := "e6f80367fdbdd133ae84990d057b65160b4720c91ba80eb901bff09db2e7c52a", func := "loop.example/g01061/laws.FnExactBlocksAt", spec := "fnExactBlocksAt", apart := false, narrowed := true }
def FnExactBlocksAtUptoSaid : Prop := fnExactBlocksAtUptoRow.holds Try.pinned (OpenSpec.upto fnExactBlocksAtSpec)

end Rows
end Go.Proofs.Ythpcibkoldnpaaa
