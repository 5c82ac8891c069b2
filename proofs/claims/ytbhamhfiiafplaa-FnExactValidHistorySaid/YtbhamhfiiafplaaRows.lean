/-
  No cell of these rows narrows 'for every input' (looked for: loops, veiled, ifaces, maps, wideKeys, modest, calm, conditions, laid).
  DERIVED. THE GIVEN ROWS OF THIS SEAT. 12 by the template 'for every input the law returns true; each argument reads behind the call as it read before'; 0 by the template 'total and deterministic' (their statements: YtbhamhfiiafplaaTotals.lean).
  GIVEN WITH THE SEED: the statements are not yours to turn. If you find one false, say at which input.
  Laid BY PROGRAM, IN A SANDBOX (cutbox-rows.mjs): the forced cells as the released guide's own fill.sh prints them over the translation d960408665203edb… (all of the seat's roots in one cut). By AI agents, Wed Nov 11 2026. No macro, syntax, notation, axiom, sorry.
-/
import Derived.Test.YtbhamhfiiafplaaChecked
import GoSem.Claim
import GoSem.ClaimJoined
import GoSem.ClaimMapViews
import Derived.JoinedTies
import Derived.KernelRfl
namespace Go.Proofs.Ytbhamhfiiafplaa
/- THE CELL 'sum', in the pinned program and in every row, IS THE sha256 OF THE DUMP (.gsa) THAT YtbhamhfiiafplaaProg.lean LOADS. Nothing in Lean hashes anything: it is a label: what it is worth is what the hold of that sum in a sandbox is worth. -/
noncomputable def Try.pinned : Pinned := { name := "ytbhamhfiiafplaa", sum := "d960408665203edbca11b8ffacfbcbb873402b7ade96dd0b7f03d635a5c6b217", checked := Try.checked }
namespace Rows
def none {H : Type} : Left H := { results := [], args := [] }

/-- 'laws.FnExactFirstToRunOut': WHATEVER THE INPUT: true; the input reads as it did. -/
def fnExactFirstToRunOutSpec : ChangeSpec := { name := "fnExactFirstToRunOut", fn := fun _ => fun
  | [d1, d2] => { results := [.lit (.bool true)], args := [d1, d2] }
  | _ => none }
def fnExactFirstToRunOutRow : OpenClaim := { program := "ytbhamhfiiafplaa", sum := "d960408665203edbca11b8ffacfbcbb873402b7ade96dd0b7f03d635a5c6b217", func := "loop.example/g01061/laws.FnExactFirstToRunOut", spec := "fnExactFirstToRunOut", apart := false }
def FnExactFirstToRunOutSaid : Prop := fnExactFirstToRunOutRow.holds Try.pinned (OpenSpec.ofChange fnExactFirstToRunOutSpec)

/-- ITS FALSE NEIGHBOUR: 'it returns false'. Refute it at one input. -/
def fnExactFirstToRunOutWrong : ChangeSpec := { name := "fnExactFirstToRunOut", fn := fun _ => fun
  | [d1, d2] => { results := [.lit (.bool false)], args := [d1, d2] }
  | _ => none }
def FnExactFirstToRunOutWrongFalsely : Prop := fnExactFirstToRunOutRow.holds Try.pinned (OpenSpec.ofChange fnExactFirstToRunOutWrong)

/-- 'laws.FnExactMixColours': WHATEVER THE INPUT: true; the input reads as it did. -/
def fnExactMixColoursSpec : ChangeSpec := { name := "fnExactMixColours", fn := fun _ => fun
  | [d1, d2] => { results := [.lit (.bool true)], args := [d1, d2] }
  | _ => none }
def fnExactMixColoursRow : OpenClaim := { program := "ytbhamhfiiafplaa", sum := "d960408665203edbca11b8ffacfbcbb873402b7ade96dd0b7f03d635a5c6b217", func := "loop.example/g01061/laws.FnExactMixColours", spec := "fnExactMixColours", apart := false }
def FnExactMixColoursSaid : Prop := fnExactMixColoursRow.holds Try.pinned (OpenSpec.ofChange fnExactMixColoursSpec)

/-- ITS FALSE NEIGHBOUR: 'it returns false'. Refute it at one input. -/
def fnExactMixColoursWrong : ChangeSpec := { name := "fnExactMixColours", fn := fun _ => fun
  | [d1, d2] => { results := [.lit (.bool false)], args := [d1, d2] }
  | _ => none }
def FnExactMixColoursWrongFalsely : Prop := fnExactMixColoursRow.holds Try.pinned (OpenSpec.ofChange fnExactMixColoursWrong)

/-- 'laws.FnExactLowGoods': WHATEVER THE INPUT: true; the input reads as it did. -/
def fnExactLowGoodsSpec : ChangeSpec := { name := "fnExactLowGoods", fn := fun _ => fun
  | [d] => { results := [.lit (.bool true)], args := [d] }
  | _ => none }
def fnExactLowGoodsRow : OpenClaim := { program := "ytbhamhfiiafplaa", sum := "d960408665203edbca11b8ffacfbcbb873402b7ade96dd0b7f03d635a5c6b217", func := "loop.example/g01061/laws.FnExactLowGoods", spec := "fnExactLowGoods", apart := false }
def FnExactLowGoodsSaid : Prop := fnExactLowGoodsRow.holds Try.pinned (OpenSpec.ofChange fnExactLowGoodsSpec)

/-- ITS FALSE NEIGHBOUR: 'it returns false'. Refute it at one input. -/
def fnExactLowGoodsWrong : ChangeSpec := { name := "fnExactLowGoods", fn := fun _ => fun
  | [d] => { results := [.lit (.bool false)], args := [d] }
  | _ => none }
def FnExactLowGoodsWrongFalsely : Prop := fnExactLowGoodsRow.holds Try.pinned (OpenSpec.ofChange fnExactLowGoodsWrong)

/-- 'laws.FnExactReorderOf': WHATEVER THE INPUT: true; the input reads as it did. -/
def fnExactReorderOfSpec : ChangeSpec := { name := "fnExactReorderOf", fn := fun _ => fun
  | [d] => { results := [.lit (.bool true)], args := [d] }
  | _ => none }
def fnExactReorderOfRow : OpenClaim := { program := "ytbhamhfiiafplaa", sum := "d960408665203edbca11b8ffacfbcbb873402b7ade96dd0b7f03d635a5c6b217", func := "loop.example/g01061/laws.FnExactReorderOf", spec := "fnExactReorderOf", apart := false }
def FnExactReorderOfSaid : Prop := fnExactReorderOfRow.holds Try.pinned (OpenSpec.ofChange fnExactReorderOfSpec)

/-- ITS FALSE NEIGHBOUR: 'it returns false'. Refute it at one input. -/
def fnExactReorderOfWrong : ChangeSpec := { name := "fnExactReorderOf", fn := fun _ => fun
  | [d] => { results := [.lit (.bool false)], args := [d] }
  | _ => none }
def FnExactReorderOfWrongFalsely : Prop := fnExactReorderOfRow.holds Try.pinned (OpenSpec.ofChange fnExactReorderOfWrong)

/-- 'laws.FnExactOwnerIn': WHATEVER THE INPUT: true; the input reads as it did. -/
def fnExactOwnerInSpec : ChangeSpec := { name := "fnExactOwnerIn", fn := fun _ => fun
  | [d1, d2, d3] => { results := [.lit (.bool true)], args := [d1, d2, d3] }
  | _ => none }
def fnExactOwnerInRow : OpenClaim := { program := "ytbhamhfiiafplaa", sum := "d960408665203edbca11b8ffacfbcbb873402b7ade96dd0b7f03d635a5c6b217", func := "loop.example/g01061/laws.FnExactOwnerIn", spec := "fnExactOwnerIn", apart := false }
def FnExactOwnerInSaid : Prop := fnExactOwnerInRow.holds Try.pinned (OpenSpec.ofChange fnExactOwnerInSpec)

/-- ITS FALSE NEIGHBOUR: 'it returns false'. Refute it at one input. -/
def fnExactOwnerInWrong : ChangeSpec := { name := "fnExactOwnerIn", fn := fun _ => fun
  | [d1, d2, d3] => { results := [.lit (.bool false)], args := [d1, d2, d3] }
  | _ => none }
def FnExactOwnerInWrongFalsely : Prop := fnExactOwnerInRow.holds Try.pinned (OpenSpec.ofChange fnExactOwnerInWrong)

/-- 'laws.FnExactFreeFrom': WHATEVER THE INPUT: true; the input reads as it did. -/
def fnExactFreeFromSpec : ChangeSpec := { name := "fnExactFreeFrom", fn := fun _ => fun
  | [d1, d2, d3, d4] => { results := [.lit (.bool true)], args := [d1, d2, d3, d4] }
  | _ => none }
def fnExactFreeFromRow : OpenClaim := { program := "ytbhamhfiiafplaa", sum := "d960408665203edbca11b8ffacfbcbb873402b7ade96dd0b7f03d635a5c6b217", func := "loop.example/g01061/laws.FnExactFreeFrom", spec := "fnExactFreeFrom", apart := false }
def FnExactFreeFromSaid : Prop := fnExactFreeFromRow.holds Try.pinned (OpenSpec.ofChange fnExactFreeFromSpec)

/-- ITS FALSE NEIGHBOUR: 'it returns false'. Refute it at one input. -/
def fnExactFreeFromWrong : ChangeSpec := { name := "fnExactFreeFrom", fn := fun _ => fun
  | [d1, d2, d3, d4] => { results := [.lit (.bool false)], args := [d1, d2, d3, d4] }
  | _ => none }
def FnExactFreeFromWrongFalsely : Prop := fnExactFreeFromRow.holds Try.pinned (OpenSpec.ofChange fnExactFreeFromWrong)

/-- 'laws.FnExactDryingDays': WHATEVER THE INPUT: true; the input reads as it did. -/
def fnExactDryingDaysSpec : ChangeSpec := { name := "fnExactDryingDays", fn := fun _ => fun
  | [d1, d2] => { results := [.lit (.bool true)], args := [d1, d2] }
  | _ => none }
def fnExactDryingDaysRow : OpenClaim := { program := "ytbhamhfiiafplaa", sum := "d960408665203edbca11b8ffacfbcbb873402b7ade96dd0b7f03d635a5c6b217", func := "loop.example/g01061/laws.FnExactDryingDays", spec := "fnExactDryingDays", apart := false }
def FnExactDryingDaysSaid : Prop := fnExactDryingDaysRow.holds Try.pinned (OpenSpec.ofChange fnExactDryingDaysSpec)

/-- ITS FALSE NEIGHBOUR: 'it returns false'. Refute it at one input. -/
def fnExactDryingDaysWrong : ChangeSpec := { name := "fnExactDryingDays", fn := fun _ => fun
  | [d1, d2] => { results := [.lit (.bool false)], args := [d1, d2] }
  | _ => none }
def FnExactDryingDaysWrongFalsely : Prop := fnExactDryingDaysRow.holds Try.pinned (OpenSpec.ofChange fnExactDryingDaysWrong)

/-- 'laws.FnExactValidHistory': WHATEVER THE INPUT: true; the input reads as it did. -/
def fnExactValidHistorySpec : ChangeSpec := { name := "fnExactValidHistory", fn := fun _ => fun
  | [d] => { results := [.lit (.bool true)], args := [d] }
  | _ => none }
def fnExactValidHistoryRow : OpenClaim := { program := "ytbhamhfiiafplaa", sum := "d960408665203edbca11b8ffacfbcbb873402b7ade96dd0b7f03d635a5c6b217", func := "loop.example/g01061/laws.FnExactValidHistory", spec := "fnExactValidHistory", apart := false }
def FnExactValidHistorySaid : Prop := fnExactValidHistoryRow.holds Try.pinned (OpenSpec.ofChange fnExactValidHistorySpec)

/-- ITS FALSE NEIGHBOUR: 'it returns false'. Refute it at one input. -/
def fnExactValidHistoryWrong : ChangeSpec := { name := "fnExactValidHistory", fn := fun _ => fun
  | [d] => { results := [.lit (.bool false)], args := [d] }
  | _ => none }
def FnExactValidHistoryWrongFalsely : Prop := fnExactValidHistoryRow.holds Try.pinned (OpenSpec.ofChange fnExactValidHistoryWrong)

/-- 'laws.FnExactKeepsWorks': WHATEVER THE INPUT: true; the input reads as it did. -/
def fnExactKeepsWorksSpec : ChangeSpec := { name := "fnExactKeepsWorks", fn := fun _ => fun
  | [d1, d2] => { results := [.lit (.bool true)], args := [d1, d2] }
  | _ => none }
def fnExactKeepsWorksRow : OpenClaim := { program := "ytbhamhfiiafplaa", sum := "d960408665203edbca11b8ffacfbcbb873402b7ade96dd0b7f03d635a5c6b217", func := "loop.example/g01061/laws.FnExactKeepsWorks", spec := "fnExactKeepsWorks", apart := false }
def FnExactKeepsWorksSaid : Prop := fnExactKeepsWorksRow.holds Try.pinned (OpenSpec.ofChange fnExactKeepsWorksSpec)

/-- ITS FALSE NEIGHBOUR: 'it returns false'. Refute it at one input. -/
def fnExactKeepsWorksWrong : ChangeSpec := { name := "fnExactKeepsWorks", fn := fun _ => fun
  | [d1, d2] => { results := [.lit (.bool false)], args := [d1, d2] }
  | _ => none }
def FnExactKeepsWorksWrongFalsely : Prop := fnExactKeepsWorksRow.holds Try.pinned (OpenSpec.ofChange fnExactKeepsWorksWrong)

/-- 'laws.FnExactFewestCoats': WHATEVER THE INPUT: true; the input reads as it did. -/
def fnExactFewestCoatsSpec : ChangeSpec := { name := "fnExactFewestCoats", fn := fun _ => fun
  | [d1, d2, d3, d4] => { results := [.lit (.bool true)], args := [d1, d2, d3, d4] }
  | _ => none }
def fnExactFewestCoatsRow : OpenClaim := { program := "ytbhamhfiiafplaa", sum := "d960408665203edbca11b8ffacfbcbb873402b7ade96dd0b7f03d635a5c6b217", func := "loop.example/g01061/laws.FnExactFewestCoats", spec := "fnExactFewestCoats", apart := false }
def FnExactFewestCoatsSaid : Prop := fnExactFewestCoatsRow.holds Try.pinned (OpenSpec.ofChange fnExactFewestCoatsSpec)

/-- ITS FALSE NEIGHBOUR: 'it returns false'. Refute it at one input. -/
def fnExactFewestCoatsWrong : ChangeSpec := { name := "fnExactFewestCoats", fn := fun _ => fun
  | [d1, d2, d3, d4] => { results := [.lit (.bool false)], args := [d1, d2, d3, d4] }
  | _ => none }
def FnExactFewestCoatsWrongFalsely : Prop := fnExactFewestCoatsRow.holds Try.pinned (OpenSpec.ofChange fnExactFewestCoatsWrong)

/-- 'laws.FnExactLongestHold': WHATEVER THE INPUT: true; the input reads as it did. -/
def fnExactLongestHoldSpec : ChangeSpec := { name := "fnExactLongestHold", fn := fun _ => fun
  | [d1, d2] => { results := [.lit (.bool true)], args := [d1, d2] }
  | _ => none }
def fnExactLongestHoldRow : OpenClaim := { program := "ytbhamhfiiafplaa", sum := "d960408665203edbca11b8ffacfbcbb873402b7ade96dd0b7f03d635a5c6b217", func := "loop.example/g01061/laws.FnExactLongestHold", spec := "fnExactLongestHold", apart := false }
def FnExactLongestHoldSaid : Prop := fnExactLongestHoldRow.holds Try.pinned (OpenSpec.ofChange fnExactLongestHoldSpec)

/-- ITS FALSE NEIGHBOUR: 'it returns false'. Refute it at one input. -/
def fnExactLongestHoldWrong : ChangeSpec := { name := "fnExactLongestHold", fn := fun _ => fun
  | [d1, d2] => { results := [.lit (.bool false)], args := [d1, d2] }
  | _ => none }
def FnExactLongestHoldWrongFalsely : Prop := fnExactLongestHoldRow.holds Try.pinned (OpenSpec.ofChange fnExactLongestHoldWrong)

/-- 'laws.FnExactShiftModes': WHATEVER THE INPUT: true; the input reads as it did. -/
def fnExactShiftModesSpec : ChangeSpec := { name := "fnExactShiftModes", fn := fun _ => fun
  | [d1, d2] => { results := [.lit (.bool true)], args := [d1, d2] }
  | _ => none }
def fnExactShiftModesRow : OpenClaim := { program := "ytbhamhfiiafplaa", sum := "d960408665203edbca11b8ffacfbcbb873402b7ade96dd0b7f03d635a5c6b217", func := "loop.example/g01061/laws.FnExactShiftModes", spec := "fnExactShiftModes", apart := false }
def FnExactShiftModesSaid : Prop := fnExactShiftModesRow.holds Try.pinned (OpenSpec.ofChange fnExactShiftModesSpec)

/-- ITS FALSE NEIGHBOUR: 'it returns false'. Refute it at one input. -/
def fnExactShiftModesWrong : ChangeSpec := { name := "fnExactShiftModes", fn := fun _ => fun
  | [d1, d2] => { results := [.lit (.bool false)], args := [d1, d2] }
  | _ => none }
def FnExactShiftModesWrongFalsely : Prop := fnExactShiftModesRow.holds Try.pinned (OpenSpec.ofChange fnExactShiftModesWrong)

/- THE SECOND FORM. 'bulk': how many values and letters a reading holds, each counted each time it is reached (what is shared counts as often as it is met; a slice's spare places count too). A statement '..UptoSaid' is the law's where the arguments, and the package variables that the reading takes, are together of bulk at most 1048576: NARROWER than '..Said'. Prove '..Said' where nothing that the law and all that it calls make is longer than what came in: it says more and counts as full. Else prove '..UptoSaid'. A law counts once. -/
mutual
def uptoBulk {H : Type} : DataW H → Nat
  | .lit (.string bytes) => bytes.length + 1
  | .lit _ => 1
  | .nil => 1
  | .ptr d => uptoBulk d + 1
  | .slice elems spare => uptoBulkAll elems + uptoBulkAll spare + 1
  | .agg parts => uptoBulkAll parts + 1
  | .iface _ d => uptoBulk d + 1
  | .map entries => uptoBulkEntries entries + 1
  | .held _ => 1
def uptoBulkAll {H : Type} : List (DataW H) → Nat
  | [] => 0
  | d :: r => uptoBulk d + uptoBulkAll r
def uptoBulkEntries {H : Type} : List (Lit × DataW H) → Nat
  | [] => 0
  | x :: r => uptoBulkEntry x + uptoBulkEntries r
def uptoBulkEntry {H : Type} : Lit × DataW H → Nat
  | (.string bytes, d) => bytes.length + uptoBulk d + 1
  | (_, d) => uptoBulk d + 1
 end
def uptoSmall : (H : Type) → List (DataW H) → Bool := fun _ ds => decide (uptoBulkAll ds ≤ 1048576)
def OpenSpec.upto (s : _root_.Go.ChangeSpec) : _root_.Go.OpenSpec := { _root_.Go.OpenSpec.ofChange s with cond := some uptoSmall }

/-- 'laws.FnExactFirstToRunOut', WHERE WHAT IT READS IS OF BULK AT MOST 1048576: true; the input reads as it did. -/
def fnExactFirstToRunOutUptoRow : OpenClaim := { program := "ytbhamhfiiafplaa", sum := "d960408665203edbca11b8ffacfbcbb873402b7ade96dd0b7f03d635a5c6b217", func := "loop.example/g01061/laws.FnExactFirstToRunOut", spec := "fnExactFirstToRunOut", apart := false, narrowed := true }
def FnExactFirstToRunOutUptoSaid : Prop := fnExactFirstToRunOutUptoRow.holds Try.pinned (OpenSpec.upto fnExactFirstToRunOutSpec)

/-- 'laws.FnExactMixColours', WHERE WHAT IT READS IS OF BULK AT MOST 1048576: true; the input reads as it did. -/
def fnExactMixColoursUptoRow : OpenClaim := { program := "ytbhamhfiiafplaa", sum := "d960408665203edbca11b8ffacfbcbb873402b7ade96dd0b7f03d635a5c6b217", func := "loop.example/g01061/laws.FnExactMixColours", spec := "fnExactMixColours", apart := false, narrowed := true }
def FnExactMixColoursUptoSaid : Prop := fnExactMixColoursUptoRow.holds Try.pinned (OpenSpec.upto fnExactMixColoursSpec)

/-- 'laws.FnExactLowGoods', WHERE WHAT IT READS IS OF BULK AT MOST 1048576: true; the input reads as it did. -/
def fnExactLowGoodsUptoRow : OpenClaim := { program := "ytbhamhfiiafplaa", sum := "d960408665203edbca11b8ffacfbcbb873402b7ade96dd0b7f03d635a5c6b217", func := "loop.example/g01061/laws.FnExactLowGoods", spec := "fnExactLowGoods", apart := false, narrowed := true }
def FnExactLowGoodsUptoSaid : Prop := fnExactLowGoodsUptoRow.holds Try.pinned (OpenSpec.upto fnExactLowGoodsSpec)

/-- 'laws.FnExactReorderOf', WHERE WHAT IT READS IS OF BULK AT MOST 1048576: true; the input reads as it did. -/
def fnExactReorderOfUptoRow : OpenClaim := { program := "ytbhamhfiiafplaa", sum := "d960408665203edbca11b8ffacfbcbb873402b7ade96dd0b7f03d635a5c6b217", func := "loop.example/g01061/laws.FnExactReorderOf", spec := "fnExactReorderOf", apart := false, narrowed := true }
def FnExactReorderOfUptoSaid : Prop := fnExactReorderOfUptoRow.holds Try.pinned (OpenSpec.upto fnExactReorderOfSpec)

/-- 'laws.FnExactOwnerIn', WHERE WHAT IT READS IS OF BULK AT MOST 1048576: true; the input reads as it did. -/
def fnExactOwnerInUptoRow : OpenClaim := { program := "ytbhamhfiiafplaa", sum := "d960408665203edbca11b8ffacfbcbb873402b7ade96dd0b7f03d635a5c6b217", func := "loop.example/g01061/laws.FnExactOwnerIn", spec := "fnExactOwnerIn", apart := false, narrowed := true }
def FnExactOwnerInUptoSaid : Prop := fnExactOwnerInUptoRow.holds Try.pinned (OpenSpec.upto fnExactOwnerInSpec)

/-- 'laws.FnExactFreeFrom', WHERE WHAT IT READS IS OF BULK AT MOST 1048576: true; the input reads as it did. -/
def fnExactFreeFromUptoRow : OpenClaim := { program := "ytbhamhfiiafplaa", sum := "d960408665203edbca11b8ffacfbcbb873402b7ade96dd0b7f03d635a5c6b217", func := "loop.example/g01061/laws.FnExactFreeFrom", spec := "fnExactFreeFrom", apart := false, narrowed := true }
def FnExactFreeFromUptoSaid : Prop := fnExactFreeFromUptoRow.holds Try.pinned (OpenSpec.upto fnExactFreeFromSpec)

/-- 'laws.FnExactDryingDays', WHERE WHAT IT READS IS OF BULK AT MOST 1048576: true; the input reads as it did. -/
def fnExactDryingDaysUptoRow : OpenClaim := { program := "ytbhamhfiiafplaa", sum := "d960408665203edbca11b8ffacfbcbb873402b7ade96dd0b7f03d635a5c6b217", func := "loop.example/g01061/laws.FnExactDryingDays", spec := "fnExactDryingDays", apart := false, narrowed := true }
def FnExactDryingDaysUptoSaid : Prop := fnExactDryingDaysUptoRow.holds Try.pinned (OpenSpec.upto fnExactDryingDaysSpec)

/-- 'laws.FnExactValidHistory', WHERE WHAT IT READS IS OF BULK AT MOST 1048576: true; the input reads as it did. -/
def fnExactValidHistoryUptoRow : OpenClaim := { program := "ytbhamhfiiafplaa", sum := "d960408665203edbca11b8ffacfbcbb873402b7ade96dd0b7f03d635a5c6b217", func := "loop.example/g01061/laws.FnExactValidHistory", spec := "fnExactValidHistory", apart := false, narrowed := true }
def FnExactValidHistoryUptoSaid : Prop := fnExactValidHistoryUptoRow.holds Try.pinned (OpenSpec.upto fnExactValidHistorySpec)

/-- 'laws.FnExactKeepsWorks', WHERE WHAT IT READS IS OF BULK AT MOST 1048576: true; the input reads as it did. -/
def fnExactKeepsWorksUptoRow : OpenClaim := { program := "ytbhamhfiiafplaa", sum := "d960408665203edbca11b8ffacfbcbb873402b7ade96dd0b7f03d635a5c6b217", func := "loop.example/g01061/laws.FnExactKeepsWorks", spec := "fnExactKeepsWorks", apart := false, narrowed := true }
def FnExactKeepsWorksUptoSaid : Prop := fnExactKeepsWorksUptoRow.holds Try.pinned (OpenSpec.upto fnExactKeepsWorksSpec)

/-- 'laws.FnExactFewestCoats', WHERE WHAT IT READS IS OF BULK AT MOST 1048576: true; the input reads as it did. -/
def fnExactFewestCoatsUptoRow : OpenClaim := { program := "ytbhamhfiiafplaa", sum := "d960408665203edbca11b8ffacfbcbb873402b7ade96dd0b7f03d635a5c6b217", func := "loop.example/g01061/laws.FnExactFewestCoats", spec := "fnExactFewestCoats", apart := false, narrowed := true }
def FnExactFewestCoatsUptoSaid : Prop := fnExactFewestCoatsUptoRow.holds Try.pinned (OpenSpec.upto fnExactFewestCoatsSpec)

/-- 'laws.FnExactLongestHold', WHERE WHAT IT READS IS OF BULK AT MOST 1048576: true; the input reads as it did. -/
def fnExactLongestHoldUptoRow : OpenClaim := { program := "ytbhamhfiiafplaa", sum := "d960408665203edbca11b8ffacfbcbb873402b7ade96dd0b7f03d635a5c6b217", func := "loop.example/g01061/laws.FnExactLongestHold", spec := "fnExactLongestHold", apart := false, narrowed := true }
def FnExactLongestHoldUptoSaid : Prop := fnExactLongestHoldUptoRow.holds Try.pinned (OpenSpec.upto fnExactLongestHoldSpec)

/-- 'laws.FnExactShiftModes', WHERE WHAT IT READS IS OF BULK AT MOST 1048576: true; the input reads as it did. -/
def fnExactShiftModesUptoRow : OpenClaim := { program := "ytbhamhfiiafplaa", sum := "d960408665203edbca11b8ffacfbcbb873402b7ade96dd0b7f03d635a5c6b217", func := "loop.example/g01061/laws.FnExactShiftModes", spec := "fnExactShiftModes", apart := false, narrowed := true }
def FnExactShiftModesUptoSaid : Prop := fnExactShiftModesUptoRow.holds Try.pinned (OpenSpec.upto fnExactShiftModesSpec)

end Rows
end Go.Proofs.Ytbhamhfiiafplaa
