/-
  No cell of these rows narrows 'for every input' (looked for: loops, veiled, ifaces, maps, wideKeys, modest, calm, conditions, laid).
  DERIVED. THE GIVEN ROWS OF THIS SEAT. 12 by the template 'for every input the law returns true; each argument reads behind the call as it read before'; 0 by the template 'total and deterministic' (their statements: YtlhklicpibipaaaTotals.lean).
  GIVEN WITH THE SEED: the statements are not yours to turn. If you find one false, say at which input.
  Laid BY PROGRAM, IN A SANDBOX (cutbox-rows.mjs): the forced cells as the released guide's own fill.sh prints them over the translation 929f3d8bc3795e71… (all of the seat's roots in one cut). By AI agents, Wed Nov 11 2026. No macro, syntax, notation, axiom, sorry.
-/
import Derived.Test.YtlhklicpibipaaaChecked
import GoSem.Claim
import GoSem.ClaimJoined
import GoSem.ClaimMapViews
import Derived.JoinedTies
import Derived.KernelRfl
namespace Go.Proofs.Ytlhklicpibipaaa
/- THE CELL 'sum', in the pinned program and in every row, IS THE sha256 OF THE DUMP (.gsa) THAT YtlhklicpibipaaaProg.lean LOADS. Nothing in Lean hashes anything: it is a label: what it is worth is what the hold of that sum in a sandbox is worth. -/
noncomputable def Try.pinned : Pinned := { name := "ytlhklicpibipaaa", sum := "929f3d8bc3795e7126e146a6b2916a370a2e24cb3773fdd311fbb2f4d82f674e", checked := Try.checked }
namespace Rows
def none {H : Type} : Left H := { results := [], args := [] }

/-- 'laws.FnExactStretchRibs': WHATEVER THE INPUT: true; the input reads as it did. -/
def fnExactStretchRibsSpec : ChangeSpec := { name := "fnExactStretchRibs", fn := fun _ => fun
  | [d1, d2] => { results := [.lit (.bool true)], args := [d1, d2] }
  | _ => none }
def fnExactStretchRibsRow : OpenClaim := { program := "ytlhklicpibipaaa", sum := "929f3d8bc3795e7126e146a6b2916a370a2e24cb3773fdd311fbb2f4d82f674e", func := "loop.example/g01061/laws.FnExactStretchRibs", spec := "fnExactStretchRibs", apart := false }
def FnExactStretchRibsSaid : Prop := fnExactStretchRibsRow.holds Try.pinned (OpenSpec.ofChange fnExactStretchRibsSpec)

/-- ITS FALSE NEIGHBOUR: 'it returns false'. Refute it at one input. -/
def fnExactStretchRibsWrong : ChangeSpec := { name := "fnExactStretchRibs", fn := fun _ => fun
  | [d1, d2] => { results := [.lit (.bool false)], args := [d1, d2] }
  | _ => none }
def FnExactStretchRibsWrongFalsely : Prop := fnExactStretchRibsRow.holds Try.pinned (OpenSpec.ofChange fnExactStretchRibsWrong)

/-- 'laws.FnExactStagesFor': WHATEVER THE INPUT: true; the input reads as it did. -/
def fnExactStagesForSpec : ChangeSpec := { name := "fnExactStagesFor", fn := fun _ => fun
  | [d1, d2, d3] => { results := [.lit (.bool true)], args := [d1, d2, d3] }
  | _ => none }
def fnExactStagesForRow : OpenClaim := { program := "ytlhklicpibipaaa", sum := "929f3d8bc3795e7126e146a6b2916a370a2e24cb3773fdd311fbb2f4d82f674e", func := "loop.example/g01061/laws.FnExactStagesFor", spec := "fnExactStagesFor", apart := false }
def FnExactStagesForSaid : Prop := fnExactStagesForRow.holds Try.pinned (OpenSpec.ofChange fnExactStagesForSpec)

/-- ITS FALSE NEIGHBOUR: 'it returns false'. Refute it at one input. -/
def fnExactStagesForWrong : ChangeSpec := { name := "fnExactStagesFor", fn := fun _ => fun
  | [d1, d2, d3] => { results := [.lit (.bool false)], args := [d1, d2, d3] }
  | _ => none }
def FnExactStagesForWrongFalsely : Prop := fnExactStagesForRow.holds Try.pinned (OpenSpec.ofChange fnExactStagesForWrong)

/-- 'laws.FnExactActiveOn': WHATEVER THE INPUT: true; the input reads as it did. -/
def fnExactActiveOnSpec : ChangeSpec := { name := "fnExactActiveOn", fn := fun _ => fun
  | [d1, d2] => { results := [.lit (.bool true)], args := [d1, d2] }
  | _ => none }
def fnExactActiveOnRow : OpenClaim := { program := "ytlhklicpibipaaa", sum := "929f3d8bc3795e7126e146a6b2916a370a2e24cb3773fdd311fbb2f4d82f674e", func := "loop.example/g01061/laws.FnExactActiveOn", spec := "fnExactActiveOn", apart := false }
def FnExactActiveOnSaid : Prop := fnExactActiveOnRow.holds Try.pinned (OpenSpec.ofChange fnExactActiveOnSpec)

/-- ITS FALSE NEIGHBOUR: 'it returns false'. Refute it at one input. -/
def fnExactActiveOnWrong : ChangeSpec := { name := "fnExactActiveOn", fn := fun _ => fun
  | [d1, d2] => { results := [.lit (.bool false)], args := [d1, d2] }
  | _ => none }
def FnExactActiveOnWrongFalsely : Prop := fnExactActiveOnRow.holds Try.pinned (OpenSpec.ofChange fnExactActiveOnWrong)

/-- 'laws.FnExactWolfNotes': WHATEVER THE INPUT: true; the input reads as it did. -/
def fnExactWolfNotesSpec : ChangeSpec := { name := "fnExactWolfNotes", fn := fun _ => fun
  | [d1, d2] => { results := [.lit (.bool true)], args := [d1, d2] }
  | _ => none }
def fnExactWolfNotesRow : OpenClaim := { program := "ytlhklicpibipaaa", sum := "929f3d8bc3795e7126e146a6b2916a370a2e24cb3773fdd311fbb2f4d82f674e", func := "loop.example/g01061/laws.FnExactWolfNotes", spec := "fnExactWolfNotes", apart := false }
def FnExactWolfNotesSaid : Prop := fnExactWolfNotesRow.holds Try.pinned (OpenSpec.ofChange fnExactWolfNotesSpec)

/-- ITS FALSE NEIGHBOUR: 'it returns false'. Refute it at one input. -/
def fnExactWolfNotesWrong : ChangeSpec := { name := "fnExactWolfNotes", fn := fun _ => fun
  | [d1, d2] => { results := [.lit (.bool false)], args := [d1, d2] }
  | _ => none }
def FnExactWolfNotesWrongFalsely : Prop := fnExactWolfNotesRow.holds Try.pinned (OpenSpec.ofChange fnExactWolfNotesWrong)

/-- 'laws.FnExactUnbeaten': WHATEVER THE INPUT: true; the input reads as it did. -/
def fnExactUnbeatenSpec : ChangeSpec := { name := "fnExactUnbeaten", fn := fun _ => fun
  | [d] => { results := [.lit (.bool true)], args := [d] }
  | _ => none }
def fnExactUnbeatenRow : OpenClaim := { program := "ytlhklicpibipaaa", sum := "929f3d8bc3795e7126e146a6b2916a370a2e24cb3773fdd311fbb2f4d82f674e", func := "loop.example/g01061/laws.FnExactUnbeaten", spec := "fnExactUnbeaten", apart := false }
def FnExactUnbeatenSaid : Prop := fnExactUnbeatenRow.holds Try.pinned (OpenSpec.ofChange fnExactUnbeatenSpec)

/-- ITS FALSE NEIGHBOUR: 'it returns false'. Refute it at one input. -/
def fnExactUnbeatenWrong : ChangeSpec := { name := "fnExactUnbeaten", fn := fun _ => fun
  | [d] => { results := [.lit (.bool false)], args := [d] }
  | _ => none }
def FnExactUnbeatenWrongFalsely : Prop := fnExactUnbeatenRow.holds Try.pinned (OpenSpec.ofChange fnExactUnbeatenWrong)

/-- 'laws.FnExactWearOfPegs': WHATEVER THE INPUT: true; the input reads as it did. -/
def fnExactWearOfPegsSpec : ChangeSpec := { name := "fnExactWearOfPegs", fn := fun _ => fun
  | [d1, d2] => { results := [.lit (.bool true)], args := [d1, d2] }
  | _ => none }
def fnExactWearOfPegsRow : OpenClaim := { program := "ytlhklicpibipaaa", sum := "929f3d8bc3795e7126e146a6b2916a370a2e24cb3773fdd311fbb2f4d82f674e", func := "loop.example/g01061/laws.FnExactWearOfPegs", spec := "fnExactWearOfPegs", apart := false }
def FnExactWearOfPegsSaid : Prop := fnExactWearOfPegsRow.holds Try.pinned (OpenSpec.ofChange fnExactWearOfPegsSpec)

/-- ITS FALSE NEIGHBOUR: 'it returns false'. Refute it at one input. -/
def fnExactWearOfPegsWrong : ChangeSpec := { name := "fnExactWearOfPegs", fn := fun _ => fun
  | [d1, d2] => { results := [.lit (.bool false)], args := [d1, d2] }
  | _ => none }
def FnExactWearOfPegsWrongFalsely : Prop := fnExactWearOfPegsRow.holds Try.pinned (OpenSpec.ofChange fnExactWearOfPegsWrong)

/-- 'laws.FnExactWithinMoney': WHATEVER THE INPUT: true; the input reads as it did. -/
def fnExactWithinMoneySpec : ChangeSpec := { name := "fnExactWithinMoney", fn := fun _ => fun
  | [d1, d2] => { results := [.lit (.bool true)], args := [d1, d2] }
  | _ => none }
def fnExactWithinMoneyRow : OpenClaim := { program := "ytlhklicpibipaaa", sum := "929f3d8bc3795e7126e146a6b2916a370a2e24cb3773fdd311fbb2f4d82f674e", func := "loop.example/g01061/laws.FnExactWithinMoney", spec := "fnExactWithinMoney", apart := false }
def FnExactWithinMoneySaid : Prop := fnExactWithinMoneyRow.holds Try.pinned (OpenSpec.ofChange fnExactWithinMoneySpec)

/-- ITS FALSE NEIGHBOUR: 'it returns false'. Refute it at one input. -/
def fnExactWithinMoneyWrong : ChangeSpec := { name := "fnExactWithinMoney", fn := fun _ => fun
  | [d1, d2] => { results := [.lit (.bool false)], args := [d1, d2] }
  | _ => none }
def FnExactWithinMoneyWrongFalsely : Prop := fnExactWithinMoneyRow.holds Try.pinned (OpenSpec.ofChange fnExactWithinMoneyWrong)

/-- 'laws.FnExactClampsUsed': WHATEVER THE INPUT: true; the input reads as it did. -/
def fnExactClampsUsedSpec : ChangeSpec := { name := "fnExactClampsUsed", fn := fun _ => fun
  | [d1, d2, d3] => { results := [.lit (.bool true)], args := [d1, d2, d3] }
  | _ => none }
def fnExactClampsUsedRow : OpenClaim := { program := "ytlhklicpibipaaa", sum := "929f3d8bc3795e7126e146a6b2916a370a2e24cb3773fdd311fbb2f4d82f674e", func := "loop.example/g01061/laws.FnExactClampsUsed", spec := "fnExactClampsUsed", apart := false }
def FnExactClampsUsedSaid : Prop := fnExactClampsUsedRow.holds Try.pinned (OpenSpec.ofChange fnExactClampsUsedSpec)

/-- ITS FALSE NEIGHBOUR: 'it returns false'. Refute it at one input. -/
def fnExactClampsUsedWrong : ChangeSpec := { name := "fnExactClampsUsed", fn := fun _ => fun
  | [d1, d2, d3] => { results := [.lit (.bool false)], args := [d1, d2, d3] }
  | _ => none }
def FnExactClampsUsedWrongFalsely : Prop := fnExactClampsUsedRow.holds Try.pinned (OpenSpec.ofChange fnExactClampsUsedWrong)

/-- 'laws.FnExactTotalHours': WHATEVER THE INPUT: true; the input reads as it did. -/
def fnExactTotalHoursSpec : ChangeSpec := { name := "fnExactTotalHours", fn := fun _ => fun
  | [d] => { results := [.lit (.bool true)], args := [d] }
  | _ => none }
def fnExactTotalHoursRow : OpenClaim := { program := "ytlhklicpibipaaa", sum := "929f3d8bc3795e7126e146a6b2916a370a2e24cb3773fdd311fbb2f4d82f674e", func := "loop.example/g01061/laws.FnExactTotalHours", spec := "fnExactTotalHours", apart := false }
def FnExactTotalHoursSaid : Prop := fnExactTotalHoursRow.holds Try.pinned (OpenSpec.ofChange fnExactTotalHoursSpec)

/-- ITS FALSE NEIGHBOUR: 'it returns false'. Refute it at one input. -/
def fnExactTotalHoursWrong : ChangeSpec := { name := "fnExactTotalHours", fn := fun _ => fun
  | [d] => { results := [.lit (.bool false)], args := [d] }
  | _ => none }
def FnExactTotalHoursWrongFalsely : Prop := fnExactTotalHoursRow.holds Try.pinned (OpenSpec.ofChange fnExactTotalHoursWrong)

/-- 'laws.FnExactCountGap': WHATEVER THE INPUT: true; the input reads as it did. -/
def fnExactCountGapSpec : ChangeSpec := { name := "fnExactCountGap", fn := fun _ => fun
  | [d1, d2] => { results := [.lit (.bool true)], args := [d1, d2] }
  | _ => none }
def fnExactCountGapRow : OpenClaim := { program := "ytlhklicpibipaaa", sum := "929f3d8bc3795e7126e146a6b2916a370a2e24cb3773fdd311fbb2f4d82f674e", func := "loop.example/g01061/laws.FnExactCountGap", spec := "fnExactCountGap", apart := false }
def FnExactCountGapSaid : Prop := fnExactCountGapRow.holds Try.pinned (OpenSpec.ofChange fnExactCountGapSpec)

/-- ITS FALSE NEIGHBOUR: 'it returns false'. Refute it at one input. -/
def fnExactCountGapWrong : ChangeSpec := { name := "fnExactCountGap", fn := fun _ => fun
  | [d1, d2] => { results := [.lit (.bool false)], args := [d1, d2] }
  | _ => none }
def FnExactCountGapWrongFalsely : Prop := fnExactCountGapRow.holds Try.pinned (OpenSpec.ofChange fnExactCountGapWrong)

/-- 'laws.FnExactSpillOf': WHATEVER THE INPUT: true; the input reads as it did. -/
def fnExactSpillOfSpec : ChangeSpec := { name := "fnExactSpillOf", fn := fun _ => fun
  | [d1, d2, d3] => { results := [.lit (.bool true)], args := [d1, d2, d3] }
  | _ => none }
def fnExactSpillOfRow : OpenClaim := { program := "ytlhklicpibipaaa", sum := "929f3d8bc3795e7126e146a6b2916a370a2e24cb3773fdd311fbb2f4d82f674e", func := "loop.example/g01061/laws.FnExactSpillOf", spec := "fnExactSpillOf", apart := false }
def FnExactSpillOfSaid : Prop := fnExactSpillOfRow.holds Try.pinned (OpenSpec.ofChange fnExactSpillOfSpec)

/-- ITS FALSE NEIGHBOUR: 'it returns false'. Refute it at one input. -/
def fnExactSpillOfWrong : ChangeSpec := { name := "fnExactSpillOf", fn := fun _ => fun
  | [d1, d2, d3] => { results := [.lit (.bool false)], args := [d1, d2, d3] }
  | _ => none }
def FnExactSpillOfWrongFalsely : Prop := fnExactSpillOfRow.holds Try.pinned (OpenSpec.ofChange fnExactSpillOfWrong)

/-- 'laws.FnExactBestPolicy': WHATEVER THE INPUT: true; the input reads as it did. -/
def fnExactBestPolicySpec : ChangeSpec := { name := "fnExactBestPolicy", fn := fun _ => fun
  | [d1, d2] => { results := [.lit (.bool true)], args := [d1, d2] }
  | _ => none }
def fnExactBestPolicyRow : OpenClaim := { program := "ytlhklicpibipaaa", sum := "929f3d8bc3795e7126e146a6b2916a370a2e24cb3773fdd311fbb2f4d82f674e", func := "loop.example/g01061/laws.FnExactBestPolicy", spec := "fnExactBestPolicy", apart := false }
def FnExactBestPolicySaid : Prop := fnExactBestPolicyRow.holds Try.pinned (OpenSpec.ofChange fnExactBestPolicySpec)

/-- ITS FALSE NEIGHBOUR: 'it returns false'. Refute it at one input. -/
def fnExactBestPolicyWrong : ChangeSpec := { name := "fnExactBestPolicy", fn := fun _ => fun
  | [d1, d2] => { results := [.lit (.bool false)], args := [d1, d2] }
  | _ => none }
def FnExactBestPolicyWrongFalsely : Prop := fnExactBestPolicyRow.holds Try.pinned (OpenSpec.ofChange fnExactBestPolicyWrong)

/- THE SECOND FORM. 'bulk': how many values and letters a reading holds, each counted each time it is reached (what is shared counts as often as it is met; a slice's spare places count too). A statement '..UptoSaid' is the law's where the arguments, and the package variables that the reading takes, are together of bulk at most 1048576: NARROWER than '..Said'. Prove '..Said' where nothing that the law and all that it calls make is longer than what came in: it says more and counts as full. Else prove '..UptoSaid'. A law counts once. -/
mutual
def uptoBulk {H : Type} : DataW H → Nat
  | .lit (.string bytes) => bytes.length + 1
  | .lit _ => 1
  | .nil => 1
  | .ptr d => uptoBulk d + 1
  | .slice elems spare => uptoBulkAll elems + uptoBulkAll spare + 1
  | .agg parts => uptoBulkAll parts + 1
  | .iface _ d => uptoBulk d + 1
  | .map entries => uptoBulkEntries entries + 1
  | .held _ => 1
def uptoBulkAll {H : Type} : List (DataW H) → Nat
  | [] => 0
  | d :: r => uptoBulk d + uptoBulkAll r
def uptoBulkEntries {H : Type} : List (Lit × DataW H) → Nat
  | [] => 0
  | x :: r => uptoBulkEntry x + uptoBulkEntries r
def uptoBulkEntry {H : Type} : Lit × DataW H → Nat
  | (.string bytes, d) => bytes.length + uptoBulk d + 1
  | (_, d) => uptoBulk d + 1
 end
def uptoSmall : (H : Type) → List (DataW H) → Bool := fun _ ds => decide (uptoBulkAll ds ≤ 1048576)
def OpenSpec.upto (s : _root_.Go.ChangeSpec) : _root_.Go.OpenSpec := { _root_.Go.OpenSpec.ofChange s with cond := some uptoSmall }

/-- 'laws.FnExactStretchRibs', WHERE WHAT IT READS IS OF BULK AT MOST 1048576: true; the input reads as it did. -/
def fnExactStretchRibsUptoRow : OpenClaim := { program := "ytlhklicpibipaaa", sum := "929f3d8bc3795e7126e146a6b2916a370a2e24cb3773fdd311fbb2f4d82f674e", func := "loop.example/g01061/laws.FnExactStretchRibs", spec := "fnExactStretchRibs", apart := false, narrowed := true }
def FnExactStretchRibsUptoSaid : Prop := fnExactStretchRibsUptoRow.holds Try.pinned (OpenSpec.upto fnExactStretchRibsSpec)

/-- 'laws.FnExactStagesFor', WHERE WHAT IT READS IS OF BULK AT MOST 1048576: true; the input reads as it did. -/
def fnExactStagesForUptoRow : OpenClaim := { program := "ytlhklicpibipaaa", sum := "929f3d8bc3795e7126e146a6b2916a370a2e24cb3773fdd311fbb2f4d82f674e", func := "loop.example/g01061/laws.FnExactStagesFor", spec := "fnExactStagesFor", apart := false, narrowed := true }
def FnExactStagesForUptoSaid : Prop := fnExactStagesForUptoRow.holds Try.pinned (OpenSpec.upto fnExactStagesForSpec)

/-- 'laws.FnExactActiveOn', WHERE WHAT IT READS IS OF BULK AT MOST 1048576: true; the input reads as it did. -/
def fnExactActiveOnUptoRow : OpenClaim := { program := "ytlhklicpibipaaa", sum := "929f3d8bc3795e7126e146a6b2916a370a2e24cb3773fdd311fbb2f4d82f674e", func := "loop.example/g01061/laws.FnExactActiveOn", spec := "fnExactActiveOn", apart := false, narrowed := true }
def FnExactActiveOnUptoSaid : Prop := fnExactActiveOnUptoRow.holds Try.pinned (OpenSpec.upto fnExactActiveOnSpec)

/-- 'laws.FnExactWolfNotes', WHERE WHAT IT READS IS OF BULK AT MOST 1048576: true; the input reads as it did. -/
def fnExactWolfNotesUptoRow : OpenClaim := { program := "ytlhklicpibipaaa", sum := "929f3d8bc3795e7126e146a6b2916a370a2e24cb3773fdd311fbb2f4d82f674e", func := "loop.example/g01061/laws.FnExactWolfNotes", spec := "fnExactWolfNotes", apart := false, narrowed := true }
def FnExactWolfNotesUptoSaid : Prop := fnExactWolfNotesUptoRow.holds Try.pinned (OpenSpec.upto fnExactWolfNotesSpec)

/-- 'laws.FnExactUnbeaten', WHERE WHAT IT READS IS OF BULK AT MOST 1048576: true; the input reads as it did. -/
def fnExactUnbeatenUptoRow : OpenClaim := { program := "ytlhklicpibipaaa", sum := "929f3d8bc3795e7126e146a6b2916a370a2e24cb3773fdd311fbb2f4d82f674e", func := "loop.example/g01061/laws.FnExactUnbeaten", spec := "fnExactUnbeaten", apart := false, narrowed := true }
def FnExactUnbeatenUptoSaid : Prop := fnExactUnbeatenUptoRow.holds Try.pinned (OpenSpec.upto fnExactUnbeatenSpec)

/-- 'laws.FnExactWearOfPegs', WHERE WHAT IT READS IS OF BULK AT MOST 1048576: true; the input reads as it did. -/
def fnExactWearOfPegsUptoRow : OpenClaim := { program := "ytlhklicpibipaaa", sum := "929f3d8bc3795e7126e146a6b2916a370a2e24cb3773fdd311fbb2f4d82f674e", func := "loop.example/g01061/laws.FnExactWearOfPegs", spec := "fnExactWearOfPegs", apart := false, narrowed := true }
def FnExactWearOfPegsUptoSaid : Prop := fnExactWearOfPegsUptoRow.holds Try.pinned (OpenSpec.upto fnExactWearOfPegsSpec)

/-- 'laws.FnExactWithinMoney', WHERE WHAT IT READS IS OF BULK AT MOST 1048576: true; the input reads as it did. -/
def fnExactWithinMoneyUptoRow : OpenClaim := { program := "ytlhklicpibipaaa", sum := "929f3d8bc3795e7126e146a6b2916a370a2e24cb3773fdd311fbb2f4d82f674e", func := "loop.example/g01061/laws.FnExactWithinMoney", spec := "fnExactWithinMoney", apart := false, narrowed := true }
def FnExactWithinMoneyUptoSaid : Prop := fnExactWithinMoneyUptoRow.holds Try.pinned (OpenSpec.upto fnExactWithinMoneySpec)

/-- 'laws.FnExactClampsUsed', WHERE WHAT IT READS IS OF BULK AT MOST 1048576: true; the input reads as it did. -/
def fnExactClampsUsedUptoRow : OpenClaim := { program := "ytlhklicpibipaaa", sum := "929f3d8bc3795e7126e146a6b2916a370a2e24cb3773fdd311fbb2f4d82f674e", func := "loop.example/g01061/laws.FnExactClampsUsed", spec := "fnExactClampsUsed", apart := false, narrowed := true }
def FnExactClampsUsedUptoSaid : Prop := fnExactClampsUsedUptoRow.holds Try.pinned (OpenSpec.upto fnExactClampsUsedSpec)

/-- 'laws.FnExactTotalHours', WHERE WHAT IT READS IS OF BULK AT MOST 1048576: true; the input reads as it did. -/
def fnExactTotalHoursUptoRow : OpenClaim := { program := "ytlhklicpibipaaa", sum := "929f3d8bc3795e7126e146a6b2916a370a2e24cb3773fdd311fbb2f4d82f674e", func := "loop.example/g01061/laws.FnExactTotalHours", spec := "fnExactTotalHours", apart := false, narrowed := true }
def FnExactTotalHoursUptoSaid : Prop := fnExactTotalHoursUptoRow.holds Try.pinned (OpenSpec.upto fnExactTotalHoursSpec)

/-- 'laws.FnExactCountGap', WHERE WHAT IT READS IS OF BULK AT MOST 1048576: true; the input reads as it did. -/
def fnExactCountGapUptoRow : OpenClaim := { program := "ytlhklicpibipaaa", sum := "929f3d8bc3795e7126e146a6b2916a370a2e24cb3773fdd311fbb2f4d82f674e", func := "loop.example/g01061/laws.FnExactCountGap", spec := "fnExactCountGap", apart := false, narrowed := true }
def FnExactCountGapUptoSaid : Prop := fnExactCountGapUptoRow.holds Try.pinned (OpenSpec.upto fnExactCountGapSpec)

/-- 'laws.FnExactSpillOf', WHERE WHAT IT READS IS OF BULK AT MOST 1048576: true; the input reads as it did. -/
def fnExactSpillOfUptoRow : OpenClaim := { program := "ytlhklicpibipaaa", sum := "929f3d8bc3795e7126e146a6b2916a370a2e24cb3773fdd311fbb2f4d82f674e", func := "loop.example/g01061/laws.FnExactSpillOf", spec := "fnExactSpillOf", apart := false, narrowed := true }
def FnExactSpillOfUptoSaid : Prop := fnExactSpillOfUptoRow.holds Try.pinned (OpenSpec.upto fnExactSpillOfSpec)

/-- 'laws.FnExactBestPolicy', WHERE WHAT IT READS IS OF BULK AT MOST 1048576: true; the input reads as it did. -/
def fnExactBestPolicyUptoRow : OpenClaim := { program := "ytlhklicpibipaaa", sum := "929f3d8bc3795e7126e146a6b2916a370a2e24cb3773fdd311fbb2f4d82f674e", func := "loop.example/g01061/laws.FnExactBestPolicy", spec := "fnExactBestPolicy", apart := false, narrowed := true }
def FnExactBestPolicyUptoSaid : Prop := fnExactBestPolicyUptoRow.holds Try.pinned (OpenSpec.upto fnExactBestPolicySpec)

end Rows
end Go.Proofs.Ytlhklicpibipaaa
