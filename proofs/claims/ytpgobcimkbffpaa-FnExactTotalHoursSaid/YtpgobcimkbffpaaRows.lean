/-
  No cell of these rows narrows 'for every input' (looked for: loops, veiled, ifaces, maps, wideKeys, modest, calm, conditions, laid).
  DERIVED. THE GIVEN ROWS OF THIS SEAT. 11 by the template 'for every input the law returns true; each argument reads behind the call as it read before'; 0 by the template 'total and deterministic' (their statements: YtpgobcimkbffpaaTotals.lean).
  GIVEN WITH THE SEED: the statements are not yours to turn. If you find one false, say at which input.
  Laid BY PROGRAM, IN A SANDBOX (cutbox-rows.mjs): the forced cells as the released guide's own fill.sh prints them over the translation 158c5d9b0cc9538c… (all of the seat's roots in one cut). By AI agents, Wed Nov 11 2026. No macro, syntax, notation, axiom, sorry.
-/
import Derived.Test.YtpgobcimkbffpaaChecked
import GoSem.Claim
import GoSem.ClaimJoined
import GoSem.ClaimMapViews
import Derived.JoinedTies
import Derived.KernelRfl
namespace Go.Proofs.Ytpgobcimkbffpaa
/- THE CELL 'sum', in the pinned program and in every row, IS THE sha256 OF THE DUMP (.gsa) THAT YtpgobcimkbffpaaProg.lean LOADS. Nothing in Lean hashes anything: it is a label: what it is worth is what the hold of that sum in a sandbox is worth. -/
noncomputable def Try.pinned : Pinned := { name := "ytpgobcimkbffpaa", sum := "158c5d9b0cc9538c7dd7128f4d9443af04256c6fe0c4b319588110dd9dbf2b38", checked := Try.checked }
namespace Rows
def none {H : Type} : Left H := { results := [], args := [] }

/-- 'laws.FnExactCreditOf': WHATEVER THE INPUT: true; the input reads as it did. -/
def fnExactCreditOfSpec : ChangeSpec := { name := "fnExactCreditOf", fn := fun _ => fun
  | [d1, d2, d3, d4] => { results := [.lit (.bool true)], args := [d1, d2, d3, d4] }
  | _ => none }
def fnExactCreditOfRow : OpenClaim := { program := "ytpgobcimkbffpaa", sum := "158c5d9b0cc9538c7dd7128f4d9443af04256c6fe0c4b319588110dd9dbf2b38", func := "loop.example/g01061/laws.FnExactCreditOf", spec := "fnExactCreditOf", unfollowed := true, recurses := true, apart := false }
def FnExactCreditOfSaid : Prop := fnExactCreditOfRow.holds Try.pinned (OpenSpec.ofChange fnExactCreditOfSpec)

/-- ITS FALSE NEIGHBOUR: 'it returns false'. Refute it at one input. -/
def fnExactCreditOfWrong : ChangeSpec := { name := "fnExactCreditOf", fn := fun _ => fun
  | [d1, d2, d3, d4] => { results := [.lit (.bool false)], args := [d1, d2, d3, d4] }
  | _ => none }
def FnExactCreditOfWrongFalsely : Prop := fnExactCreditOfRow.holds Try.pinned (OpenSpec.ofChange fnExactCreditOfWrong)

/-- 'laws.FnExactCanBuild': WHATEVER THE INPUT: true; the input reads as it did. -/
def fnExactCanBuildSpec : ChangeSpec := { name := "fnExactCanBuild", fn := fun _ => fun
  | [d1, d2, d3] => { results := [.lit (.bool true)], args := [d1, d2, d3] }
  | _ => none }
def fnExactCanBuildRow : OpenClaim := { program := "ytpgobcimkbffpaa", sum := "158c5d9b0cc9538c7dd7128f4d9443af04256c6fe0c4b319588110dd9dbf2b38", func := "loop.example/g01061/laws.FnExactCanBuild", spec := "fnExactCanBuild", unfollowed := true, recurses := true, apart := false }
def FnExactCanBuildSaid : Prop := fnExactCanBuildRow.holds Try.pinned (OpenSpec.ofChange fnExactCanBuildSpec)

/-- ITS FALSE NEIGHBOUR: 'it returns false'. Refute it at one input. -/
def fnExactCanBuildWrong : ChangeSpec := { name := "fnExactCanBuild", fn := fun _ => fun
  | [d1, d2, d3] => { results := [.lit (.bool false)], args := [d1, d2, d3] }
  | _ => none }
def FnExactCanBuildWrongFalsely : Prop := fnExactCanBuildRow.holds Try.pinned (OpenSpec.ofChange fnExactCanBuildWrong)

/-- 'laws.FnExactAgrees': WHATEVER THE INPUT: true; the input reads as it did. -/
def fnExactAgreesSpec : ChangeSpec := { name := "fnExactAgrees", fn := fun _ => fun
  | [d1, d2] => { results := [.lit (.bool true)], args := [d1, d2] }
  | _ => none }
def fnExactAgreesRow : OpenClaim := { program := "ytpgobcimkbffpaa", sum := "158c5d9b0cc9538c7dd7128f4d9443af04256c6fe0c4b319588110dd9dbf2b38", func := "loop.example/g01061/laws.FnExactAgrees", spec := "fnExactAgrees", unfollowed := true, recurses := true, apart := false }
def FnExactAgreesSaid : Prop := fnExactAgreesRow.holds Try.pinned (OpenSpec.ofChange fnExactAgreesSpec)

/-- ITS FALSE NEIGHBOUR: 'it returns false'. Refute it at one input. -/
def fnExactAgreesWrong : ChangeSpec := { name := "fnExactAgrees", fn := fun _ => fun
  | [d1, d2] => { results := [.lit (.bool false)], args := [d1, d2] }
  | _ => none }
def FnExactAgreesWrongFalsely : Prop := fnExactAgreesRow.holds Try.pinned (OpenSpec.ofChange fnExactAgreesWrong)

/-- 'laws.FnExactMixColours': WHATEVER THE INPUT: true; the input reads as it did. -/
def fnExactMixColoursSpec : ChangeSpec := { name := "fnExactMixColours", fn := fun _ => fun
  | [d1, d2] => { results := [.lit (.bool true)], args := [d1, d2] }
  | _ => none }
def fnExactMixColoursRow : OpenClaim := { program := "ytpgobcimkbffpaa", sum := "158c5d9b0cc9538c7dd7128f4d9443af04256c6fe0c4b319588110dd9dbf2b38", func := "loop.example/g01061/laws.FnExactMixColours", spec := "fnExactMixColours", apart := false }
def FnExactMixColoursSaid : Prop := fnExactMixColoursRow.holds Try.pinned (OpenSpec.ofChange fnExactMixColoursSpec)

/-- ITS FALSE NEIGHBOUR: 'it returns false'. Refute it at one input. -/
def fnExactMixColoursWrong : ChangeSpec := { name := "fnExactMixColours", fn := fun _ => fun
  | [d1, d2] => { results := [.lit (.bool false)], args := [d1, d2] }
  | _ => none }
def FnExactMixColoursWrongFalsely : Prop := fnExactMixColoursRow.holds Try.pinned (OpenSpec.ofChange fnExactMixColoursWrong)

/-- 'laws.FnExactFreeFrom': WHATEVER THE INPUT: true; the input reads as it did. -/
def fnExactFreeFromSpec : ChangeSpec := { name := "fnExactFreeFrom", fn := fun _ => fun
  | [d1, d2, d3, d4] => { results := [.lit (.bool true)], args := [d1, d2, d3, d4] }
  | _ => none }
def fnExactFreeFromRow : OpenClaim := { program := "ytpgobcimkbffpaa", sum := "158c5d9b0cc9538c7dd7128f4d9443af04256c6fe0c4b319588110dd9dbf2b38", func := "loop.example/g01061/laws.FnExactFreeFrom", spec := "fnExactFreeFrom", apart := false }
def FnExactFreeFromSaid : Prop := fnExactFreeFromRow.holds Try.pinned (OpenSpec.ofChange fnExactFreeFromSpec)

/-- ITS FALSE NEIGHBOUR: 'it returns false'. Refute it at one input. -/
def fnExactFreeFromWrong : ChangeSpec := { name := "fnExactFreeFrom", fn := fun _ => fun
  | [d1, d2, d3, d4] => { results := [.lit (.bool false)], args := [d1, d2, d3, d4] }
  | _ => none }
def FnExactFreeFromWrongFalsely : Prop := fnExactFreeFromRow.holds Try.pinned (OpenSpec.ofChange fnExactFreeFromWrong)

/-- 'laws.FnExactKeepsWorks': WHATEVER THE INPUT: true; the input reads as it did. -/
def fnExactKeepsWorksSpec : ChangeSpec := { name := "fnExactKeepsWorks", fn := fun _ => fun
  | [d1, d2] => { results := [.lit (.bool true)], args := [d1, d2] }
  | _ => none }
def fnExactKeepsWorksRow : OpenClaim := { program := "ytpgobcimkbffpaa", sum := "158c5d9b0cc9538c7dd7128f4d9443af04256c6fe0c4b319588110dd9dbf2b38", func := "loop.example/g01061/laws.FnExactKeepsWorks", spec := "fnExactKeepsWorks", apart := false }
def FnExactKeepsWorksSaid : Prop := fnExactKeepsWorksRow.holds Try.pinned (OpenSpec.ofChange fnExactKeepsWorksSpec)

/-- ITS FALSE NEIGHBOUR: 'it returns false'. Refute it at one input. -/
def fnExactKeepsWorksWrong : ChangeSpec := { name := "fnExactKeepsWorks", fn := fun _ => fun
  | [d1, d2] => { results := [.lit (.bool false)], args := [d1, d2] }
  | _ => none }
def FnExactKeepsWorksWrongFalsely : Prop := fnExactKeepsWorksRow.holds Try.pinned (OpenSpec.ofChange fnExactKeepsWorksWrong)

/-- 'laws.FnExactFewestCoats': WHATEVER THE INPUT: true; the input reads as it did. -/
def fnExactFewestCoatsSpec : ChangeSpec := { name := "fnExactFewestCoats", fn := fun _ => fun
  | [d1, d2, d3, d4] => { results := [.lit (.bool true)], args := [d1, d2, d3, d4] }
  | _ => none }
def fnExactFewestCoatsRow : OpenClaim := { program := "ytpgobcimkbffpaa", sum := "158c5d9b0cc9538c7dd7128f4d9443af04256c6fe0c4b319588110dd9dbf2b38", func := "loop.example/g01061/laws.FnExactFewestCoats", spec := "fnExactFewestCoats", apart := false }
def FnExactFewestCoatsSaid : Prop := fnExactFewestCoatsRow.holds Try.pinned (OpenSpec.ofChange fnExactFewestCoatsSpec)

/-- ITS FALSE NEIGHBOUR: 'it returns false'. Refute it at one input. -/
def fnExactFewestCoatsWrong : ChangeSpec := { name := "fnExactFewestCoats", fn := fun _ => fun
  | [d1, d2, d3, d4] => { results := [.lit (.bool false)], args := [d1, d2, d3, d4] }
  | _ => none }
def FnExactFewestCoatsWrongFalsely : Prop := fnExactFewestCoatsRow.holds Try.pinned (OpenSpec.ofChange fnExactFewestCoatsWrong)

/-- 'laws.FnExactStagesFor': WHATEVER THE INPUT: true; the input reads as it did. -/
def fnExactStagesForSpec : ChangeSpec := { name := "fnExactStagesFor", fn := fun _ => fun
  | [d1, d2, d3] => { results := [.lit (.bool true)], args := [d1, d2, d3] }
  | _ => none }
def fnExactStagesForRow : OpenClaim := { program := "ytpgobcimkbffpaa", sum := "158c5d9b0cc9538c7dd7128f4d9443af04256c6fe0c4b319588110dd9dbf2b38", func := "loop.example/g01061/laws.FnExactStagesFor", spec := "fnExactStagesFor", apart := false }
def FnExactStagesForSaid : Prop := fnExactStagesForRow.holds Try.pinned (OpenSpec.ofChange fnExactStagesForSpec)

/-- ITS FALSE NEIGHBOUR: 'it returns false'. Refute it at one input. -/
def fnExactStagesForWrong : ChangeSpec := { name := "fnExactStagesFor", fn := fun _ => fun
  | [d1, d2, d3] => { results := [.lit (.bool false)], args := [d1, d2, d3] }
  | _ => none }
def FnExactStagesForWrongFalsely : Prop := fnExactStagesForRow.holds Try.pinned (OpenSpec.ofChange fnExactStagesForWrong)

/-- 'laws.FnExactWolfNotes': WHATEVER THE INPUT: true; the input reads as it did. -/
def fnExactWolfNotesSpec : ChangeSpec := { name := "fnExactWolfNotes", fn := fun _ => fun
  | [d1, d2] => { results := [.lit (.bool true)], args := [d1, d2] }
  | _ => none }
def fnExactWolfNotesRow : OpenClaim := { program := "ytpgobcimkbffpaa", sum := "158c5d9b0cc9538c7dd7128f4d9443af04256c6fe0c4b319588110dd9dbf2b38", func := "loop.example/g01061/laws.FnExactWolfNotes", spec := "fnExactWolfNotes", apart := false }
def FnExactWolfNotesSaid : Prop := fnExactWolfNotesRow.holds Try.pinned (OpenSpec.ofChange fnExactWolfNotesSpec)

/-- ITS FALSE NEIGHBOUR: 'it returns false'. Refute it at one input. -/
def fnExactWolfNotesWrong : ChangeSpec := { name := "fnExactWolfNotes", fn := fun _ => fun
  | [d1, d2] => { results := [.lit (.bool false)], args := [d1, d2] }
  | _ => none }
def FnExactWolfNotesWrongFalsely : Prop := fnExactWolfNotesRow.holds Try.pinned (OpenSpec.ofChange fnExactWolfNotesWrong)

/-- 'laws.FnExactClampsUsed': WHATEVER THE INPUT: true; the input reads as it did. -/
def fnExactClampsUsedSpec : ChangeSpec := { name := "fnExactClampsUsed", fn := fun _ => fun
  | [d1, d2, d3] => { results := [.lit (.bool true)], args := [d1, d2, d3] }
  | _ => none }
def fnExactClampsUsedRow : OpenClaim := { program := "ytpgobcimkbffpaa", sum := "158c5d9b0cc9538c7dd7128f4d9443af04256c6fe0c4b319588110dd9dbf2b38", func := "loop.example/g01061/laws.FnExactClampsUsed", spec := "fnExactClampsUsed", apart := false }
def FnExactClampsUsedSaid : Prop := fnExactClampsUsedRow.holds Try.pinned (OpenSpec.ofChange fnExactClampsUsedSpec)

/-- ITS FALSE NEIGHBOUR: 'it returns false'. Refute it at one input. -/
def fnExactClampsUsedWrong : ChangeSpec := { name := "fnExactClampsUsed", fn := fun _ => fun
  | [d1, d2, d3] => { results := [.lit (.bool false)], args := [d1, d2, d3] }
  | _ => none }
def FnExactClampsUsedWrongFalsely : Prop := fnExactClampsUsedRow.holds Try.pinned (OpenSpec.ofChange fnExactClampsUsedWrong)

/-- 'laws.FnExactTotalHours': WHATEVER THE INPUT: true; the input reads as it did. -/
def fnExactTotalHoursSpec : ChangeSpec := { name := "fnExactTotalHours", fn := fun _ => fun
  | [d] => { results := [.lit (.bool true)], args := [d] }
  | _ => none }
def fnExactTotalHoursRow : OpenClaim := { program := "ytpgobcimkbffpaa", sum := "158c5d9b0cc9538c7dd7128f4d9443af04256c6fe0c4b319588110dd9dbf2b38", func := "loop.example/g01061/laws.FnExactTotalHours", spec := "fnExactTotalHours", apart := false }
def FnExactTotalHoursSaid : Prop := fnExactTotalHoursRow.holds Try.pinned (OpenSpec.ofChange fnExactTotalHoursSpec)

/-- ITS FALSE NEIGHBOUR: 'it returns false'. Refute it at one input. -/
def fnExactTotalHoursWrong : ChangeSpec := { name := "fnExactTotalHours", fn := fun _ => fun
  | [d] => { results := [.lit (.bool false)], args := [d] }
  | _ => none }
def FnExactTotalHoursWrongFalsely : Prop := fnExactTotalHoursRow.holds Try.pinned (OpenSpec.ofChange fnExactTotalHoursWrong)

/- THE SECOND FORM. 'bulk': how many values and letters a reading holds, each counted each time it is reached (what is shared counts as often as it is met; a slice's spare places count too). A statement '..UptoSaid' is the law's where the arguments, and the package variables that the reading takes, are together of bulk at most 1048576: NARROWER than '..Said'. Prove '..Said' where nothing that the law and all that it calls make is longer than what came in: it says more and counts as full. Else prove '..UptoSaid'. A law counts once. -/
mutual
def uptoBulk {H : Type} : DataW H → Nat
  | .lit (.string bytes) => bytes.length + 1
  | .lit _ => 1
  | .nil => 1
  | .ptr d => uptoBulk d + 1
  | .slice elems spare => uptoBulkAll elems + uptoBulkAll spare + 1
  | .agg parts => uptoBulkAll parts + 1
  | .iface _ d => uptoBulk d + 1
  | .map entries => uptoBulkEntries entries + 1
  | .held _ => 1
def uptoBulkAll {H : Type} : List (DataW H) → Nat
  | [] => 0
  | d :: r => uptoBulk d + uptoBulkAll r
def uptoBulkEntries {H : Type} : List (Lit × DataW H) → Nat
  | [] => 0
  | x :: r => uptoBulkEntry x + uptoBulkEntries r
def uptoBulkEntry {H : Type} : Lit × DataW H → Nat
  | (.string bytes, d) => bytes.length + uptoBulk d + 1
  | (_, d) => uptoBulk d + 1
 end
def uptoSmall : (H : Type) → List (DataW H) → Bool := fun _ ds => decide (uptoBulkAll ds ≤ 1048576)
def OpenSpec.upto (s : _root_.Go.ChangeSpec) : _root_.Go.OpenSpec := { _root_.Go.OpenSpec.ofChange s with cond := some uptoSmall }

/-- 'laws.FnExactCreditOf', WHERE WHAT IT READS IS OF BULK AT MOST 1048576: true; the input reads as it did. -/
def fnExactCreditOfUptoRow : OpenClaim := { program := "ytpgobcimkbffpaa", sum := "158c5d9b0cc9538c7dd7128f4d9443af04256c6fe0c4b319588110dd9dbf2b38", func := "loop.example/g01061/laws.FnExactCreditOf", spec := "fnExactCreditOf", unfollowed := true, recurses := true, apart := false, narrowed := true }
def FnExactCreditOfUptoSaid : Prop := fnExactCreditOfUptoRow.holds Try.pinned (OpenSpec.upto fnExactCreditOfSpec)

/-- 'laws.FnExactCanBuild', WHERE WHAT IT READS IS OF BULK AT MOST 1048576: true; the input reads as it did. -/
def fnExactCanBuildUptoRow : OpenClaim := { program := "ytpgobcimkbffpaa", sum := "158c5d9b0cc9538c7dd7128f4d9443af04256c6fe0c4b319588110dd9dbf2b38", func := "loop.example/g01061/laws.FnExactCanBuild", spec := "fnExactCanBuild", unfollowed := true, recurses := true, apart := false, narrowed := true }
def FnExactCanBuildUptoSaid : Prop := fnExactCanBuildUptoRow.holds Try.pinned (OpenSpec.upto fnExactCanBuildSpec)

/-- 'laws.FnExactAgrees', WHERE WHAT IT READS IS OF BULK AT MOST 1048576: true; the input reads as it did. -/
def fnExactAgreesUptoRow : OpenClaim := { program := "ytpgobcimkbffpaa", sum := "158c5d9b0cc9538c7dd7128f4d9443af04256c6fe0c4b319588110dd9dbf2b38", func := "loop.example/g01061/laws.FnExactAgrees", spec := "fnExactAgrees", unfollowed := true, recurses := true, apart := false, narrowed := true }
def FnExactAgreesUptoSaid : Prop := fnExactAgreesUptoRow.holds Try.pinned (OpenSpec.upto fnExactAgreesSpec)

/-- 'laws.FnExactMixColours', WHERE WHAT IT READS IS OF BULK AT MOST 1048576: true; the input reads as it did. -/
def fnExactMixColoursUptoRow : OpenClaim := { program := "ytpgobcimkbffpaa", sum := "158c5d9b0cc9538c7dd7128f4d9443af04256c6fe0c4b319588110dd9dbf2b38", func := "loop.example/g01061/laws.FnExactMixColours", spec := "fnExactMixColours", apart := false, narrowed := true }
def FnExactMixColoursUptoSaid : Prop := fnExactMixColoursUptoRow.holds Try.pinned (OpenSpec.upto fnExactMixColoursSpec)

/-- 'laws.FnExactFreeFrom', WHERE WHAT IT READS IS OF BULK AT MOST 1048576: true; the input reads as it did. -/
def fnExactFreeFromUptoRow : OpenClaim := { program := "ytpgobcimkbffpaa", sum := "158c5d9b0cc9538c7dd7128f4d9443af04256c6fe0c4b319588110dd9dbf2b38", func := "loop.example/g01061/laws.FnExactFreeFrom", spec := "fnExactFreeFrom", apart := false, narrowed := true }
def FnExactFreeFromUptoSaid : Prop := fnExactFreeFromUptoRow.holds Try.pinned (OpenSpec.upto fnExactFreeFromSpec)

/-- 'laws.FnExactKeepsWorks', WHERE WHAT IT READS IS OF BULK AT MOST 1048576: true; the input reads as it did. -/
def fnExactKeepsWorksUptoRow : OpenClaim := { program := "ytpgobcimkbffpaa", sum := "158c5d9b0cc9538c7dd7128f4d9443af04256c6fe0c4b319588110dd9dbf2b38", func := "loop.example/g01061/laws.FnExactKeepsWorks", spec := "fnExactKeepsWorks", apart := false, narrowed := true }
def FnExactKeepsWorksUptoSaid : Prop := fnExactKeepsWorksUptoRow.holds Try.pinned (OpenSpec.upto fnExactKeepsWorksSpec)

/-- 'laws.FnExactFewestCoats', WHERE WHAT IT READS IS OF BULK AT MOST 1048576: true; the input reads as it did. -/
def fnExactFewestCoatsUptoRow : OpenClaim := { program := "ytpgobcimkbffpaa", sum := "158c5d9b0cc9538c7dd7128f4d9443af04256c6fe0c4b319588110dd9dbf2b38", func := "loop.example/g01061/laws.FnExactFewestCoats", spec := "fnExactFewestCoats", apart := false, narrowed := true }
def FnExactFewestCoatsUptoSaid : Prop := fnExactFewestCoatsUptoRow.holds Try.pinned (OpenSpec.upto fnExactFewestCoatsSpec)

/-- 'laws.FnExactStagesFor', WHERE WHAT IT READS IS OF BULK AT MOST 1048576: true; the input reads as it did. -/
def fnExactStagesForUptoRow : OpenClaim := { program := "ytpgobcimkbffpaa", sum := "158c5d9b0cc9538c7dd7128f4d9443af04256c6fe0c4b319588110dd9dbf2b38", func := "loop.example/g01061/laws.FnExactStagesFor", spec := "fnExactStagesFor", apart := false, narrowed := true }
def FnExactStagesForUptoSaid : Prop := fnExactStagesForUptoRow.holds Try.pinned (OpenSpec.upto fnExactStagesForSpec)

/-- 'laws.FnExactWolfNotes', WHERE WHAT IT READS IS OF BULK AT MOST 1048576: true; the input reads as it did. -/
def fnExactWolfNotesUptoRow : OpenClaim := { program := "ytpgobcimkbffpaa", sum := "158c5d9b0cc9538c7dd7128f4d9443af04256c6fe0c4b319588110dd9dbf2b38", func := "loop.example/g01061/laws.FnExactWolfNotes", spec := "fnExactWolfNotes", apart := false, narrowed := true }
def FnExactWolfNotesUptoSaid : Prop := fnExactWolfNotesUptoRow.holds Try.pinned (OpenSpec.upto fnExactWolfNotesSpec)

/-- 'laws.FnExactClampsUsed', WHERE WHAT IT READS IS OF BULK AT MOST 1048576: true; the input reads as it did. -/
def fnExactClampsUsedUptoRow : OpenClaim := { program := "ytpgobcimkbffpaa", sum := "158c5d9b0cc9538c7dd7128f4d9443af04256c6fe0c4b319588110dd9dbf2b38", func := "loop.example/g01061/laws.FnExactClampsUsed", spec := "fnExactClampsUsed", apart := false, narrowed := true }
def FnExactClampsUsedUptoSaid : Prop := fnExactClampsUsedUptoRow.holds Try.pinned (OpenSpec.upto fnExactClampsUsedSpec)

/-- 'laws.FnExactTotalHours', WHERE WHAT IT READS IS OF BULK AT MOST 1048576: true; the input reads as it did. -/
def fnExactTotalHoursUptoRow : OpenClaim := { program := "ytpgobcimkbffpaa", sum := "158c5d9b0cc9538c7dd7128f4d9443af04256c6fe0c4b319588110dd9dbf2b38", func := "loop.example/g01061/laws.FnExactTotalHours", spec := "fnExactTotalHours", apart := false, narrowed := true }
def FnExactTotalHoursUptoSaid : Prop := fnExactTotalHoursUptoRow.holds Try.pinned (OpenSpec.upto fnExactTotalHoursSpec)

end Rows
end Go.Proofs.Ytpgobcimkbffpaa
