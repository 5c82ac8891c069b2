/-
  No cell of these rows narrows 'for every input' (looked for: loops, veiled, ifaces, maps, wideKeys, modest, calm, conditions, laid).
  DERIVED. THE GIVEN ROWS OF THIS SEAT. 12 by the template 'for every input the law returns true; each argument reads behind the call as it read before'; 0 by the template 'total and deterministic' (their statements: YtkimakfnbafeoaaTotals.lean).
  GIVEN WITH THE SEED: the statements are not yours to turn. If you find one false, say at which input.
  Laid BY PROGRAM, IN A SANDBOX (cutbox-rows.mjs): the forced cells as the released guide's own fill.sh prints them over the translation 1cd649e3830cac00… (all of the seat's roots in one cut). By AI agents, Wed Nov 11 2026. No macro, syntax, notation, axiom, sorry.
-/
import Derived.Test.YtkimakfnbafeoaaChecked
import GoSem.Claim
import GoSem.ClaimJoined
import GoSem.ClaimMapViews
import Derived.JoinedTies
import Derived.KernelRfl
namespace Go.Proofs.Ytkimakfnbafeoaa
/- THE CELL 'sum', in the pinned program and in every row, IS THE sha256 OF THE DUMP (.gsa) THAT YtkimakfnbafeoaaProg.lean LOADS. Nothing in Lean hashes anything: it is a label: what it is worth is what the hold of that sum in a sandbox is worth. -/
noncomputable def Try.pinned : Pinned := { name := "ytkimakfnbafeoaa", sum := "1cd649e3830cac008447f196b0500851e7041c6c4a085febc6f093d58eafa55b", checked := Try.checked }
namespace Rows
def none {H : Type} : Left H := { results := [], args := [] }

/-- 'laws.FnExactGapsOf': WHATEVER THE INPUT: true; the input reads as it did. -/
def fnExactGapsOfSpec : ChangeSpec := { name := "fnExactGapsOf", fn := fun _ => fun
  | [d1, d2] => { results := [.lit (.bool true)], args := [d1, d2] }
  | _ => none }
def fnExactGapsOfRow : OpenClaim := { program := "ytkimakfnbafeoaa", sum := "1cd649e3830cac008447f196b0500851e7041c6c4a085febc6f093d58eafa55b", func := "loop.example/g01061/laws.FnExactGapsOf", spec := "fnExactGapsOf", unfollowed := true, recurses := true, apart := false }
def FnExactGapsOfSaid : Prop := fnExactGapsOfRow.holds Try.pinned (OpenSpec.ofChange fnExactGapsOfSpec)

/-- ITS FALSE NEIGHBOUR: 'it returns false'. Refute it at one input. -/
def fnExactGapsOfWrong : ChangeSpec := { name := "fnExactGapsOf", fn := fun _ => fun
  | [d1, d2] => { results := [.lit (.bool false)], args := [d1, d2] }
  | _ => none }
def FnExactGapsOfWrongFalsely : Prop := fnExactGapsOfRow.holds Try.pinned (OpenSpec.ofChange fnExactGapsOfWrong)

/-- 'laws.FnExactOctaveModes': WHATEVER THE INPUT: true; the input reads as it did. -/
def fnExactOctaveModesSpec : ChangeSpec := { name := "fnExactOctaveModes", fn := fun _ => fun
  | [d1, d2] => { results := [.lit (.bool true)], args := [d1, d2] }
  | _ => none }
def fnExactOctaveModesRow : OpenClaim := { program := "ytkimakfnbafeoaa", sum := "1cd649e3830cac008447f196b0500851e7041c6c4a085febc6f093d58eafa55b", func := "loop.example/g01061/laws.FnExactOctaveModes", spec := "fnExactOctaveModes", apart := false }
def FnExactOctaveModesSaid : Prop := fnExactOctaveModesRow.holds Try.pinned (OpenSpec.ofChange fnExactOctaveModesSpec)

/-- ITS FALSE NEIGHBOUR: 'it returns false'. Refute it at one input. -/
def fnExactOctaveModesWrong : ChangeSpec := { name := "fnExactOctaveModes", fn := fun _ => fun
  | [d1, d2] => { results := [.lit (.bool false)], args := [d1, d2] }
  | _ => none }
def FnExactOctaveModesWrongFalsely : Prop := fnExactOctaveModesRow.holds Try.pinned (OpenSpec.ofChange fnExactOctaveModesWrong)

/-- 'laws.FnExactDiffStates': WHATEVER THE INPUT: true; the input reads as it did. -/
def fnExactDiffStatesSpec : ChangeSpec := { name := "fnExactDiffStates", fn := fun _ => fun
  | [d1, d2] => { results := [.lit (.bool true)], args := [d1, d2] }
  | _ => none }
def fnExactDiffStatesRow : OpenClaim := { program := "ytkimakfnbafeoaa", sum := "1cd649e3830cac008447f196b0500851e7041c6c4a085febc6f093d58eafa55b", func := "loop.example/g01061/laws.FnExactDiffStates", spec := "fnExactDiffStates", apart := false }
def FnExactDiffStatesSaid : Prop := fnExactDiffStatesRow.holds Try.pinned (OpenSpec.ofChange fnExactDiffStatesSpec)

/-- ITS FALSE NEIGHBOUR: 'it returns false'. Refute it at one input. -/
def fnExactDiffStatesWrong : ChangeSpec := { name := "fnExactDiffStates", fn := fun _ => fun
  | [d1, d2] => { results := [.lit (.bool false)], args := [d1, d2] }
  | _ => none }
def FnExactDiffStatesWrongFalsely : Prop := fnExactDiffStatesRow.holds Try.pinned (OpenSpec.ofChange fnExactDiffStatesWrong)

/-- 'laws.FnExactKeepsClamps': WHATEVER THE INPUT: true; the input reads as it did. -/
def fnExactKeepsClampsSpec : ChangeSpec := { name := "fnExactKeepsClamps", fn := fun _ => fun
  | [d1, d2, d3] => { results := [.lit (.bool true)], args := [d1, d2, d3] }
  | _ => none }
def fnExactKeepsClampsRow : OpenClaim := { program := "ytkimakfnbafeoaa", sum := "1cd649e3830cac008447f196b0500851e7041c6c4a085febc6f093d58eafa55b", func := "loop.example/g01061/laws.FnExactKeepsClamps", spec := "fnExactKeepsClamps", apart := false }
def FnExactKeepsClampsSaid : Prop := fnExactKeepsClampsRow.holds Try.pinned (OpenSpec.ofChange fnExactKeepsClampsSpec)

/-- ITS FALSE NEIGHBOUR: 'it returns false'. Refute it at one input. -/
def fnExactKeepsClampsWrong : ChangeSpec := { name := "fnExactKeepsClamps", fn := fun _ => fun
  | [d1, d2, d3] => { results := [.lit (.bool false)], args := [d1, d2, d3] }
  | _ => none }
def FnExactKeepsClampsWrongFalsely : Prop := fnExactKeepsClampsRow.holds Try.pinned (OpenSpec.ofChange fnExactKeepsClampsWrong)

/-- 'laws.FnExactPairsOf': WHATEVER THE INPUT: true; the input reads as it did. -/
def fnExactPairsOfSpec : ChangeSpec := { name := "fnExactPairsOf", fn := fun _ => fun
  | [d] => { results := [.lit (.bool true)], args := [d] }
  | _ => none }
def fnExactPairsOfRow : OpenClaim := { program := "ytkimakfnbafeoaa", sum := "1cd649e3830cac008447f196b0500851e7041c6c4a085febc6f093d58eafa55b", func := "loop.example/g01061/laws.FnExactPairsOf", spec := "fnExactPairsOf", apart := false }
def FnExactPairsOfSaid : Prop := fnExactPairsOfRow.holds Try.pinned (OpenSpec.ofChange fnExactPairsOfSpec)

/-- ITS FALSE NEIGHBOUR: 'it returns false'. Refute it at one input. -/
def fnExactPairsOfWrong : ChangeSpec := { name := "fnExactPairsOf", fn := fun _ => fun
  | [d] => { results := [.lit (.bool false)], args := [d] }
  | _ => none }
def FnExactPairsOfWrongFalsely : Prop := fnExactPairsOfRow.holds Try.pinned (OpenSpec.ofChange fnExactPairsOfWrong)

/-- 'laws.FnExactSpanOf': WHATEVER THE INPUT: true; the input reads as it did. -/
def fnExactSpanOfSpec : ChangeSpec := { name := "fnExactSpanOf", fn := fun _ => fun
  | [d1, d2] => { results := [.lit (.bool true)], args := [d1, d2] }
  | _ => none }
def fnExactSpanOfRow : OpenClaim := { program := "ytkimakfnbafeoaa", sum := "1cd649e3830cac008447f196b0500851e7041c6c4a085febc6f093d58eafa55b", func := "loop.example/g01061/laws.FnExactSpanOf", spec := "fnExactSpanOf", unfollowed := true, recurses := true, apart := false }
def FnExactSpanOfSaid : Prop := fnExactSpanOfRow.holds Try.pinned (OpenSpec.ofChange fnExactSpanOfSpec)

/-- ITS FALSE NEIGHBOUR: 'it returns false'. Refute it at one input. -/
def fnExactSpanOfWrong : ChangeSpec := { name := "fnExactSpanOf", fn := fun _ => fun
  | [d1, d2] => { results := [.lit (.bool false)], args := [d1, d2] }
  | _ => none }
def FnExactSpanOfWrongFalsely : Prop := fnExactSpanOfRow.holds Try.pinned (OpenSpec.ofChange fnExactSpanOfWrong)

/-- 'laws.FnExactStripsLeft': WHATEVER THE INPUT: true; the input reads as it did. -/
def fnExactStripsLeftSpec : ChangeSpec := { name := "fnExactStripsLeft", fn := fun _ => fun
  | [d1, d2, d3, d4] => { results := [.lit (.bool true)], args := [d1, d2, d3, d4] }
  | _ => none }
def fnExactStripsLeftRow : OpenClaim := { program := "ytkimakfnbafeoaa", sum := "1cd649e3830cac008447f196b0500851e7041c6c4a085febc6f093d58eafa55b", func := "loop.example/g01061/laws.FnExactStripsLeft", spec := "fnExactStripsLeft", apart := false }
def FnExactStripsLeftSaid : Prop := fnExactStripsLeftRow.holds Try.pinned (OpenSpec.ofChange fnExactStripsLeftSpec)

/-- ITS FALSE NEIGHBOUR: 'it returns false'. Refute it at one input. -/
def fnExactStripsLeftWrong : ChangeSpec := { name := "fnExactStripsLeft", fn := fun _ => fun
  | [d1, d2, d3, d4] => { results := [.lit (.bool false)], args := [d1, d2, d3, d4] }
  | _ => none }
def FnExactStripsLeftWrongFalsely : Prop := fnExactStripsLeftRow.holds Try.pinned (OpenSpec.ofChange fnExactStripsLeftWrong)

/-- 'laws.FnExactTakePieces': WHATEVER THE INPUT: true; the input reads as it did. -/
def fnExactTakePiecesSpec : ChangeSpec := { name := "fnExactTakePieces", fn := fun _ => fun
  | [d1, d2, d3] => { results := [.lit (.bool true)], args := [d1, d2, d3] }
  | _ => none }
def fnExactTakePiecesRow : OpenClaim := { program := "ytkimakfnbafeoaa", sum := "1cd649e3830cac008447f196b0500851e7041c6c4a085febc6f093d58eafa55b", func := "loop.example/g01061/laws.FnExactTakePieces", spec := "fnExactTakePieces", unfollowed := true, recurses := true, apart := false }
def FnExactTakePiecesSaid : Prop := fnExactTakePiecesRow.holds Try.pinned (OpenSpec.ofChange fnExactTakePiecesSpec)

/-- ITS FALSE NEIGHBOUR: 'it returns false'. Refute it at one input. -/
def fnExactTakePiecesWrong : ChangeSpec := { name := "fnExactTakePieces", fn := fun _ => fun
  | [d1, d2, d3] => { results := [.lit (.bool false)], args := [d1, d2, d3] }
  | _ => none }
def FnExactTakePiecesWrongFalsely : Prop := fnExactTakePiecesRow.holds Try.pinned (OpenSpec.ofChange fnExactTakePiecesWrong)

/-- 'laws.FnExactClashPairs': WHATEVER THE INPUT: true; the input reads as it did. -/
def fnExactClashPairsSpec : ChangeSpec := { name := "fnExactClashPairs", fn := fun _ => fun
  | [d] => { results := [.lit (.bool true)], args := [d] }
  | _ => none }
def fnExactClashPairsRow : OpenClaim := { program := "ytkimakfnbafeoaa", sum := "1cd649e3830cac008447f196b0500851e7041c6c4a085febc6f093d58eafa55b", func := "loop.example/g01061/laws.FnExactClashPairs", spec := "fnExactClashPairs", apart := false }
def FnExactClashPairsSaid : Prop := fnExactClashPairsRow.holds Try.pinned (OpenSpec.ofChange fnExactClashPairsSpec)

/-- ITS FALSE NEIGHBOUR: 'it returns false'. Refute it at one input. -/
def fnExactClashPairsWrong : ChangeSpec := { name := "fnExactClashPairs", fn := fun _ => fun
  | [d] => { results := [.lit (.bool false)], args := [d] }
  | _ => none }
def FnExactClashPairsWrongFalsely : Prop := fnExactClashPairsRow.holds Try.pinned (OpenSpec.ofChange fnExactClashPairsWrong)

/-- 'laws.FnExactExtend': WHATEVER THE INPUT: true; the input reads as it did. -/
def fnExactExtendSpec : ChangeSpec := { name := "fnExactExtend", fn := fun _ => fun
  | [d1, d2, d3] => { results := [.lit (.bool true)], args := [d1, d2, d3] }
  | _ => none }
def fnExactExtendRow : OpenClaim := { program := "ytkimakfnbafeoaa", sum := "1cd649e3830cac008447f196b0500851e7041c6c4a085febc6f093d58eafa55b", func := "loop.example/g01061/laws.FnExactExtend", spec := "fnExactExtend", apart := false }
def FnExactExtendSaid : Prop := fnExactExtendRow.holds Try.pinned (OpenSpec.ofChange fnExactExtendSpec)

/-- ITS FALSE NEIGHBOUR: 'it returns false'. Refute it at one input. -/
def fnExactExtendWrong : ChangeSpec := { name := "fnExactExtend", fn := fun _ => fun
  | [d1, d2, d3] => { results := [.lit (.bool false)], args := [d1, d2, d3] }
  | _ => none }
def FnExactExtendWrongFalsely : Prop := fnExactExtendRow.holds Try.pinned (OpenSpec.ofChange fnExactExtendWrong)

/-- 'laws.FnExactDropClashes': WHATEVER THE INPUT: true; the input reads as it did. -/
def fnExactDropClashesSpec : ChangeSpec := { name := "fnExactDropClashes", fn := fun _ => fun
  | [d] => { results := [.lit (.bool true)], args := [d] }
  | _ => none }
def fnExactDropClashesRow : OpenClaim := { program := "ytkimakfnbafeoaa", sum := "1cd649e3830cac008447f196b0500851e7041c6c4a085febc6f093d58eafa55b", func := "loop.example/g01061/laws.FnExactDropClashes", spec := "fnExactDropClashes", apart := false }
def FnExactDropClashesSaid : Prop := fnExactDropClashesRow.holds Try.pinned (OpenSpec.ofChange fnExactDropClashesSpec)

/-- ITS FALSE NEIGHBOUR: 'it returns false'. Refute it at one input. -/
def fnExactDropClashesWrong : ChangeSpec := { name := "fnExactDropClashes", fn := fun _ => fun
  | [d] => { results := [.lit (.bool false)], args := [d] }
  | _ => none }
def FnExactDropClashesWrongFalsely : Prop := fnExactDropClashesRow.holds Try.pinned (OpenSpec.ofChange fnExactDropClashesWrong)

/-- 'laws.FnExactFirstCuts': WHATEVER THE INPUT: true; the input reads as it did. -/
def fnExactFirstCutsSpec : ChangeSpec := { name := "fnExactFirstCuts", fn := fun _ => fun
  | [d1, d2, d3] => { results := [.lit (.bool true)], args := [d1, d2, d3] }
  | _ => none }
def fnExactFirstCutsRow : OpenClaim := { program := "ytkimakfnbafeoaa", sum := "1cd649e3830cac008447f196b0500851e7041c6c4a085febc6f093d58eafa55b", func := "loop.example/g01061/laws.FnExactFirstCuts", spec := "fnExactFirstCuts", apart := false }
def FnExactFirstCutsSaid : Prop := fnExactFirstCutsRow.holds Try.pinned (OpenSpec.ofChange fnExactFirstCutsSpec)

/-- ITS FALSE NEIGHBOUR: 'it returns false'. Refute it at one input. -/
def fnExactFirstCutsWrong : ChangeSpec := { name := "fnExactFirstCuts", fn := fun _ => fun
  | [d1, d2, d3] => { results := [.lit (.bool false)], args := [d1, d2, d3] }
  | _ => none }
def FnExactFirstCutsWrongFalsely : Prop := fnExactFirstCutsRow.holds Try.pinned (OpenSpec.ofChange fnExactFirstCutsWrong)

/- THE SECOND FORM. 'bulk': how many values and letters a reading holds, each counted each time it is reached (what is shared counts as often as it is met; a slice's spare places count too). A statement '..UptoSaid' is the law's where the arguments, and the package variables that the reading takes, are together of bulk at most 1048576: NARROWER than '..Said'. Prove '..Said' where nothing that the law and all that it calls make is longer than what came in: it says more and counts as full. Else prove '..UptoSaid'. A law counts once. -/
mutual
def uptoBulk {H : Type} : DataW H → Nat
  | .lit (.string bytes) => bytes.length + 1
  | .lit _ => 1
  | .nil => 1
  | .ptr d => uptoBulk d + 1
  | .slice elems spare => uptoBulkAll elems + uptoBulkAll spare + 1
  | .agg parts => uptoBulkAll parts + 1
  | .iface _ d => uptoBulk d + 1
  | .map entries => uptoBulkEntries entries + 1
  | .held _ => 1
def uptoBulkAll {H : Type} : List (DataW H) → Nat
  | [] => 0
  | d :: r => uptoBulk d + uptoBulkAll r
def uptoBulkEntries {H : Type} : List (Lit × DataW H) → Nat
  | [] => 0
  | x :: r => uptoBulkEntry x + uptoBulkEntries r
def uptoBulkEntry {H : Type} : Lit × DataW H → Nat
  | (.string bytes, d) => bytes.length + uptoBulk d + 1
  | (_, d) => uptoBulk d + 1
 end
def uptoSmall : (H : Type) → List (DataW H) → Bool := fun _ ds => decide (uptoBulkAll ds ≤ 1048576)
def OpenSpec.upto (s : _root_.Go.ChangeSpec) : _root_.Go.OpenSpec := { _root_.Go.OpenSpec.ofChange s with cond := some uptoSmall }

/-- 'laws.FnExactGapsOf', WHERE WHAT IT READS IS OF BULK AT MOST 1048576: true; the input reads as it did. -/
def fnExactGapsOfUptoRow : OpenClaim := { program := "ytkimakfnbafeoaa", sum := "1cd649e3830cac008447f196b0500851e7041c6c4a085febc6f093d58eafa55b", func := "loop.example/g01061/laws.FnExactGapsOf", spec := "fnExactGapsOf", unfollowed := true, recurses := true, apart := false, narrowed := true }
def FnExactGapsOfUptoSaid : Prop := fnExactGapsOfUptoRow.holds Try.pinned (OpenSpec.upto fnExactGapsOfSpec)

/-- 'laws.FnExactOctaveModes', WHERE WHAT IT READS IS OF BULK AT MOST 1048576: true; the input reads as it did. -/
def fnExactOctaveModesUptoRow : OpenClaim := { program := "ytkimakfnbafeoaa", sum := "1cd649e3830cac008447f196b0500851e7041c6c4a085febc6f093d58eafa55b", func := "loop.example/g01061/laws.FnExactOctaveModes", spec := "fnExactOctaveModes", apart := false, narrowed := true }
def FnExactOctaveModesUptoSaid : Prop := fnExactOctaveModesUptoRow.holds Try.pinned (OpenSpec.upto fnExactOctaveModesSpec)

/-- 'laws.FnExactDiffStates', WHERE WHAT IT READS IS OF BULK AT MOST 1048576: true; the input reads as it did. -/
def fnExactDiffStatesUptoRow : OpenClaim := { program := "ytkimakfnbafeoaa", sum := "1cd649e3830cac008447f196b0500851e7041c6c4a085febc6f093d58eafa55b", func := "loop.example/g01061/laws.FnExactDiffStates", spec := "fnExactDiffStates", apart := false, narrowed := true }
def FnExactDiffStatesUptoSaid : Prop := fnExactDiffStatesUptoRow.holds Try.pinned (OpenSpec.upto fnExactDiffStatesSpec)

/-- 'laws.FnExactKeepsClamps', WHERE WHAT IT READS IS OF BULK AT MOST 1048576: true; the input reads as it did. -/
def fnExactKeepsClampsUptoRow : OpenClaim := { program := "ytkimakfnbafeoaa", sum := "1cd649e3830cac008447f196b0500851e7041c6c4a085febc6f093d58eafa55b", func := "loop.example/g01061/laws.FnExactKeepsClamps", spec := "fnExactKeepsClamps", apart := false, narrowed := true }
def FnExactKeepsClampsUptoSaid : Prop := fnExactKeepsClampsUptoRow.holds Try.pinned (OpenSpec.upto fnExactKeepsClampsSpec)

/-- 'laws.FnExactPairsOf', WHERE WHAT IT READS IS OF BULK AT MOST 1048576: true; the input reads as it did. -/
def fnExactPairsOfUptoRow : OpenClaim := { program := "ytkimakfnbafeoaa", sum := "1cd649e3830cac008447f196b0500851e7041c6c4a085febc6f093d58eafa55b", func := "loop.example/g01061/laws.FnExactPairsOf", spec := "fnExactPairsOf", apart := false, narrowed := true }
def FnExactPairsOfUptoSaid : Prop := fnExactPairsOfUptoRow.holds Try.pinned (OpenSpec.upto fnExactPairsOfSpec)

/-- 'laws.FnExactSpanOf', WHERE WHAT IT READS IS OF BULK AT MOST 1048576: true; the input reads as it did. -/
def fnExactSpanOfUptoRow : OpenClaim := { program := "ytkimakfnbafeoaa", sum := "1cd649e3830cac008447f196b0500851e7041c6c4a085febc6f093d58eafa55b", func := "loop.example/g01061/laws.FnExactSpanOf", spec := "fnExactSpanOf", unfollowed := true, recurses := true, apart := false, narrowed := true }
def FnExactSpanOfUptoSaid : Prop := fnExactSpanOfUptoRow.holds Try.pinned (OpenSpec.upto fnExactSpanOfSpec)

/-- 'laws.FnExactStripsLeft', WHERE WHAT IT READS IS OF BULK AT MOST 1048576: true; the input reads as it did. -/
def fnExactStripsLeftUptoRow : OpenClaim := { program := "ytkimakfnbafeoaa", sum := "1cd649e3830cac008447f196b0500851e7041c6c4a085febc6f093d58eafa55b", func := "loop.example/g01061/laws.FnExactStripsLeft", spec := "fnExactStripsLeft", apart := false, narrowed := true }
def FnExactStripsLeftUptoSaid : Prop := fnExactStripsLeftUptoRow.holds Try.pinned (OpenSpec.upto fnExactStripsLeftSpec)

/-- 'laws.FnExactTakePieces', WHERE WHAT IT READS IS OF BULK AT MOST 1048576: true; the input reads as it did. -/
def fnExactTakePiecesUptoRow : OpenClaim := { program := "ytkimakfnbafeoaa", sum := "1cd649e3830cac008447f196b0500851e7041c6c4a085febc6f093d58eafa55b", func := "loop.example/g01061/laws.FnExactTakePieces", spec := "fnExactTakePieces", unfollowed := true, recurses := true, apart := false, narrowed := true }
def FnExactTakePiecesUptoSaid : Prop := fnExactTakePiecesUptoRow.holds Try.pinned (OpenSpec.upto fnExactTakePiecesSpec)

/-- 'laws.FnExactClashPairs', WHERE WHAT IT READS IS OF BULK AT MOST 1048576: true; the input reads as it did. -/
def fnExactClashPairsUptoRow : OpenClaim := { program := "ytkimakfnbafeoaa", sum := "1cd649e3830cac008447f196b0500851e7041c6c4a085febc6f093d58eafa55b", func := "loop.example/g01061/laws.FnExactClashPairs", spec := "fnExactClashPairs", apart := false, narrowed := true }
def FnExactClashPairsUptoSaid : Prop := fnExactClashPairsUptoRow.holds Try.pinned (OpenSpec.upto fnExactClashPairsSpec)

/-- 'laws.FnExactExtend', WHERE WHAT IT READS IS OF BULK AT MOST 1048576: true; the input reads as it did. -/
def fnExactExtendUptoRow : OpenClaim := { program := "ytkimakfnbafeoaa", sum := "1cd649e3830cac008447f196b0500851e7041c6c4a085febc6f093d58eafa55b", func := "loop.example/g01061/laws.FnExactExtend", spec := "fnExactExtend", apart := false, narrowed := true }
def FnExactExtendUptoSaid : Prop := fnExactExtendUptoRow.holds Try.pinned (OpenSpec.upto fnExactExtendSpec)

/-- 'laws.FnExactDropClashes', WHERE WHAT IT READS IS OF BULK AT MOST 1048576: true; the input reads as it did. -/
def fnExactDropClashesUptoRow : OpenClaim := { program := "ytkimakfnbafeoaa", sum := "1cd649e3830cac008447f196b0500851e7041c6c4a085febc6f093d58eafa55b", func := "loop.example/g01061/laws.FnExactDropClashes", spec := "fnExactDropClashes", apart := false, narrowed := true }
def FnExactDropClashesUptoSaid : Prop := fnExactDropClashesUptoRow.holds Try.pinned (OpenSpec.upto fnExactDropClashesSpec)

/-- 'laws.FnExactFirstCuts', WHERE WHAT IT READS IS OF BULK AT MOST 1048576: true; the input reads as it did. -/
def fnExactFirstCutsUptoRow : OpenClaim := { program := "ytkimakfnbafeoaa", sum := "1cd649e3830cac008447f196b0500851e7041c6c4a085febc6f093d58eafa55b", func := "loop.example/g01061/laws.FnExactFirstCuts", spec := "fnExactFirstCuts", apart := false, narrowed := true }
def FnExactFirstCutsUptoSaid : Prop := fnExactFirstCutsUptoRow.holds Try.pinned (OpenSpec.upto fnExactFirstCutsSpec)

end Rows
end Go.Proofs.Ytkimakfnbafeoaa
