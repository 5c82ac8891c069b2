/-
  No cell of these rows narrows 'for every input' (looked for: loops, veiled, ifaces, maps, wideKeys, modest, calm, conditions, laid).
  DERIVED. THE GIVEN ROWS OF THIS SEAT. 7 by the template 'for every input the law returns true; each argument reads behind the call as it read before'; 0 by the template 'total and deterministic' (their statements: YtakpiiekdlbgmaaTotals.lean).
  GIVEN WITH THE SEED: the statements are not yours to turn. If you find one false, say at which input.
  Laid BY PROGRAM, IN A SANDBOX (cutbox-rows.mjs): the forced cells as the released guide's own fill.sh prints them over the translation 4422f86654815734… (all of the seat's roots in one cut). By AI agents, Wed Nov 11 2026. No macro, syntax, notation, axiom, sorry.
-/
import Derived.Test.YtakpiiekdlbgmaaChecked
import GoSem.Claim
import GoSem.ClaimJoined
import GoSem.ClaimMapViews
import Derived.JoinedTies
import Derived.KernelRfl
namespace Go.Proofs.Ytakpiiekdlbgmaa
/- THE CELL 'sum', in the pinned program and in every row, IS THE sha256 OF THE DUMP (.gsa) THAT YtakpiiekdlbgmaaProg.lean LOADS. Nothing in Lean hashes anything: it is a label: what it is worth is what the hold of that sum in a sandbox is worth. -/
noncomputable def Try.pinned : Pinned := { name := "ytakpiiekdlbgmaa", sum := "4422f866548157344a9216a3500db01c40091128efc96bf58ea689a1ee7bae0d", checked := Try.checked }
namespace Rows
def none {H : Type} : Left H := { results := [], args := [] }

/-- 'laws.FnExactOctaveModes': WHATEVER THE INPUT: true; the input reads as it did. -/
def fnExactOctaveModesSpec : ChangeSpec := { name := "fnExactOctaveModes", fn := fun _ => fun
  | [d1, d2] => { results := [.lit (.bool true)], args := [d1, d2] }
  | _ => none }
def fnExactOctaveModesRow : OpenClaim := { program := "ytakpiiekdlbgmaa", sum := "4422f866548157344a9216a3500db01c40091128efc96bf58ea689a1ee7bae0d", func := "loop.example/g01061/laws.FnExactOctaveModes", spec := "fnExactOctaveModes", apart := false }
def FnExactOctaveModesSaid : Prop := fnExactOctaveModesRow.holds Try.pinned (OpenSpec.ofChange fnExactOctaveModesSpec)

/-- ITS FALSE NEIGHBOUR: 'it returns false'. Refute it at one input. -/
def fnExactOctaveModesWrong : ChangeSpec := { name := "fnExactOctaveModes", fn := fun _ => fun
  | [d1, d2] => { results := [.lit (.bool false)], args := [d1, d2] }
  | _ => none }
def FnExactOctaveModesWrongFalsely : Prop := fnExactOctaveModesRow.holds Try.pinned (OpenSpec.ofChange fnExactOctaveModesWrong)

/-- 'laws.FnExactPairsOf': WHATEVER THE INPUT: true; the input reads as it did. -/
def fnExactPairsOfSpec : ChangeSpec := { name := "fnExactPairsOf", fn := fun _ => fun
  | [d] => { results := [.lit (.bool true)], args := [d] }
  | _ => none }
def fnExactPairsOfRow : OpenClaim := { program := "ytakpiiekdlbgmaa", sum := "4422f866548157344a9216a3500db01c40091128efc96bf58ea689a1ee7bae0d", func := "loop.example/g01061/laws.FnExactPairsOf", spec := "fnExactPairsOf", apart := false }
def FnExactPairsOfSaid : Prop := fnExactPairsOfRow.holds Try.pinned (OpenSpec.ofChange fnExactPairsOfSpec)

/-- ITS FALSE NEIGHBOUR: 'it returns false'. Refute it at one input. -/
def fnExactPairsOfWrong : ChangeSpec := { name := "fnExactPairsOf", fn := fun _ => fun
  | [d] => { results := [.lit (.bool false)], args := [d] }
  | _ => none }
def FnExactPairsOfWrongFalsely : Prop := fnExactPairsOfRow.holds Try.pinned (OpenSpec.ofChange fnExactPairsOfWrong)

/-- 'laws.FnExactClashPairs': WHATEVER THE INPUT: true; the input reads as it did. -/
def fnExactClashPairsSpec : ChangeSpec := { name := "fnExactClashPairs", fn := fun _ => fun
  | [d] => { results := [.lit (.bool true)], args := [d] }
  | _ => none }
def fnExactClashPairsRow : OpenClaim := { program := "ytakpiiekdlbgmaa", sum := "4422f866548157344a9216a3500db01c40091128efc96bf58ea689a1ee7bae0d", func := "loop.example/g01061/laws.FnExactClashPairs", spec := "fnExactClashPairs", apart := false }
def FnExactClashPairsSaid : Prop := fnExactClashPairsRow.holds Try.pinned (OpenSpec.ofChange fnExactClashPairsSpec)

/-- ITS FALSE NEIGHBOUR: 'it returns false'. Refute it at one input. -/
def fnExactClashPairsWrong : ChangeSpec := { name := "fnExactClashPairs", fn := fun _ => fun
  | [d] => { results := [.lit (.bool false)], args := [d] }
  | _ => none }
def FnExactClashPairsWrongFalsely : Prop := fnExactClashPairsRow.holds Try.pinned (OpenSpec.ofChange fnExactClashPairsWrong)

/-- 'laws.FnExactClashesOf': WHATEVER THE INPUT: true; the input reads as it did. -/
def fnExactClashesOfSpec : ChangeSpec := { name := "fnExactClashesOf", fn := fun _ => fun
  | [d] => { results := [.lit (.bool true)], args := [d] }
  | _ => none }
def fnExactClashesOfRow : OpenClaim := { program := "ytakpiiekdlbgmaa", sum := "4422f866548157344a9216a3500db01c40091128efc96bf58ea689a1ee7bae0d", func := "loop.example/g01061/laws.FnExactClashesOf", spec := "fnExactClashesOf", apart := false }
def FnExactClashesOfSaid : Prop := fnExactClashesOfRow.holds Try.pinned (OpenSpec.ofChange fnExactClashesOfSpec)

/-- ITS FALSE NEIGHBOUR: 'it returns false'. Refute it at one input. -/
def fnExactClashesOfWrong : ChangeSpec := { name := "fnExactClashesOf", fn := fun _ => fun
  | [d] => { results := [.lit (.bool false)], args := [d] }
  | _ => none }
def FnExactClashesOfWrongFalsely : Prop := fnExactClashesOfRow.holds Try.pinned (OpenSpec.ofChange fnExactClashesOfWrong)

/-- 'laws.FnExactRivalDeeds': WHATEVER THE INPUT: true; the input reads as it did. -/
def fnExactRivalDeedsSpec : ChangeSpec := { name := "fnExactRivalDeeds", fn := fun _ => fun
  | [d] => { results := [.lit (.bool true)], args := [d] }
  | _ => none }
def fnExactRivalDeedsRow : OpenClaim := { program := "ytakpiiekdlbgmaa", sum := "4422f866548157344a9216a3500db01c40091128efc96bf58ea689a1ee7bae0d", func := "loop.example/g01061/laws.FnExactRivalDeeds", spec := "fnExactRivalDeeds", unfollowed := true, recurses := true, apart := false }
def FnExactRivalDeedsSaid : Prop := fnExactRivalDeedsRow.holds Try.pinned (OpenSpec.ofChange fnExactRivalDeedsSpec)

/-- ITS FALSE NEIGHBOUR: 'it returns false'. Refute it at one input. -/
def fnExactRivalDeedsWrong : ChangeSpec := { name := "fnExactRivalDeeds", fn := fun _ => fun
  | [d] => { results := [.lit (.bool false)], args := [d] }
  | _ => none }
def FnExactRivalDeedsWrongFalsely : Prop := fnExactRivalDeedsRow.holds Try.pinned (OpenSpec.ofChange fnExactRivalDeedsWrong)

/-- 'laws.FnExactMixColours': WHATEVER THE INPUT: true; the input reads as it did. -/
def fnExactMixColoursSpec : ChangeSpec := { name := "fnExactMixColours", fn := fun _ => fun
  | [d1, d2] => { results := [.lit (.bool true)], args := [d1, d2] }
  | _ => none }
def fnExactMixColoursRow : OpenClaim := { program := "ytakpiiekdlbgmaa", sum := "4422f866548157344a9216a3500db01c40091128efc96bf58ea689a1ee7bae0d", func := "loop.example/g01061/laws.FnExactMixColours", spec := "fnExactMixColours", apart := false }
def FnExactMixColoursSaid : Prop := fnExactMixColoursRow.holds Try.pinned (OpenSpec.ofChange fnExactMixColoursSpec)

/-- ITS FALSE NEIGHBOUR: 'it returns false'. Refute it at one input. -/
def fnExactMixColoursWrong : ChangeSpec := { name := "fnExactMixColours", fn := fun _ => fun
  | [d1, d2] => { results := [.lit (.bool false)], args := [d1, d2] }
  | _ => none }
def FnExactMixColoursWrongFalsely : Prop := fnExactMixColoursRow.holds Try.pinned (OpenSpec.ofChange fnExactMixColoursWrong)

/-- 'laws.FnExactKeepsWorks': WHATEVER THE INPUT: true; the input reads as it did. -/
def fnExactKeepsWorksSpec : ChangeSpec := { name := "fnExactKeepsWorks", fn := fun _ => fun
  | [d1, d2] => { results := [.lit (.bool true)], args := [d1, d2] }
  | _ => none }
def fnExactKeepsWorksRow : OpenClaim := { program := "ytakpiiekdlbgmaa", sum := "4422f866548157344a9216a3500db01c40091128efc96bf58ea689a1ee7bae0d", func := "loop.example/g01061/laws.FnExactKeepsWorks", spec := "fnExactKeepsWorks", apart := false }
def FnExactKeepsWorksSaid : Prop := fnExactKeepsWorksRow.holds Try.pinned (OpenSpec.ofChange fnExactKeepsWorksSpec)

/-- ITS FALSE NEIGHBOUR: 'it returns false'. Refute it at one input. -/
def fnExactKeepsWorksWrong : ChangeSpec := { name := "fnExactKeepsWorks", fn := fun _ => fun
  | [d1, d2] => { results := [.lit (.bool false)], args := [d1, d2] }
  | _ => none }
def FnExactKeepsWorksWrongFalsely : Prop := fnExactKeepsWorksRow.holds Try.pinned (OpenSpec.ofChange fnExactKeepsWorksWrong)

/- THE SECOND FORM. 'bulk': how many values and letters a reading holds, each counted each time it is reached (what is shared counts as often as it is met; a slice's spare places count too). A statement '..UptoSaid' is the law's where the arguments, and the package variables that the reading takes, are together of bulk at most 1048576: NARROWER than '..Said'. Prove '..Said' where nothing that the law and all that it calls make is longer than what came in: it says more and counts as full. Else prove '..UptoSaid'. A law counts once. -/
mutual
def uptoBulk {H : Type} : DataW H → Nat
  | .lit (.string bytes) => bytes.length + 1
  | .lit _ => 1
  | .nil => 1
  | .ptr d => uptoBulk d + 1
  | .slice elems spare => uptoBulkAll elems + uptoBulkAll spare + 1
  | .agg parts => uptoBulkAll parts + 1
  | .iface _ d => uptoBulk d + 1
  | .map entries => uptoBulkEntries entries + 1
  | .held _ => 1
def uptoBulkAll {H : Type} : List (DataW H) → Nat
  | [] => 0
  | d :: r => uptoBulk d + uptoBulkAll r
def uptoBulkEntries {H : Type} : List (Lit × DataW H) → Nat
  | [] => 0
  | x :: r => uptoBulkEntry x + uptoBulkEntries r
def uptoBulkEntry {H : Type} : Lit × DataW H → Nat
  | (.string bytes, d) => bytes.length + uptoBulk d + 1
  | (_, d) => uptoBulk d + 1
 end
def uptoSmall : (H : Type) → List (DataW H) → Bool := fun _ ds => decide (uptoBulkAll ds ≤ 1048576)
def OpenSpec.upto (s : _root_.Go.ChangeSpec) : _root_.Go.OpenSpec := { _root_.Go.OpenSpec.ofChange s with cond := some uptoSmall }

/-- 'laws.FnExactOctaveModes', WHERE WHAT IT READS IS OF BULK AT MOST 1048576: true; the input reads as it did. -/
def fnExactOctaveModesUptoRow : OpenClaim := { program := "ytakpiiekdlbgmaa", sum := "4422f866548157344a9216a3500db01c40091128efc96bf58ea689a1ee7bae0d", func := "loop.example/g01061/laws.FnExactOctaveModes", spec := "fnExactOctaveModes", apart := false, narrowed := true }
def FnExactOctaveModesUptoSaid : Prop := fnExactOctaveModesUptoRow.holds Try.pinned (OpenSpec.upto fnExactOctaveModesSpec)

/-- 'laws.FnExactPairsOf', WHERE WHAT IT READS IS OF BULK AT MOST 1048576: true; the input reads as it did. -/
def fnExactPairsOfUptoRow : OpenClaim := { program := "ytakpiiekdlbgmaa", sum := "4422f866548157344a9216a3500db01c40091128efc96bf58ea689a1ee7bae0d", func := "loop.example/g01061/laws.FnExactPairsOf", spec := "fnExactPairsOf", apart := false, narrowed := true }
def FnExactPairsOfUptoSaid : Prop := fnExactPairsOfUptoRow.holds Try.pinned (OpenSpec.upto fnExactPairsOfSpec)

/-- 'laws.FnExactClashPairs', WHERE WHAT IT READS IS OF BULK AT MOST 1048576: true; the input reads as it did. -/
def fnExactClashPairsUptoRow : OpenClaim := { program := "ytakpiiekdlbgmaa", sum := "4422f866548157344a9216a3500db01c40091128efc96bf58ea689a1ee7bae0d", func := "loop.example/g01061/laws.FnExactClashPairs", spec := "fnExactClashPairs", apart := false, narrowed := true }
def FnExactClashPairsUptoSaid : Prop := fnExactClashPairsUptoRow.holds Try.pinned (OpenSpec.upto fnExactClashPairsSpec)

/-- 'laws.FnExactClashesOf', WHERE WHAT IT READS IS OF BULK AT MOST 1048576: true; the input reads as it did. -/
def fnExactClashesOfUptoRow : OpenClaim := { program := "ytakpiiekdlbgmaa", sum := "4422f866548157344a9216a3500db01c40091128efc96bf58ea689a1ee7bae0d", func := "loop.example/g01061/laws.FnExactClashesOf", spec := "fnExactClashesOf", apart := false, narrowed := true }
def FnExactClashesOfUptoSaid : Prop := fnExactClashesOfUptoRow.holds Try.pinned (OpenSpec.upto fnExactClashesOfSpec)

/-- 'laws.FnExactRivalDeeds', WHERE WHAT IT READS IS OF BULK AT MOST 1048576: true; the input reads as it did. -/
def fnExactRivalDeedsUptoRow : OpenClaim := { program := "ytakpiiekdlbgmaa", sum := "4422f866548157344a9216a3500db01c40091128efc96bf58ea689a1ee7bae0d", func := "loop.example/g01061/laws.FnExactRivalDeeds", spec := "fnExactRivalDeeds", unfollowed := true, recurses := true, apart := false, narrowed := true }
def FnExactRivalDeedsUptoSaid : Prop := fnExactRivalDeedsUptoRow.holds Try.pinned (OpenSpec.upto fnExactRivalDeedsSpec)

/-- 'laws.FnExactMixColours', WHERE WHAT IT READS IS OF BULK AT MOST 1048576: true; the input reads as it did. -/
def fnExactMixColoursUptoRow : OpenClaim := { program := "ytakpiiekdlbgmaa", sum := "4422f866548157344a9216a3500db01c40091128efc96bf58ea689a1ee7bae0d", func := "loop.example/g01061/laws.FnExactMixColours", spec := "fnExactMixColours", apart := false, narrowed := true }
def FnExactMixColoursUptoSaid : Prop := fnExactMixColoursUptoRow.holds Try.pinned (OpenSpec.upto fnExactMixColoursSpec)

/-- 'laws.FnExactKeepsWorks', WHERE WHAT IT READS IS OF BULK AT MOST 1048576: true; the input reads as it did. -/
def fnExactKeepsWorksUptoRow : OpenClaim := { program := "ytakpiiekdlbgmaa", sum := "4422f866548157344a9216a3500db01c40091128efc96bf58ea689a1ee7bae0d", func := "loop.example/g01061/laws.FnExactKeepsWorks", spec := "fnExactKeepsWorks", apart := false, narrowed := true }
def FnExactKeepsWorksUptoSaid : Prop := fnExactKeepsWorksUptoRow.holds Try.pinned (OpenSpec.upto fnExactKeepsWorksSpec)

end Rows
end Go.Proofs.Ytakpiiekdlbgmaa
