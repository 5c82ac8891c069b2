/-
  No cell of these rows narrows 'for every input' (looked for: loops, veiled, ifaces, maps, wideKeys, modest, calm, conditions, laid).
  DERIVED. THE GIVEN ROWS OF THIS SEAT. 6 by the template 'for every input the law returns true; each argument reads behind the call as it read before'; 0 by the template 'total and deterministic' (their statements: YthjbcgdmdmfijaaTotals.lean).
  GIVEN WITH THE SEED: the statements are not yours to turn. If you find one false, say at which input.
  Laid BY PROGRAM, IN A SANDBOX (cutbox-rows.mjs): the forced cells as the released guide's own fill.sh prints them over the translation 1913cde7f5f74bc7… (all of the seat's roots in one cut). By AI agents, Wed Nov 11 2026. No macro, syntax, notation, axiom, sorry.
-/
import Derived.Test.YthjbcgdmdmfijaaChecked
import GoSem.Claim
import GoSem.ClaimJoined
import GoSem.ClaimMapViews
import Derived.JoinedTies
import Derived.KernelRfl
namespace Go.Proofs.Ythjbcgdmdmfijaa
/- THE CELL 'sum', in the pinned program and in every row, IS THE sha256 OF THE DUMP (.gsa) THAT YthjbcgdmdmfijaaProg.lean LOADS. Nothing in Lean hashes anything: it is a label: what it is worth is what the hold of that sum in a sandbox is worth. -/
noncomputable def Try.pinned : Pinned := { name := "ythjbcgdmdmfijaa", sum := "1913cde7f5f74bc7f291412ed1b0d1686f4572cb6337e563ba4fa14f1482c6f3", checked := Try.checked }
namespace Rows
def none {H : Type} : Left H := { results := [], args := [] }

/-- 'laws.FnExactFirstCuts': WHATEVER THE INPUT: true; the input reads as it did. -/
def fnExactFirstCutsSpec : ChangeSpec := { name := "fnExactFirstCuts", fn := fun _ => fun
  | [d1, d2, d3] => { results := [.lit (.bool true)], args := [d1, d2, d3] }
  | _ => none }
def fnExactFirstCutsRow : OpenClaim := { program := "ythjbcgdmdmfijaa", sum := "1913cde7f5f74bc7f291412ed1b0d1686f4572cb6337e563ba4fa14f1482c6f3", func := "loop.example/g01061/laws.FnExactFirstCuts", spec := "fnExactFirstCuts", apart := false }
def FnExactFirstCutsSaid : Prop := fnExactFirstCutsRow.holds Try.pinned (OpenSpec.ofChange fnExactFirstCutsSpec)

/-- ITS FALSE NEIGHBOUR: 'it returns false'. Refute it at one input. -/
def fnExactFirstCutsWrong : ChangeSpec := { name := "fnExactFirstCuts", fn := fun _ => fun
  | [d1, d2, d3] => { results := [.lit (.bool false)], args := [d1, d2, d3] }
  | _ => none }
def FnExactFirstCutsWrongFalsely : Prop := fnExactFirstCutsRow.holds Try.pinned (OpenSpec.ofChange fnExactFirstCutsWrong)

/-- 'laws.FnExactEarliestStarts': WHATEVER THE INPUT: true; the input reads as it did. -/
def fnExactEarliestStartsSpec : ChangeSpec := { name := "fnExactEarliestStarts", fn := fun _ => fun
  | [d] => { results := [.lit (.bool true)], args := [d] }
  | _ => none }
def fnExactEarliestStartsRow : OpenClaim := { program := "ythjbcgdmdmfijaa", sum := "1913cde7f5f74bc7f291412ed1b0d1686f4572cb6337e563ba4fa14f1482c6f3", func := "loop.example/g01061/laws.FnExactEarliestStarts", spec := "fnExactEarliestStarts", apart := false }
def FnExactEarliestStartsSaid : Prop := fnExactEarliestStartsRow.holds Try.pinned (OpenSpec.ofChange fnExactEarliestStartsSpec)

/-- ITS FALSE NEIGHBOUR: 'it returns false'. Refute it at one input. -/
def fnExactEarliestStartsWrong : ChangeSpec := { name := "fnExactEarliestStarts", fn := fun _ => fun
  | [d] => { results := [.lit (.bool false)], args := [d] }
  | _ => none }
def FnExactEarliestStartsWrongFalsely : Prop := fnExactEarliestStartsRow.holds Try.pinned (OpenSpec.ofChange fnExactEarliestStartsWrong)

/-- 'laws.FnExactNeededBefore': WHATEVER THE INPUT: true; the input reads as it did. -/
def fnExactNeededBeforeSpec : ChangeSpec := { name := "fnExactNeededBefore", fn := fun _ => fun
  | [d1, d2] => { results := [.lit (.bool true)], args := [d1, d2] }
  | _ => none }
def fnExactNeededBeforeRow : OpenClaim := { program := "ythjbcgdmdmfijaa", sum := "1913cde7f5f74bc7f291412ed1b0d1686f4572cb6337e563ba4fa14f1482c6f3", func := "loop.example/g01061/laws.FnExactNeededBefore", spec := "fnExactNeededBefore", apart := false }
def FnExactNeededBeforeSaid : Prop := fnExactNeededBeforeRow.holds Try.pinned (OpenSpec.ofChange fnExactNeededBeforeSpec)

/-- ITS FALSE NEIGHBOUR: 'it returns false'. Refute it at one input. -/
def fnExactNeededBeforeWrong : ChangeSpec := { name := "fnExactNeededBefore", fn := fun _ => fun
  | [d1, d2] => { results := [.lit (.bool false)], args := [d1, d2] }
  | _ => none }
def FnExactNeededBeforeWrongFalsely : Prop := fnExactNeededBeforeRow.holds Try.pinned (OpenSpec.ofChange fnExactNeededBeforeWrong)

/-- 'laws.FnCoats': WHATEVER THE INPUT: true; the input reads as it did. -/
def fnCoatsSpec : ChangeSpec := { name := "fnCoats", fn := fun _ => fun
  | [d1, d2] => { results := [.lit (.bool true)], args := [d1, d2] }
  | _ => none }
def fnCoatsRow : OpenClaim := { program := "ythjbcgdmdmfijaa", sum := "1913cde7f5f74bc7f291412ed1b0d1686f4572cb6337e563ba4fa14f1482c6f3", func := "loop.example/g01061/laws.FnCoats", spec := "fnCoats", recurses := true, apart := false }
def FnCoatsSaid : Prop := fnCoatsRow.holds Try.pinned (OpenSpec.ofChange fnCoatsSpec)

/-- ITS FALSE NEIGHBOUR: 'it returns false'. Refute it at one input. -/
def fnCoatsWrong : ChangeSpec := { name := "fnCoats", fn := fun _ => fun
  | [d1, d2] => { results := [.lit (.bool false)], args := [d1, d2] }
  | _ => none }
def FnCoatsWrongFalsely : Prop := fnCoatsRow.holds Try.pinned (OpenSpec.ofChange fnCoatsWrong)

/-- 'laws.FnExactMatchModes': WHATEVER THE INPUT: true; the input reads as it did. -/
def fnExactMatchModesSpec : ChangeSpec := { name := "fnExactMatchModes", fn := fun _ => fun
  | [d1, d2, d3] => { results := [.lit (.bool true)], args := [d1, d2, d3] }
  | _ => none }
def fnExactMatchModesRow : OpenClaim := { program := "ythjbcgdmdmfijaa", sum := "1913cde7f5f74bc7f291412ed1b0d1686f4572cb6337e563ba4fa14f1482c6f3", func := "loop.example/g01061/laws.FnExactMatchModes", spec := "fnExactMatchModes", recurses := true, apart := false }
def FnExactMatchModesSaid : Prop := fnExactMatchModesRow.holds Try.pinned (OpenSpec.ofChange fnExactMatchModesSpec)

/-- ITS FALSE NEIGHBOUR: 'it returns false'. Refute it at one input. -/
def fnExactMatchModesWrong : ChangeSpec := { name := "fnExactMatchModes", fn := fun _ => fun
  | [d1, d2, d3] => { results := [.lit (.bool false)], args := [d1, d2, d3] }
  | _ => none }
def FnExactMatchModesWrongFalsely : Prop := fnExactMatchModesRow.holds Try.pinned (OpenSpec.ofChange fnExactMatchModesWrong)

/-- 'laws.FnExactFewestBenches': WHATEVER THE INPUT: true; the input reads as it did. -/
def fnExactFewestBenchesSpec : ChangeSpec := { name := "fnExactFewestBenches", fn := fun _ => fun
  | [d1, d2] => { results := [.lit (.bool true)], args := [d1, d2] }
  | _ => none }
def fnExactFewestBenchesRow : OpenClaim := { program := "ythjbcgdmdmfijaa", sum := "1913cde7f5f74bc7f291412ed1b0d1686f4572cb6337e563ba4fa14f1482c6f3", func := "loop.example/g01061/laws.FnExactFewestBenches", spec := "fnExactFewestBenches", recurses := true, apart := false }
def FnExactFewestBenchesSaid : Prop := fnExactFewestBenchesRow.holds Try.pinned (OpenSpec.ofChange fnExactFewestBenchesSpec)

/-- ITS FALSE NEIGHBOUR: 'it returns false'. Refute it at one input. -/
def fnExactFewestBenchesWrong : ChangeSpec := { name := "fnExactFewestBenches", fn := fun _ => fun
  | [d1, d2] => { results := [.lit (.bool false)], args := [d1, d2] }
  | _ => none }
def FnExactFewestBenchesWrongFalsely : Prop := fnExactFewestBenchesRow.holds Try.pinned (OpenSpec.ofChange fnExactFewestBenchesWrong)

/- THE SECOND FORM. 'bulk': how many values and letters a reading holds, each counted each time it is reached (what is shared counts as often as it is met; a slice's spare places count too). A statement '..UptoSaid' is the law's where the arguments, and the package variables that the reading takes, are together of bulk at most 1048576: NARROWER than '..Said'. Prove '..Said' where nothing that the law and all that it calls make is longer than what came in: it says more and counts as full. Else prove '..UptoSaid'. A law counts once. -/
mutual
def uptoBulk {H : Type} : DataW H → Nat
  | .lit (.string bytes) => bytes.length + 1
  | .lit _ => 1
  | .nil => 1
  | .ptr d => uptoBulk d + 1
  | .slice elems spare => uptoBulkAll elems + uptoBulkAll spare + 1
  | .agg parts => uptoBulkAll parts + 1
  | .iface _ d => uptoBulk d + 1
  | .map entries => uptoBulkEntries entries + 1
  | .held _ => 1
def uptoBulkAll {H : Type} : List (DataW H) → Nat
  | [] => 0
  | d :: r => uptoBulk d + uptoBulkAll r
def uptoBulkEntries {H : Type} : List (Lit × DataW H) → Nat
  | [] => 0
  | x :: r => uptoBulkEntry x + uptoBulkEntries r
def uptoBulkEntry {H : Type} : Lit × DataW H → Nat
  | (.string bytes, d) => bytes.length + uptoBulk d + 1
  | (_, d) => uptoBulk d + 1
 end
def uptoSmall : (H : Type) → List (DataW H) → Bool := fun _ ds => decide (uptoBulkAll ds ≤ 1048576)
def OpenSpec.upto (s : _root_.Go.ChangeSpec) : _root_.Go.OpenSpec := { _root_.Go.OpenSpec.ofChange s with cond := some uptoSmall }

/-- 'laws.FnExactFirstCuts', WHERE WHAT IT READS IS OF BULK AT MOST 1048576: true; the input reads as it did. -/
def fnExactFirstCutsUptoRow : OpenClaim := { program := "ythjbcgdmdmfijaa", sum := "1913cde7f5f74bc7f291412ed1b0d1686f4572cb6337e563ba4fa14f1482c6f3", func := "loop.example/g01061/laws.FnExactFirstCuts", spec := "fnExactFirstCuts", apart := false, narrowed := true }
def FnExactFirstCutsUptoSaid : Prop := fnExactFirstCutsUptoRow.holds Try.pinned (OpenSpec.upto fnExactFirstCutsSpec)

/-- 'laws.FnExactEarliestStarts', WHERE WHAT IT READS IS OF BULK AT MOST 1048576: true; the input reads as it did. -/
def fnExactEarliestStartsUptoRow : OpenClaim := { program := "ythjbcgdmdmfijaa", sum := "1913cde7f5f74bc7f291412ed1b0d1686f4572cb6337e563ba4fa14f1482c6f3", func := "loop.example/g01061/laws.FnExactEarliestStarts", spec := "fnExactEarliestStarts", apart := false, narrowed := true }
def FnExactEarliestStartsUptoSaid : Prop := fnExactEarliestStartsUptoRow.holds Try.pinned (OpenSpec.upto fnExactEarliestStartsSpec)

/-- 'laws.FnExactNeededBefore', WHERE WHAT IT READS IS OF BULK AT MOST 1048576: true; the input reads as it did. -/
def fnExactNeededBeforeUptoRow : OpenClaim := { program := "ythjbcgdmdmfijaa", sum := "1913cde7f5f74bc7f291412ed1b0d1686f4572cb6337e563ba4fa14f1482c6f3", func := "loop.example/g01061/laws.FnExactNeededBefore", spec := "fnExactNeededBefore", apart := false, narrowed := true }
def FnExactNeededBeforeUptoSaid : Prop := fnExactNeededBeforeUptoRow.holds Try.pinned (OpenSpec.upto fnExactNeededBeforeSpec)

/-- 'laws.FnCoats', WHERE WHAT IT READS IS OF BULK AT MOST 1048576: true; the input reads as it did. -/
def fnCoatsUptoRow : OpenClaim := { program := "ythjbcgdmdmfijaa", sum := "1913cde7f5f74bc7f291412ed1b0d1686f4572cb6337e563ba4fa14f1482c6f3", func := "loop.example/g01061/laws.FnCoats", spec := "fnCoats", recurses := true, apart := false, narrowed := true }
def FnCoatsUptoSaid : Prop := fnCoatsUptoRow.holds Try.pinned (OpenSpec.upto fnCoatsSpec)

/-- 'laws.FnExactMatchModes', WHERE WHAT IT READS IS OF BULK AT MOST 1048576: true; the input reads as it did. -/
def fnExactMatchModesUptoRow : OpenClaim := { program := "ythjbcgdmdmfijaa", sum := "1913cde7f5f74bc7f291412ed1b0d1686f4572cb6337e563ba4fa14f1482c6f3", func := "loop.example/g01061/laws.FnExactMatchModes", spec := "fnExactMatchModes", recurses := true, apart := false, narrowed := true }
def FnExactMatchModesUptoSaid : Prop := fnExactMatchModesUptoRow.holds Try.pinned (OpenSpec.upto fnExactMatchModesSpec)

/-- 'laws.FnExactFewestBenches', WHERE WHAT IT READS IS OF BULK AT MOST 1048576: true; the input reads as it did. -/
def fnExactFewestBenchesUptoRow : OpenClaim := { program := "ythjbcgdmdmfijaa", sum := "1913cde7f5f74bc7f291412ed1b0d1686f4572cb6337e563ba4fa14f1482c6f3", func := "loop.example/g01061/laws.FnExactFewestBenches", spec := "fnExactFewestBenches", recurses := true, apart := false, narrowed := true }
def FnExactFewestBenchesUptoSaid : Prop := fnExactFewestBenchesUptoRow.holds Try.pinned (OpenSpec.upto fnExactFewestBenchesSpec)

end Rows
end Go.Proofs.Ythjbcgdmdmfijaa
