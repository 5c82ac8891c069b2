/- Proved: the law FnExactMatchModes answers true for every input and leaves its arguments as they were (Rows.FnExactMatchModesSaid); no conditions. -/
import Derived.Test.YthjbcgdmdmfijaaLiftMatchModes
set_option linter.unusedVariables false
set_option linter.unusedSimpArgs false
set_option maxRecDepth 100000
namespace Go.Proofs.Ythjbcgdmdmfijaa
open Go.ChangeShapes Go.WideShapes Go.ChangeAt Go.RowKit Go.Lo
open Go.ChangeMaps (open_string shut_string)
theorem matchModes_proved : Rows.FnExactMatchModesSaid :=
  OpenClaim.holds_of_wide 7 Try.f7 rfl rfl rfl rfl rfl rfl rfl ⟨rfl, rfl, rfl, rfl, rfl⟩ rfl rfl rfl rfl rfl (by kernel_rfl) Try.func7 (by kernel_rfl)
    (of_decide_eq_true (by kernel_rfl)) (by unfold Func.isWrapper; first | (rw [if_pos (by decide +kernel)]; kernel_rfl) | (rw [if_neg (by decide +kernel)]; exact ⟨rfl, rfl⟩))
    (fun os started H enc _ => matchModes_lifted os started H enc)
#print axioms matchModes_proved
end Go.Proofs.Ythjbcgdmdmfijaa
