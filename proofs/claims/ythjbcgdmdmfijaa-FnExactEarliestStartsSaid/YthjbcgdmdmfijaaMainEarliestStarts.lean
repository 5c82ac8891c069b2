/- Proved: the law FnExactEarliestStarts answers true for every input and leaves its arguments as they were (Rows.FnExactEarliestStartsSaid); no conditions. -/
import Derived.Test.YthjbcgdmdmfijaaLiftEarliestStarts
set_option linter.unusedVariables false
set_option linter.unusedSimpArgs false
set_option maxRecDepth 100000
namespace Go.Proofs.Ythjbcgdmdmfijaa
open Go.ChangeShapes Go.WideShapes Go.ChangeAt Go.RowKit Go.Lo
open Go.ChangeMaps (open_string shut_string)
theorem earliestStarts_proved : Rows.FnExactEarliestStartsSaid :=
  OpenClaim.holds_of_wide 4 Try.f4 rfl rfl rfl rfl rfl rfl rfl ⟨rfl, rfl, rfl, rfl, rfl⟩ rfl rfl rfl rfl rfl (by kernel_rfl) Try.func4 (by kernel_rfl)
    (of_decide_eq_true (by kernel_rfl)) (by unfold Func.isWrapper; first | (rw [if_pos (by decide +kernel)]; kernel_rfl) | (rw [if_neg (by decide +kernel)]; exact ⟨rfl, rfl⟩))
    (fun os started H enc _ => earliestStarts_lifted os started H enc)
#print axioms earliestStarts_proved
end Go.Proofs.Ythjbcgdmdmfijaa
