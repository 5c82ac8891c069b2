/- Proved: the law FnExactFewestBenches answers true for every input and leaves its arguments as they were (Rows.FnExactFewestBenchesSaid); no conditions. -/
import Derived.Test.YthjbcgdmdmfijaaLiftFewestBenches
set_option linter.unusedVariables false
set_option linter.unusedSimpArgs false
set_option maxRecDepth 100000
namespace Go.Proofs.Ythjbcgdmdmfijaa
open Go.ChangeShapes Go.WideShapes Go.ChangeAt Go.RowKit Go.Lo
open Go.ChangeMaps (open_string shut_string)
theorem fewestBenches_proved : Rows.FnExactFewestBenchesSaid :=
  OpenClaim.holds_of_wide 8 Try.f8 rfl rfl rfl rfl rfl rfl rfl ⟨rfl, rfl, rfl, rfl, rfl⟩ rfl rfl rfl rfl rfl (by kernel_rfl) Try.func8 (by kernel_rfl)
    (of_decide_eq_true (by kernel_rfl)) (by unfold Func.isWrapper; first | (rw [if_pos (by decide +kernel)]; kernel_rfl) | (rw [if_neg (by decide +kernel)]; exact ⟨rfl, rfl⟩))
    (fun os started H enc _ => fewestBenches_lifted os started H enc)
#print axioms fewestBenches_proved
end Go.Proofs.Ythjbcgdmdmfijaa
