/- Proved: the law FnExactTotalHours answers true for every input and leaves its arguments as they were (Rows.FnExactTotalHoursSaid); no conditions. -/
import Derived.Test.YtpgobcimkbffpaaLiftTotalHours
set_option linter.unusedVariables false
set_option linter.unusedSimpArgs false
set_option maxRecDepth 100000
namespace Go.Proofs.Ytpgobcimkbffpaa
open Go.ChangeShapes Go.WideShapes Go.ChangeAt Go.RowKit Go.Lo
open Go.ChangeMaps (open_string shut_string)
theorem totalHours_proved : Rows.FnExactTotalHoursSaid :=
  OpenClaim.holds_of_wide 13 Try.f13 rfl rfl rfl rfl rfl rfl rfl ⟨rfl, rfl, rfl, rfl, rfl⟩ rfl rfl rfl rfl rfl (by kernel_rfl) Try.func13 (by kernel_rfl)
    (of_decide_eq_true (by kernel_rfl)) (by unfold Func.isWrapper; first | (rw [if_pos (by decide +kernel)]; kernel_rfl) | (rw [if_neg (by decide +kernel)]; exact ⟨rfl, rfl⟩))
    (fun os started H enc _ => totalHours_lifted os started H enc)
#print axioms totalHours_proved
end Go.Proofs.Ytpgobcimkbffpaa
