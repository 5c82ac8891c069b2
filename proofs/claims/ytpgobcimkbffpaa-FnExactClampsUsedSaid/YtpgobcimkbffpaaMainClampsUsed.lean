/- Proved: the law FnExactClampsUsed answers true for every input and leaves its arguments as they were (Rows.FnExactClampsUsedSaid); no conditions. -/
import Derived.Test.YtpgobcimkbffpaaLiftClampsUsed
set_option linter.unusedVariables false
set_option linter.unusedSimpArgs false
set_option maxRecDepth 100000
namespace Go.Proofs.Ytpgobcimkbffpaa
open Go.ChangeShapes Go.WideShapes Go.ChangeAt Go.RowKit Go.Lo
open Go.ChangeMaps (open_string shut_string)
theorem clampsUsed_proved : Rows.FnExactClampsUsedSaid :=
  OpenClaim.holds_of_wide 12 Try.f12 rfl rfl rfl rfl rfl rfl rfl ⟨rfl, rfl, rfl, rfl, rfl⟩ rfl rfl rfl rfl rfl (by kernel_rfl) Try.func12 (by kernel_rfl)
    (of_decide_eq_true (by kernel_rfl)) (by unfold Func.isWrapper; first | (rw [if_pos (by decide +kernel)]; kernel_rfl) | (rw [if_neg (by decide +kernel)]; exact ⟨rfl, rfl⟩))
    (fun os started H enc _ => clampsUsed_lifted os started H enc)
#print axioms clampsUsed_proved
end Go.Proofs.Ytpgobcimkbffpaa
