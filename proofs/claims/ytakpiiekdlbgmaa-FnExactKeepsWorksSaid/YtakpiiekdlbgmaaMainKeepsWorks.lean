/- Proved: the law FnExactKeepsWorks answers true for every input and leaves its arguments as they were (Rows.FnExactKeepsWorksSaid); no conditions. -/
import Derived.Test.YtakpiiekdlbgmaaLiftKeepsWorks
set_option linter.unusedVariables false
set_option linter.unusedSimpArgs false
set_option maxRecDepth 100000
namespace Go.Proofs.Ytakpiiekdlbgmaa
open Go.ChangeShapes Go.WideShapes Go.ChangeAt Go.RowKit Go.Lo
open Go.ChangeMaps (open_string shut_string)
theorem keepsWorks_proved : Rows.FnExactKeepsWorksSaid :=
  OpenClaim.holds_of_wide 9 Try.f9 rfl rfl rfl rfl rfl rfl rfl ⟨rfl, rfl, rfl, rfl, rfl⟩ rfl rfl rfl rfl rfl (by kernel_rfl) Try.func9 (by kernel_rfl)
    (of_decide_eq_true (by kernel_rfl)) (by unfold Func.isWrapper; first | (rw [if_pos (by decide +kernel)]; kernel_rfl) | (rw [if_neg (by decide +kernel)]; exact ⟨rfl, rfl⟩))
    (fun os started H enc _ => keepsWorks_lifted os started H enc)
#print axioms keepsWorks_proved
end Go.Proofs.Ytakpiiekdlbgmaa
