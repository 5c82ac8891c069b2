/- Proved: the law FnExactKeepsClamps answers true for every input and leaves its arguments as they were (Rows.FnExactKeepsClampsSaid); no conditions. -/
import Derived.Test.YtkimakfnbafeoaaLiftKeepsClamps
set_option linter.unusedVariables false
set_option linter.unusedSimpArgs false
set_option maxRecDepth 100000
namespace Go.Proofs.Ytkimakfnbafeoaa
open Go.ChangeShapes Go.WideShapes Go.ChangeAt Go.RowKit Go.Lo
open Go.ChangeMaps (open_string shut_string)
theorem keepsClamps_proved : Rows.FnExactKeepsClampsSaid :=
  OpenClaim.holds_of_wide 6 Try.f6 rfl rfl rfl rfl rfl rfl rfl ⟨rfl, rfl, rfl, rfl, rfl⟩ rfl rfl rfl rfl rfl (by kernel_rfl) Try.func6 (by kernel_rfl)
    (of_decide_eq_true (by kernel_rfl)) (by unfold Func.isWrapper; first | (rw [if_pos (by decide +kernel)]; kernel_rfl) | (rw [if_neg (by decide +kernel)]; exact ⟨rfl, rfl⟩))
    (fun os started H enc _ => keepsClamps_lifted os started H enc)
#print axioms keepsClamps_proved
end Go.Proofs.Ytkimakfnbafeoaa
