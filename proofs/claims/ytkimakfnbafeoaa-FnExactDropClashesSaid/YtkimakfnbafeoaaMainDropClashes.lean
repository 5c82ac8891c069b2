/- Proved: the law FnExactDropClashes answers true for every input and leaves its arguments as they were (Rows.FnExactDropClashesSaid); no conditions. -/
import Derived.Test.YtkimakfnbafeoaaLiftDropClashes
set_option linter.unusedVariables false
set_option linter.unusedSimpArgs false
set_option maxRecDepth 100000
namespace Go.Proofs.Ytkimakfnbafeoaa
open Go.ChangeShapes Go.WideShapes Go.ChangeAt Go.RowKit Go.Lo
open Go.ChangeMaps (open_string shut_string)
theorem dropClashes_proved : Rows.FnExactDropClashesSaid :=
  OpenClaim.holds_of_wide 13 Try.f13 rfl rfl rfl rfl rfl rfl rfl ⟨rfl, rfl, rfl, rfl, rfl⟩ rfl rfl rfl rfl rfl (by kernel_rfl) Try.func13 (by kernel_rfl)
    (of_decide_eq_true (by kernel_rfl)) (by unfold Func.isWrapper; first | (rw [if_pos (by decide +kernel)]; kernel_rfl) | (rw [if_neg (by decide +kernel)]; exact ⟨rfl, rfl⟩))
    (fun os started H enc _ => dropClashes_lifted os started H enc)
#print axioms dropClashes_proved
end Go.Proofs.Ytkimakfnbafeoaa
