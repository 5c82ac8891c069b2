/- Proved: the law FnExactRivalDeeds answers true for every input and leaves its arguments as they were (Rows.FnExactRivalDeedsSaid); no conditions. -/
import Derived.Test.YtakpiiekdlbgmaaLiftRivalDeeds
set_option linter.unusedVariables false
set_option linter.unusedSimpArgs false
set_option maxRecDepth 100000
namespace Go.Proofs.Ytakpiiekdlbgmaa
open Go.ChangeShapes Go.WideShapes Go.ChangeAt Go.RowKit Go.Lo
open Go.ChangeMaps (open_string shut_string)
theorem rivalDeeds_proved : Rows.FnExactRivalDeedsSaid :=
  OpenClaim.holds_of_wide 7 Try.f7 rfl rfl rfl rfl rfl rfl rfl ⟨rfl, rfl, rfl, rfl, rfl⟩ rfl rfl rfl rfl rfl (by kernel_rfl) Try.func7 (by kernel_rfl)
    (of_decide_eq_true (by kernel_rfl)) (by unfold Func.isWrapper; first | (rw [if_pos (by decide +kernel)]; kernel_rfl) | (rw [if_neg (by decide +kernel)]; exact ⟨rfl, rfl⟩))
    (fun os started H enc _ => rivalDeeds_lifted os started H enc)
#print axioms rivalDeeds_proved
end Go.Proofs.Ytakpiiekdlbgmaa
