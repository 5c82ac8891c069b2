/- Contracts (Pm). -/
import Derived.Test.YthjbcgdmdmfijaaAr
set_option linter.unusedVariables false
set_option linter.unusedSimpArgs false
set_option maxRecDepth 100000
namespace Go.Lo
-- deps: Ar
open Classical in
/-- The first place below n where q fails; -1 where there is none. -/
noncomputable def fstNot (q : Int → Prop) (n : Int) : Int := if h : ∃ k, 0 ≤ k ∧ k < n ∧ ¬ q k ∧ allTo q k then Classical.choose h else -1
theorem fstNot_none {q : Int → Prop} {n : Int} (h : allTo q n) : fstNot q n = -1 := by
  unfold fstNot
  rw [dif_neg]
  rintro ⟨k, h0, h1, h2, _⟩
  exact h2 (h k h0 h1)
theorem fstNot_some {q : Int → Prop} {n k : Int} (h0 : 0 ≤ k) (h1 : k < n) (h2 : ¬ q k) (h3 : allTo q k) : fstNot q n = k := by
  have hex : ∃ k, 0 ≤ k ∧ k < n ∧ ¬ q k ∧ allTo q k := ⟨k, h0, h1, h2, h3⟩
  unfold fstNot
  rw [dif_pos hex]
  obtain ⟨a, b, c, d⟩ := Classical.choose_spec hex
  exact first_uniq a h0 c h2 d h3
theorem fstNot_cases (q : Int → Prop) (n : Int) : (fstNot q n = -1 ∧ allTo q n) ∨ (0 ≤ fstNot q n ∧ fstNot q n < n ∧ ¬ q (fstNot q n) ∧ allTo q (fstNot q n)) := by
  by_cases h : allTo q n
  · exact .inl ⟨fstNot_none h, h⟩
  · obtain ⟨k, a, b, c, d⟩ := first_ex h
    have e := fstNot_some a b c d
    rw [e]
    exact .inr ⟨a, b, c, d⟩
end Go.Lo
namespace Go.Proofs.Ythjbcgdmdmfijaa
open Go.Lo
attribute [local irreducible] W Wc


end Go.Proofs.Ythjbcgdmdmfijaa
