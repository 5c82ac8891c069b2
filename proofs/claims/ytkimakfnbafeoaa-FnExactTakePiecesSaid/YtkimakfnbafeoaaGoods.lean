/- Contracts (Goods). -/
import Derived.Test.YtkimakfnbafeoaaTyGood
import Derived.Test.YtkimakfnbafeoaaAr
set_option linter.unusedVariables false
set_option linter.unusedSimpArgs false
set_option maxRecDepth 100000
namespace Go.Lo
-- deps: TyGood Ar
def miss (x : D.Good) : Int := max 0 (x.Least - x.Count)
def PerC (l : List Int) (i : Int) : Prop := 0 ≤ ix l i ∧ ix l i ≤ 100000
def PerOk (n : Int) (l : List Int) : Prop := allTo (PerC l) l.length ∧ (l.length : Int) = n
def cPer : Ct := fun args K => ∃ (xs : List D.Good) (l : List Int), args = [.view 4 (xs.map D.Good.enc), .view 1 (l.map encI)] ∧ (l.length : Int) ≤ 9223372036854775806 ∧ K [.p (.bool (pB (PerOk xs.length l)))]
theorem PerOk.at {n : Int} {l : List Int} (h : PerOk n l) {i : Int} (h0 : 0 ≤ i) (h1 : i < n) : 0 ≤ ix l i ∧ ix l i ≤ 100000 := h.1 i h0 (by rw [h.2]; exact h1)
end Go.Lo
namespace Go.Proofs.Ytkimakfnbafeoaa
open Go.Lo
attribute [local irreducible] W Wc

end Go.Proofs.Ytkimakfnbafeoaa
