/- Contracts (Deeds). -/
import Derived.Test.YtkkembnefklccaaTyDeed
import Derived.Test.YtkkembnefklccaaAr
set_option linter.unusedVariables false
set_option linter.unusedSimpArgs false
set_option maxRecDepth 100000
namespace Go.Lo
-- deps: TyDeed Ar
def ChainC (xs : List D.Deed) (ch : List Int) (i : Int) : Prop := (0 ≤ ix ch i ∧ ix ch i < xs.length) ∧ (0 < i → ix ch (i - 1) < ix ch i ∧ (ix xs (ix ch (i - 1))).To = (ix xs (ix ch i)).From)
def ChainOk (xs : List D.Deed) (ch : List Int) : Prop := allTo (ChainC xs ch) ch.length ∧ 0 < (ch.length : Int)
def LinkC (xs : List D.Deed) (ch : List Int) (i : Int) : Prop := 0 < i → (ix xs (ix ch (i - 1))).To = (ix xs (ix ch i)).From
theorem chain_iff {xs : List D.Deed} {ch : List Int} (h : RisesP ch 0 (xs.length - 1)) : allTo (LinkC xs ch) ch.length ↔ allTo (ChainC xs ch) ch.length := by
  constructor
  · intro hl i h0 h1
    have hr := h i h0 h1
    unfold RisesC at hr
    exact ⟨by omega, fun hi => ⟨hr.2 hi, hl i h0 h1 hi⟩⟩
  · intro hc i h0 h1 hi
    exact ((hc i h0 h1).2 hi).2
theorem chain_rises {xs : List D.Deed} {ch : List Int} (h : ChainOk xs ch) : RisesP ch 0 (xs.length - 1) := fun i h0 h1 => by
  have := h.1 i h0 h1
  unfold ChainC at this
  exact ⟨by omega, fun hi => (this.2 hi).1⟩
def cChain : Ct := fun args K => ∃ (xs : List D.Deed) (ch : List Int), args = [.view 4 (xs.map D.Deed.enc), .view 1 (ch.map encI)] ∧ (xs.length : Int) ≤ 1048576 ∧ (ch.length : Int) ≤ 1048576 ∧ K [.p (.bool (pB (ChainOk xs ch)))]
end Go.Lo
namespace Go.Proofs.Ytkkembnefklccaa
open Go.Lo
attribute [local irreducible] W Wc

end Go.Proofs.Ytkkembnefklccaa
