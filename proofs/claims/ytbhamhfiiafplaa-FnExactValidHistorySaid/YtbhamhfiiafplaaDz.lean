/- Contracts (Dz). -/
import Derived.Test.YtbhamhfiiafplaaPm
set_option linter.unusedVariables false
set_option linter.unusedSimpArgs false
set_option maxRecDepth 100000
namespace Go.Lo
-- deps: Pm
theorem Holds.fn {P : Program} {f : Nat} {α : Type} {A : α → List PV} {ok : α → Prop} {bd : α → Int → Prop} (h : Holds P f (fun args K => ∃ x : α, args = A x ∧ ok x ∧ ∀ r : Int, bd x r → K [.p (I r)])) :
    ∃ g : α → Int, (∀ x, ok x → bd x (g x)) ∧ Holds P f (fun args K => ∃ x : α, args = A x ∧ ok x ∧ K [.p (I (g x))]) := by
  have hx : ∀ x, ∃ r : Int, ok x → bd x r ∧ RO P f (A x) [.p (I r)] := fun x => by
    by_cases hok : ok x
    · obtain ⟨rs, hro, r, hb, rfl⟩ := h.2 (A x) (fun rs => ∃ r, bd x r ∧ rs = [.p (I r)]) ⟨x, rfl, hok, fun r hr => ⟨r, hr, rfl⟩⟩
      exact ⟨r, fun _ => ⟨hb, hro⟩⟩
    · exact ⟨0, fun h => absurd h hok⟩
  refine ⟨fun x => Classical.choose (hx x), fun x hok => (Classical.choose_spec (hx x) hok).1, h.1, fun args K ⟨x, e, hok, hK⟩ => ⟨_, ?_, hK⟩⟩
  subst e; exact (Classical.choose_spec (hx x) hok).2
def szIt {α : Type} [Inhabited α] (g : α → Int → Int) (xs : List α) (l i : Int) : Int := it (fun p i => if p < 0 then -1 else g (ix xs i) p) (szR l xs.length) i
theorem szIt_inv {α : Type} [Inhabited α] {g : α → Int → Int} {ok Q : α → Prop} (hg : ∀ x p, ok x → 0 ≤ p → p ≤ 1048576 → -1 ≤ g x p ∧ (0 ≤ g x p → g x p ≤ p ∧ Q x)) {xs : List α} (hok : ∀ i, ok (ix xs i)) {l : Int} (hl : l ≤ 1048576) {n : Int} (h0 : 0 ≤ n) :
    -1 ≤ szIt g xs l n ∧ (0 ≤ szIt g xs l n → szIt g xs l n ≤ l - xs.length ∧ allTo (fun j => Q (ix xs j)) n) := by
  refine it_inv (f := fun p i => if p < 0 then -1 else g (ix xs i) p) (fun n p => -1 ≤ p ∧ (0 ≤ p → p ≤ l - xs.length ∧ allTo (fun j => Q (ix xs j)) n)) ⟨by unfold szR; split <;> omega, fun h => ⟨by unfold szR at *; split at h <;> omega, allTo_zero _⟩⟩ (N := n) (fun m p m0 m1 hq => ?_) h0 (by omega)
  split
  · exact ⟨by omega, fun h => by omega⟩
  · have hq2 := hq.2 (by omega)
    have hb := hg (ix xs m) p (hok m) (by omega) (by omega)
    exact ⟨hb.1, fun h => ⟨by have := (hb.2 h).1; omega, allTo_succ hq2.2 (hb.2 h).2⟩⟩
theorem szIt_succ {α : Type} [Inhabited α] {g : α → Int → Int} {xs : List α} {l i : Int} (h0 : 0 ≤ i) : szIt g xs l (i + 1) = if szIt g xs l i < 0 then -1 else g (ix xs i) (szIt g xs l i) := it_succ h0
theorem szIt_neg {α : Type} [Inhabited α] {g : α → Int → Int} {xs : List α} {l i : Int} (hi : -1 ≤ szIt g xs l i) (h0 : 0 ≤ i) (h : szIt g xs l i < 0) : ∀ k : Nat, szIt g xs l (i + k) = -1
  | 0 => by simp; omega
  | k + 1 => by
    have ih := szIt_neg hi h0 h k
    rw [show i + ((k + 1 : Nat) : Int) = i + k + 1 by omega, szIt_succ (by omega), ih, if_pos (by omega)]
theorem szIt_end {α : Type} [Inhabited α] {g : α → Int → Int} {xs : List α} {l i : Int} (hi : -1 ≤ szIt g xs l i) (h0 : 0 ≤ i) (h1 : i ≤ xs.length) (h : szIt g xs l i < 0) : szIt g xs l xs.length = -1 := by
  have := szIt_neg hi h0 h ((xs.length : Int) - i).toNat
  rwa [show i + (((xs.length : Int) - i).toNat : Int) = xs.length by omega] at this
end Go.Lo
namespace Go.Proofs.Ytbhamhfiiafplaa
open Go.Lo
attribute [local irreducible] W Wc


end Go.Proofs.Ytbhamhfiiafplaa
