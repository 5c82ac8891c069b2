/- Contracts (Prs). -/
import Derived.Test.YtakpiiekdlbgmaaNst
set_option linter.unusedVariables false
set_option linter.unusedSimpArgs false
set_option maxRecDepth 100000
namespace Go.Lo
-- deps: Nst
open Classical in
/-- The pairs i < k with p. -/
noncomputable def prG (p : Int → Int → Prop) (i k : Int) : List (List Int) := if i < k ∧ p i k then [[i, k]] else []
noncomputable def prR (p : Int → Int → Prop) (i n : Int) : List (List Int) := cat (prG p i) n
noncomputable def prL (p : Int → Int → Prop) (N n : Int) : List (List Int) := cat (fun i => prR p i N) n
theorem prG_le (p : Int → Int → Prop) (i k : Int) : ((prG p i k).length : Int) ≤ 1 := by unfold prG; split <;> simp
theorem prR_le (p : Int → Int → Prop) (i : Int) {n : Int} (h : 0 ≤ n) : ((prR p i n).length : Int) ≤ n := by
  have := cat_le (g := prG p i) (prG_le p i) (by omega) h
  unfold prR; omega
theorem prL_le (p : Int → Int → Prop) {M N : Int} (hN : 0 ≤ N) (hM : N ≤ M) {n : Int} (h : 0 ≤ n) : ((prL p N n).length : Int) ≤ M * n :=
  cat_le (fun i => by have := prR_le p i (n := N) hN; omega) (by omega) h
theorem prL_all (p : Int → Int → Prop) {N : Int} (hN : 0 ≤ N) {n : Int} (h : 0 ≤ n) : ∀ l ∈ prL p N n, (l.length : Int) ≤ 16 :=
  cat_all (fun i l hl => cat_all (p := fun l : List Int => (l.length : Int) ≤ 16) (fun k l hl => by
    unfold prG at hl
    split at hl
    · simp at hl; subst hl; simp
    · cases hl) (n := N) hN l hl) h
theorem cat_none {α : Type} {g : Int → List α} {n : Int} (hn : 0 ≤ n) (h : ∀ i, 0 ≤ i → i < n → g i = []) : cat g n = [] :=
  it_inv (f := fun l i => l ++ g i) (fun _ l => l = []) rfl (N := n) (fun m l m0 m1 hq => by rw [hq, h m m0 m1]; rfl) hn (Int.le_refl _)
theorem prR_start (p : Int → Int → Prop) {i : Int} (h : 0 ≤ i) : prR p i (i + 1) = [] := cat_none (by omega) (fun k k0 k1 => by unfold prG; rw [if_neg (by omega)])
theorem prR_succ (p : Int → Int → Prop) (i : Int) {k : Int} (h : 0 ≤ k) : prR p i (k + 1) = prR p i k ++ prG p i k := cat_succ h
theorem prL_succ (p : Int → Int → Prop) (N : Int) {i : Int} (h : 0 ≤ i) : prL p N (i + 1) = prL p N i ++ prR p i N := cat_succ (g := fun i => prR p i N) h
theorem cat_mono {α : Type} (g : Int → List α) {n m : Int} (h0 : 0 ≤ n) (h : n ≤ m) : (cat g n).length ≤ (cat g m).length := by
  obtain ⟨d, rfl⟩ : ∃ d : Nat, m = n + d := ⟨(m - n).toNat, by omega⟩
  clear h
  induction d with
  | zero => simp
  | succ d ih => rw [show n + ((d + 1 : Nat) : Int) = (n + d) + 1 by omega, cat_succ (by omega), List.length_append]; omega
theorem n2.no {B D : Prop} {c1 c2 : Int} {ll : List (List Int)} {o : Option (List (List Int))} {m : PV} (h : n2 B D c1 c2 ll o m) (hB : ¬ B) : o = none ∧ m = I c1 := by
  rcases h with ⟨_, h1, h2⟩ | ⟨⟨h, _⟩, _⟩ | ⟨⟨h, _⟩, _⟩
  · exact ⟨h1, h2⟩
  · exact absurd h hB
  · exact absurd h hB
theorem n2.yes {B D : Prop} {c1 c2 : Int} {ll : List (List Int)} {o : Option (List (List Int))} {m : PV} (h : n2 B D c1 c2 ll o m) (hB : B) : (¬ D ∧ o = none ∧ m = I c2) ∨ (D ∧ o = some ll ∧ m = I 0) := by
  rcases h with ⟨h, _⟩ | ⟨⟨_, h⟩, h2⟩ | ⟨⟨_, h⟩, h2⟩
  · exact absurd hB h
  · exact .inl ⟨h, h2⟩
  · exact .inr ⟨h, h2⟩
end Go.Lo
namespace Go.Proofs.Ytakpiiekdlbgmaa
open Go.Lo
attribute [local irreducible] W Wc


end Go.Proofs.Ytakpiiekdlbgmaa
