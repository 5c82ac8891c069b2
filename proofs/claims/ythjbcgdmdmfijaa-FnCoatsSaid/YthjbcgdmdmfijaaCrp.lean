/- Contracts (Crp). -/
import Derived.Test.YthjbcgdmdmfijaaCrt
set_option linter.unusedVariables false
set_option linter.unusedSimpArgs false
set_option maxRecDepth 100000
namespace Go.Lo
-- deps: Crt
/-- The colour that an order of coats gives. -/
def colA (xs : List D.Coat) (c : List Int) (o : List Int) : List Int := o.foldl (fun c k => ovL (ix xs k) c) c
theorem colA_snoc (xs : List D.Coat) (c o : List Int) (k : Int) : colA xs c (o ++ [k]) = ovL (ix xs k) (colA xs c o) := by simp [colA, List.foldl_append]
def ordIn (xs : List D.Coat) (o : List Int) : Prop := ∀ k ∈ o, 0 ≤ k ∧ k < xs.length
theorem ordIn.snoc {xs : List D.Coat} {o : List Int} (h : ordIn xs o) {k : Int} (h0 : 0 ≤ k) (h1 : k < xs.length) : ordIn xs (o ++ [k]) := fun j hj => by
  rcases List.mem_append.1 hj with h2 | h2
  · exact h j h2
  · have : j = k := by simpa using h2
    omega
theorem colA_ok {xs : List D.Coat} (hB : CoatsOk xs) {c : List Int} (hc : ColOk c) : ∀ (o : List Int), ordIn xs o → ColOk (colA xs c o) := fun o => by
  induction o generalizing c with
  | nil => intro _; exact hc
  | cons k o ih =>
    intro h
    have hk := h k (by simp)
    exact ih (ov_ok (hB.at hk.1 hk.2) hc) (fun j hj => h j (by simp [hj]))
def csT (n : Int) : Nat → Int
  | 0 => 1
  | d + 1 => 1 + n * csT n d
theorem csT_pos {n : Int} (hn : 0 ≤ n) : ∀ d, 1 ≤ csT n d
  | 0 => Int.le_refl _
  | d + 1 => by have := Int.mul_nonneg hn (Int.le_trans (by decide) (csT_pos hn d) : (0 : Int) ≤ csT n d); unfold csT; omega
/-- What has been found is an order, and its gap is what is told. -/
def csG (xs : List D.Coat) (ground goal : List Int) (M : Nat) (s : Cs) : Prop := s.found = true → s.least = gapV (colA xs ground s.best) goal ∧ s.best.length ≤ M ∧ ordIn xs s.best
/-- R is s, seen on: nothing is lost. -/
def csL (s R : Cs) : Prop := s.found = true → R.found = true ∧ R.least ≤ s.least
theorem csL.refl (s : Cs) : csL s s := fun h => ⟨h, Int.le_refl _⟩
theorem csL.trans {a b c : Cs} (h : csL a b) (k : csL b c) : csL a c := fun ha => by
  obtain ⟨h1, h2⟩ := h ha
  obtain ⟨k1, k2⟩ := k h1
  exact ⟨k1, by omega⟩
theorem csN_spec {xs : List D.Coat} {ground goal g c : List Int} {M : Nat} {s : Cs} (hc : c = colA xs ground g) (hg : ordIn xs g) (hM : g.length ≤ M) (h : csG xs ground goal M s) :
    csG xs ground goal M (csN goal g c s) ∧ csL s (csN goal g c s) ∧ (csN goal g c s).found = true ∧ (csN goal g c s).least ≤ gapV (colA xs ground g) goal ∧ (csN goal g c s).left = s.left - 1 := by
  unfold csN
  split
  · rename_i hu
    refine ⟨fun _ => ⟨by dsimp only; rw [hc], hM, hg⟩, fun hf => ⟨rfl, ?_⟩, rfl, by dsimp only; rw [hc]; exact Int.le_refl _, rfl⟩
    dsimp only
    rcases hu with h1 | h1
    · rw [hf] at h1; cases h1
    · omega
  · rename_i hu
    have hf : s.found = true := by cases hf : s.found with
      | true => rfl
      | false => exact absurd (.inl hf) hu
    refine ⟨fun hf => h hf, fun _ => ⟨hf, Int.le_refl _⟩, hf, ?_, rfl⟩
    dsimp only
    rw [← hc]
    have : ¬ gapV c goal < s.least := fun h1 => hu (.inr h1)
    omega
/-- Where the budget is enough: all orders are looked at, and the best of them is kept. -/
theorem csR_spec {xs : List D.Coat} {ground goal : List Int} {M : Nat} : ∀ (d : Nat) (g c : List Int) (s : Cs), c = colA xs ground g → ordIn xs g → g.length + d ≤ M → csG xs ground goal M s → csT xs.length d ≤ s.left →
    (csR xs goal d g c s).ok = true ∧ (csR xs goal d g c s).left = s.left - csT xs.length d ∧ csG xs ground goal M (csR xs goal d g c s) ∧ csL s (csR xs goal d g c s) ∧ (csR xs goal d g c s).found = true ∧
      ∀ e : List Int, ordIn xs e → e.length ≤ d → (csR xs goal d g c s).least ≤ gapV (colA xs ground (g ++ e)) goal
  | 0, g, c, s, hc, hg, hM, hG, hT => by
    have h1 : csT xs.length 0 = 1 := rfl
    rw [h1] at hT ⊢
    have e0 : csR xs goal 0 g c s = csN goal g c s := if_neg (by omega)
    rw [e0]
    obtain ⟨a1, a2, a3, a4, a5⟩ := csN_spec (M := M) hc hg (by omega) hG
    refine ⟨csN_ok _ _ _ _, a5, a1, a2, a3, fun e he hl => ?_⟩
    have : e = [] := List.eq_nil_of_length_eq_zero (by omega)
    subst this
    simpa using a4
  | d + 1, g, c, s, hc, hg, hM, hG, hT => by
    have hp := csT_pos (n := xs.length) (by omega) d
    have hTd : csT xs.length (d + 1) = 1 + xs.length * csT xs.length d := rfl
    have hmul : (0 : Int) ≤ xs.length * csT xs.length d := Int.mul_nonneg (by omega) (by omega)
    have e0 : csR xs goal (d + 1) g c s = it (csF xs (csR xs goal d) g c) (csN goal g c s) xs.length := if_neg (by omega)
    rw [e0]
    obtain ⟨a1, a2, a3, a4, a5⟩ := csN_spec (M := M) hc hg (by omega) hG
    have key := it_inv (f := csF xs (csR xs goal d) g c) (s := csN goal g c s) (fun k R => R.ok = true ∧ R.left = s.left - 1 - k * csT xs.length d ∧ csG xs ground goal M R ∧ csL (csN goal g c s) R ∧
        ∀ (j : Int) (e : List Int), 0 ≤ j → j < k → ordIn xs e → e.length ≤ d → R.least ≤ gapV (colA xs ground (g ++ j :: e)) goal)
      ⟨csN_ok _ _ _ _, by rw [a5]; omega, a1, csL.refl _, fun j e j0 j1 => by omega⟩ (N := xs.length) (fun k R k0 k1 ⟨r1, r2, r3, r4, r5⟩ => by
        have hck : ovL (ix xs k) c = colA xs ground (g ++ [k]) := by rw [colA_snoc, hc]
        have hks : (k + 1) * csT xs.length d = k * csT xs.length d + csT xs.length d := by rw [Int.add_mul, Int.one_mul]
        have hle : (k + 1) * csT xs.length d ≤ xs.length * csT xs.length d := Int.mul_le_mul_of_nonneg_right (by omega) (by omega)
        have hF : csF xs (csR xs goal d) g c R k = csR xs goal d (g ++ [k]) (ovL (ix xs k) c) R := if_pos r1
        rw [hF]
        obtain ⟨b1, b2, b3, b4, b5, b6⟩ := csR_spec d (g ++ [k]) (ovL (ix xs k) c) R hck (hg.snoc k0 k1) (by simp; omega) r3 (by omega)
        refine ⟨b1, by omega, b3, r4.trans b4, fun j e j0 j1 he hl => ?_⟩
        by_cases hj : j = k
        · subst hj
          have := b6 e he hl
          simpa using this
        · have h1 := r5 j e j0 (by omega) he hl
          have hRf : R.found = true := (r4 a3).1
          have := (b4 hRf).2
          omega) (n := xs.length) (by omega) (by omega)
    obtain ⟨r1, r2, r3, r4, r5⟩ := key
    refine ⟨r1, by omega, r3, a2.trans r4, (r4 a3).1, fun e he hl => ?_⟩
    cases e with
    | nil =>
      have := (r4 a3).2
      simp only [List.append_nil]; omega
    | cons j e =>
      have hj := he j (by simp)
      exact r5 j e hj.1 hj.2 (fun k hk => he k (by simp [hk])) (by simp at hl; omega)
/-- Where the budget is 1: only the first order is looked at. -/
theorem csR_one {xs : List D.Coat} {goal c b : List Int} {l : Int} {f k : Bool} : ∀ (d : Nat), (csR xs goal d [] c ⟨1, b, l, f, k⟩).ok = true ↔ (d = 0 ∨ xs.length = 0)
  | 0 => by
    have e0 : csR xs goal 0 [] c ⟨1, b, l, f, k⟩ = csN goal [] c ⟨1, b, l, f, k⟩ := if_neg (by dsimp only; omega)
    rw [e0, csN_ok]; simp
  | d + 1 => by
    have e0 : csR xs goal (d + 1) [] c ⟨1, b, l, f, k⟩ = it (csF xs (csR xs goal d) [] c) (csN goal [] c ⟨1, b, l, f, k⟩) xs.length := if_neg (by dsimp only; omega)
    rw [e0]
    by_cases hx : xs.length = 0
    · rw [show (xs.length : Int) = 0 by omega, it_zero, csN_ok]; simp [hx]
    · have hl : (csN goal [] c ⟨1, b, l, f, k⟩).left = 0 := by unfold csN; split <;> rfl
      have h1 : it (csF xs (csR xs goal d) [] c) (csN goal [] c ⟨1, b, l, f, k⟩) (0 + 1) = csX (csN goal [] c ⟨1, b, l, f, k⟩) := by
        rw [it_succ (by omega), it_zero]
        unfold csF
        rw [if_pos (csN_ok _ _ _ _)]
        cases d with
        | zero => exact if_pos hl
        | succ d => exact if_pos hl
      have h2 := it_stopC (f := csF xs (csR xs goal d) [] c) (s := csN goal [] c ⟨1, b, l, f, k⟩) (k := 0 + 1) (n := xs.length) (by omega) (by omega) (fun j => by rw [h1]; unfold csF; rw [if_neg (by simp [csX])])
      rw [h2, h1]
      simp [csX, hx]
theorem csT_bd {n : Int} (h0 : 0 ≤ n) (h4 : n ≤ 4) {d : Nat} (hd : d ≤ 3) : csT n d ≤ 20000 := by
  rcases (show n = 0 ∨ n = 1 ∨ n = 2 ∨ n = 3 ∨ n = 4 by omega) with rfl | rfl | rfl | rfl | rfl <;> rcases (show d = 0 ∨ d = 1 ∨ d = 2 ∨ d = 3 by omega) with rfl | rfl | rfl | rfl <;> decide
end Go.Lo
namespace Go.Proofs.Ythjbcgdmdmfijaa
open Go.Lo
attribute [local irreducible] W Wc


end Go.Proofs.Ythjbcgdmdmfijaa
