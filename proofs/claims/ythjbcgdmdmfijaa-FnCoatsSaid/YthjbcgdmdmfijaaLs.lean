/- Contracts (Ls). -/
import Derived.Test.YthjbcgdmdmfijaaPm
set_option linter.unusedVariables false
set_option linter.unusedSimpArgs false
set_option maxRecDepth 100000
namespace Go.Lo
-- deps: Pm
/-- The values of f below n, as a list. -/
def fnL (f : Int → Int) (n : Nat) : List Int := (List.range n).map fun (g : Nat) => f (g : Int)
theorem fnL_length (f : Int → Int) (n : Nat) : (fnL f n).length = n := by simp [fnL]
theorem fnL_enc (f : Int → Int) (n : Nat) : ((fnL f n).map encI).length = n := by simp [fnL]
theorem fnL_get {f : Int → Int} {n : Nat} {g : Int} (h0 : 0 ≤ g) (h1 : g < n) : ((fnL f n).map encI)[g.toNat]? = some [I (f g)] := by
  have h : g.toNat < n := by omega
  simp [fnL, h, encI, Int.toNat_of_nonneg h0]
theorem fnL_zero {f : Int → Int} {n : Nat} (h : ∀ g, f g = 0) : List.replicate n [I 0] = (fnL f n).map encI := by
  apply List.ext_getElem (by simp [fnL])
  intro i h1 h2
  simp [fnL, encI, h]
theorem fnL_set {f f' : Int → Int} {n : Nat} {g v : Int} (h0 : 0 ≤ g) (h1 : g < n) (hv : f' g = v) (ho : ∀ k, k ≠ g → f' k = f k) : ((fnL f n).map encI).set g.toNat [I v] = (fnL f' n).map encI := by
  apply List.ext_getElem (by simp [fnL])
  intro i h2 h3
  have hi : i < n := by simpa [fnL] using h3
  rw [List.getElem_set]
  by_cases e : g.toNat = i
  · rw [if_pos e]
    have : ((i : Nat) : Int) = g := by omega
    simp [fnL, encI, this, hv]
  · rw [if_neg e]
    have : ((i : Nat) : Int) ≠ g := by omega
    simp [fnL, encI, ho _ this]
theorem sumTo_congr {f g : Int → Int} {n : Int} (h : ∀ i, 0 ≤ i → i < n → f i = g i) : sumTo f n = sumTo g n := by
  rcases Int.lt_or_le n 0 with hn | hn
  · unfold sumTo; rw [show n.toNat = 0 by omega]; rfl
  obtain ⟨k, rfl⟩ := Int.eq_ofNat_of_zero_le hn
  clear hn
  induction k with
  | zero => rfl
  | succ k ih =>
    rw [show ((k + 1 : Nat) : Int) = (k : Int) + 1 by omega, sumTo_succ (by omega), sumTo_succ (by omega), ih (fun i h0 h1 => h i h0 (by omega)), h k (by omega) (by omega)]
theorem sumTo_ge {f : Int → Int} (hf : ∀ i, 0 ≤ f i) {n : Int} : ∀ j, 0 ≤ j → j < n → f j ≤ sumTo f n := by
  intro j h0 h1
  have h2 := sumTo_mono hf (n := j + 1) (m := n) (by omega) (by omega)
  have h3 := sumTo_mono hf (n := 0) (m := j) (by omega) h0
  rw [sumTo_succ h0] at h2
  rw [sumTo_zero] at h3
  omega
theorem sumTo_ne {f : Int → Int} {n : Int} (h : sumTo f n ≠ 0) : ∃ j, 0 ≤ j ∧ j < n ∧ f j ≠ 0 := Classical.byContradiction fun hc => h (by
  rw [sumTo_congr (g := fun _ => 0) (fun i h0 h1 => Classical.byContradiction fun hi => hc ⟨i, h0, h1, hi⟩)]
  unfold sumTo
  generalize n.toNat = k
  induction k with
  | zero => rfl
  | succ k ih => simp [sumN, ih])
/-- The least of c and the numbers of S. -/
def Glb (S : Int → Prop) (c r : Int) : Prop := r ≤ c ∧ (∀ v, S v → r ≤ v) ∧ (r = c ∨ S r)
theorem Glb.uniq {S S' : Int → Prop} {c r r' : Int} (h : Glb S c r) (h' : Glb S' c r') (e : ∀ v, S v ↔ S' v) : r = r' := by
  obtain ⟨a, b, d⟩ := h
  obtain ⟨a', b', d'⟩ := h'
  have h1 : r ≤ r' := by
    rcases d' with d' | d'
    · omega
    · exact b _ ((e _).2 d')
  have h2 : r' ≤ r := by
    rcases d with d | d
    · omega
    · exact b' _ ((e _).1 d)
  omega
theorem Glb.add {S S' : Int → Prop} {c r w : Int} (h : Glb S c r) (e : ∀ v, S' v ↔ (S v ∨ v = w)) : Glb S' c (min r w) := by
  obtain ⟨a, b, d⟩ := h
  refine ⟨by omega, fun v hv => ?_, ?_⟩
  · rcases (e v).1 hv with h | h
    · have := b v h; omega
    · omega
  · rcases Int.lt_or_le w r with hl | hl
    · rw [show min r w = w by omega]; exact .inr ((e w).2 (.inr rfl))
    · rw [show min r w = r by omega]
      rcases d with d | d
      · exact .inl d
      · exact .inr ((e r).2 (.inl d))
theorem Glb.same {S S' : Int → Prop} {c r : Int} (h : Glb S c r) (e : ∀ v, S' v ↔ S v) : Glb S' c r := by
  obtain ⟨a, b, d⟩ := h
  exact ⟨a, fun v hv => b v ((e v).1 hv), d.imp id (fun d => (e r).2 d)⟩
theorem Glb.nil {S : Int → Prop} {c : Int} (h : ∀ v, ¬ S v) : Glb S c c := ⟨Int.le_refl _, fun v hv => absurd hv (h v), .inl rfl⟩
theorem Glb.ex (S : Int → Int → Prop) (q : Int → Int) (p : Int → Prop) (hS : ∀ i v, S i v ↔ ∃ j, 0 ≤ j ∧ j < i ∧ p j ∧ v = q j) (c : Int) (n : Nat) : ∃ r, Glb (S n) c r := by
  induction n with
  | zero => exact ⟨c, Glb.nil (fun v hv => by obtain ⟨j, a, b, _⟩ := (hS _ v).1 hv; omega)⟩
  | succ n ih =>
    obtain ⟨r, hr⟩ := ih
    have key : ∀ v, S ((n + 1 : Nat) : Int) v ↔ (S n v ∨ (p n ∧ v = q n)) := fun v => by
      rw [hS, hS]
      constructor
      · rintro ⟨j, a, b, hp, d⟩
        by_cases e : j = n
        · subst e; exact .inr ⟨hp, d⟩
        · exact .inl ⟨j, a, by omega, hp, d⟩
      · rintro (⟨j, a, b, hp, d⟩ | ⟨hp, d⟩)
        · exact ⟨j, a, by omega, hp, d⟩
        · exact ⟨n, by omega, by omega, hp, d⟩
    by_cases hp : p n
    · exact ⟨min r (q n), hr.add (fun v => by rw [key]; simp [hp])⟩
    · exact ⟨r, hr.same (fun v => by rw [key]; simp [hp])⟩
end Go.Lo
namespace Go.Proofs.Ythjbcgdmdmfijaa
open Go.Lo
attribute [local irreducible] W Wc


end Go.Proofs.Ythjbcgdmdmfijaa
