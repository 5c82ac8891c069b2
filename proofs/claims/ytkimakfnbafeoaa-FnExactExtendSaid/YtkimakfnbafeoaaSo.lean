/- Contracts (So). -/
import Derived.Test.YtkimakfnbafeoaaPm
set_option linter.unusedVariables false
set_option linter.unusedSimpArgs false
set_option maxRecDepth 100000
namespace Go.Lo
-- deps: Pm
theorem bL_irr : ∀ x : List UInt8, Op.bytesLess x x = false
  | [] => rfl
  | a :: x => by simp [Op.bytesLess, bL_irr x]
theorem bL_trans : ∀ x y z : List UInt8, Op.bytesLess x y = true → Op.bytesLess y z = true → Op.bytesLess x z = true
  | _, _, [], _, h => by simp [Op.bytesLess] at h
  | [], _, _ :: _, _, _ => rfl
  | a :: x, [], c :: z, h, _ => by simp [Op.bytesLess] at h
  | a :: x, b :: y, c :: z, h1, h2 => by
    simp only [Op.bytesLess, Bool.or_eq_true, decide_eq_true_eq, Bool.and_eq_true, beq_iff_eq] at h1 h2 ⊢
    rcases h1 with h1 | ⟨rfl, h1⟩
    · rcases h2 with h2 | ⟨rfl, h2⟩
      · exact .inl (UInt8.lt_trans h1 h2)
      · exact .inl h1
    · rcases h2 with h2 | ⟨rfl, h2⟩
      · exact .inl h2
      · exact .inr ⟨rfl, bL_trans x y z h1 h2⟩
theorem bL_tot : ∀ x y : List UInt8, Op.bytesLess x y = true ∨ x = y ∨ Op.bytesLess y x = true
  | [], [] => .inr (.inl rfl)
  | [], _ :: _ => .inl rfl
  | _ :: _, [] => .inr (.inr rfl)
  | a :: x, b :: y => by
    simp only [Op.bytesLess, Bool.or_eq_true, decide_eq_true_eq, Bool.and_eq_true, beq_iff_eq]
    rcases Nat.lt_trichotomy a.toNat b.toNat with h | h | h
    · exact .inl (.inl (UInt8.lt_iff_toNat_lt.2 h))
    · have e := UInt8.toNat_inj.1 h
      subst e
      rcases bL_tot x y with h | h | h
      · exact .inl (.inr ⟨rfl, h⟩)
      · subst h; exact .inr (.inl rfl)
      · exact .inr (.inr (.inr ⟨rfl, h⟩))
    · exact .inr (.inr (.inl (UInt8.lt_iff_toNat_lt.2 h)))
theorem sLt_irr (x : ByteArray) : sLt x x = false := by unfold sLt; exact bL_irr _
theorem sLt_trans {x y z : ByteArray} (h1 : sLt x y = true) (h2 : sLt y z = true) : sLt x z = true := by unfold sLt at *; exact bL_trans _ _ _ h1 h2
theorem sLt_tot (x y : ByteArray) : sLt x y = true ∨ x = y ∨ sLt y x = true := by
  unfold sLt
  rcases bL_tot x.toList y.toList with h | h | h
  · exact .inl h
  · rw [toList_data, toList_data] at h
    refine .inr (.inl ?_)
    cases x; cases y
    simp at h
    rw [h]
  · exact .inr (.inr h)
theorem sLt_ne {x y : ByteArray} (h : sLt x y = true) : x ≠ y := fun e => by subst e; rw [sLt_irr] at h; cases h
theorem sLt_asy {x y : ByteArray} (h : sLt x y = true) : sLt y x = false := by
  cases hb : sLt y x with
  | false => rfl
  | true => have := sLt_trans h hb; rw [sLt_irr] at this; cases this
/-- Neighbours rise: all rise. -/
theorem str_mono {f : Int → ByteArray} {n : Int} (h : ∀ i, 0 < i → i < n → sLt (f (i - 1)) (f i) = true) {a : Int} (h0 : 0 ≤ a) : ∀ k : Nat, a + k + 1 < n → sLt (f a) (f (a + k + 1)) = true
  | 0, h1 => by
    have := h (a + 1) (by omega) (by simpa using h1)
    rw [show a + 1 - 1 = a by omega] at this
    simpa using this
  | k + 1, h1 => by
    have ih := str_mono h h0 k (by omega)
    have := h (a + (k + 1 : Nat) + 1) (by omega) h1
    rw [show a + ((k + 1 : Nat) : Int) + 1 - 1 = a + k + 1 by omega] at this
    exact sLt_trans ih this
theorem str_lt {f : Int → ByteArray} {n : Int} (h : ∀ i, 0 < i → i < n → sLt (f (i - 1)) (f i) = true) {a b : Int} (h0 : 0 ≤ a) (h1 : a < b) (h2 : b < n) : sLt (f a) (f b) = true := by
  have := str_mono h h0 (b - a - 1).toNat (by omega)
  rwa [show a + ((b - a - 1).toNat : Int) + 1 = b by omega] at this
theorem str_inj {f : Int → ByteArray} {n : Int} (h : ∀ i, 0 < i → i < n → sLt (f (i - 1)) (f i) = true) {a b : Int} (h0 : 0 ≤ a) (h1 : a < n) (h2 : 0 ≤ b) (h3 : b < n) (e : f a = f b) : a = b := by
  rcases Int.lt_trichotomy a b with hl | hl | hl
  · exact absurd e (sLt_ne (str_lt h h0 hl h3))
  · exact hl
  · exact absurd e.symm (sLt_ne (str_lt h h2 hl h1))
end Go.Lo
namespace Go.Proofs.Ytkimakfnbafeoaa
open Go.Lo
attribute [local irreducible] W Wc


end Go.Proofs.Ytkimakfnbafeoaa
