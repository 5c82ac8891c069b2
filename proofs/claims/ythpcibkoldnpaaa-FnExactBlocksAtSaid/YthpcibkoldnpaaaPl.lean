/- Plain words: sums, first places, roundings. -/
import Derived.Test.YthpcibkoldnpaaaBase
set_option linter.unusedVariables false
set_option linter.unusedSimpArgs false
set_option maxRecDepth 100000
namespace Go.Lo
theorem sumTo_bd {f : Int → Int} {lo hi N : Int} (h : ∀ i, 0 ≤ i → i < N → lo ≤ f i ∧ f i ≤ hi) {n : Int} (h0 : 0 ≤ n) (h1 : n ≤ N) : lo * n ≤ sumTo f n ∧ sumTo f n ≤ hi * n := by
  obtain ⟨k, rfl⟩ := Int.eq_ofNat_of_zero_le h0
  clear h0
  induction k with
  | zero => simp [sumTo_zero]
  | succ k ih =>
    have := h k (by omega) (by omega)
    have ih := ih (by omega)
    rw [show ((k + 1 : Nat) : Int) = (k : Int) + 1 by omega, sumTo_succ (by omega), Int.mul_add, Int.mul_add]
    omega
/-- The first place where q fails. -/
theorem first_ex {q : Int → Prop} {n : Int} (h : ¬ allTo q n) : ∃ k, 0 ≤ k ∧ k < n ∧ ¬ q k ∧ allTo q k := by
  have hn : 0 ≤ n := by
    rcases Int.lt_or_le n 0 with hlt | hge
    · exact absurd (fun i h0 h1 => by omega) h
    · exact hge
  obtain ⟨m, rfl⟩ := Int.eq_ofNat_of_zero_le hn
  clear hn
  induction m with
  | zero => exact absurd (allTo_zero _) h
  | succ m ih =>
    by_cases hm : allTo q m
    · refine ⟨m, by omega, by omega, fun hq => h ?_, hm⟩
      rw [show ((m + 1 : Nat) : Int) = (m : Int) + 1 by omega]; exact allTo_succ hm hq
    · obtain ⟨k, h0, h1, h2, h3⟩ := ih hm
      exact ⟨k, h0, by omega, h2, h3⟩
theorem first_uniq {q : Int → Prop} {a b : Int} (ha0 : 0 ≤ a) (hb0 : 0 ≤ b) (ha : ¬ q a) (hb : ¬ q b) (ha' : allTo q a) (hb' : allTo q b) : a = b := by
  rcases Int.lt_or_le a b with h | h
  · exact absurd (hb' a ha0 h) ha
  · rcases Int.lt_or_le b a with h2 | h2
    · exact absurd (ha' b hb0 h2) hb
    · omega
theorem map_set_enc {α : Type} {enc : α → List PV} {l : List α} {n : Nat} {x : α} : (l.map enc).set n (enc x) = (l.set n x).map enc := by rw [List.map_set]
theorem ix_set_len {α : Type} {l : List α} {n : Nat} {x : α} : (l.set n x).length = l.length := by simp
theorem cases1 (A : Prop) : ¬ A ∨ A := by by_cases h : A <;> simp [h]
theorem cases2 (A B : Prop) : ¬ A ∨ (A ∧ ¬ B) ∨ (A ∧ B) := by by_cases h : A <;> by_cases h2 : B <;> simp [h, h2]
theorem cases3 (A B C : Prop) : ¬ A ∨ (A ∧ ¬ B) ∨ (A ∧ B ∧ ¬ C) ∨ (A ∧ B ∧ C) := by by_cases h : A <;> by_cases h2 : B <;> by_cases h3 : C <;> simp [h, h2, h3]
theorem cases4 (A B C D : Prop) : ¬ A ∨ (A ∧ ¬ B) ∨ (A ∧ B ∧ ¬ C) ∨ (A ∧ B ∧ C ∧ ¬ D) ∨ (A ∧ B ∧ C ∧ D) := by by_cases h : A <;> by_cases h2 : B <;> by_cases h3 : C <;> by_cases h4 : D <;> simp [h, h2, h3, h4]
end Go.Lo
