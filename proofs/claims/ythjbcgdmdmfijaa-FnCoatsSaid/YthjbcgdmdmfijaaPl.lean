/- Plain words: sums, first places, roundings. -/
import Derived.Test.YthjbcgdmdmfijaaBase
set_option linter.unusedVariables false
set_option linter.unusedSimpArgs false
set_option maxRecDepth 100000
namespace Go.Lo
theorem sumTo_bd {f : Int → Int} {lo hi N : Int} (h : ∀ i, 0 ≤ i → i < N → lo ≤ f i ∧ f i ≤ hi) {n : Int} (h0 : 0 ≤ n) (h1 : n ≤ N) : lo * n ≤ sumTo f n ∧ sumTo f n ≤ hi * n := by
  obtain ⟨k, rfl⟩ := Int.eq_ofNat_of_zero_le h0
  clear h0
  induction k with
  | zero => simp [sumTo_zero]
  | succ k ih =>
    have := h k (by omega) (by omega)
    have ih := ih (by omega)
    rw [show ((k + 1 : Nat) : Int) = (k : Int) + 1 by omega, sumTo_succ (by omega), Int.mul_add, Int.mul_add]
    omega
/-- The first place where q fails. -/
theorem first_ex {q : Int → Prop} {n : Int} (h : ¬ allTo q n) : ∃ k, 0 ≤ k ∧ k < n ∧ ¬ q k ∧ allTo q k := by
  have hn : 0 ≤ n := by
    rcases Int.lt_or_le n 0 with hlt | hge
    · exact absurd (fun i h0 h1 => by omega) h
    · exact hge
  obtain ⟨m, rfl⟩ := Int.eq_ofNat_of_zero_le hn
  clear hn
  induction m with
  | zero => exact absurd (allTo_zero _) h
  | succ m ih =>
    by_cases hm : allTo q m
    · refine ⟨m, by omega, by omega, fun hq => h ?_, hm⟩
      rw [show ((m + 1 : Nat) : Int) = (m : Int) + 1 by omega]; exact allTo_succ hm hq
    · obtain ⟨k, h0, h1, h2, h3⟩ := ih hm
      exact ⟨k, h0, by omega, h2, h3⟩
theorem first_uniq {q : Int → Prop} {a b : Int} (ha0 : 0 ≤ a) (hb0 : 0 ≤ b) (ha : ¬ q a) (hb : ¬ q b) (ha' : allTo q a) (hb' : allTo q b) : a = b := by
  rcases Int.lt_or_le a b with h | h
  · exact absurd (hb' a ha0 h) ha
  · rcases Int.lt_or_le b a with h2 | h2
    · exact absurd (ha' b hb0 h2) hb
    · omega
theorem map_set_enc {α : Type} {enc : α → List PV} {l : List α} {n : Nat} {x : α} : (l.map enc).set n (enc x) = (l.set n x).map enc := by rw [List.map_set]
theorem ix_set_len {α : Type} {l : List α} {n : Nat} {x : α} : (l.set n x).length = l.length := by simp
theorem cases1 (A : Prop) : ¬ A ∨ A := by by_cases h : A <;> simp [h]
theorem cases2 (A B : Prop) : ¬ A ∨ (A ∧ ¬ B) ∨ (A ∧ B) := by by_cases h : A <;> by_cases h2 : B <;> simp [h, h2]
theorem cases3 (A B C : Prop) : ¬ A ∨ (A ∧ ¬ B) ∨ (A ∧ B ∧ ¬ C) ∨ (A ∧ B ∧ C) := by by_cases h : A <;> by_cases h2 : B <;> by_cases h3 : C <;> simp [h, h2, h3]
theorem cases4 (A B C D : Prop) : ¬ A ∨ (A ∧ ¬ B) ∨ (A ∧ B ∧ ¬ C) ∨ (A ∧ B ∧ C ∧ ¬ D) ∨ (A ∧ B ∧ C ∧ D) := by by_cases h : A <;> by_cases h2 : B <;> by_cases h3 : C <;> by_cases h4 : D <;> simp [h, h2, h3, h4]
theorem mul_bd {a b A B : Int} (a0 : 0 ≤ a) (a1 : a ≤ A) (b0 : 0 ≤ b) (b1 : b ≤ B) : 0 ≤ a * b ∧ a * b ≤ A * B :=
  ⟨Int.mul_nonneg a0 b0, Int.mul_le_mul a1 b1 b0 (by omega)⟩
theorem tdiv_bd {a b : Int} (a0 : 0 ≤ a) (b0 : 0 < b) : a.tdiv b = a / b ∧ 0 ≤ a / b ∧ a / b ≤ a :=
  ⟨Int.tdiv_eq_ediv_of_nonneg a0, Int.ediv_nonneg a0 (by omega), Int.ediv_le_self _ a0⟩
/-- A list whose first i elements have been turned by f. -/
def mpx {α : Type} (f : α → α) (xs : List α) (i : Int) : List α := (xs.take i.toNat).map f ++ xs.drop i.toNat
theorem mpx_zero {α : Type} (f : α → α) (xs : List α) : mpx f xs 0 = xs := by simp [mpx]
theorem mpx_full {α : Type} (f : α → α) (xs : List α) : mpx f xs xs.length = xs.map f := by simp [mpx]
theorem mpx_length {α : Type} (f : α → α) (xs : List α) {i : Int} (h1 : i ≤ xs.length) (h0 : 0 ≤ i) : (mpx f xs i).length = xs.length := by simp [mpx]; omega
theorem mpx_get {α : Type} [Inhabited α] {f : α → α} {xs : List α} {enc : α → List PV} {i : Int} (h0 : 0 ≤ i) (h1 : i < xs.length) : ((mpx f xs i).map enc)[i.toNat]? = some (enc (ix xs i)) := by
  have hi : i.toNat < xs.length := by omega
  have hl : ((xs.take i.toNat).map f).length = i.toNat := by simp; omega
  rw [List.getElem?_map]
  unfold mpx
  rw [List.getElem?_append_right (by omega), hl, Nat.sub_self, List.getElem?_drop, Nat.add_zero]
  simp [ix, hi]
theorem mpx_set {α : Type} [Inhabited α] {f : α → α} {xs : List α} {enc : α → List PV} {i : Int} (h0 : 0 ≤ i) (h1 : i < xs.length) : ((mpx f xs i).map enc).set i.toNat (enc (f (ix xs i))) = (mpx f xs (i + 1)).map enc := by
  have hi : i.toNat < xs.length := by omega
  have hl : ((xs.take i.toNat).map f).length = i.toNat := by simp; omega
  unfold mpx
  rw [List.map_append, List.set_append_right _ _ (by simp; omega), List.length_map, hl, Nat.sub_self, List.drop_eq_getElem_cons hi, List.map_cons, List.set_cons_zero]
  rw [show (i + 1).toNat = i.toNat + 1 by omega, List.take_succ_eq_append_getElem hi, List.map_append, List.map_append, List.map_append, List.append_assoc]
  simp [ix, hi]
theorem ix_mpx_lt {α : Type} [Inhabited α] {f : α → α} {xs : List α} {i : Int} (h0 : 0 ≤ i) (h1 : i < xs.length) : ix (mpx f xs i) i = ix xs i := by
  have hi : i.toNat < xs.length := by omega
  have hl : ((xs.take i.toNat).map f).length = i.toNat := by simp; omega
  unfold mpx ix
  rw [List.getD_eq_getElem?_getD, List.getD_eq_getElem?_getD, List.getElem?_append_right (by omega), hl, Nat.sub_self, List.getElem?_drop, Nat.add_zero]
theorem ix_map {α : Type} [Inhabited α] {f : α → α} {xs : List α} {i : Int} (h0 : 0 ≤ i) (h1 : i < xs.length) : ix (xs.map f) i = f (ix xs i) := by
  have hi : i.toNat < xs.length := by omega
  simp [ix, hi]
def RisesC (l : List Int) (lo hi : Int) (i : Int) : Prop := (lo ≤ ix l i ∧ ix l i ≤ hi) ∧ (0 < i → ix l (i - 1) < ix l i)
def RisesP (l : List Int) (lo hi : Int) : Prop := allTo (RisesC l lo hi) l.length
abbrev spec1 (A : Prop) (r1 r2 rs : RV) : Prop := (¬ A ∧ rs = r1) ∨ (A ∧ rs = r2)
abbrev spec2 (A B : Prop) (r1 r2 r3 rs : RV) : Prop := (¬ A ∧ rs = r1) ∨ (A ∧ spec1 B r2 r3 rs)
abbrev spec3 (A B C : Prop) (r1 r2 r3 r4 rs : RV) : Prop := (¬ A ∧ rs = r1) ∨ (A ∧ spec2 B C r2 r3 r4 rs)
abbrev spec4 (A B C D : Prop) (r1 r2 r3 r4 r5 rs : RV) : Prop := (¬ A ∧ rs = r1) ∨ (A ∧ spec3 B C D r2 r3 r4 r5 rs)
abbrev spec5 (A B C D E : Prop) (r1 r2 r3 r4 r5 r6 rs : RV) : Prop := (¬ A ∧ rs = r1) ∨ (A ∧ spec4 B C D E r2 r3 r4 r5 r6 rs)
theorem cases5 (A B C D E : Prop) : ¬ A ∨ (A ∧ ¬ B) ∨ (A ∧ B ∧ ¬ C) ∨ (A ∧ B ∧ C ∧ ¬ D) ∨ (A ∧ B ∧ C ∧ D ∧ ¬ E) ∨ (A ∧ B ∧ C ∧ D ∧ E) := by by_cases h : A <;> by_cases h2 : B <;> by_cases h3 : C <;> by_cases h4 : D <;> by_cases h5 : E <;> simp [h, h2, h3, h4, h5]
theorem pS {a b : ByteArray} (h : a = b) : MV.p (.str a) = MV.p (.str b) := by rw [h]
theorem pBo {a b : Bool} (h : a = b) : MV.p (.bool a) = MV.p (.bool b) := by rw [h]
end Go.Lo
