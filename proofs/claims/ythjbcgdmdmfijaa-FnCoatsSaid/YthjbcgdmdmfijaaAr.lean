/- Contracts (Ar). -/
import Derived.Test.YthjbcgdmdmfijaaPl
set_option linter.unusedVariables false
set_option linter.unusedSimpArgs false
set_option maxRecDepth 100000
namespace Go.Lo
-- deps: Pl
/-- a / b, rounded to the nearest, halves away from zero (b > 0). -/
def rdiv (a b : Int) : Int := if a < 0 then -((b - 2 * a) / (2 * b)) else (2 * a + b) / (2 * b)
theorem round_half {A b : Int} (hA : 0 ≤ A) (hb : 0 < b) : (2 * A + b) / (2 * b) = A / b + (if b - A % b ≤ A % b then 1 else 0) := by
  have h1 := Int.mul_ediv_add_emod A b
  have h2 := Int.emod_nonneg A (by omega : b ≠ 0)
  have h3 := Int.emod_lt_of_pos A hb
  generalize hq : A / b = q at *
  generalize hr : A % b = r at *
  have hA' : A = b * q + r := by omega
  split
  · rename_i h
    rw [show 2 * A + b = (2 * r - b) + (q + 1) * (2 * b) by rw [hA', Int.add_mul]; have : q * (2 * b) = 2 * (b * q) := by rw [Int.mul_comm, Int.mul_assoc]
                                                            omega]
    rw [Int.add_mul_ediv_right _ _ (by omega), Int.ediv_eq_zero_of_lt (by omega) (by omega)]; omega
  · rename_i h
    rw [show 2 * A + b = (2 * r + b) + q * (2 * b) by rw [hA']; have : q * (2 * b) = 2 * (b * q) := by rw [Int.mul_comm, Int.mul_assoc]
                                                      omega]
    rw [Int.add_mul_ediv_right _ _ (by omega), Int.ediv_eq_zero_of_lt (by omega) (by omega)]; omega
theorem ediv_bd {A b : Int} (hA : 0 ≤ A) (hb : 0 < b) : 0 ≤ A / b ∧ A / b ≤ A := ⟨Int.ediv_nonneg hA (by omega), Int.ediv_le_self _ hA⟩
theorem rdiv_nonneg {a b : Int} (ha : 0 ≤ a) (hb : 0 < b) : 0 ≤ rdiv a b := by
  unfold rdiv; rw [if_neg (by omega)]; exact Int.ediv_nonneg (by omega) (by omega)
theorem rdiv_le {a b c : Int} (ha : 0 ≤ a) (hb : 0 < b) (h : a ≤ b * c) : rdiv a b ≤ c := by
  unfold rdiv; rw [if_neg (by omega)]
  have : 2 * a + b < (c + 1) * (2 * b) := by
    have : (c + 1) * (2 * b) = 2 * (b * c) + 2 * b := by rw [Int.add_mul, Int.one_mul, Int.mul_comm c, Int.mul_assoc, Int.mul_comm b c]
    omega
  have := Int.ediv_lt_of_lt_mul (by omega : 0 < 2 * b) this
  omega
def cRdiv : Ct := fun args K => ∃ a b : Int, args = [I a, I b] ∧ 0 < b ∧ b ≤ 1000000000000 ∧ -1000000000000000 ≤ a ∧ a ≤ 1000000000000000 ∧ K [.p (I (rdiv a b))]
def cMM (f : Int → Int → Int) : Ct := fun args K => ∃ a b : Int, args = [I a, I b] ∧ K [.p (I (f a b))]
def cAt : Ct := fun args K => ∃ i n : Int, args = [I i, I n] ∧ K [.p (.bool (pB (0 ≤ i ∧ i < n)))]
end Go.Lo
namespace Go.Proofs.Ythjbcgdmdmfijaa
open Go.Lo
attribute [local irreducible] W Wc

theorem h_l00Max : Holds Try.prog 98 (cMM max) := by
  refine E.mk tt Try.func98 rfl Try.ntmps98 rfl (by kernel_rfl) ?_
  rintro _ K ⟨a, b, rfl, hK⟩
  refine ⟨Nat.le_of_ble_eq_true rfl, _, hK, ?_⟩
  (repeat' ((conv => whnf); first
    | refine Sd.mk (by first | omega | (unfold in64; omega) | (simp only [fitK, in64]; omega) | (simp only [fitK, in64, chunk, List.length_map, List.length_append, List.length_replicate, List.length_set, List.length_nil, List.length_cons]; omega)) ?_
    | refine Br.yes rfl ?_
    | refine Br.no rfl ?_
    | refine Br.yes (by first | (simp only [ltB_t, ltB_f, eqB_t, eqB_f, pB_t, pB_f, sEq_t, sEq_f, emp_iff, ne_eq, List.length_map, Bool.not_eq_true, Bool.not_eq_false, Bool.not_eq_eq_eq_not, Bool.not_true, Bool.not_false]; done) | (simp only [ltB_t, ltB_f, eqB_t, eqB_f, pB_t, pB_f, sEq_t, sEq_f, emp_iff, ne_eq, List.length_map, Bool.not_eq_true, Bool.not_eq_false, Bool.not_eq_eq_eq_not, Bool.not_true, Bool.not_false]; omega) | (simp only [ltB_t, ltB_f, eqB_t, eqB_f, pB_t, pB_f, sEq_t, sEq_f, emp_iff, ne_eq, List.length_map, Bool.not_eq_true, Bool.not_eq_false, Bool.not_eq_eq_eq_not, Bool.not_true, Bool.not_false]; assumption)) ?_
    | refine Br.no (by first | (simp only [ltB_t, ltB_f, eqB_t, eqB_f, pB_t, pB_f, sEq_t, sEq_f, emp_iff, ne_eq, List.length_map, Bool.not_eq_true, Bool.not_eq_false, Bool.not_eq_eq_eq_not, Bool.not_true, Bool.not_false]; done) | (simp only [ltB_t, ltB_f, eqB_t, eqB_f, pB_t, pB_f, sEq_t, sEq_f, emp_iff, ne_eq, List.length_map, Bool.not_eq_true, Bool.not_eq_false, Bool.not_eq_eq_eq_not, Bool.not_true, Bool.not_false]; omega) | (simp only [ltB_t, ltB_f, eqB_t, eqB_f, pB_t, pB_f, sEq_t, sEq_f, emp_iff, ne_eq, List.length_map, Bool.not_eq_true, Bool.not_eq_false, Bool.not_eq_eq_eq_not, Bool.not_true, Bool.not_false]; assumption)) ?_
    | (refine Br.mk ?_ ?_ <;> intro h <;> (try simp only [ltB_t, ltB_f, eqB_t, eqB_f, pB_t, pB_f, sEq_t, sEq_f, emp_iff, ne_eq, List.length_map, Bool.not_eq_true, Bool.not_eq_false, Bool.not_eq_eq_eq_not, Bool.not_true, Bool.not_false] at h))
    | refine Elt.mk rfl ?_
    | refine Elt.mk (by assumption) ?_
    | refine Elt.mk (ixE (by omega) (by omega)) ?_)) <;> (try (conv => whnf))
  all_goals (refine fin_p rfl ?_ rfl rfl; congr 3; omega)

theorem h_at : Holds Try.prog 64 cAt := by
  refine E.mk tt Try.func64 rfl Try.ntmps64 rfl (by kernel_rfl) ?_
  rintro _ K ⟨i, n, rfl, hK⟩
  refine ⟨Nat.le_of_ble_eq_true rfl, _, hK, ?_⟩
  (repeat' ((conv => whnf); first
    | refine Sd.mk (by first | omega | (unfold in64; omega) | (simp only [fitK, in64]; omega) | (simp only [fitK, in64, chunk, List.length_map, List.length_append, List.length_replicate, List.length_set, List.length_nil, List.length_cons]; omega)) ?_
    | refine Br.yes rfl ?_
    | refine Br.no rfl ?_
    | refine Br.yes (by first | (simp only [ltB_t, ltB_f, eqB_t, eqB_f, pB_t, pB_f, sEq_t, sEq_f, emp_iff, ne_eq, List.length_map, Bool.not_eq_true, Bool.not_eq_false, Bool.not_eq_eq_eq_not, Bool.not_true, Bool.not_false]; done) | (simp only [ltB_t, ltB_f, eqB_t, eqB_f, pB_t, pB_f, sEq_t, sEq_f, emp_iff, ne_eq, List.length_map, Bool.not_eq_true, Bool.not_eq_false, Bool.not_eq_eq_eq_not, Bool.not_true, Bool.not_false]; omega) | (simp only [ltB_t, ltB_f, eqB_t, eqB_f, pB_t, pB_f, sEq_t, sEq_f, emp_iff, ne_eq, List.length_map, Bool.not_eq_true, Bool.not_eq_false, Bool.not_eq_eq_eq_not, Bool.not_true, Bool.not_false]; assumption)) ?_
    | refine Br.no (by first | (simp only [ltB_t, ltB_f, eqB_t, eqB_f, pB_t, pB_f, sEq_t, sEq_f, emp_iff, ne_eq, List.length_map, Bool.not_eq_true, Bool.not_eq_false, Bool.not_eq_eq_eq_not, Bool.not_true, Bool.not_false]; done) | (simp only [ltB_t, ltB_f, eqB_t, eqB_f, pB_t, pB_f, sEq_t, sEq_f, emp_iff, ne_eq, List.length_map, Bool.not_eq_true, Bool.not_eq_false, Bool.not_eq_eq_eq_not, Bool.not_true, Bool.not_false]; omega) | (simp only [ltB_t, ltB_f, eqB_t, eqB_f, pB_t, pB_f, sEq_t, sEq_f, emp_iff, ne_eq, List.length_map, Bool.not_eq_true, Bool.not_eq_false, Bool.not_eq_eq_eq_not, Bool.not_true, Bool.not_false]; assumption)) ?_
    | (refine Br.mk ?_ ?_ <;> intro h <;> (try simp only [ltB_t, ltB_f, eqB_t, eqB_f, pB_t, pB_f, sEq_t, sEq_f, emp_iff, ne_eq, List.length_map, Bool.not_eq_true, Bool.not_eq_false, Bool.not_eq_eq_eq_not, Bool.not_true, Bool.not_false] at h))
    | refine Elt.mk rfl ?_
    | refine Elt.mk (by assumption) ?_
    | refine Elt.mk (ixE (by omega) (by omega)) ?_)) <;> (try (conv => whnf))
  all_goals (refine fin_pB rfl rfl rfl ?_; simp only [ltB_t, ltB_f, eqB_t, eqB_f, pB_t, pB_f, sEq_t, sEq_f, emp_iff, ne_eq, List.length_map, Bool.not_eq_true, Bool.not_eq_false, Bool.not_eq_eq_eq_not, Bool.not_true, Bool.not_false, true_iff, false_iff, Bool.false_eq_true, iff_true, iff_false, and_true, true_and, not_false_eq_true]; omega)

theorem h_l01Div : Holds Try.prog 108 cRdiv := by
  refine E.mk tt Try.func108 rfl Try.ntmps108 rfl (by kernel_rfl) ?_
  rintro _ K ⟨a, b, rfl, hb0, hb1, ha0, ha1, hK⟩
  refine ⟨Nat.le_of_ble_eq_true rfl, _, hK, ?_⟩
  rcases Int.lt_or_le a 0 with hneg | hpos
  · have h1 : (b - 2 * a).tdiv (2 * b) = (b - 2 * a) / (2 * b) := Int.tdiv_eq_ediv_of_nonneg (by omega)
    have h2 := ediv_bd (A := b - 2 * a) (b := 2 * b) (by omega) (by omega)
    (repeat' ((conv => whnf); first
    | refine Sd.mk (by first | omega | (unfold in64; omega) | (simp only [fitK, in64]; omega) | (simp only [fitK, in64, chunk, List.length_map, List.length_append, List.length_replicate, List.length_set, List.length_nil, List.length_cons]; omega)) ?_
    | refine Br.yes rfl ?_
    | refine Br.no rfl ?_
    | refine Br.yes (by first | (simp only [ltB_t, ltB_f, eqB_t, eqB_f, pB_t, pB_f, sEq_t, sEq_f, emp_iff, ne_eq, List.length_map, Bool.not_eq_true, Bool.not_eq_false, Bool.not_eq_eq_eq_not, Bool.not_true, Bool.not_false]; done) | (simp only [ltB_t, ltB_f, eqB_t, eqB_f, pB_t, pB_f, sEq_t, sEq_f, emp_iff, ne_eq, List.length_map, Bool.not_eq_true, Bool.not_eq_false, Bool.not_eq_eq_eq_not, Bool.not_true, Bool.not_false]; omega) | (simp only [ltB_t, ltB_f, eqB_t, eqB_f, pB_t, pB_f, sEq_t, sEq_f, emp_iff, ne_eq, List.length_map, Bool.not_eq_true, Bool.not_eq_false, Bool.not_eq_eq_eq_not, Bool.not_true, Bool.not_false]; assumption)) ?_
    | refine Br.no (by first | (simp only [ltB_t, ltB_f, eqB_t, eqB_f, pB_t, pB_f, sEq_t, sEq_f, emp_iff, ne_eq, List.length_map, Bool.not_eq_true, Bool.not_eq_false, Bool.not_eq_eq_eq_not, Bool.not_true, Bool.not_false]; done) | (simp only [ltB_t, ltB_f, eqB_t, eqB_f, pB_t, pB_f, sEq_t, sEq_f, emp_iff, ne_eq, List.length_map, Bool.not_eq_true, Bool.not_eq_false, Bool.not_eq_eq_eq_not, Bool.not_true, Bool.not_false]; omega) | (simp only [ltB_t, ltB_f, eqB_t, eqB_f, pB_t, pB_f, sEq_t, sEq_f, emp_iff, ne_eq, List.length_map, Bool.not_eq_true, Bool.not_eq_false, Bool.not_eq_eq_eq_not, Bool.not_true, Bool.not_false]; assumption)) ?_
    | (refine Br.mk ?_ ?_ <;> intro h <;> (try simp only [ltB_t, ltB_f, eqB_t, eqB_f, pB_t, pB_f, sEq_t, sEq_f, emp_iff, ne_eq, List.length_map, Bool.not_eq_true, Bool.not_eq_false, Bool.not_eq_eq_eq_not, Bool.not_true, Bool.not_false] at h))
    | refine Elt.mk rfl ?_
    | refine Elt.mk (by assumption) ?_
    | refine Elt.mk (ixE (by omega) (by omega)) ?_)) <;> (try (conv => whnf))
    all_goals (refine fin_p rfl ?_ rfl rfl; unfold rdiv; rw [if_pos hneg, h1])
  · have h1 : (2 * a + b).tdiv (2 * b) = (2 * a + b) / (2 * b) := Int.tdiv_eq_ediv_of_nonneg (by omega)
    have h2 := ediv_bd (A := 2 * a + b) (b := 2 * b) (by omega) (by omega)
    (repeat' ((conv => whnf); first
    | refine Sd.mk (by first | omega | (unfold in64; omega) | (simp only [fitK, in64]; omega) | (simp only [fitK, in64, chunk, List.length_map, List.length_append, List.length_replicate, List.length_set, List.length_nil, List.length_cons]; omega)) ?_
    | refine Br.yes rfl ?_
    | refine Br.no rfl ?_
    | refine Br.yes (by first | (simp only [ltB_t, ltB_f, eqB_t, eqB_f, pB_t, pB_f, sEq_t, sEq_f, emp_iff, ne_eq, List.length_map, Bool.not_eq_true, Bool.not_eq_false, Bool.not_eq_eq_eq_not, Bool.not_true, Bool.not_false]; done) | (simp only [ltB_t, ltB_f, eqB_t, eqB_f, pB_t, pB_f, sEq_t, sEq_f, emp_iff, ne_eq, List.length_map, Bool.not_eq_true, Bool.not_eq_false, Bool.not_eq_eq_eq_not, Bool.not_true, Bool.not_false]; omega) | (simp only [ltB_t, ltB_f, eqB_t, eqB_f, pB_t, pB_f, sEq_t, sEq_f, emp_iff, ne_eq, List.length_map, Bool.not_eq_true, Bool.not_eq_false, Bool.not_eq_eq_eq_not, Bool.not_true, Bool.not_false]; assumption)) ?_
    | refine Br.no (by first | (simp only [ltB_t, ltB_f, eqB_t, eqB_f, pB_t, pB_f, sEq_t, sEq_f, emp_iff, ne_eq, List.length_map, Bool.not_eq_true, Bool.not_eq_false, Bool.not_eq_eq_eq_not, Bool.not_true, Bool.not_false]; done) | (simp only [ltB_t, ltB_f, eqB_t, eqB_f, pB_t, pB_f, sEq_t, sEq_f, emp_iff, ne_eq, List.length_map, Bool.not_eq_true, Bool.not_eq_false, Bool.not_eq_eq_eq_not, Bool.not_true, Bool.not_false]; omega) | (simp only [ltB_t, ltB_f, eqB_t, eqB_f, pB_t, pB_f, sEq_t, sEq_f, emp_iff, ne_eq, List.length_map, Bool.not_eq_true, Bool.not_eq_false, Bool.not_eq_eq_eq_not, Bool.not_true, Bool.not_false]; assumption)) ?_
    | (refine Br.mk ?_ ?_ <;> intro h <;> (try simp only [ltB_t, ltB_f, eqB_t, eqB_f, pB_t, pB_f, sEq_t, sEq_f, emp_iff, ne_eq, List.length_map, Bool.not_eq_true, Bool.not_eq_false, Bool.not_eq_eq_eq_not, Bool.not_true, Bool.not_false] at h))
    | refine Elt.mk rfl ?_
    | refine Elt.mk (by assumption) ?_
    | refine Elt.mk (ixE (by omega) (by omega)) ?_)) <;> (try (conv => whnf))
    all_goals (refine fin_p rfl ?_ rfl rfl; unfold rdiv; rw [if_neg (by omega), h1])

theorem h_divRound : Holds Try.prog 123 cRdiv := by
  refine E.mk tt Try.func123 rfl Try.ntmps123 rfl (by kernel_rfl) ?_
  rintro _ K ⟨a, b, rfl, hb0, hb1, ha0, ha1, hK⟩
  refine ⟨Nat.le_of_ble_eq_true rfl, _, hK, ?_⟩
  have hmb : max b (-b) = b := by omega
  have hA : 0 ≤ max a (-a) := by omega
  have h1 : (max a (-a)).tdiv (max b (-b)) = max a (-a) / b := by rw [hmb]; exact Int.tdiv_eq_ediv_of_nonneg hA
  have h2 := ediv_bd (A := max a (-a)) (b := b) hA hb0
  have h3 : (max a (-a)).tmod (max b (-b)) = max a (-a) % b := by rw [hmb]; exact Int.tmod_eq_emod_of_nonneg hA
  have h4 := Int.emod_nonneg (max a (-a)) (by omega : b ≠ 0)
  have h5 := Int.emod_lt_of_pos (max a (-a)) hb0
  have h6 := round_half (A := max a (-a)) hA hb0
  have hlb : ltB b 0 = false := ltB_f.2 (by omega)
  rcases Int.lt_or_le a 0 with hneg | hpos
  · have hla : ltB a 0 = true := ltB_t.2 hneg
    have hma : max a (-a) = -a := by omega
    (repeat' ((conv => whnf); first
    | refine Br.yes (by rw [hla, hlb]; rfl) ?_
    | refine Br.no (by rw [hla, hlb]; rfl) ?_
    | refine Sd.mk (by first | omega | (unfold in64; omega) | (simp only [fitK, in64]; omega) | (simp only [fitK, in64, chunk, List.length_map, List.length_append, List.length_replicate, List.length_set, List.length_nil, List.length_cons]; omega)) ?_
    | refine Br.yes rfl ?_
    | refine Br.no rfl ?_
    | refine Br.yes (by first | (simp only [ltB_t, ltB_f, eqB_t, eqB_f, pB_t, pB_f, sEq_t, sEq_f, emp_iff, ne_eq, List.length_map, Bool.not_eq_true, Bool.not_eq_false, Bool.not_eq_eq_eq_not, Bool.not_true, Bool.not_false]; done) | (simp only [ltB_t, ltB_f, eqB_t, eqB_f, pB_t, pB_f, sEq_t, sEq_f, emp_iff, ne_eq, List.length_map, Bool.not_eq_true, Bool.not_eq_false, Bool.not_eq_eq_eq_not, Bool.not_true, Bool.not_false]; omega) | (simp only [ltB_t, ltB_f, eqB_t, eqB_f, pB_t, pB_f, sEq_t, sEq_f, emp_iff, ne_eq, List.length_map, Bool.not_eq_true, Bool.not_eq_false, Bool.not_eq_eq_eq_not, Bool.not_true, Bool.not_false]; assumption)) ?_
    | refine Br.no (by first | (simp only [ltB_t, ltB_f, eqB_t, eqB_f, pB_t, pB_f, sEq_t, sEq_f, emp_iff, ne_eq, List.length_map, Bool.not_eq_true, Bool.not_eq_false, Bool.not_eq_eq_eq_not, Bool.not_true, Bool.not_false]; done) | (simp only [ltB_t, ltB_f, eqB_t, eqB_f, pB_t, pB_f, sEq_t, sEq_f, emp_iff, ne_eq, List.length_map, Bool.not_eq_true, Bool.not_eq_false, Bool.not_eq_eq_eq_not, Bool.not_true, Bool.not_false]; omega) | (simp only [ltB_t, ltB_f, eqB_t, eqB_f, pB_t, pB_f, sEq_t, sEq_f, emp_iff, ne_eq, List.length_map, Bool.not_eq_true, Bool.not_eq_false, Bool.not_eq_eq_eq_not, Bool.not_true, Bool.not_false]; assumption)) ?_
    | (refine Br.mk ?_ ?_ <;> intro h <;> (try simp only [ltB_t, ltB_f, eqB_t, eqB_f, pB_t, pB_f, sEq_t, sEq_f, emp_iff, ne_eq, List.length_map, Bool.not_eq_true, Bool.not_eq_false, Bool.not_eq_eq_eq_not, Bool.not_true, Bool.not_false] at h))
    | refine Elt.mk rfl ?_
    | refine Elt.mk (by assumption) ?_
    | refine Elt.mk (ixE (by omega) (by omega)) ?_
    | refine E.read tt (rd_bneq Try.underlying4 rfl rfl) rfl ?_)) <;> (try (conv => whnf))
    all_goals (refine fin_p rfl ?_ rfl rfl; unfold rdiv; rw [if_pos hneg, h1, show b - 2 * a = 2 * max a (-a) + b by omega, h6]; first | (rw [if_pos (by omega)]; done) | (rw [if_neg (by omega), Int.add_zero]))
  · have hla : ltB a 0 = false := ltB_f.2 (by omega)
    have hma : max a (-a) = a := by omega
    (repeat' ((conv => whnf); first
    | refine Br.yes (by rw [hla, hlb]; rfl) ?_
    | refine Br.no (by rw [hla, hlb]; rfl) ?_
    | refine Sd.mk (by first | omega | (unfold in64; omega) | (simp only [fitK, in64]; omega) | (simp only [fitK, in64, chunk, List.length_map, List.length_append, List.length_replicate, List.length_set, List.length_nil, List.length_cons]; omega)) ?_
    | refine Br.yes rfl ?_
    | refine Br.no rfl ?_
    | refine Br.yes (by first | (simp only [ltB_t, ltB_f, eqB_t, eqB_f, pB_t, pB_f, sEq_t, sEq_f, emp_iff, ne_eq, List.length_map, Bool.not_eq_true, Bool.not_eq_false, Bool.not_eq_eq_eq_not, Bool.not_true, Bool.not_false]; done) | (simp only [ltB_t, ltB_f, eqB_t, eqB_f, pB_t, pB_f, sEq_t, sEq_f, emp_iff, ne_eq, List.length_map, Bool.not_eq_true, Bool.not_eq_false, Bool.not_eq_eq_eq_not, Bool.not_true, Bool.not_false]; omega) | (simp only [ltB_t, ltB_f, eqB_t, eqB_f, pB_t, pB_f, sEq_t, sEq_f, emp_iff, ne_eq, List.length_map, Bool.not_eq_true, Bool.not_eq_false, Bool.not_eq_eq_eq_not, Bool.not_true, Bool.not_false]; assumption)) ?_
    | refine Br.no (by first | (simp only [ltB_t, ltB_f, eqB_t, eqB_f, pB_t, pB_f, sEq_t, sEq_f, emp_iff, ne_eq, List.length_map, Bool.not_eq_true, Bool.not_eq_false, Bool.not_eq_eq_eq_not, Bool.not_true, Bool.not_false]; done) | (simp only [ltB_t, ltB_f, eqB_t, eqB_f, pB_t, pB_f, sEq_t, sEq_f, emp_iff, ne_eq, List.length_map, Bool.not_eq_true, Bool.not_eq_false, Bool.not_eq_eq_eq_not, Bool.not_true, Bool.not_false]; omega) | (simp only [ltB_t, ltB_f, eqB_t, eqB_f, pB_t, pB_f, sEq_t, sEq_f, emp_iff, ne_eq, List.length_map, Bool.not_eq_true, Bool.not_eq_false, Bool.not_eq_eq_eq_not, Bool.not_true, Bool.not_false]; assumption)) ?_
    | (refine Br.mk ?_ ?_ <;> intro h <;> (try simp only [ltB_t, ltB_f, eqB_t, eqB_f, pB_t, pB_f, sEq_t, sEq_f, emp_iff, ne_eq, List.length_map, Bool.not_eq_true, Bool.not_eq_false, Bool.not_eq_eq_eq_not, Bool.not_true, Bool.not_false] at h))
    | refine Elt.mk rfl ?_
    | refine Elt.mk (by assumption) ?_
    | refine Elt.mk (ixE (by omega) (by omega)) ?_
    | refine E.read tt (rd_bneq Try.underlying4 rfl rfl) rfl ?_)) <;> (try (conv => whnf))
    all_goals (refine fin_p rfl ?_ rfl rfl; unfold rdiv; rw [if_neg (by omega), h1, show 2 * a + b = 2 * max a (-a) + b by omega, h6]; first | (rw [if_pos (by omega)]; done) | (rw [if_neg (by omega), Int.add_zero]))

theorem h_l00Rises : Holds Try.prog 97 (fun args K => ∃ (l : List Int) (lo hi : Int), args = [.view 1 (l.map encI), I lo, I hi] ∧ (l.length : Int) ≤ 9223372036854775806 ∧ K [.p (.bool (pB (RisesP l lo hi)))]) := by
  refine E.mk tt Try.func97 rfl Try.ntmps97 rfl (by kernel_rfl) ?_
  rintro _ K ⟨l, lo, hi, rfl, hl, hK⟩
  have hln : (l.map encI).length = l.length := by simp
  refine ⟨Nat.le_of_ble_eq_true rfl, _, hK, ?_⟩
  (repeat' ((conv => whnf); first
    | refine Sd.mk (by first | omega | (unfold in64; omega) | (simp only [fitK, in64]; omega) | (simp only [fitK, in64, chunk, List.length_map, List.length_append, List.length_replicate, List.length_set, List.length_nil, List.length_cons]; omega)) ?_
    | refine Br.yes rfl ?_
    | refine Br.no rfl ?_
    | refine Br.yes (by first | (simp only [ltB_t, ltB_f, eqB_t, eqB_f, pB_t, pB_f, sEq_t, sEq_f, emp_iff, ne_eq, List.length_map, Bool.not_eq_true, Bool.not_eq_false, Bool.not_eq_eq_eq_not, Bool.not_true, Bool.not_false]; done) | (simp only [ltB_t, ltB_f, eqB_t, eqB_f, pB_t, pB_f, sEq_t, sEq_f, emp_iff, ne_eq, List.length_map, Bool.not_eq_true, Bool.not_eq_false, Bool.not_eq_eq_eq_not, Bool.not_true, Bool.not_false]; omega) | (simp only [ltB_t, ltB_f, eqB_t, eqB_f, pB_t, pB_f, sEq_t, sEq_f, emp_iff, ne_eq, List.length_map, Bool.not_eq_true, Bool.not_eq_false, Bool.not_eq_eq_eq_not, Bool.not_true, Bool.not_false]; assumption)) ?_
    | refine Br.no (by first | (simp only [ltB_t, ltB_f, eqB_t, eqB_f, pB_t, pB_f, sEq_t, sEq_f, emp_iff, ne_eq, List.length_map, Bool.not_eq_true, Bool.not_eq_false, Bool.not_eq_eq_eq_not, Bool.not_true, Bool.not_false]; done) | (simp only [ltB_t, ltB_f, eqB_t, eqB_f, pB_t, pB_f, sEq_t, sEq_f, emp_iff, ne_eq, List.length_map, Bool.not_eq_true, Bool.not_eq_false, Bool.not_eq_eq_eq_not, Bool.not_true, Bool.not_false]; omega) | (simp only [ltB_t, ltB_f, eqB_t, eqB_f, pB_t, pB_f, sEq_t, sEq_f, emp_iff, ne_eq, List.length_map, Bool.not_eq_true, Bool.not_eq_false, Bool.not_eq_eq_eq_not, Bool.not_true, Bool.not_false]; assumption)) ?_
    | (refine Br.mk ?_ ?_ <;> intro h <;> (try simp only [ltB_t, ltB_f, eqB_t, eqB_f, pB_t, pB_f, sEq_t, sEq_f, emp_iff, ne_eq, List.length_map, Bool.not_eq_true, Bool.not_eq_false, Bool.not_eq_eq_eq_not, Bool.not_true, Bool.not_false] at h))
    | refine Ixv.mk (by omega) (ixE (by omega) (by omega)) ?_
    | refine Elt.mk rfl ?_
    | refine Elt.mk (by assumption) ?_
    | refine Elt.mk (ixE (by omega) (by omega)) ?_
    | refine E.call tt h_l00In rfl rfl ⟨_, _, _, rfl, _, _, rfl, rfl, ?_⟩
    | refine E.regionQ tt (id := 4) mixed (by decide +kernel) ?_)) <;> (try (conv => whnf))
  refine E.loop tt (fun i : Int => 0 ≤ i ∧ i ≤ l.length ∧ allTo (RisesC l lo hi) i) (fun i => ⟨38, 1, [(0, .p (.view 1 (l.map encI))), (1, .p (I lo)), (2, .p (I hi)), (7, .p (I i))], [], Frag.nil⟩) (fun i => (l.length - i).toNat) 0 ⟨by omega, by omega, allTo_zero _⟩ ⟨rfl, ⟨rfl, rfl, rfl, rfl, trivial⟩, trivial, rfl, rfl, fun _ _ h => h⟩ ?_
  rintro i ⟨hi0, hi1, hinv⟩
  (repeat' ((conv => whnf); first
    | refine Sd.mk (by first | omega | (unfold in64; omega) | (simp only [fitK, in64]; omega) | (simp only [fitK, in64, chunk, List.length_map, List.length_append, List.length_replicate, List.length_set, List.length_nil, List.length_cons]; omega)) ?_
    | refine Br.yes rfl ?_
    | refine Br.no rfl ?_
    | refine Br.yes (by first | (simp only [ltB_t, ltB_f, eqB_t, eqB_f, pB_t, pB_f, sEq_t, sEq_f, emp_iff, ne_eq, List.length_map, Bool.not_eq_true, Bool.not_eq_false, Bool.not_eq_eq_eq_not, Bool.not_true, Bool.not_false]; done) | (simp only [ltB_t, ltB_f, eqB_t, eqB_f, pB_t, pB_f, sEq_t, sEq_f, emp_iff, ne_eq, List.length_map, Bool.not_eq_true, Bool.not_eq_false, Bool.not_eq_eq_eq_not, Bool.not_true, Bool.not_false]; omega) | (simp only [ltB_t, ltB_f, eqB_t, eqB_f, pB_t, pB_f, sEq_t, sEq_f, emp_iff, ne_eq, List.length_map, Bool.not_eq_true, Bool.not_eq_false, Bool.not_eq_eq_eq_not, Bool.not_true, Bool.not_false]; assumption)) ?_
    | refine Br.no (by first | (simp only [ltB_t, ltB_f, eqB_t, eqB_f, pB_t, pB_f, sEq_t, sEq_f, emp_iff, ne_eq, List.length_map, Bool.not_eq_true, Bool.not_eq_false, Bool.not_eq_eq_eq_not, Bool.not_true, Bool.not_false]; done) | (simp only [ltB_t, ltB_f, eqB_t, eqB_f, pB_t, pB_f, sEq_t, sEq_f, emp_iff, ne_eq, List.length_map, Bool.not_eq_true, Bool.not_eq_false, Bool.not_eq_eq_eq_not, Bool.not_true, Bool.not_false]; omega) | (simp only [ltB_t, ltB_f, eqB_t, eqB_f, pB_t, pB_f, sEq_t, sEq_f, emp_iff, ne_eq, List.length_map, Bool.not_eq_true, Bool.not_eq_false, Bool.not_eq_eq_eq_not, Bool.not_true, Bool.not_false]; assumption)) ?_
    | (refine Br.mk ?_ ?_ <;> intro h <;> (try simp only [ltB_t, ltB_f, eqB_t, eqB_f, pB_t, pB_f, sEq_t, sEq_f, emp_iff, ne_eq, List.length_map, Bool.not_eq_true, Bool.not_eq_false, Bool.not_eq_eq_eq_not, Bool.not_true, Bool.not_false] at h))
    | refine Ixv.mk (by omega) (ixE (by omega) (by omega)) ?_
    | refine Elt.mk rfl ?_
    | refine Elt.mk (by assumption) ?_
    | refine Elt.mk (ixE (by omega) (by omega)) ?_
    | refine E.call tt h_l00In rfl rfl ⟨_, _, _, rfl, _, _, rfl, rfl, ?_⟩
    | refine E.regionQ tt (id := 4) mixed (by decide +kernel) ?_)) <;> (try (conv => whnf))
  all_goals first
    | (refine fin_pB rfl rfl rfl ?_; simp only [ltB_t, ltB_f, eqB_t, eqB_f, pB_t, pB_f, sEq_t, sEq_f, emp_iff, ne_eq, List.length_map, Bool.not_eq_true, Bool.not_eq_false, Bool.not_eq_eq_eq_not, Bool.not_true, Bool.not_false, true_iff, false_iff, Bool.false_eq_true, iff_true, iff_false, and_true, true_and, not_false_eq_true]; first
        | (intro hB; have hq := hB i (by omega) (by omega); unfold RisesC at hq; first | exact absurd hq.1 (by assumption) | (have hq2 := hq.2 (by omega); omega))
        | exact allTo_le hinv (by omega))
    | (refine ⟨i + 1, ⟨by omega, by omega, allTo_succ hinv ⟨by assumption, fun _ => by omega⟩⟩, by dsimp only; omega, ⟨rfl, ⟨rfl, rfl, rfl, rfl, trivial⟩, trivial, rfl, rfl, fun _ _ h => h⟩⟩)


end Go.Proofs.Ythjbcgdmdmfijaa
