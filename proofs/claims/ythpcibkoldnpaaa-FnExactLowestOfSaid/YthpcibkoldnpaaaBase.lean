/- Contracts of the small functions. -/
import Derived.Test.YthpcibkoldnpaaaTab
set_option linter.unusedVariables false
set_option linter.unusedSimpArgs false
set_option maxRecDepth 100000
namespace Go.Lo
def sm (n : Int) : Prop := 97 ≤ n ∧ n ≤ 122
def dg (n : Int) : Prop := 48 ≤ n ∧ n ≤ 57
def NameC (s : ByteArray) (i : Int) : Prop := sm (sAt s i).toNat ∨ (0 < i ∧ dg (sAt s i).toNat)
def NameP (s : ByteArray) : Prop := 1 ≤ (s.size : Int) ∧ (s.size : Int) ≤ 10 ∧ allTo (NameC s) s.size
def cIn : Ct := fun args K => ∃ n lo hi : Int, args = [I n, I lo, I hi] ∧ K [.p (.bool (pB (lo ≤ n ∧ n ≤ hi)))]
def cByte (p : Int → Prop) : Ct := fun args K => ∃ n : Int, args = [U8 n] ∧ K [.p (.bool (pB (p n)))]
def cInt (p : Int → Prop) : Ct := fun args K => ∃ n : Int, args = [I n] ∧ K [.p (.bool (pB (p n)))]
def cFew : Ct := fun args K => ∃ n m : Int, args = [I n, I m] ∧ -9223372036854775808 ≤ n ∧ n ≤ 9223372036854775807 ∧ K [.p (.bool (pB (n ≤ m)))]
def cName : Ct := fun args K => ∃ s : ByteArray, args = [.str s] ∧ (s.size : Int) ≤ 9223372036854775807 ∧ K [.p (.bool (pB (NameP s)))]
def cRef {α : Type} (enc : α → List PV) (ok p : α → Prop) : Ct := fun args K => ∃ x : α, args = [.ref (enc x)] ∧ ok x ∧ K [.p (.bool (pB (p x)))]
def cAgg {α : Type} (enc : α → List PV) (ok p : α → Prop) : Ct := fun args K => ∃ x : α, args = [.agg (enc x)] ∧ ok x ∧ K [.p (.bool (pB (p x)))]
def cList {α : Type} (z : Nat) (enc : α → List PV) (ok : α → Prop) (p : List α → Prop) : Ct := fun args K => ∃ xs : List α, args = [.view z (xs.map enc)] ∧ (xs.length : Int) ≤ 1048576 ∧ (∀ x ∈ xs, ok x) ∧ K [.p (.bool (pB (p xs)))]
def encI (n : Int) : List PV := [I n]
def encS (s : ByteArray) : List PV := [.str s]
def okS (s : ByteArray) : Prop := (s.size : Int) ≤ 9223372036854775807
theorem reads_I {P : Program} {t : TypeId} (ht : P.underlying t = some (.int .i64)) : Reads P t 1 (fun p => ∃ x : Int, p = encI x ∧ in64 x) := (reads_int ht).mono fun p ⟨n, h, w⟩ => ⟨n, h, w⟩
theorem reads_S {P : Program} {t : TypeId} (ht : P.underlying t = some .string) : Reads P t 1 (fun p => ∃ x : ByteArray, p = encS x ∧ okS x) := (reads_str ht).mono fun p ⟨n, h, w⟩ => ⟨n, h, w⟩
end Go.Lo
namespace Go.Proofs.Ythpcibkoldnpaaa
open Go.Lo
attribute [local irreducible] W Wc

theorem h_l00In : Holds Try.prog 101 cIn := by
  refine Holds.mk tt Try.func101 rfl Try.ntmps101 rfl (by kernel_rfl) ?_
  rintro _ K ⟨n, lo, hi, rfl, hK⟩
  refine ⟨Nat.le_of_ble_eq_true rfl, _, hK, ?_⟩
  repeat' (first
    | refine Wc.seq ?_
    | refine Wc.region ?_
    | refine Wc.cond_t rfl ?_
    | refine Wc.cond_f rfl ?_
    | refine Wc.condT rfl (by first | (simp only [ltB_t, ltB_f, eqB_t, eqB_f, pB_t, pB_f, sEq_t, sEq_f, emp_iff, ne_eq, List.length_map, Bool.not_eq_true, Bool.not_eq_false, Bool.not_eq_eq_eq_not, Bool.not_true, Bool.not_false]; done) | (simp only [ltB_t, ltB_f, eqB_t, eqB_f, pB_t, pB_f, sEq_t, sEq_f, emp_iff, ne_eq, List.length_map, Bool.not_eq_true, Bool.not_eq_false, Bool.not_eq_eq_eq_not, Bool.not_true, Bool.not_false]; omega) | (simp only [ltB_t, ltB_f, eqB_t, eqB_f, pB_t, pB_f, sEq_t, sEq_f, emp_iff, ne_eq, List.length_map, Bool.not_eq_true, Bool.not_eq_false, Bool.not_eq_eq_eq_not, Bool.not_true, Bool.not_false]; assumption)) ?_
    | refine Wc.condF rfl (by first | (simp only [ltB_t, ltB_f, eqB_t, eqB_f, pB_t, pB_f, sEq_t, sEq_f, emp_iff, ne_eq, List.length_map, Bool.not_eq_true, Bool.not_eq_false, Bool.not_eq_eq_eq_not, Bool.not_true, Bool.not_false]; done) | (simp only [ltB_t, ltB_f, eqB_t, eqB_f, pB_t, pB_f, sEq_t, sEq_f, emp_iff, ne_eq, List.length_map, Bool.not_eq_true, Bool.not_eq_false, Bool.not_eq_eq_eq_not, Bool.not_true, Bool.not_false]; omega) | (simp only [ltB_t, ltB_f, eqB_t, eqB_f, pB_t, pB_f, sEq_t, sEq_f, emp_iff, ne_eq, List.length_map, Bool.not_eq_true, Bool.not_eq_false, Bool.not_eq_eq_eq_not, Bool.not_true, Bool.not_false]; assumption)) ?_
    | (refine Wc.cond rfl ?_ ?_ <;> intro h <;> (try simp only [ltB_t, ltB_f, eqB_t, eqB_f, pB_t, pB_f, sEq_t, sEq_f, emp_iff, ne_eq, List.length_map, Bool.not_eq_true, Bool.not_eq_false, Bool.not_eq_eq_eq_not, Bool.not_true, Bool.not_false] at h))
    | refine Wc.ret ?_
    | refine Wc.skip ?_
    | refine Wc.block ?_
    | refine Wc.exit ?_
    | refine W.nil ?_
    | refine W.yes rfl rfl rfl ?_
    | refine W.no rfl rfl rfl rfl ?_
    | refine W.never rfl rfl rfl rfl ?_
    | refine W.read (rd_mv_p rfl) rfl ?_
    | refine W.read (rd_as_p rfl) rfl ?_
    | refine W.read (rd_mv_o rfl) rfl ?_
    | refine W.read (rd_as_o rfl) rfl ?_
    | refine W.read (rd_geq rfl rfl) rfl ?_
    | refine W.read (rd_leq rfl rfl) rfl ?_
    | refine W.read (rd_pk_t rfl rfl) rfl ?_
    | refine W.read (rd_pk_f rfl rfl) rfl ?_
    | refine W.read (rd_pk_b rfl rfl rfl) rfl ?_
    | refine W.askY rfl rfl rfl (by first | (simp only [ltB_t, ltB_f, eqB_t, eqB_f, pB_t, pB_f, sEq_t, sEq_f, emp_iff, ne_eq, List.length_map, Bool.not_eq_true, Bool.not_eq_false, Bool.not_eq_eq_eq_not, Bool.not_true, Bool.not_false]; done) | (simp only [ltB_t, ltB_f, eqB_t, eqB_f, pB_t, pB_f, sEq_t, sEq_f, emp_iff, ne_eq, List.length_map, Bool.not_eq_true, Bool.not_eq_false, Bool.not_eq_eq_eq_not, Bool.not_true, Bool.not_false]; omega) | (simp only [ltB_t, ltB_f, eqB_t, eqB_f, pB_t, pB_f, sEq_t, sEq_f, emp_iff, ne_eq, List.length_map, Bool.not_eq_true, Bool.not_eq_false, Bool.not_eq_eq_eq_not, Bool.not_true, Bool.not_false]; assumption)) ?_
    | refine W.askN rfl rfl rfl rfl (by first | (simp only [ltB_t, ltB_f, eqB_t, eqB_f, pB_t, pB_f, sEq_t, sEq_f, emp_iff, ne_eq, List.length_map, Bool.not_eq_true, Bool.not_eq_false, Bool.not_eq_eq_eq_not, Bool.not_true, Bool.not_false]; done) | (simp only [ltB_t, ltB_f, eqB_t, eqB_f, pB_t, pB_f, sEq_t, sEq_f, emp_iff, ne_eq, List.length_map, Bool.not_eq_true, Bool.not_eq_false, Bool.not_eq_eq_eq_not, Bool.not_true, Bool.not_false]; omega) | (simp only [ltB_t, ltB_f, eqB_t, eqB_f, pB_t, pB_f, sEq_t, sEq_f, emp_iff, ne_eq, List.length_map, Bool.not_eq_true, Bool.not_eq_false, Bool.not_eq_eq_eq_not, Bool.not_true, Bool.not_false]; assumption)) ?_
    | (refine W.ask rfl rfl rfl rfl ?_ ?_ <;> intro h <;> (try simp only [ltB_t, ltB_f, eqB_t, eqB_f, pB_t, pB_f, sEq_t, sEq_f, emp_iff, ne_eq, List.length_map, Bool.not_eq_true, Bool.not_eq_false, Bool.not_eq_eq_eq_not, Bool.not_true, Bool.not_false] at h)))
  all_goals (refine fin_pB rfl rfl rfl ?_; simp only [ltB_t, ltB_f, eqB_t, eqB_f, pB_t, pB_f, sEq_t, sEq_f, emp_iff, ne_eq, List.length_map, Bool.not_eq_true, Bool.not_eq_false, Bool.not_eq_eq_eq_not, Bool.not_true, Bool.not_false, true_iff, false_iff, Bool.false_eq_true, iff_true, iff_false, and_true, true_and, not_false_eq_true]; omega)

theorem h_within : Holds Try.prog 106 cIn := by
  refine Holds.mk tt Try.func106 rfl Try.ntmps106 rfl (by kernel_rfl) ?_
  rintro _ K ⟨n, lo, hi, rfl, hK⟩
  refine ⟨Nat.le_of_ble_eq_true rfl, _, hK, ?_⟩
  repeat' (first
    | refine Wc.seq ?_
    | refine Wc.region ?_
    | refine Wc.cond_t rfl ?_
    | refine Wc.cond_f rfl ?_
    | refine Wc.condT rfl (by first | (simp only [ltB_t, ltB_f, eqB_t, eqB_f, pB_t, pB_f, sEq_t, sEq_f, emp_iff, ne_eq, List.length_map, Bool.not_eq_true, Bool.not_eq_false, Bool.not_eq_eq_eq_not, Bool.not_true, Bool.not_false]; done) | (simp only [ltB_t, ltB_f, eqB_t, eqB_f, pB_t, pB_f, sEq_t, sEq_f, emp_iff, ne_eq, List.length_map, Bool.not_eq_true, Bool.not_eq_false, Bool.not_eq_eq_eq_not, Bool.not_true, Bool.not_false]; omega) | (simp only [ltB_t, ltB_f, eqB_t, eqB_f, pB_t, pB_f, sEq_t, sEq_f, emp_iff, ne_eq, List.length_map, Bool.not_eq_true, Bool.not_eq_false, Bool.not_eq_eq_eq_not, Bool.not_true, Bool.not_false]; assumption)) ?_
    | refine Wc.condF rfl (by first | (simp only [ltB_t, ltB_f, eqB_t, eqB_f, pB_t, pB_f, sEq_t, sEq_f, emp_iff, ne_eq, List.length_map, Bool.not_eq_true, Bool.not_eq_false, Bool.not_eq_eq_eq_not, Bool.not_true, Bool.not_false]; done) | (simp only [ltB_t, ltB_f, eqB_t, eqB_f, pB_t, pB_f, sEq_t, sEq_f, emp_iff, ne_eq, List.length_map, Bool.not_eq_true, Bool.not_eq_false, Bool.not_eq_eq_eq_not, Bool.not_true, Bool.not_false]; omega) | (simp only [ltB_t, ltB_f, eqB_t, eqB_f, pB_t, pB_f, sEq_t, sEq_f, emp_iff, ne_eq, List.length_map, Bool.not_eq_true, Bool.not_eq_false, Bool.not_eq_eq_eq_not, Bool.not_true, Bool.not_false]; assumption)) ?_
    | (refine Wc.cond rfl ?_ ?_ <;> intro h <;> (try simp only [ltB_t, ltB_f, eqB_t, eqB_f, pB_t, pB_f, sEq_t, sEq_f, emp_iff, ne_eq, List.length_map, Bool.not_eq_true, Bool.not_eq_false, Bool.not_eq_eq_eq_not, Bool.not_true, Bool.not_false] at h))
    | refine Wc.ret ?_
    | refine Wc.skip ?_
    | refine Wc.block ?_
    | refine Wc.exit ?_
    | refine W.nil ?_
    | refine W.yes rfl rfl rfl ?_
    | refine W.no rfl rfl rfl rfl ?_
    | refine W.never rfl rfl rfl rfl ?_
    | refine W.read (rd_mv_p rfl) rfl ?_
    | refine W.read (rd_as_p rfl) rfl ?_
    | refine W.read (rd_mv_o rfl) rfl ?_
    | refine W.read (rd_as_o rfl) rfl ?_
    | refine W.read (rd_leq rfl rfl) rfl ?_
    | refine W.read (rd_pk_t rfl rfl) rfl ?_
    | refine W.read (rd_pk_f rfl rfl) rfl ?_
    | refine W.read (rd_pk_b rfl rfl rfl) rfl ?_
    | refine W.askY rfl rfl rfl (by first | (simp only [ltB_t, ltB_f, eqB_t, eqB_f, pB_t, pB_f, sEq_t, sEq_f, emp_iff, ne_eq, List.length_map, Bool.not_eq_true, Bool.not_eq_false, Bool.not_eq_eq_eq_not, Bool.not_true, Bool.not_false]; done) | (simp only [ltB_t, ltB_f, eqB_t, eqB_f, pB_t, pB_f, sEq_t, sEq_f, emp_iff, ne_eq, List.length_map, Bool.not_eq_true, Bool.not_eq_false, Bool.not_eq_eq_eq_not, Bool.not_true, Bool.not_false]; omega) | (simp only [ltB_t, ltB_f, eqB_t, eqB_f, pB_t, pB_f, sEq_t, sEq_f, emp_iff, ne_eq, List.length_map, Bool.not_eq_true, Bool.not_eq_false, Bool.not_eq_eq_eq_not, Bool.not_true, Bool.not_false]; assumption)) ?_
    | refine W.askN rfl rfl rfl rfl (by first | (simp only [ltB_t, ltB_f, eqB_t, eqB_f, pB_t, pB_f, sEq_t, sEq_f, emp_iff, ne_eq, List.length_map, Bool.not_eq_true, Bool.not_eq_false, Bool.not_eq_eq_eq_not, Bool.not_true, Bool.not_false]; done) | (simp only [ltB_t, ltB_f, eqB_t, eqB_f, pB_t, pB_f, sEq_t, sEq_f, emp_iff, ne_eq, List.length_map, Bool.not_eq_true, Bool.not_eq_false, Bool.not_eq_eq_eq_not, Bool.not_true, Bool.not_false]; omega) | (simp only [ltB_t, ltB_f, eqB_t, eqB_f, pB_t, pB_f, sEq_t, sEq_f, emp_iff, ne_eq, List.length_map, Bool.not_eq_true, Bool.not_eq_false, Bool.not_eq_eq_eq_not, Bool.not_true, Bool.not_false]; assumption)) ?_
    | (refine W.ask rfl rfl rfl rfl ?_ ?_ <;> intro h <;> (try simp only [ltB_t, ltB_f, eqB_t, eqB_f, pB_t, pB_f, sEq_t, sEq_f, emp_iff, ne_eq, List.length_map, Bool.not_eq_true, Bool.not_eq_false, Bool.not_eq_eq_eq_not, Bool.not_true, Bool.not_false] at h)))
  all_goals (refine fin_pB rfl rfl rfl ?_; simp only [ltB_t, ltB_f, eqB_t, eqB_f, pB_t, pB_f, sEq_t, sEq_f, emp_iff, ne_eq, List.length_map, Bool.not_eq_true, Bool.not_eq_false, Bool.not_eq_eq_eq_not, Bool.not_true, Bool.not_false, true_iff, false_iff, Bool.false_eq_true, iff_true, iff_false, and_true, true_and, not_false_eq_true]; omega)

theorem h_l21Day : Holds Try.prog 197 (cInt fun n => 0 ≤ n ∧ n ≤ 100000) := by
  refine Holds.mk tt Try.func197 rfl Try.ntmps197 rfl (by kernel_rfl) ?_
  rintro _ K ⟨n, rfl, hK⟩
  refine ⟨Nat.le_of_ble_eq_true rfl, _, hK, ?_⟩
  repeat' (first
    | refine Wc.seq ?_
    | refine Wc.region ?_
    | refine Wc.cond_t rfl ?_
    | refine Wc.cond_f rfl ?_
    | refine Wc.condT rfl (by first | (simp only [ltB_t, ltB_f, eqB_t, eqB_f, pB_t, pB_f, sEq_t, sEq_f, emp_iff, ne_eq, List.length_map, Bool.not_eq_true, Bool.not_eq_false, Bool.not_eq_eq_eq_not, Bool.not_true, Bool.not_false]; done) | (simp only [ltB_t, ltB_f, eqB_t, eqB_f, pB_t, pB_f, sEq_t, sEq_f, emp_iff, ne_eq, List.length_map, Bool.not_eq_true, Bool.not_eq_false, Bool.not_eq_eq_eq_not, Bool.not_true, Bool.not_false]; omega) | (simp only [ltB_t, ltB_f, eqB_t, eqB_f, pB_t, pB_f, sEq_t, sEq_f, emp_iff, ne_eq, List.length_map, Bool.not_eq_true, Bool.not_eq_false, Bool.not_eq_eq_eq_not, Bool.not_true, Bool.not_false]; assumption)) ?_
    | refine Wc.condF rfl (by first | (simp only [ltB_t, ltB_f, eqB_t, eqB_f, pB_t, pB_f, sEq_t, sEq_f, emp_iff, ne_eq, List.length_map, Bool.not_eq_true, Bool.not_eq_false, Bool.not_eq_eq_eq_not, Bool.not_true, Bool.not_false]; done) | (simp only [ltB_t, ltB_f, eqB_t, eqB_f, pB_t, pB_f, sEq_t, sEq_f, emp_iff, ne_eq, List.length_map, Bool.not_eq_true, Bool.not_eq_false, Bool.not_eq_eq_eq_not, Bool.not_true, Bool.not_false]; omega) | (simp only [ltB_t, ltB_f, eqB_t, eqB_f, pB_t, pB_f, sEq_t, sEq_f, emp_iff, ne_eq, List.length_map, Bool.not_eq_true, Bool.not_eq_false, Bool.not_eq_eq_eq_not, Bool.not_true, Bool.not_false]; assumption)) ?_
    | (refine Wc.cond rfl ?_ ?_ <;> intro h <;> (try simp only [ltB_t, ltB_f, eqB_t, eqB_f, pB_t, pB_f, sEq_t, sEq_f, emp_iff, ne_eq, List.length_map, Bool.not_eq_true, Bool.not_eq_false, Bool.not_eq_eq_eq_not, Bool.not_true, Bool.not_false] at h))
    | refine Wc.ret ?_
    | refine Wc.skip ?_
    | refine Wc.block ?_
    | refine Wc.exit ?_
    | refine W.nil ?_
    | refine W.read (rd_mv_p rfl) rfl ?_
    | refine W.read (rd_as_p rfl) rfl ?_
    | refine W.read (rd_mv_o rfl) rfl ?_
    | refine W.read (rd_as_o rfl) rfl ?_
    | refine W.call h_l00In rfl rfl ⟨_, _, _, rfl, _, _, rfl, rfl, ?_⟩)
  all_goals (refine fin_pB rfl rfl rfl ?_; simp only [ltB_t, ltB_f, eqB_t, eqB_f, pB_t, pB_f, sEq_t, sEq_f, emp_iff, ne_eq, List.length_map, Bool.not_eq_true, Bool.not_eq_false, Bool.not_eq_eq_eq_not, Bool.not_true, Bool.not_false, true_iff, false_iff, Bool.false_eq_true, iff_true, iff_false, and_true, true_and, not_false_eq_true])

theorem h_isRentDay : Holds Try.prog 193 (cInt fun n => 0 ≤ n ∧ n ≤ 100000) := by
  refine Holds.mk tt Try.func193 rfl Try.ntmps193 rfl (by kernel_rfl) ?_
  rintro _ K ⟨n, rfl, hK⟩
  refine ⟨Nat.le_of_ble_eq_true rfl, _, hK, ?_⟩
  repeat' (first
    | refine Wc.seq ?_
    | refine Wc.region ?_
    | refine Wc.cond_t rfl ?_
    | refine Wc.cond_f rfl ?_
    | refine Wc.condT rfl (by first | (simp only [ltB_t, ltB_f, eqB_t, eqB_f, pB_t, pB_f, sEq_t, sEq_f, emp_iff, ne_eq, List.length_map, Bool.not_eq_true, Bool.not_eq_false, Bool.not_eq_eq_eq_not, Bool.not_true, Bool.not_false]; done) | (simp only [ltB_t, ltB_f, eqB_t, eqB_f, pB_t, pB_f, sEq_t, sEq_f, emp_iff, ne_eq, List.length_map, Bool.not_eq_true, Bool.not_eq_false, Bool.not_eq_eq_eq_not, Bool.not_true, Bool.not_false]; omega) | (simp only [ltB_t, ltB_f, eqB_t, eqB_f, pB_t, pB_f, sEq_t, sEq_f, emp_iff, ne_eq, List.length_map, Bool.not_eq_true, Bool.not_eq_false, Bool.not_eq_eq_eq_not, Bool.not_true, Bool.not_false]; assumption)) ?_
    | refine Wc.condF rfl (by first | (simp only [ltB_t, ltB_f, eqB_t, eqB_f, pB_t, pB_f, sEq_t, sEq_f, emp_iff, ne_eq, List.length_map, Bool.not_eq_true, Bool.not_eq_false, Bool.not_eq_eq_eq_not, Bool.not_true, Bool.not_false]; done) | (simp only [ltB_t, ltB_f, eqB_t, eqB_f, pB_t, pB_f, sEq_t, sEq_f, emp_iff, ne_eq, List.length_map, Bool.not_eq_true, Bool.not_eq_false, Bool.not_eq_eq_eq_not, Bool.not_true, Bool.not_false]; omega) | (simp only [ltB_t, ltB_f, eqB_t, eqB_f, pB_t, pB_f, sEq_t, sEq_f, emp_iff, ne_eq, List.length_map, Bool.not_eq_true, Bool.not_eq_false, Bool.not_eq_eq_eq_not, Bool.not_true, Bool.not_false]; assumption)) ?_
    | (refine Wc.cond rfl ?_ ?_ <;> intro h <;> (try simp only [ltB_t, ltB_f, eqB_t, eqB_f, pB_t, pB_f, sEq_t, sEq_f, emp_iff, ne_eq, List.length_map, Bool.not_eq_true, Bool.not_eq_false, Bool.not_eq_eq_eq_not, Bool.not_true, Bool.not_false] at h))
    | refine Wc.ret ?_
    | refine Wc.skip ?_
    | refine Wc.block ?_
    | refine Wc.exit ?_
    | refine W.nil ?_
    | refine W.read (rd_mv_p rfl) rfl ?_
    | refine W.read (rd_as_p rfl) rfl ?_
    | refine W.read (rd_mv_o rfl) rfl ?_
    | refine W.read (rd_as_o rfl) rfl ?_
    | refine W.call h_within rfl rfl ⟨_, _, _, rfl, _, _, rfl, rfl, ?_⟩)
  all_goals (refine fin_pB rfl rfl rfl ?_; simp only [ltB_t, ltB_f, eqB_t, eqB_f, pB_t, pB_f, sEq_t, sEq_f, emp_iff, ne_eq, List.length_map, Bool.not_eq_true, Bool.not_eq_false, Bool.not_eq_eq_eq_not, Bool.not_true, Bool.not_false, true_iff, false_iff, Bool.false_eq_true, iff_true, iff_false, and_true, true_and, not_false_eq_true])

theorem h_isDigit : Holds Try.prog 162 (cByte dg) := by
  refine Holds.mk tt Try.func162 rfl Try.ntmps162 rfl (by kernel_rfl) ?_
  rintro _ K ⟨n, rfl, hK⟩
  refine ⟨Nat.le_of_ble_eq_true rfl, _, hK, ?_⟩
  repeat' (first
    | refine Wc.seq ?_
    | refine Wc.region ?_
    | refine Wc.cond_t rfl ?_
    | refine Wc.cond_f rfl ?_
    | refine Wc.condT rfl (by first | (simp only [ltB_t, ltB_f, eqB_t, eqB_f, pB_t, pB_f, sEq_t, sEq_f, emp_iff, ne_eq, List.length_map, Bool.not_eq_true, Bool.not_eq_false, Bool.not_eq_eq_eq_not, Bool.not_true, Bool.not_false]; done) | (simp only [ltB_t, ltB_f, eqB_t, eqB_f, pB_t, pB_f, sEq_t, sEq_f, emp_iff, ne_eq, List.length_map, Bool.not_eq_true, Bool.not_eq_false, Bool.not_eq_eq_eq_not, Bool.not_true, Bool.not_false]; omega) | (simp only [ltB_t, ltB_f, eqB_t, eqB_f, pB_t, pB_f, sEq_t, sEq_f, emp_iff, ne_eq, List.length_map, Bool.not_eq_true, Bool.not_eq_false, Bool.not_eq_eq_eq_not, Bool.not_true, Bool.not_false]; assumption)) ?_
    | refine Wc.condF rfl (by first | (simp only [ltB_t, ltB_f, eqB_t, eqB_f, pB_t, pB_f, sEq_t, sEq_f, emp_iff, ne_eq, List.length_map, Bool.not_eq_true, Bool.not_eq_false, Bool.not_eq_eq_eq_not, Bool.not_true, Bool.not_false]; done) | (simp only [ltB_t, ltB_f, eqB_t, eqB_f, pB_t, pB_f, sEq_t, sEq_f, emp_iff, ne_eq, List.length_map, Bool.not_eq_true, Bool.not_eq_false, Bool.not_eq_eq_eq_not, Bool.not_true, Bool.not_false]; omega) | (simp only [ltB_t, ltB_f, eqB_t, eqB_f, pB_t, pB_f, sEq_t, sEq_f, emp_iff, ne_eq, List.length_map, Bool.not_eq_true, Bool.not_eq_false, Bool.not_eq_eq_eq_not, Bool.not_true, Bool.not_false]; assumption)) ?_
    | (refine Wc.cond rfl ?_ ?_ <;> intro h <;> (try simp only [ltB_t, ltB_f, eqB_t, eqB_f, pB_t, pB_f, sEq_t, sEq_f, emp_iff, ne_eq, List.length_map, Bool.not_eq_true, Bool.not_eq_false, Bool.not_eq_eq_eq_not, Bool.not_true, Bool.not_false] at h))
    | refine Wc.ret ?_
    | refine Wc.skip ?_
    | refine Wc.block ?_
    | refine Wc.exit ?_
    | refine W.nil ?_
    | refine W.yes rfl rfl rfl ?_
    | refine W.no rfl rfl rfl rfl ?_
    | refine W.never rfl rfl rfl rfl ?_
    | refine W.read (rd_mv_p rfl) rfl ?_
    | refine W.read (rd_as_p rfl) rfl ?_
    | refine W.read (rd_mv_o rfl) rfl ?_
    | refine W.read (rd_as_o rfl) rfl ?_
    | refine W.read (rd_geq rfl rfl) rfl ?_
    | refine W.read (rd_leq rfl rfl) rfl ?_
    | refine W.read (rd_pk_t rfl rfl) rfl ?_
    | refine W.read (rd_pk_f rfl rfl) rfl ?_
    | refine W.read (rd_pk_b rfl rfl rfl) rfl ?_
    | refine W.askY rfl rfl rfl (by first | (simp only [ltB_t, ltB_f, eqB_t, eqB_f, pB_t, pB_f, sEq_t, sEq_f, emp_iff, ne_eq, List.length_map, Bool.not_eq_true, Bool.not_eq_false, Bool.not_eq_eq_eq_not, Bool.not_true, Bool.not_false]; done) | (simp only [ltB_t, ltB_f, eqB_t, eqB_f, pB_t, pB_f, sEq_t, sEq_f, emp_iff, ne_eq, List.length_map, Bool.not_eq_true, Bool.not_eq_false, Bool.not_eq_eq_eq_not, Bool.not_true, Bool.not_false]; omega) | (simp only [ltB_t, ltB_f, eqB_t, eqB_f, pB_t, pB_f, sEq_t, sEq_f, emp_iff, ne_eq, List.length_map, Bool.not_eq_true, Bool.not_eq_false, Bool.not_eq_eq_eq_not, Bool.not_true, Bool.not_false]; assumption)) ?_
    | refine W.askN rfl rfl rfl rfl (by first | (simp only [ltB_t, ltB_f, eqB_t, eqB_f, pB_t, pB_f, sEq_t, sEq_f, emp_iff, ne_eq, List.length_map, Bool.not_eq_true, Bool.not_eq_false, Bool.not_eq_eq_eq_not, Bool.not_true, Bool.not_false]; done) | (simp only [ltB_t, ltB_f, eqB_t, eqB_f, pB_t, pB_f, sEq_t, sEq_f, emp_iff, ne_eq, List.length_map, Bool.not_eq_true, Bool.not_eq_false, Bool.not_eq_eq_eq_not, Bool.not_true, Bool.not_false]; omega) | (simp only [ltB_t, ltB_f, eqB_t, eqB_f, pB_t, pB_f, sEq_t, sEq_f, emp_iff, ne_eq, List.length_map, Bool.not_eq_true, Bool.not_eq_false, Bool.not_eq_eq_eq_not, Bool.not_true, Bool.not_false]; assumption)) ?_
    | (refine W.ask rfl rfl rfl rfl ?_ ?_ <;> intro h <;> (try simp only [ltB_t, ltB_f, eqB_t, eqB_f, pB_t, pB_f, sEq_t, sEq_f, emp_iff, ne_eq, List.length_map, Bool.not_eq_true, Bool.not_eq_false, Bool.not_eq_eq_eq_not, Bool.not_true, Bool.not_false] at h)))
  all_goals (refine fin_pB rfl rfl rfl ?_; unfold dg; simp only [ltB_t, ltB_f, eqB_t, eqB_f, pB_t, pB_f, sEq_t, sEq_f, emp_iff, ne_eq, List.length_map, Bool.not_eq_true, Bool.not_eq_false, Bool.not_eq_eq_eq_not, Bool.not_true, Bool.not_false, true_iff, false_iff, Bool.false_eq_true, iff_true, iff_false, and_true, true_and, not_false_eq_true]; omega)

theorem h_l01Digit : Holds Try.prog 192 (cByte dg) := by
  refine Holds.mk tt Try.func192 rfl Try.ntmps192 rfl (by kernel_rfl) ?_
  rintro _ K ⟨n, rfl, hK⟩
  refine ⟨Nat.le_of_ble_eq_true rfl, _, hK, ?_⟩
  repeat' (first
    | refine Wc.seq ?_
    | refine Wc.region ?_
    | refine Wc.cond_t rfl ?_
    | refine Wc.cond_f rfl ?_
    | refine Wc.condT rfl (by first | (simp only [ltB_t, ltB_f, eqB_t, eqB_f, pB_t, pB_f, sEq_t, sEq_f, emp_iff, ne_eq, List.length_map, Bool.not_eq_true, Bool.not_eq_false, Bool.not_eq_eq_eq_not, Bool.not_true, Bool.not_false]; done) | (simp only [ltB_t, ltB_f, eqB_t, eqB_f, pB_t, pB_f, sEq_t, sEq_f, emp_iff, ne_eq, List.length_map, Bool.not_eq_true, Bool.not_eq_false, Bool.not_eq_eq_eq_not, Bool.not_true, Bool.not_false]; omega) | (simp only [ltB_t, ltB_f, eqB_t, eqB_f, pB_t, pB_f, sEq_t, sEq_f, emp_iff, ne_eq, List.length_map, Bool.not_eq_true, Bool.not_eq_false, Bool.not_eq_eq_eq_not, Bool.not_true, Bool.not_false]; assumption)) ?_
    | refine Wc.condF rfl (by first | (simp only [ltB_t, ltB_f, eqB_t, eqB_f, pB_t, pB_f, sEq_t, sEq_f, emp_iff, ne_eq, List.length_map, Bool.not_eq_true, Bool.not_eq_false, Bool.not_eq_eq_eq_not, Bool.not_true, Bool.not_false]; done) | (simp only [ltB_t, ltB_f, eqB_t, eqB_f, pB_t, pB_f, sEq_t, sEq_f, emp_iff, ne_eq, List.length_map, Bool.not_eq_true, Bool.not_eq_false, Bool.not_eq_eq_eq_not, Bool.not_true, Bool.not_false]; omega) | (simp only [ltB_t, ltB_f, eqB_t, eqB_f, pB_t, pB_f, sEq_t, sEq_f, emp_iff, ne_eq, List.length_map, Bool.not_eq_true, Bool.not_eq_false, Bool.not_eq_eq_eq_not, Bool.not_true, Bool.not_false]; assumption)) ?_
    | (refine Wc.cond rfl ?_ ?_ <;> intro h <;> (try simp only [ltB_t, ltB_f, eqB_t, eqB_f, pB_t, pB_f, sEq_t, sEq_f, emp_iff, ne_eq, List.length_map, Bool.not_eq_true, Bool.not_eq_false, Bool.not_eq_eq_eq_not, Bool.not_true, Bool.not_false] at h))
    | refine Wc.ret ?_
    | refine Wc.skip ?_
    | refine Wc.block ?_
    | refine Wc.exit ?_
    | refine W.nil ?_
    | refine W.yes rfl rfl rfl ?_
    | refine W.no rfl rfl rfl rfl ?_
    | refine W.never rfl rfl rfl rfl ?_
    | refine W.read (rd_mv_p rfl) rfl ?_
    | refine W.read (rd_as_p rfl) rfl ?_
    | refine W.read (rd_mv_o rfl) rfl ?_
    | refine W.read (rd_as_o rfl) rfl ?_
    | refine W.read (rd_geq rfl rfl) rfl ?_
    | refine W.read (rd_leq rfl rfl) rfl ?_
    | refine W.read (rd_pk_t rfl rfl) rfl ?_
    | refine W.read (rd_pk_f rfl rfl) rfl ?_
    | refine W.read (rd_pk_b rfl rfl rfl) rfl ?_
    | refine W.askY rfl rfl rfl (by first | (simp only [ltB_t, ltB_f, eqB_t, eqB_f, pB_t, pB_f, sEq_t, sEq_f, emp_iff, ne_eq, List.length_map, Bool.not_eq_true, Bool.not_eq_false, Bool.not_eq_eq_eq_not, Bool.not_true, Bool.not_false]; done) | (simp only [ltB_t, ltB_f, eqB_t, eqB_f, pB_t, pB_f, sEq_t, sEq_f, emp_iff, ne_eq, List.length_map, Bool.not_eq_true, Bool.not_eq_false, Bool.not_eq_eq_eq_not, Bool.not_true, Bool.not_false]; omega) | (simp only [ltB_t, ltB_f, eqB_t, eqB_f, pB_t, pB_f, sEq_t, sEq_f, emp_iff, ne_eq, List.length_map, Bool.not_eq_true, Bool.not_eq_false, Bool.not_eq_eq_eq_not, Bool.not_true, Bool.not_false]; assumption)) ?_
    | refine W.askN rfl rfl rfl rfl (by first | (simp only [ltB_t, ltB_f, eqB_t, eqB_f, pB_t, pB_f, sEq_t, sEq_f, emp_iff, ne_eq, List.length_map, Bool.not_eq_true, Bool.not_eq_false, Bool.not_eq_eq_eq_not, Bool.not_true, Bool.not_false]; done) | (simp only [ltB_t, ltB_f, eqB_t, eqB_f, pB_t, pB_f, sEq_t, sEq_f, emp_iff, ne_eq, List.length_map, Bool.not_eq_true, Bool.not_eq_false, Bool.not_eq_eq_eq_not, Bool.not_true, Bool.not_false]; omega) | (simp only [ltB_t, ltB_f, eqB_t, eqB_f, pB_t, pB_f, sEq_t, sEq_f, emp_iff, ne_eq, List.length_map, Bool.not_eq_true, Bool.not_eq_false, Bool.not_eq_eq_eq_not, Bool.not_true, Bool.not_false]; assumption)) ?_
    | (refine W.ask rfl rfl rfl rfl ?_ ?_ <;> intro h <;> (try simp only [ltB_t, ltB_f, eqB_t, eqB_f, pB_t, pB_f, sEq_t, sEq_f, emp_iff, ne_eq, List.length_map, Bool.not_eq_true, Bool.not_eq_false, Bool.not_eq_eq_eq_not, Bool.not_true, Bool.not_false] at h)))
  all_goals (refine fin_pB rfl rfl rfl ?_; unfold dg; simp only [ltB_t, ltB_f, eqB_t, eqB_f, pB_t, pB_f, sEq_t, sEq_f, emp_iff, ne_eq, List.length_map, Bool.not_eq_true, Bool.not_eq_false, Bool.not_eq_eq_eq_not, Bool.not_true, Bool.not_false, true_iff, false_iff, Bool.false_eq_true, iff_true, iff_false, and_true, true_and, not_false_eq_true]; omega)

theorem h_l01Small : Holds Try.prog 191 (cByte sm) := by
  refine Holds.mk tt Try.func191 rfl Try.ntmps191 rfl (by kernel_rfl) ?_
  rintro _ K ⟨n, rfl, hK⟩
  refine ⟨Nat.le_of_ble_eq_true rfl, _, hK, ?_⟩
  repeat' (first
    | refine Wc.seq ?_
    | refine Wc.region ?_
    | refine Wc.cond_t rfl ?_
    | refine Wc.cond_f rfl ?_
    | refine Wc.condT rfl (by first | (simp only [ltB_t, ltB_f, eqB_t, eqB_f, pB_t, pB_f, sEq_t, sEq_f, emp_iff, ne_eq, List.length_map, Bool.not_eq_true, Bool.not_eq_false, Bool.not_eq_eq_eq_not, Bool.not_true, Bool.not_false]; done) | (simp only [ltB_t, ltB_f, eqB_t, eqB_f, pB_t, pB_f, sEq_t, sEq_f, emp_iff, ne_eq, List.length_map, Bool.not_eq_true, Bool.not_eq_false, Bool.not_eq_eq_eq_not, Bool.not_true, Bool.not_false]; omega) | (simp only [ltB_t, ltB_f, eqB_t, eqB_f, pB_t, pB_f, sEq_t, sEq_f, emp_iff, ne_eq, List.length_map, Bool.not_eq_true, Bool.not_eq_false, Bool.not_eq_eq_eq_not, Bool.not_true, Bool.not_false]; assumption)) ?_
    | refine Wc.condF rfl (by first | (simp only [ltB_t, ltB_f, eqB_t, eqB_f, pB_t, pB_f, sEq_t, sEq_f, emp_iff, ne_eq, List.length_map, Bool.not_eq_true, Bool.not_eq_false, Bool.not_eq_eq_eq_not, Bool.not_true, Bool.not_false]; done) | (simp only [ltB_t, ltB_f, eqB_t, eqB_f, pB_t, pB_f, sEq_t, sEq_f, emp_iff, ne_eq, List.length_map, Bool.not_eq_true, Bool.not_eq_false, Bool.not_eq_eq_eq_not, Bool.not_true, Bool.not_false]; omega) | (simp only [ltB_t, ltB_f, eqB_t, eqB_f, pB_t, pB_f, sEq_t, sEq_f, emp_iff, ne_eq, List.length_map, Bool.not_eq_true, Bool.not_eq_false, Bool.not_eq_eq_eq_not, Bool.not_true, Bool.not_false]; assumption)) ?_
    | (refine Wc.cond rfl ?_ ?_ <;> intro h <;> (try simp only [ltB_t, ltB_f, eqB_t, eqB_f, pB_t, pB_f, sEq_t, sEq_f, emp_iff, ne_eq, List.length_map, Bool.not_eq_true, Bool.not_eq_false, Bool.not_eq_eq_eq_not, Bool.not_true, Bool.not_false] at h))
    | refine Wc.ret ?_
    | refine Wc.skip ?_
    | refine Wc.block ?_
    | refine Wc.exit ?_
    | refine W.nil ?_
    | refine W.yes rfl rfl rfl ?_
    | refine W.no rfl rfl rfl rfl ?_
    | refine W.never rfl rfl rfl rfl ?_
    | refine W.read (rd_mv_p rfl) rfl ?_
    | refine W.read (rd_as_p rfl) rfl ?_
    | refine W.read (rd_mv_o rfl) rfl ?_
    | refine W.read (rd_as_o rfl) rfl ?_
    | refine W.read (rd_geq rfl rfl) rfl ?_
    | refine W.read (rd_leq rfl rfl) rfl ?_
    | refine W.read (rd_pk_t rfl rfl) rfl ?_
    | refine W.read (rd_pk_f rfl rfl) rfl ?_
    | refine W.read (rd_pk_b rfl rfl rfl) rfl ?_
    | refine W.askY rfl rfl rfl (by first | (simp only [ltB_t, ltB_f, eqB_t, eqB_f, pB_t, pB_f, sEq_t, sEq_f, emp_iff, ne_eq, List.length_map, Bool.not_eq_true, Bool.not_eq_false, Bool.not_eq_eq_eq_not, Bool.not_true, Bool.not_false]; done) | (simp only [ltB_t, ltB_f, eqB_t, eqB_f, pB_t, pB_f, sEq_t, sEq_f, emp_iff, ne_eq, List.length_map, Bool.not_eq_true, Bool.not_eq_false, Bool.not_eq_eq_eq_not, Bool.not_true, Bool.not_false]; omega) | (simp only [ltB_t, ltB_f, eqB_t, eqB_f, pB_t, pB_f, sEq_t, sEq_f, emp_iff, ne_eq, List.length_map, Bool.not_eq_true, Bool.not_eq_false, Bool.not_eq_eq_eq_not, Bool.not_true, Bool.not_false]; assumption)) ?_
    | refine W.askN rfl rfl rfl rfl (by first | (simp only [ltB_t, ltB_f, eqB_t, eqB_f, pB_t, pB_f, sEq_t, sEq_f, emp_iff, ne_eq, List.length_map, Bool.not_eq_true, Bool.not_eq_false, Bool.not_eq_eq_eq_not, Bool.not_true, Bool.not_false]; done) | (simp only [ltB_t, ltB_f, eqB_t, eqB_f, pB_t, pB_f, sEq_t, sEq_f, emp_iff, ne_eq, List.length_map, Bool.not_eq_true, Bool.not_eq_false, Bool.not_eq_eq_eq_not, Bool.not_true, Bool.not_false]; omega) | (simp only [ltB_t, ltB_f, eqB_t, eqB_f, pB_t, pB_f, sEq_t, sEq_f, emp_iff, ne_eq, List.length_map, Bool.not_eq_true, Bool.not_eq_false, Bool.not_eq_eq_eq_not, Bool.not_true, Bool.not_false]; assumption)) ?_
    | (refine W.ask rfl rfl rfl rfl ?_ ?_ <;> intro h <;> (try simp only [ltB_t, ltB_f, eqB_t, eqB_f, pB_t, pB_f, sEq_t, sEq_f, emp_iff, ne_eq, List.length_map, Bool.not_eq_true, Bool.not_eq_false, Bool.not_eq_eq_eq_not, Bool.not_true, Bool.not_false] at h)))
  all_goals (refine fin_pB rfl rfl rfl ?_; unfold sm; simp only [ltB_t, ltB_f, eqB_t, eqB_f, pB_t, pB_f, sEq_t, sEq_f, emp_iff, ne_eq, List.length_map, Bool.not_eq_true, Bool.not_eq_false, Bool.not_eq_eq_eq_not, Bool.not_true, Bool.not_false, true_iff, false_iff, Bool.false_eq_true, iff_true, iff_false, and_true, true_and, not_false_eq_true]; omega)

theorem h_few : Holds Try.prog 161 cFew := by
  refine Holds.mk tt Try.func161 rfl Try.ntmps161 rfl (by kernel_rfl) ?_
  rintro _ K ⟨n, m, rfl, h1, h2, hK⟩
  refine ⟨Nat.le_of_ble_eq_true rfl, _, hK, ?_⟩
  repeat' (first
    | refine Wc.seq ?_
    | refine Wc.region ?_
    | refine Wc.cond_t rfl ?_
    | refine Wc.cond_f rfl ?_
    | refine Wc.condT rfl (by first | (simp only [ltB_t, ltB_f, eqB_t, eqB_f, pB_t, pB_f, sEq_t, sEq_f, emp_iff, ne_eq, List.length_map, Bool.not_eq_true, Bool.not_eq_false, Bool.not_eq_eq_eq_not, Bool.not_true, Bool.not_false]; done) | (simp only [ltB_t, ltB_f, eqB_t, eqB_f, pB_t, pB_f, sEq_t, sEq_f, emp_iff, ne_eq, List.length_map, Bool.not_eq_true, Bool.not_eq_false, Bool.not_eq_eq_eq_not, Bool.not_true, Bool.not_false]; omega) | (simp only [ltB_t, ltB_f, eqB_t, eqB_f, pB_t, pB_f, sEq_t, sEq_f, emp_iff, ne_eq, List.length_map, Bool.not_eq_true, Bool.not_eq_false, Bool.not_eq_eq_eq_not, Bool.not_true, Bool.not_false]; assumption)) ?_
    | refine Wc.condF rfl (by first | (simp only [ltB_t, ltB_f, eqB_t, eqB_f, pB_t, pB_f, sEq_t, sEq_f, emp_iff, ne_eq, List.length_map, Bool.not_eq_true, Bool.not_eq_false, Bool.not_eq_eq_eq_not, Bool.not_true, Bool.not_false]; done) | (simp only [ltB_t, ltB_f, eqB_t, eqB_f, pB_t, pB_f, sEq_t, sEq_f, emp_iff, ne_eq, List.length_map, Bool.not_eq_true, Bool.not_eq_false, Bool.not_eq_eq_eq_not, Bool.not_true, Bool.not_false]; omega) | (simp only [ltB_t, ltB_f, eqB_t, eqB_f, pB_t, pB_f, sEq_t, sEq_f, emp_iff, ne_eq, List.length_map, Bool.not_eq_true, Bool.not_eq_false, Bool.not_eq_eq_eq_not, Bool.not_true, Bool.not_false]; assumption)) ?_
    | (refine Wc.cond rfl ?_ ?_ <;> intro h <;> (try simp only [ltB_t, ltB_f, eqB_t, eqB_f, pB_t, pB_f, sEq_t, sEq_f, emp_iff, ne_eq, List.length_map, Bool.not_eq_true, Bool.not_eq_false, Bool.not_eq_eq_eq_not, Bool.not_true, Bool.not_false] at h))
    | refine Wc.ret ?_
    | refine Wc.skip ?_
    | refine Wc.block ?_
    | refine Wc.exit ?_
    | refine W.nil ?_
    | refine W.read (rd_mv_p rfl) rfl ?_
    | refine W.read (rd_as_p rfl) rfl ?_
    | refine W.read (rd_mv_o rfl) rfl ?_
    | refine W.read (rd_as_o rfl) rfl ?_
    | refine W.read (rd_leq rfl rfl) rfl ?_)
  all_goals (refine fin_pB rfl rfl rfl ?_; simp only [ltB_t, ltB_f, eqB_t, eqB_f, pB_t, pB_f, sEq_t, sEq_f, emp_iff, ne_eq, List.length_map, Bool.not_eq_true, Bool.not_eq_false, Bool.not_eq_eq_eq_not, Bool.not_true, Bool.not_false, true_iff, false_iff, Bool.false_eq_true, iff_true, iff_false, and_true, true_and, not_false_eq_true])

theorem h_IsName : Holds Try.prog 85 cName := by
  refine Holds.mk tt Try.func85 rfl Try.ntmps85 rfl (by kernel_rfl) ?_
  rintro _ K ⟨s, rfl, hs, hK⟩
  refine ⟨Nat.le_of_ble_eq_true rfl, _, hK, ?_⟩
  repeat' (first
    | refine Wc.seq ?_
    | refine Wc.region ?_
    | refine Wc.cond_t rfl ?_
    | refine Wc.cond_f rfl ?_
    | refine Wc.condT rfl (by first | (simp only [ltB_t, ltB_f, eqB_t, eqB_f, pB_t, pB_f, sEq_t, sEq_f, emp_iff, ne_eq, List.length_map, Bool.not_eq_true, Bool.not_eq_false, Bool.not_eq_eq_eq_not, Bool.not_true, Bool.not_false]; done) | (simp only [ltB_t, ltB_f, eqB_t, eqB_f, pB_t, pB_f, sEq_t, sEq_f, emp_iff, ne_eq, List.length_map, Bool.not_eq_true, Bool.not_eq_false, Bool.not_eq_eq_eq_not, Bool.not_true, Bool.not_false]; omega) | (simp only [ltB_t, ltB_f, eqB_t, eqB_f, pB_t, pB_f, sEq_t, sEq_f, emp_iff, ne_eq, List.length_map, Bool.not_eq_true, Bool.not_eq_false, Bool.not_eq_eq_eq_not, Bool.not_true, Bool.not_false]; assumption)) ?_
    | refine Wc.condF rfl (by first | (simp only [ltB_t, ltB_f, eqB_t, eqB_f, pB_t, pB_f, sEq_t, sEq_f, emp_iff, ne_eq, List.length_map, Bool.not_eq_true, Bool.not_eq_false, Bool.not_eq_eq_eq_not, Bool.not_true, Bool.not_false]; done) | (simp only [ltB_t, ltB_f, eqB_t, eqB_f, pB_t, pB_f, sEq_t, sEq_f, emp_iff, ne_eq, List.length_map, Bool.not_eq_true, Bool.not_eq_false, Bool.not_eq_eq_eq_not, Bool.not_true, Bool.not_false]; omega) | (simp only [ltB_t, ltB_f, eqB_t, eqB_f, pB_t, pB_f, sEq_t, sEq_f, emp_iff, ne_eq, List.length_map, Bool.not_eq_true, Bool.not_eq_false, Bool.not_eq_eq_eq_not, Bool.not_true, Bool.not_false]; assumption)) ?_
    | (refine Wc.cond rfl ?_ ?_ <;> intro h <;> (try simp only [ltB_t, ltB_f, eqB_t, eqB_f, pB_t, pB_f, sEq_t, sEq_f, emp_iff, ne_eq, List.length_map, Bool.not_eq_true, Bool.not_eq_false, Bool.not_eq_eq_eq_not, Bool.not_true, Bool.not_false] at h))
    | refine Wc.ret ?_
    | refine Wc.skip ?_
    | refine Wc.block ?_
    | refine Wc.exit ?_
    | refine W.nil ?_
    | refine W.yes rfl rfl rfl ?_
    | refine W.no rfl rfl rfl rfl ?_
    | refine W.never rfl rfl rfl rfl ?_
    | refine W.read (rd_mv_p rfl) rfl ?_
    | refine W.read (rd_as_p rfl) rfl ?_
    | refine W.read (rd_mv_o rfl) rfl ?_
    | refine W.read (rd_as_o rfl) rfl ?_
    | refine W.read (rd_eql rfl rfl) rfl ?_
    | refine W.read (rd_geq rfl rfl) rfl ?_
    | refine W.read (rd_leq rfl rfl) rfl ?_
    | refine W.read (rd_lss rfl rfl) rfl ?_
    | refine W.read (rd_sneq rfl rfl) rfl ?_
    | refine W.read (rd_pk_t rfl rfl) rfl ?_
    | refine W.read (rd_pk_f rfl rfl) rfl ?_
    | refine W.read (rd_pk_b rfl rfl rfl) rfl ?_
    | refine W.read (rd_not rfl) rfl ?_
    | refine W.read (rd_len_str tt rfl rfl rfl) rfl ?_
    | refine W.read (rd_len_view tt rfl rfl rfl rfl) rfl ?_
    | refine W.read (rd_len_own tt rfl rfl rfl rfl rfl) rfl ?_
    | refine W.read (rd_len_nil tt rfl rfl rfl rfl) rfl ?_
    | refine W.read (rd_sidx tt rfl rfl rfl rfl (by omega) (sixE (by omega) (by omega))) rfl ?_
    | refine W.call h_few rfl rfl ⟨_, _, rfl, by omega, by omega, _, _, rfl, rfl, ?_⟩
    | refine W.call h_isDigit rfl rfl ⟨_, rfl, _, _, rfl, rfl, ?_⟩
    | refine W.read (rd_add rfl rfl (by unfold in64; omega)) rfl ?_
    | refine W.askY rfl rfl rfl (by first | (simp only [ltB_t, ltB_f, eqB_t, eqB_f, pB_t, pB_f, sEq_t, sEq_f, emp_iff, ne_eq, List.length_map, Bool.not_eq_true, Bool.not_eq_false, Bool.not_eq_eq_eq_not, Bool.not_true, Bool.not_false]; done) | (simp only [ltB_t, ltB_f, eqB_t, eqB_f, pB_t, pB_f, sEq_t, sEq_f, emp_iff, ne_eq, List.length_map, Bool.not_eq_true, Bool.not_eq_false, Bool.not_eq_eq_eq_not, Bool.not_true, Bool.not_false]; omega) | (simp only [ltB_t, ltB_f, eqB_t, eqB_f, pB_t, pB_f, sEq_t, sEq_f, emp_iff, ne_eq, List.length_map, Bool.not_eq_true, Bool.not_eq_false, Bool.not_eq_eq_eq_not, Bool.not_true, Bool.not_false]; assumption)) ?_
    | refine W.askN rfl rfl rfl rfl (by first | (simp only [ltB_t, ltB_f, eqB_t, eqB_f, pB_t, pB_f, sEq_t, sEq_f, emp_iff, ne_eq, List.length_map, Bool.not_eq_true, Bool.not_eq_false, Bool.not_eq_eq_eq_not, Bool.not_true, Bool.not_false]; done) | (simp only [ltB_t, ltB_f, eqB_t, eqB_f, pB_t, pB_f, sEq_t, sEq_f, emp_iff, ne_eq, List.length_map, Bool.not_eq_true, Bool.not_eq_false, Bool.not_eq_eq_eq_not, Bool.not_true, Bool.not_false]; omega) | (simp only [ltB_t, ltB_f, eqB_t, eqB_f, pB_t, pB_f, sEq_t, sEq_f, emp_iff, ne_eq, List.length_map, Bool.not_eq_true, Bool.not_eq_false, Bool.not_eq_eq_eq_not, Bool.not_true, Bool.not_false]; assumption)) ?_
    | (refine W.ask rfl rfl rfl rfl ?_ ?_ <;> intro h <;> (try simp only [ltB_t, ltB_f, eqB_t, eqB_f, pB_t, pB_f, sEq_t, sEq_f, emp_iff, ne_eq, List.length_map, Bool.not_eq_true, Bool.not_eq_false, Bool.not_eq_eq_eq_not, Bool.not_true, Bool.not_false] at h)))
  refine Wc.loop (fun i : Int => 0 ≤ i ∧ i ≤ s.size ∧ allTo (NameC s) i) (fun i => ⟨41, 0, [(0, .p (.str s)), (3, .p (I i))], []⟩) (fun i => (s.size - i).toNat) 0 ⟨by omega, by omega, allTo_zero _⟩ ⟨rfl, ⟨rfl, rfl, trivial⟩, trivial, rfl, rfl⟩ ?_
  rintro i ⟨hi0, hi1, hinv⟩
  repeat' (first
    | refine Wc.seq ?_
    | refine Wc.region ?_
    | refine Wc.cond_t rfl ?_
    | refine Wc.cond_f rfl ?_
    | refine Wc.condT rfl (by first | (simp only [ltB_t, ltB_f, eqB_t, eqB_f, pB_t, pB_f, sEq_t, sEq_f, emp_iff, ne_eq, List.length_map, Bool.not_eq_true, Bool.not_eq_false, Bool.not_eq_eq_eq_not, Bool.not_true, Bool.not_false]; done) | (simp only [ltB_t, ltB_f, eqB_t, eqB_f, pB_t, pB_f, sEq_t, sEq_f, emp_iff, ne_eq, List.length_map, Bool.not_eq_true, Bool.not_eq_false, Bool.not_eq_eq_eq_not, Bool.not_true, Bool.not_false]; omega) | (simp only [ltB_t, ltB_f, eqB_t, eqB_f, pB_t, pB_f, sEq_t, sEq_f, emp_iff, ne_eq, List.length_map, Bool.not_eq_true, Bool.not_eq_false, Bool.not_eq_eq_eq_not, Bool.not_true, Bool.not_false]; assumption)) ?_
    | refine Wc.condF rfl (by first | (simp only [ltB_t, ltB_f, eqB_t, eqB_f, pB_t, pB_f, sEq_t, sEq_f, emp_iff, ne_eq, List.length_map, Bool.not_eq_true, Bool.not_eq_false, Bool.not_eq_eq_eq_not, Bool.not_true, Bool.not_false]; done) | (simp only [ltB_t, ltB_f, eqB_t, eqB_f, pB_t, pB_f, sEq_t, sEq_f, emp_iff, ne_eq, List.length_map, Bool.not_eq_true, Bool.not_eq_false, Bool.not_eq_eq_eq_not, Bool.not_true, Bool.not_false]; omega) | (simp only [ltB_t, ltB_f, eqB_t, eqB_f, pB_t, pB_f, sEq_t, sEq_f, emp_iff, ne_eq, List.length_map, Bool.not_eq_true, Bool.not_eq_false, Bool.not_eq_eq_eq_not, Bool.not_true, Bool.not_false]; assumption)) ?_
    | (refine Wc.cond rfl ?_ ?_ <;> intro h <;> (try simp only [ltB_t, ltB_f, eqB_t, eqB_f, pB_t, pB_f, sEq_t, sEq_f, emp_iff, ne_eq, List.length_map, Bool.not_eq_true, Bool.not_eq_false, Bool.not_eq_eq_eq_not, Bool.not_true, Bool.not_false] at h))
    | refine Wc.ret ?_
    | refine Wc.skip ?_
    | refine Wc.block ?_
    | refine Wc.exit ?_
    | refine W.nil ?_
    | refine W.yes rfl rfl rfl ?_
    | refine W.no rfl rfl rfl rfl ?_
    | refine W.never rfl rfl rfl rfl ?_
    | refine W.read (rd_mv_p rfl) rfl ?_
    | refine W.read (rd_as_p rfl) rfl ?_
    | refine W.read (rd_mv_o rfl) rfl ?_
    | refine W.read (rd_as_o rfl) rfl ?_
    | refine W.read (rd_eql rfl rfl) rfl ?_
    | refine W.read (rd_geq rfl rfl) rfl ?_
    | refine W.read (rd_leq rfl rfl) rfl ?_
    | refine W.read (rd_lss rfl rfl) rfl ?_
    | refine W.read (rd_sneq rfl rfl) rfl ?_
    | refine W.read (rd_pk_t rfl rfl) rfl ?_
    | refine W.read (rd_pk_f rfl rfl) rfl ?_
    | refine W.read (rd_pk_b rfl rfl rfl) rfl ?_
    | refine W.read (rd_not rfl) rfl ?_
    | refine W.read (rd_len_str tt rfl rfl rfl) rfl ?_
    | refine W.read (rd_len_view tt rfl rfl rfl rfl) rfl ?_
    | refine W.read (rd_len_own tt rfl rfl rfl rfl rfl) rfl ?_
    | refine W.read (rd_len_nil tt rfl rfl rfl rfl) rfl ?_
    | refine W.read (rd_sidx tt rfl rfl rfl rfl (by omega) (sixE (by omega) (by omega))) rfl ?_
    | refine W.call h_few rfl rfl ⟨_, _, rfl, by omega, by omega, _, _, rfl, rfl, ?_⟩
    | refine W.call h_isDigit rfl rfl ⟨_, rfl, _, _, rfl, rfl, ?_⟩
    | refine W.read (rd_add rfl rfl (by unfold in64; omega)) rfl ?_
    | refine W.askY rfl rfl rfl (by first | (simp only [ltB_t, ltB_f, eqB_t, eqB_f, pB_t, pB_f, sEq_t, sEq_f, emp_iff, ne_eq, List.length_map, Bool.not_eq_true, Bool.not_eq_false, Bool.not_eq_eq_eq_not, Bool.not_true, Bool.not_false]; done) | (simp only [ltB_t, ltB_f, eqB_t, eqB_f, pB_t, pB_f, sEq_t, sEq_f, emp_iff, ne_eq, List.length_map, Bool.not_eq_true, Bool.not_eq_false, Bool.not_eq_eq_eq_not, Bool.not_true, Bool.not_false]; omega) | (simp only [ltB_t, ltB_f, eqB_t, eqB_f, pB_t, pB_f, sEq_t, sEq_f, emp_iff, ne_eq, List.length_map, Bool.not_eq_true, Bool.not_eq_false, Bool.not_eq_eq_eq_not, Bool.not_true, Bool.not_false]; assumption)) ?_
    | refine W.askN rfl rfl rfl rfl (by first | (simp only [ltB_t, ltB_f, eqB_t, eqB_f, pB_t, pB_f, sEq_t, sEq_f, emp_iff, ne_eq, List.length_map, Bool.not_eq_true, Bool.not_eq_false, Bool.not_eq_eq_eq_not, Bool.not_true, Bool.not_false]; done) | (simp only [ltB_t, ltB_f, eqB_t, eqB_f, pB_t, pB_f, sEq_t, sEq_f, emp_iff, ne_eq, List.length_map, Bool.not_eq_true, Bool.not_eq_false, Bool.not_eq_eq_eq_not, Bool.not_true, Bool.not_false]; omega) | (simp only [ltB_t, ltB_f, eqB_t, eqB_f, pB_t, pB_f, sEq_t, sEq_f, emp_iff, ne_eq, List.length_map, Bool.not_eq_true, Bool.not_eq_false, Bool.not_eq_eq_eq_not, Bool.not_true, Bool.not_false]; assumption)) ?_
    | (refine W.ask rfl rfl rfl rfl ?_ ?_ <;> intro h <;> (try simp only [ltB_t, ltB_f, eqB_t, eqB_f, pB_t, pB_f, sEq_t, sEq_f, emp_iff, ne_eq, List.length_map, Bool.not_eq_true, Bool.not_eq_false, Bool.not_eq_eq_eq_not, Bool.not_true, Bool.not_false] at h)))
  all_goals first
    | (refine ⟨i + 1, ⟨by omega, by omega, allTo_succ hinv ?_⟩, by dsimp only; omega, ⟨rfl, ⟨rfl, rfl, trivial⟩, trivial, rfl, rfl⟩⟩; unfold NameC sm; first | (left; omega) | (right; exact ⟨by omega, by assumption⟩))
    | (refine fin_pB rfl rfl rfl ?_; simp only [ltB_t, ltB_f, eqB_t, eqB_f, pB_t, pB_f, sEq_t, sEq_f, emp_iff, ne_eq, List.length_map, Bool.not_eq_true, Bool.not_eq_false, Bool.not_eq_eq_eq_not, Bool.not_true, Bool.not_false, true_iff, false_iff, Bool.false_eq_true, iff_true, iff_false, and_true, true_and, not_false_eq_true]; first
        | (intro hN; have hq := hN.2.2 i (by omega) (by omega); unfold NameC sm at hq; rcases hq with hq | hq <;> first | omega | exact absurd hq.2 (by assumption))
        | (intro hN; have hz := hN.1; omega)
        | exact ⟨fun hl => ⟨by omega, hl, allTo_le hinv (by omega)⟩, fun hN => hN.2.1⟩)

theorem h_l01Name : Holds Try.prog 159 cName := by
  refine Holds.mk tt Try.func159 rfl Try.ntmps159 rfl (by kernel_rfl) ?_
  rintro _ K ⟨s, rfl, hs, hK⟩
  refine ⟨Nat.le_of_ble_eq_true rfl, _, hK, ?_⟩
  repeat' (first
    | refine Wc.seq ?_
    | refine Wc.region ?_
    | refine Wc.cond_t rfl ?_
    | refine Wc.cond_f rfl ?_
    | refine Wc.condT rfl (by first | (simp only [ltB_t, ltB_f, eqB_t, eqB_f, pB_t, pB_f, sEq_t, sEq_f, emp_iff, ne_eq, List.length_map, Bool.not_eq_true, Bool.not_eq_false, Bool.not_eq_eq_eq_not, Bool.not_true, Bool.not_false]; done) | (simp only [ltB_t, ltB_f, eqB_t, eqB_f, pB_t, pB_f, sEq_t, sEq_f, emp_iff, ne_eq, List.length_map, Bool.not_eq_true, Bool.not_eq_false, Bool.not_eq_eq_eq_not, Bool.not_true, Bool.not_false]; omega) | (simp only [ltB_t, ltB_f, eqB_t, eqB_f, pB_t, pB_f, sEq_t, sEq_f, emp_iff, ne_eq, List.length_map, Bool.not_eq_true, Bool.not_eq_false, Bool.not_eq_eq_eq_not, Bool.not_true, Bool.not_false]; assumption)) ?_
    | refine Wc.condF rfl (by first | (simp only [ltB_t, ltB_f, eqB_t, eqB_f, pB_t, pB_f, sEq_t, sEq_f, emp_iff, ne_eq, List.length_map, Bool.not_eq_true, Bool.not_eq_false, Bool.not_eq_eq_eq_not, Bool.not_true, Bool.not_false]; done) | (simp only [ltB_t, ltB_f, eqB_t, eqB_f, pB_t, pB_f, sEq_t, sEq_f, emp_iff, ne_eq, List.length_map, Bool.not_eq_true, Bool.not_eq_false, Bool.not_eq_eq_eq_not, Bool.not_true, Bool.not_false]; omega) | (simp only [ltB_t, ltB_f, eqB_t, eqB_f, pB_t, pB_f, sEq_t, sEq_f, emp_iff, ne_eq, List.length_map, Bool.not_eq_true, Bool.not_eq_false, Bool.not_eq_eq_eq_not, Bool.not_true, Bool.not_false]; assumption)) ?_
    | (refine Wc.cond rfl ?_ ?_ <;> intro h <;> (try simp only [ltB_t, ltB_f, eqB_t, eqB_f, pB_t, pB_f, sEq_t, sEq_f, emp_iff, ne_eq, List.length_map, Bool.not_eq_true, Bool.not_eq_false, Bool.not_eq_eq_eq_not, Bool.not_true, Bool.not_false] at h))
    | refine Wc.ret ?_
    | refine Wc.skip ?_
    | refine Wc.block ?_
    | refine Wc.exit ?_
    | refine W.nil ?_
    | refine W.yes rfl rfl rfl ?_
    | refine W.no rfl rfl rfl rfl ?_
    | refine W.never rfl rfl rfl rfl ?_
    | refine W.read (rd_mv_p rfl) rfl ?_
    | refine W.read (rd_as_p rfl) rfl ?_
    | refine W.read (rd_mv_o rfl) rfl ?_
    | refine W.read (rd_as_o rfl) rfl ?_
    | refine W.read (rd_seql rfl rfl) rfl ?_
    | refine W.read (rd_gtr rfl rfl) rfl ?_
    | refine W.read (rd_lss rfl rfl) rfl ?_
    | refine W.read (rd_pk_t rfl rfl) rfl ?_
    | refine W.read (rd_pk_f rfl rfl) rfl ?_
    | refine W.read (rd_pk_b rfl rfl rfl) rfl ?_
    | refine W.read (rd_not rfl) rfl ?_
    | refine W.read (rd_len_str tt rfl rfl rfl) rfl ?_
    | refine W.read (rd_len_view tt rfl rfl rfl rfl) rfl ?_
    | refine W.read (rd_len_own tt rfl rfl rfl rfl rfl) rfl ?_
    | refine W.read (rd_len_nil tt rfl rfl rfl rfl) rfl ?_
    | refine W.read (rd_sidx tt rfl rfl rfl rfl (by omega) (sixE (by omega) (by omega))) rfl ?_
    | refine W.call h_l01Small rfl rfl ⟨_, rfl, _, _, rfl, rfl, ?_⟩
    | refine W.call h_l01Digit rfl rfl ⟨_, rfl, _, _, rfl, rfl, ?_⟩
    | refine W.read (rd_add rfl rfl (by unfold in64; omega)) rfl ?_
    | refine W.askY rfl rfl rfl (by first | (simp only [ltB_t, ltB_f, eqB_t, eqB_f, pB_t, pB_f, sEq_t, sEq_f, emp_iff, ne_eq, List.length_map, Bool.not_eq_true, Bool.not_eq_false, Bool.not_eq_eq_eq_not, Bool.not_true, Bool.not_false]; done) | (simp only [ltB_t, ltB_f, eqB_t, eqB_f, pB_t, pB_f, sEq_t, sEq_f, emp_iff, ne_eq, List.length_map, Bool.not_eq_true, Bool.not_eq_false, Bool.not_eq_eq_eq_not, Bool.not_true, Bool.not_false]; omega) | (simp only [ltB_t, ltB_f, eqB_t, eqB_f, pB_t, pB_f, sEq_t, sEq_f, emp_iff, ne_eq, List.length_map, Bool.not_eq_true, Bool.not_eq_false, Bool.not_eq_eq_eq_not, Bool.not_true, Bool.not_false]; assumption)) ?_
    | refine W.askN rfl rfl rfl rfl (by first | (simp only [ltB_t, ltB_f, eqB_t, eqB_f, pB_t, pB_f, sEq_t, sEq_f, emp_iff, ne_eq, List.length_map, Bool.not_eq_true, Bool.not_eq_false, Bool.not_eq_eq_eq_not, Bool.not_true, Bool.not_false]; done) | (simp only [ltB_t, ltB_f, eqB_t, eqB_f, pB_t, pB_f, sEq_t, sEq_f, emp_iff, ne_eq, List.length_map, Bool.not_eq_true, Bool.not_eq_false, Bool.not_eq_eq_eq_not, Bool.not_true, Bool.not_false]; omega) | (simp only [ltB_t, ltB_f, eqB_t, eqB_f, pB_t, pB_f, sEq_t, sEq_f, emp_iff, ne_eq, List.length_map, Bool.not_eq_true, Bool.not_eq_false, Bool.not_eq_eq_eq_not, Bool.not_true, Bool.not_false]; assumption)) ?_
    | (refine W.ask rfl rfl rfl rfl ?_ ?_ <;> intro h <;> (try simp only [ltB_t, ltB_f, eqB_t, eqB_f, pB_t, pB_f, sEq_t, sEq_f, emp_iff, ne_eq, List.length_map, Bool.not_eq_true, Bool.not_eq_false, Bool.not_eq_eq_eq_not, Bool.not_true, Bool.not_false] at h)))
  all_goals first
    | (refine fin_pB rfl rfl rfl ?_; simp only [ltB_t, ltB_f, eqB_t, eqB_f, pB_t, pB_f, sEq_t, sEq_f, emp_iff, ne_eq, List.length_map, Bool.not_eq_true, Bool.not_eq_false, Bool.not_eq_eq_eq_not, Bool.not_true, Bool.not_false, true_iff, false_iff, Bool.false_eq_true, iff_true, iff_false, and_true, true_and, not_false_eq_true]; intro hN; have h1 := hN.1; have h2 := hN.2.1; first | omega | (have hq := hN.2.2 0 (by omega) (by omega); unfold NameC at hq; rcases hq with hq | hq <;> first | omega | exact absurd hq (by assumption)))
    | (refine Wc.loop (fun i : Int => 0 ≤ i ∧ i ≤ s.size ∧ allTo (NameC s) i) (fun i => ⟨35, 0, [(0, .p (.str s)), (3, .p (I i))], []⟩) (fun i => (s.size - i).toNat) 0 ⟨by omega, by omega, allTo_zero _⟩ ⟨rfl, ⟨rfl, rfl, trivial⟩, trivial, rfl, rfl⟩ ?_)
  rintro i ⟨hi0, hi1, hinv⟩
  have hs0 : sm (sAt s 0).toNat := by assumption
  repeat' (first
    | refine Wc.seq ?_
    | refine Wc.region ?_
    | refine Wc.cond_t rfl ?_
    | refine Wc.cond_f rfl ?_
    | refine Wc.condT rfl (by first | (simp only [ltB_t, ltB_f, eqB_t, eqB_f, pB_t, pB_f, sEq_t, sEq_f, emp_iff, ne_eq, List.length_map, Bool.not_eq_true, Bool.not_eq_false, Bool.not_eq_eq_eq_not, Bool.not_true, Bool.not_false]; done) | (simp only [ltB_t, ltB_f, eqB_t, eqB_f, pB_t, pB_f, sEq_t, sEq_f, emp_iff, ne_eq, List.length_map, Bool.not_eq_true, Bool.not_eq_false, Bool.not_eq_eq_eq_not, Bool.not_true, Bool.not_false]; omega) | (simp only [ltB_t, ltB_f, eqB_t, eqB_f, pB_t, pB_f, sEq_t, sEq_f, emp_iff, ne_eq, List.length_map, Bool.not_eq_true, Bool.not_eq_false, Bool.not_eq_eq_eq_not, Bool.not_true, Bool.not_false]; assumption)) ?_
    | refine Wc.condF rfl (by first | (simp only [ltB_t, ltB_f, eqB_t, eqB_f, pB_t, pB_f, sEq_t, sEq_f, emp_iff, ne_eq, List.length_map, Bool.not_eq_true, Bool.not_eq_false, Bool.not_eq_eq_eq_not, Bool.not_true, Bool.not_false]; done) | (simp only [ltB_t, ltB_f, eqB_t, eqB_f, pB_t, pB_f, sEq_t, sEq_f, emp_iff, ne_eq, List.length_map, Bool.not_eq_true, Bool.not_eq_false, Bool.not_eq_eq_eq_not, Bool.not_true, Bool.not_false]; omega) | (simp only [ltB_t, ltB_f, eqB_t, eqB_f, pB_t, pB_f, sEq_t, sEq_f, emp_iff, ne_eq, List.length_map, Bool.not_eq_true, Bool.not_eq_false, Bool.not_eq_eq_eq_not, Bool.not_true, Bool.not_false]; assumption)) ?_
    | (refine Wc.cond rfl ?_ ?_ <;> intro h <;> (try simp only [ltB_t, ltB_f, eqB_t, eqB_f, pB_t, pB_f, sEq_t, sEq_f, emp_iff, ne_eq, List.length_map, Bool.not_eq_true, Bool.not_eq_false, Bool.not_eq_eq_eq_not, Bool.not_true, Bool.not_false] at h))
    | refine Wc.ret ?_
    | refine Wc.skip ?_
    | refine Wc.block ?_
    | refine Wc.exit ?_
    | refine W.nil ?_
    | refine W.yes rfl rfl rfl ?_
    | refine W.no rfl rfl rfl rfl ?_
    | refine W.never rfl rfl rfl rfl ?_
    | refine W.read (rd_mv_p rfl) rfl ?_
    | refine W.read (rd_as_p rfl) rfl ?_
    | refine W.read (rd_mv_o rfl) rfl ?_
    | refine W.read (rd_as_o rfl) rfl ?_
    | refine W.read (rd_seql rfl rfl) rfl ?_
    | refine W.read (rd_gtr rfl rfl) rfl ?_
    | refine W.read (rd_lss rfl rfl) rfl ?_
    | refine W.read (rd_pk_t rfl rfl) rfl ?_
    | refine W.read (rd_pk_f rfl rfl) rfl ?_
    | refine W.read (rd_pk_b rfl rfl rfl) rfl ?_
    | refine W.read (rd_not rfl) rfl ?_
    | refine W.read (rd_len_str tt rfl rfl rfl) rfl ?_
    | refine W.read (rd_len_view tt rfl rfl rfl rfl) rfl ?_
    | refine W.read (rd_len_own tt rfl rfl rfl rfl rfl) rfl ?_
    | refine W.read (rd_len_nil tt rfl rfl rfl rfl) rfl ?_
    | refine W.read (rd_sidx tt rfl rfl rfl rfl (by omega) (sixE (by omega) (by omega))) rfl ?_
    | refine W.call h_l01Small rfl rfl ⟨_, rfl, _, _, rfl, rfl, ?_⟩
    | refine W.call h_l01Digit rfl rfl ⟨_, rfl, _, _, rfl, rfl, ?_⟩
    | refine W.read (rd_add rfl rfl (by unfold in64; omega)) rfl ?_
    | refine W.askY rfl rfl rfl (by first | (simp only [ltB_t, ltB_f, eqB_t, eqB_f, pB_t, pB_f, sEq_t, sEq_f, emp_iff, ne_eq, List.length_map, Bool.not_eq_true, Bool.not_eq_false, Bool.not_eq_eq_eq_not, Bool.not_true, Bool.not_false]; done) | (simp only [ltB_t, ltB_f, eqB_t, eqB_f, pB_t, pB_f, sEq_t, sEq_f, emp_iff, ne_eq, List.length_map, Bool.not_eq_true, Bool.not_eq_false, Bool.not_eq_eq_eq_not, Bool.not_true, Bool.not_false]; omega) | (simp only [ltB_t, ltB_f, eqB_t, eqB_f, pB_t, pB_f, sEq_t, sEq_f, emp_iff, ne_eq, List.length_map, Bool.not_eq_true, Bool.not_eq_false, Bool.not_eq_eq_eq_not, Bool.not_true, Bool.not_false]; assumption)) ?_
    | refine W.askN rfl rfl rfl rfl (by first | (simp only [ltB_t, ltB_f, eqB_t, eqB_f, pB_t, pB_f, sEq_t, sEq_f, emp_iff, ne_eq, List.length_map, Bool.not_eq_true, Bool.not_eq_false, Bool.not_eq_eq_eq_not, Bool.not_true, Bool.not_false]; done) | (simp only [ltB_t, ltB_f, eqB_t, eqB_f, pB_t, pB_f, sEq_t, sEq_f, emp_iff, ne_eq, List.length_map, Bool.not_eq_true, Bool.not_eq_false, Bool.not_eq_eq_eq_not, Bool.not_true, Bool.not_false]; omega) | (simp only [ltB_t, ltB_f, eqB_t, eqB_f, pB_t, pB_f, sEq_t, sEq_f, emp_iff, ne_eq, List.length_map, Bool.not_eq_true, Bool.not_eq_false, Bool.not_eq_eq_eq_not, Bool.not_true, Bool.not_false]; assumption)) ?_
    | (refine W.ask rfl rfl rfl rfl ?_ ?_ <;> intro h <;> (try simp only [ltB_t, ltB_f, eqB_t, eqB_f, pB_t, pB_f, sEq_t, sEq_f, emp_iff, ne_eq, List.length_map, Bool.not_eq_true, Bool.not_eq_false, Bool.not_eq_eq_eq_not, Bool.not_true, Bool.not_false] at h)))
  all_goals first
    | (refine ⟨i + 1, ⟨by omega, by omega, allTo_succ hinv ?_⟩, by dsimp only; omega, ⟨rfl, ⟨rfl, rfl, trivial⟩, trivial, rfl, rfl⟩⟩; unfold NameC; first | (left; assumption) | exact (if e : i = 0 then Or.inl (e ▸ hs0) else Or.inr ⟨by omega, by assumption⟩))
    | (refine fin_pB rfl rfl rfl ?_; simp only [ltB_t, ltB_f, eqB_t, eqB_f, pB_t, pB_f, sEq_t, sEq_f, emp_iff, ne_eq, List.length_map, Bool.not_eq_true, Bool.not_eq_false, Bool.not_eq_eq_eq_not, Bool.not_true, Bool.not_false, true_iff, false_iff, Bool.false_eq_true, iff_true, iff_false, and_true, true_and, not_false_eq_true]; first
        | (intro hN; have hq := hN.2.2 i (by omega) (by omega); unfold NameC at hq; rcases hq with hq | hq <;> first | exact absurd hq (by assumption) | exact absurd hq.2 (by assumption))
        | exact ⟨by omega, by omega, allTo_le hinv (by omega)⟩)


end Go.Proofs.Ythpcibkoldnpaaa
