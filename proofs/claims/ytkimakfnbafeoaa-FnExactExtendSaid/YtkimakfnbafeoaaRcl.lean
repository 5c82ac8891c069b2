/- Contracts (Rcl). -/
import Derived.Test.YtkimakfnbafeoaaRentals
set_option linter.unusedVariables false
set_option linter.unusedSimpArgs false
set_option maxRecDepth 100000
namespace Go.Lo
-- deps: Rentals
def clX (x y : D.Rental) : Prop := x.Item = y.Item ∧ x.Day < endR y ∧ y.Day < endR x
theorem rdArgs_l {st : St} {x : Operand} {k i j : Nat} {r : Row} {e : List PV} (hx : st.ev x = .loc k i j) (hr : look st.rows k = some r) (he : r.els[i]? = some e) : rdArgs st [x] = some [.ref (e.drop j)] := by
  simp [rdArgs, rdA, hx, hr, he]
theorem rdArgs_ll {st : St} {x y : Operand} {k i j k' i' j' : Nat} {r r' : Row} {e e' : List PV} (hx : st.ev x = .loc k i j) (hr : look st.rows k = some r) (he : r.els[i]? = some e) (hy : st.ev y = .loc k' i' j') (hr' : look st.rows k' = some r') (he' : r'.els[i']? = some e') :
    rdArgs st [x, y] = some [.ref (e.drop j), .ref (e'.drop j')] := by
  simp [rdArgs, rdA, hx, hr, he, hy, hr', he']
end Go.Lo
namespace Go.Proofs.Ytkimakfnbafeoaa
open Go.Lo
attribute [local irreducible] W Wc

theorem h_clash : Holds Try.prog 161 (fun args K => ∃ x y : D.Rental, args = [.ref x.enc, .ref y.enc] ∧ RentB x ∧ RentB y ∧ K [.p (.bool (pB (clX x y)))]) := by
  refine E.mk tt Try.func161 rfl Try.ntmps161 rfl (by kernel_rfl) ?_
  rintro _ K ⟨x, y, rfl, hx, hy, hK⟩
  refine ⟨Nat.le_of_ble_eq_true rfl, _, hK, ?_⟩
  (repeat' ((conv => whnf); first
    | refine Sd.mk (by first | omega | (unfold in64; omega) | (simp only [fitK, in64]; omega) | (simp only [fitK, in64, chunk, List.length_map, List.length_append, List.length_replicate, List.length_set, List.length_nil, List.length_cons]; omega)) ?_
    | refine Br.yes rfl ?_
    | refine Br.no rfl ?_
    | refine Br.yes (by first | (simp only [ltB_t, ltB_f, eqB_t, eqB_f, pB_t, pB_f, sEq_t, sEq_f, emp_iff, ne_eq, List.length_map, Bool.not_eq_true, Bool.not_eq_false, Bool.not_eq_eq_eq_not, Bool.not_true, Bool.not_false]; done) | (simp only [ltB_t, ltB_f, eqB_t, eqB_f, pB_t, pB_f, sEq_t, sEq_f, emp_iff, ne_eq, List.length_map, Bool.not_eq_true, Bool.not_eq_false, Bool.not_eq_eq_eq_not, Bool.not_true, Bool.not_false]; omega) | (simp only [ltB_t, ltB_f, eqB_t, eqB_f, pB_t, pB_f, sEq_t, sEq_f, emp_iff, ne_eq, List.length_map, Bool.not_eq_true, Bool.not_eq_false, Bool.not_eq_eq_eq_not, Bool.not_true, Bool.not_false]; assumption)) ?_
    | refine Br.no (by first | (simp only [ltB_t, ltB_f, eqB_t, eqB_f, pB_t, pB_f, sEq_t, sEq_f, emp_iff, ne_eq, List.length_map, Bool.not_eq_true, Bool.not_eq_false, Bool.not_eq_eq_eq_not, Bool.not_true, Bool.not_false]; done) | (simp only [ltB_t, ltB_f, eqB_t, eqB_f, pB_t, pB_f, sEq_t, sEq_f, emp_iff, ne_eq, List.length_map, Bool.not_eq_true, Bool.not_eq_false, Bool.not_eq_eq_eq_not, Bool.not_true, Bool.not_false]; omega) | (simp only [ltB_t, ltB_f, eqB_t, eqB_f, pB_t, pB_f, sEq_t, sEq_f, emp_iff, ne_eq, List.length_map, Bool.not_eq_true, Bool.not_eq_false, Bool.not_eq_eq_eq_not, Bool.not_true, Bool.not_false]; assumption)) ?_
    | (refine Br.mk ?_ ?_ <;> intro h <;> (try simp only [ltB_t, ltB_f, eqB_t, eqB_f, pB_t, pB_f, sEq_t, sEq_f, emp_iff, ne_eq, List.length_map, Bool.not_eq_true, Bool.not_eq_false, Bool.not_eq_eq_eq_not, Bool.not_true, Bool.not_false] at h))
    | refine Elt.mk rfl ?_
    | refine Elt.mk (by assumption) ?_
    | refine Elt.mk (ixE (by omega) (by omega)) ?_
    | refine E.call tt h_l21End rfl rfl ⟨_, rfl, by assumption, _, _, rfl, rfl, ?_⟩
    | refine E.regionQ tt (id := 1) mixed (by decide +kernel) ?_)) <;> (try (conv => whnf))
  all_goals (refine fin_pB rfl rfl rfl ?_; simp only [ltB_t, ltB_f, eqB_t, eqB_f, pB_t, pB_f, sEq_t, sEq_f, emp_iff, ne_eq, List.length_map, Bool.not_eq_true, Bool.not_eq_false, Bool.not_eq_eq_eq_not, Bool.not_true, Bool.not_false, true_iff, false_iff, Bool.false_eq_true, iff_true, iff_false, and_true, true_and, not_false_eq_true]; unfold clX; grind)

theorem h_clashes : Holds Try.prog 166 (fun args K => ∃ x y : D.Rental, args = [.agg x.enc, .agg y.enc] ∧ RentB x ∧ RentB y ∧ 1 ≤ x.Months ∧ 1 ≤ y.Months ∧ K [.p (.bool (pB (clX x y)))]) := by
  refine E.mk tt Try.func166 rfl Try.ntmps166 rfl (by kernel_rfl) ?_
  rintro _ K ⟨x, y, rfl, hx, hy, hx1, hy1, hK⟩
  have e1 : endR x = x.Day + 30 * x.Months := rfl
  have e2 : endR y = y.Day + 30 * y.Months := rfl
  refine ⟨Nat.le_of_ble_eq_true rfl, _, hK, ?_⟩
  (repeat' ((conv => whnf); first
    | refine Sd.mk (by first | omega | (unfold in64; omega) | (simp only [fitK, in64]; omega) | (simp only [fitK, in64, chunk, List.length_map, List.length_append, List.length_replicate, List.length_set, List.length_nil, List.length_cons]; omega)) ?_
    | refine Br.yes rfl ?_
    | refine Br.no rfl ?_
    | refine Br.yes (by first | (simp only [ltB_t, ltB_f, eqB_t, eqB_f, pB_t, pB_f, sEq_t, sEq_f, emp_iff, ne_eq, List.length_map, Bool.not_eq_true, Bool.not_eq_false, Bool.not_eq_eq_eq_not, Bool.not_true, Bool.not_false]; done) | (simp only [ltB_t, ltB_f, eqB_t, eqB_f, pB_t, pB_f, sEq_t, sEq_f, emp_iff, ne_eq, List.length_map, Bool.not_eq_true, Bool.not_eq_false, Bool.not_eq_eq_eq_not, Bool.not_true, Bool.not_false]; omega) | (simp only [ltB_t, ltB_f, eqB_t, eqB_f, pB_t, pB_f, sEq_t, sEq_f, emp_iff, ne_eq, List.length_map, Bool.not_eq_true, Bool.not_eq_false, Bool.not_eq_eq_eq_not, Bool.not_true, Bool.not_false]; assumption)) ?_
    | refine Br.no (by first | (simp only [ltB_t, ltB_f, eqB_t, eqB_f, pB_t, pB_f, sEq_t, sEq_f, emp_iff, ne_eq, List.length_map, Bool.not_eq_true, Bool.not_eq_false, Bool.not_eq_eq_eq_not, Bool.not_true, Bool.not_false]; done) | (simp only [ltB_t, ltB_f, eqB_t, eqB_f, pB_t, pB_f, sEq_t, sEq_f, emp_iff, ne_eq, List.length_map, Bool.not_eq_true, Bool.not_eq_false, Bool.not_eq_eq_eq_not, Bool.not_true, Bool.not_false]; omega) | (simp only [ltB_t, ltB_f, eqB_t, eqB_f, pB_t, pB_f, sEq_t, sEq_f, emp_iff, ne_eq, List.length_map, Bool.not_eq_true, Bool.not_eq_false, Bool.not_eq_eq_eq_not, Bool.not_true, Bool.not_false]; assumption)) ?_
    | (refine Br.mk ?_ ?_ <;> intro h <;> (try simp only [ltB_t, ltB_f, eqB_t, eqB_f, pB_t, pB_f, sEq_t, sEq_f, emp_iff, ne_eq, List.length_map, Bool.not_eq_true, Bool.not_eq_false, Bool.not_eq_eq_eq_not, Bool.not_true, Bool.not_false] at h))
    | refine Elt.mk rfl ?_
    | refine Elt.mk (by assumption) ?_
    | refine Elt.mk (ixE (by omega) (by omega)) ?_
    | refine E.call tt h_end rfl rfl ⟨_, rfl, by assumption, _, _, rfl, rfl, ?_⟩
    | refine E.regionQ tt (id := 1) mixed (by decide +kernel) ?_)) <;> (try (conv => whnf))
  all_goals (refine fin_pB rfl rfl rfl ?_; simp only [ltB_t, ltB_f, eqB_t, eqB_f, pB_t, pB_f, sEq_t, sEq_f, emp_iff, ne_eq, List.length_map, Bool.not_eq_true, Bool.not_eq_false, Bool.not_eq_eq_eq_not, Bool.not_true, Bool.not_false, true_iff, false_iff, Bool.false_eq_true, iff_true, iff_false, and_true, true_and, not_false_eq_true]; unfold clX; grind)


end Go.Proofs.Ytkimakfnbafeoaa
