/- The law FnExactFirstCuts: contracts of the functions that it reaches, and its own. -/
import Derived.Test.YthjbcgdmdmfijaaCut
set_option linter.unusedVariables false
set_option linter.unusedSimpArgs false
set_option maxRecDepth 100000
namespace Go.Lo
-- deps: Cut
theorem fcL_zero (xs : List D.Rib) (strip saw : Int) : fcL xs strip saw 0 = ⟨[], []⟩ := it_zero _ _
end Go.Lo
namespace Go.Proofs.Ythjbcgdmdmfijaa
open Go.Lo
attribute [local irreducible] W Wc

theorem h_FcI : YHolds Try.prog 12 (cFcI 2) := by
  refine E.mkY tt Try.func12 rfl Try.ntmps12 rfl (by kernel_rfl) ?_
  rintro _ _ X K ⟨rfl, rfl, xs, strip, saw, rfl, hl, hok, h1, h2, hK⟩
  have hln : (xs.map D.Rib.enc).length = xs.length := by simp
  refine ⟨Nat.le_of_ble_eq_true rfl, ?_⟩
  rcases hK with ⟨hB, hK⟩ | ⟨hB, ⟨hR, hK⟩ | ⟨hR, ⟨hL, hK⟩ | ⟨hL, hK⟩⟩⟩
  · (repeat' ((conv => whnf); first
    | refine Sd.mk (by first | omega | (unfold in64; omega) | (simp only [fitK, in64]; omega) | (simp only [fitK, in64, chunk, List.length_map, List.length_append, List.length_replicate, List.length_set, List.length_nil, List.length_cons]; omega)) ?_
    | refine Br.yes rfl ?_
    | refine Br.no rfl ?_
    | refine Br.yes (by first | (simp only [ltB_t, ltB_f, eqB_t, eqB_f, pB_t, pB_f, sEq_t, sEq_f, emp_iff, ne_eq, List.length_map, Bool.not_eq_true, Bool.not_eq_false, Bool.not_eq_eq_eq_not, Bool.not_true, Bool.not_false]; done) | (simp only [ltB_t, ltB_f, eqB_t, eqB_f, pB_t, pB_f, sEq_t, sEq_f, emp_iff, ne_eq, List.length_map, Bool.not_eq_true, Bool.not_eq_false, Bool.not_eq_eq_eq_not, Bool.not_true, Bool.not_false]; omega) | (simp only [ltB_t, ltB_f, eqB_t, eqB_f, pB_t, pB_f, sEq_t, sEq_f, emp_iff, ne_eq, List.length_map, Bool.not_eq_true, Bool.not_eq_false, Bool.not_eq_eq_eq_not, Bool.not_true, Bool.not_false]; assumption)) ?_
    | refine Br.no (by first | (simp only [ltB_t, ltB_f, eqB_t, eqB_f, pB_t, pB_f, sEq_t, sEq_f, emp_iff, ne_eq, List.length_map, Bool.not_eq_true, Bool.not_eq_false, Bool.not_eq_eq_eq_not, Bool.not_true, Bool.not_false]; done) | (simp only [ltB_t, ltB_f, eqB_t, eqB_f, pB_t, pB_f, sEq_t, sEq_f, emp_iff, ne_eq, List.length_map, Bool.not_eq_true, Bool.not_eq_false, Bool.not_eq_eq_eq_not, Bool.not_true, Bool.not_false]; omega) | (simp only [ltB_t, ltB_f, eqB_t, eqB_f, pB_t, pB_f, sEq_t, sEq_f, emp_iff, ne_eq, List.length_map, Bool.not_eq_true, Bool.not_eq_false, Bool.not_eq_eq_eq_not, Bool.not_true, Bool.not_false]; assumption)) ?_
    | (refine Br.mk ?_ ?_ <;> intro h <;> (try simp only [ltB_t, ltB_f, eqB_t, eqB_f, pB_t, pB_f, sEq_t, sEq_f, emp_iff, ne_eq, List.length_map, Bool.not_eq_true, Bool.not_eq_false, Bool.not_eq_eq_eq_not, Bool.not_true, Bool.not_false] at h))
    | refine Elt.mk rfl ?_
    | refine Elt.mk (by assumption) ?_
    | refine Elt.mk (ixE (by omega) (by omega)) ?_
    | refine E.call tt h_listRib rfl rfl ⟨_, rfl, by first | omega | (simp only [List.length_map]; omega), by assumption, _, _, rfl, rfl, ?_⟩
    | refine E.call tt h_isStrip rfl rfl ⟨_, _, rfl, _, _, rfl, rfl, ?_⟩
    | refine E.regionQ tt (id := 15) mixed (by decide +kernel) ?_)) <;> (try (conv => whnf))
    all_goals (exact ⟨_, ⟨rfl, rfl, rfl⟩, allSc_ok _ rfl, (fun r h => by cases h), rfl, hK⟩)
  · (repeat' ((conv => whnf); first
    | refine Sd.mk (by first | omega | (unfold in64; omega) | (simp only [fitK, in64]; omega) | (simp only [fitK, in64, chunk, List.length_map, List.length_append, List.length_replicate, List.length_set, List.length_nil, List.length_cons]; omega)) ?_
    | refine Br.yes rfl ?_
    | refine Br.no rfl ?_
    | refine Br.yes (by first | (simp only [ltB_t, ltB_f, eqB_t, eqB_f, pB_t, pB_f, sEq_t, sEq_f, emp_iff, ne_eq, List.length_map, Bool.not_eq_true, Bool.not_eq_false, Bool.not_eq_eq_eq_not, Bool.not_true, Bool.not_false]; done) | (simp only [ltB_t, ltB_f, eqB_t, eqB_f, pB_t, pB_f, sEq_t, sEq_f, emp_iff, ne_eq, List.length_map, Bool.not_eq_true, Bool.not_eq_false, Bool.not_eq_eq_eq_not, Bool.not_true, Bool.not_false]; omega) | (simp only [ltB_t, ltB_f, eqB_t, eqB_f, pB_t, pB_f, sEq_t, sEq_f, emp_iff, ne_eq, List.length_map, Bool.not_eq_true, Bool.not_eq_false, Bool.not_eq_eq_eq_not, Bool.not_true, Bool.not_false]; assumption)) ?_
    | refine Br.no (by first | (simp only [ltB_t, ltB_f, eqB_t, eqB_f, pB_t, pB_f, sEq_t, sEq_f, emp_iff, ne_eq, List.length_map, Bool.not_eq_true, Bool.not_eq_false, Bool.not_eq_eq_eq_not, Bool.not_true, Bool.not_false]; done) | (simp only [ltB_t, ltB_f, eqB_t, eqB_f, pB_t, pB_f, sEq_t, sEq_f, emp_iff, ne_eq, List.length_map, Bool.not_eq_true, Bool.not_eq_false, Bool.not_eq_eq_eq_not, Bool.not_true, Bool.not_false]; omega) | (simp only [ltB_t, ltB_f, eqB_t, eqB_f, pB_t, pB_f, sEq_t, sEq_f, emp_iff, ne_eq, List.length_map, Bool.not_eq_true, Bool.not_eq_false, Bool.not_eq_eq_eq_not, Bool.not_true, Bool.not_false]; assumption)) ?_
    | (refine Br.mk ?_ ?_ <;> intro h <;> (try simp only [ltB_t, ltB_f, eqB_t, eqB_f, pB_t, pB_f, sEq_t, sEq_f, emp_iff, ne_eq, List.length_map, Bool.not_eq_true, Bool.not_eq_false, Bool.not_eq_eq_eq_not, Bool.not_true, Bool.not_false] at h))
    | refine Elt.mk rfl ?_
    | refine Elt.mk (by assumption) ?_
    | refine Elt.mk (ixE (by omega) (by omega)) ?_
    | refine E.call tt h_listRib rfl rfl ⟨_, rfl, by first | omega | (simp only [List.length_map]; omega), by assumption, _, _, rfl, rfl, ?_⟩
    | refine E.call tt h_isStrip rfl rfl ⟨_, _, rfl, _, _, rfl, rfl, ?_⟩
    | refine E.regionQ tt (id := 15) mixed (by decide +kernel) ?_)) <;> (try (conv => whnf))
    all_goals (exact ⟨_, ⟨rfl, rfl, rfl⟩, allSc_ok _ rfl, (fun r h => by cases h), rfl, hK⟩)
  · (repeat' ((conv => whnf); first
    | refine Sd.mk (by first | omega | (unfold in64; omega) | (simp only [fitK, in64]; omega) | (simp only [fitK, in64, chunk, List.length_map, List.length_append, List.length_replicate, List.length_set, List.length_nil, List.length_cons]; omega)) ?_
    | refine Br.yes rfl ?_
    | refine Br.no rfl ?_
    | refine Br.yes (by first | (simp only [ltB_t, ltB_f, eqB_t, eqB_f, pB_t, pB_f, sEq_t, sEq_f, emp_iff, ne_eq, List.length_map, Bool.not_eq_true, Bool.not_eq_false, Bool.not_eq_eq_eq_not, Bool.not_true, Bool.not_false]; done) | (simp only [ltB_t, ltB_f, eqB_t, eqB_f, pB_t, pB_f, sEq_t, sEq_f, emp_iff, ne_eq, List.length_map, Bool.not_eq_true, Bool.not_eq_false, Bool.not_eq_eq_eq_not, Bool.not_true, Bool.not_false]; omega) | (simp only [ltB_t, ltB_f, eqB_t, eqB_f, pB_t, pB_f, sEq_t, sEq_f, emp_iff, ne_eq, List.length_map, Bool.not_eq_true, Bool.not_eq_false, Bool.not_eq_eq_eq_not, Bool.not_true, Bool.not_false]; assumption)) ?_
    | refine Br.no (by first | (simp only [ltB_t, ltB_f, eqB_t, eqB_f, pB_t, pB_f, sEq_t, sEq_f, emp_iff, ne_eq, List.length_map, Bool.not_eq_true, Bool.not_eq_false, Bool.not_eq_eq_eq_not, Bool.not_true, Bool.not_false]; done) | (simp only [ltB_t, ltB_f, eqB_t, eqB_f, pB_t, pB_f, sEq_t, sEq_f, emp_iff, ne_eq, List.length_map, Bool.not_eq_true, Bool.not_eq_false, Bool.not_eq_eq_eq_not, Bool.not_true, Bool.not_false]; omega) | (simp only [ltB_t, ltB_f, eqB_t, eqB_f, pB_t, pB_f, sEq_t, sEq_f, emp_iff, ne_eq, List.length_map, Bool.not_eq_true, Bool.not_eq_false, Bool.not_eq_eq_eq_not, Bool.not_true, Bool.not_false]; assumption)) ?_
    | (refine Br.mk ?_ ?_ <;> intro h <;> (try simp only [ltB_t, ltB_f, eqB_t, eqB_f, pB_t, pB_f, sEq_t, sEq_f, emp_iff, ne_eq, List.length_map, Bool.not_eq_true, Bool.not_eq_false, Bool.not_eq_eq_eq_not, Bool.not_true, Bool.not_false] at h))
    | refine Elt.mk rfl ?_
    | refine Elt.mk (by assumption) ?_
    | refine Elt.mk (ixE (by omega) (by omega)) ?_
    | refine E.call tt h_listRib rfl rfl ⟨_, rfl, by first | omega | (simp only [List.length_map]; omega), by assumption, _, _, rfl, rfl, ?_⟩
    | refine E.call tt h_isStrip rfl rfl ⟨_, _, rfl, _, _, rfl, rfl, ?_⟩
    | refine E.regionQ tt (id := 15) mixed (by decide +kernel) ?_)) <;> (try (conv => whnf))
    refine E.callYP tt h_tooLong rfl rfl rfl rfl rfl rfl ⟨xs, strip, saw, _, _, _, _, rfl, rfl, by omega, .inl ⟨hL, fun r' e _ _ => ?_⟩⟩
    cases e
    (repeat' ((conv => whnf); first
    | refine Sd.mk (by first | omega | (unfold in64; omega) | (simp only [fitK, in64]; omega) | (simp only [fitK, in64, chunk, List.length_map, List.length_append, List.length_replicate, List.length_set, List.length_nil, List.length_cons]; omega)) ?_
    | refine Br.yes rfl ?_
    | refine Br.no rfl ?_
    | refine Br.yes (by first | (simp only [ltB_t, ltB_f, eqB_t, eqB_f, pB_t, pB_f, sEq_t, sEq_f, emp_iff, ne_eq, List.length_map, Bool.not_eq_true, Bool.not_eq_false, Bool.not_eq_eq_eq_not, Bool.not_true, Bool.not_false]; done) | (simp only [ltB_t, ltB_f, eqB_t, eqB_f, pB_t, pB_f, sEq_t, sEq_f, emp_iff, ne_eq, List.length_map, Bool.not_eq_true, Bool.not_eq_false, Bool.not_eq_eq_eq_not, Bool.not_true, Bool.not_false]; omega) | (simp only [ltB_t, ltB_f, eqB_t, eqB_f, pB_t, pB_f, sEq_t, sEq_f, emp_iff, ne_eq, List.length_map, Bool.not_eq_true, Bool.not_eq_false, Bool.not_eq_eq_eq_not, Bool.not_true, Bool.not_false]; assumption)) ?_
    | refine Br.no (by first | (simp only [ltB_t, ltB_f, eqB_t, eqB_f, pB_t, pB_f, sEq_t, sEq_f, emp_iff, ne_eq, List.length_map, Bool.not_eq_true, Bool.not_eq_false, Bool.not_eq_eq_eq_not, Bool.not_true, Bool.not_false]; done) | (simp only [ltB_t, ltB_f, eqB_t, eqB_f, pB_t, pB_f, sEq_t, sEq_f, emp_iff, ne_eq, List.length_map, Bool.not_eq_true, Bool.not_eq_false, Bool.not_eq_eq_eq_not, Bool.not_true, Bool.not_false]; omega) | (simp only [ltB_t, ltB_f, eqB_t, eqB_f, pB_t, pB_f, sEq_t, sEq_f, emp_iff, ne_eq, List.length_map, Bool.not_eq_true, Bool.not_eq_false, Bool.not_eq_eq_eq_not, Bool.not_true, Bool.not_false]; assumption)) ?_
    | (refine Br.mk ?_ ?_ <;> intro h <;> (try simp only [ltB_t, ltB_f, eqB_t, eqB_f, pB_t, pB_f, sEq_t, sEq_f, emp_iff, ne_eq, List.length_map, Bool.not_eq_true, Bool.not_eq_false, Bool.not_eq_eq_eq_not, Bool.not_true, Bool.not_false] at h))
    | refine Elt.mk rfl ?_
    | refine Elt.mk (by assumption) ?_
    | refine Elt.mk (ixE (by omega) (by omega)) ?_
    | refine E.call tt h_listRib rfl rfl ⟨_, rfl, by first | omega | (simp only [List.length_map]; omega), by assumption, _, _, rfl, rfl, ?_⟩
    | refine E.call tt h_isStrip rfl rfl ⟨_, _, rfl, _, _, rfl, rfl, ?_⟩
    | refine E.regionQ tt (id := 15) mixed (by decide +kernel) ?_)) <;> (try (conv => whnf))
    all_goals (exact ⟨_, ⟨rfl, rfl, rfl⟩, allSc_ok _ rfl, (fun r h => by cases h), rfl, hK⟩)
  · have hle := hB.le
    have hxs : (xs.length : Int) ≤ 8 := by omega
    (repeat' ((conv => whnf); first
    | refine Sd.mk (by first | omega | (unfold in64; omega) | (simp only [fitK, in64]; omega) | (simp only [fitK, in64, chunk, List.length_map, List.length_append, List.length_replicate, List.length_set, List.length_nil, List.length_cons]; omega)) ?_
    | refine Br.yes rfl ?_
    | refine Br.no rfl ?_
    | refine Br.yes (by first | (simp only [ltB_t, ltB_f, eqB_t, eqB_f, pB_t, pB_f, sEq_t, sEq_f, emp_iff, ne_eq, List.length_map, Bool.not_eq_true, Bool.not_eq_false, Bool.not_eq_eq_eq_not, Bool.not_true, Bool.not_false]; done) | (simp only [ltB_t, ltB_f, eqB_t, eqB_f, pB_t, pB_f, sEq_t, sEq_f, emp_iff, ne_eq, List.length_map, Bool.not_eq_true, Bool.not_eq_false, Bool.not_eq_eq_eq_not, Bool.not_true, Bool.not_false]; omega) | (simp only [ltB_t, ltB_f, eqB_t, eqB_f, pB_t, pB_f, sEq_t, sEq_f, emp_iff, ne_eq, List.length_map, Bool.not_eq_true, Bool.not_eq_false, Bool.not_eq_eq_eq_not, Bool.not_true, Bool.not_false]; assumption)) ?_
    | refine Br.no (by first | (simp only [ltB_t, ltB_f, eqB_t, eqB_f, pB_t, pB_f, sEq_t, sEq_f, emp_iff, ne_eq, List.length_map, Bool.not_eq_true, Bool.not_eq_false, Bool.not_eq_eq_eq_not, Bool.not_true, Bool.not_false]; done) | (simp only [ltB_t, ltB_f, eqB_t, eqB_f, pB_t, pB_f, sEq_t, sEq_f, emp_iff, ne_eq, List.length_map, Bool.not_eq_true, Bool.not_eq_false, Bool.not_eq_eq_eq_not, Bool.not_true, Bool.not_false]; omega) | (simp only [ltB_t, ltB_f, eqB_t, eqB_f, pB_t, pB_f, sEq_t, sEq_f, emp_iff, ne_eq, List.length_map, Bool.not_eq_true, Bool.not_eq_false, Bool.not_eq_eq_eq_not, Bool.not_true, Bool.not_false]; assumption)) ?_
    | (refine Br.mk ?_ ?_ <;> intro h <;> (try simp only [ltB_t, ltB_f, eqB_t, eqB_f, pB_t, pB_f, sEq_t, sEq_f, emp_iff, ne_eq, List.length_map, Bool.not_eq_true, Bool.not_eq_false, Bool.not_eq_eq_eq_not, Bool.not_true, Bool.not_false] at h))
    | refine Elt.mk rfl ?_
    | refine Elt.mk (by assumption) ?_
    | refine Elt.mk (ixE (by omega) (by omega)) ?_
    | refine E.call tt h_listRib rfl rfl ⟨_, rfl, by first | omega | (simp only [List.length_map]; omega), by assumption, _, _, rfl, rfl, ?_⟩
    | refine E.call tt h_isStrip rfl rfl ⟨_, _, rfl, _, _, rfl, rfl, ?_⟩
    | refine E.regionQ tt (id := 15) mixed (by decide +kernel) ?_)) <;> (try (conv => whnf))
    refine E.rnRow tt (k := 1) rfl ?_
    (repeat' ((conv => whnf); first
    | refine Sd.mk (by first | omega | (unfold in64; omega) | (simp only [fitK, in64]; omega) | (simp only [fitK, in64, chunk, List.length_map, List.length_append, List.length_replicate, List.length_set, List.length_nil, List.length_cons]; omega)) ?_
    | refine Br.yes rfl ?_
    | refine Br.no rfl ?_
    | refine Br.yes (by first | (simp only [ltB_t, ltB_f, eqB_t, eqB_f, pB_t, pB_f, sEq_t, sEq_f, emp_iff, ne_eq, List.length_map, Bool.not_eq_true, Bool.not_eq_false, Bool.not_eq_eq_eq_not, Bool.not_true, Bool.not_false]; done) | (simp only [ltB_t, ltB_f, eqB_t, eqB_f, pB_t, pB_f, sEq_t, sEq_f, emp_iff, ne_eq, List.length_map, Bool.not_eq_true, Bool.not_eq_false, Bool.not_eq_eq_eq_not, Bool.not_true, Bool.not_false]; omega) | (simp only [ltB_t, ltB_f, eqB_t, eqB_f, pB_t, pB_f, sEq_t, sEq_f, emp_iff, ne_eq, List.length_map, Bool.not_eq_true, Bool.not_eq_false, Bool.not_eq_eq_eq_not, Bool.not_true, Bool.not_false]; assumption)) ?_
    | refine Br.no (by first | (simp only [ltB_t, ltB_f, eqB_t, eqB_f, pB_t, pB_f, sEq_t, sEq_f, emp_iff, ne_eq, List.length_map, Bool.not_eq_true, Bool.not_eq_false, Bool.not_eq_eq_eq_not, Bool.not_true, Bool.not_false]; done) | (simp only [ltB_t, ltB_f, eqB_t, eqB_f, pB_t, pB_f, sEq_t, sEq_f, emp_iff, ne_eq, List.length_map, Bool.not_eq_true, Bool.not_eq_false, Bool.not_eq_eq_eq_not, Bool.not_true, Bool.not_false]; omega) | (simp only [ltB_t, ltB_f, eqB_t, eqB_f, pB_t, pB_f, sEq_t, sEq_f, emp_iff, ne_eq, List.length_map, Bool.not_eq_true, Bool.not_eq_false, Bool.not_eq_eq_eq_not, Bool.not_true, Bool.not_false]; assumption)) ?_
    | (refine Br.mk ?_ ?_ <;> intro h <;> (try simp only [ltB_t, ltB_f, eqB_t, eqB_f, pB_t, pB_f, sEq_t, sEq_f, emp_iff, ne_eq, List.length_map, Bool.not_eq_true, Bool.not_eq_false, Bool.not_eq_eq_eq_not, Bool.not_true, Bool.not_false] at h))
    | refine Elt.mk rfl ?_
    | refine Elt.mk (by assumption) ?_
    | refine Elt.mk (ixE (by omega) (by omega)) ?_
    | refine E.call tt h_listRib rfl rfl ⟨_, rfl, by first | omega | (simp only [List.length_map]; omega), by assumption, _, _, rfl, rfl, ?_⟩
    | refine E.call tt h_isStrip rfl rfl ⟨_, _, rfl, _, _, rfl, rfl, ?_⟩
    | refine E.regionQ tt (id := 15) mixed (by decide +kernel) ?_)) <;> (try (conv => whnf))
    refine E.callYP tt h_tooLong rfl rfl rfl rfl rfl rfl ⟨xs, strip, saw, _, _, _, _, rfl, rfl, by omega, .inr ⟨hL, fun r' e _ _ => ?_⟩⟩
    cases e
    (repeat' ((conv => whnf); first
    | refine Sd.mk (by first | omega | (unfold in64; omega) | (simp only [fitK, in64]; omega) | (simp only [fitK, in64, chunk, List.length_map, List.length_append, List.length_replicate, List.length_set, List.length_nil, List.length_cons]; omega)) ?_
    | refine Br.yes rfl ?_
    | refine Br.no rfl ?_
    | refine Br.yes (by first | (simp only [ltB_t, ltB_f, eqB_t, eqB_f, pB_t, pB_f, sEq_t, sEq_f, emp_iff, ne_eq, List.length_map, Bool.not_eq_true, Bool.not_eq_false, Bool.not_eq_eq_eq_not, Bool.not_true, Bool.not_false]; done) | (simp only [ltB_t, ltB_f, eqB_t, eqB_f, pB_t, pB_f, sEq_t, sEq_f, emp_iff, ne_eq, List.length_map, Bool.not_eq_true, Bool.not_eq_false, Bool.not_eq_eq_eq_not, Bool.not_true, Bool.not_false]; omega) | (simp only [ltB_t, ltB_f, eqB_t, eqB_f, pB_t, pB_f, sEq_t, sEq_f, emp_iff, ne_eq, List.length_map, Bool.not_eq_true, Bool.not_eq_false, Bool.not_eq_eq_eq_not, Bool.not_true, Bool.not_false]; assumption)) ?_
    | refine Br.no (by first | (simp only [ltB_t, ltB_f, eqB_t, eqB_f, pB_t, pB_f, sEq_t, sEq_f, emp_iff, ne_eq, List.length_map, Bool.not_eq_true, Bool.not_eq_false, Bool.not_eq_eq_eq_not, Bool.not_true, Bool.not_false]; done) | (simp only [ltB_t, ltB_f, eqB_t, eqB_f, pB_t, pB_f, sEq_t, sEq_f, emp_iff, ne_eq, List.length_map, Bool.not_eq_true, Bool.not_eq_false, Bool.not_eq_eq_eq_not, Bool.not_true, Bool.not_false]; omega) | (simp only [ltB_t, ltB_f, eqB_t, eqB_f, pB_t, pB_f, sEq_t, sEq_f, emp_iff, ne_eq, List.length_map, Bool.not_eq_true, Bool.not_eq_false, Bool.not_eq_eq_eq_not, Bool.not_true, Bool.not_false]; assumption)) ?_
    | (refine Br.mk ?_ ?_ <;> intro h <;> (try simp only [ltB_t, ltB_f, eqB_t, eqB_f, pB_t, pB_f, sEq_t, sEq_f, emp_iff, ne_eq, List.length_map, Bool.not_eq_true, Bool.not_eq_false, Bool.not_eq_eq_eq_not, Bool.not_true, Bool.not_false] at h))
    | refine Elt.mk rfl ?_
    | refine Elt.mk (by assumption) ?_
    | refine Elt.mk (ixE (by omega) (by omega)) ?_
    | refine E.call tt h_listRib rfl rfl ⟨_, rfl, by first | omega | (simp only [List.length_map]; omega), by assumption, _, _, rfl, rfl, ?_⟩
    | refine E.call tt h_isStrip rfl rfl ⟨_, _, rfl, _, _, rfl, rfl, ?_⟩
    | refine E.regionQ tt (id := 15) mixed (by decide +kernel) ?_)) <;> (try (conv => whnf))
    refine E.loop tt (fun p : Int × Value × Value × Frag => (0 ≤ p.1 ∧ p.1 ≤ xs.length) ∧ FV 2 p.2.2.2 p.2.1 (frE strip (fcL xs strip saw p.1).u) ∧ FV 2 p.2.2.2 p.2.2.1 ((fcL xs strip saw p.1).pl.map encI) ∧ apart p.2.1 p.2.2.1) (fun p => ⟨53, 2, [(9, .loc 1 0 0), (31, .p (I xs.length)), (32, .p (I p.1))], [(1, ctR 80 xs strip saw p.2.1 p.2.2.1 0 0)], p.2.2.2⟩) (fun p => (xs.length - p.1).toNat) (0, .slice none 0 0, .slice none 0 0, Frag.nil) ⟨⟨by dsimp only; omega, by dsimp only; omega⟩, by rw [fcL_zero]; exact FV.nil _ _, by rw [fcL_zero]; exact FV.nil _ _, fun b h => by cases h⟩ ⟨rfl, ⟨rfl, pI (by rw [hln]), rfl, trivial⟩, ⟨rfl, trivial⟩, rfl, rfl, fun _ _ h => h⟩ ?_
    rintro p ⟨⟨hi0, hi1⟩, hF, hP, hap⟩
    obtain ⟨b1, b2, b3⟩ := fcL_b hB hR hL hi0 hi1
    rcases Int.lt_or_le p.1 xs.length with hlt | hge
    · have hnx := fcL_succ xs strip saw hi0
      generalize hs : fcL xs strip saw p.1 = s at *
      have hb := hB.at hi0 hlt
      unfold RibOk at hb
      have hlm := hL p.1 hi0 hlt
      unfold longC at hlm
      have hel : ix xs (s.pl.length : Int) = ix xs p.1 := by rw [b1]
      (repeat' ((conv => whnf); first
    | refine Sd.mk (by first | omega | (unfold in64; omega) | (simp only [fitK, in64]; omega) | (simp only [fitK, in64, chunk, List.length_map, List.length_append, List.length_replicate, List.length_set, List.length_nil, List.length_cons]; omega)) ?_
    | refine Br.yes rfl ?_
    | refine Br.no rfl ?_
    | refine Br.yes (by first | (simp only [ltB_t, ltB_f, eqB_t, eqB_f, pB_t, pB_f, sEq_t, sEq_f, emp_iff, ne_eq, List.length_map, Bool.not_eq_true, Bool.not_eq_false, Bool.not_eq_eq_eq_not, Bool.not_true, Bool.not_false]; done) | (simp only [ltB_t, ltB_f, eqB_t, eqB_f, pB_t, pB_f, sEq_t, sEq_f, emp_iff, ne_eq, List.length_map, Bool.not_eq_true, Bool.not_eq_false, Bool.not_eq_eq_eq_not, Bool.not_true, Bool.not_false]; omega) | (simp only [ltB_t, ltB_f, eqB_t, eqB_f, pB_t, pB_f, sEq_t, sEq_f, emp_iff, ne_eq, List.length_map, Bool.not_eq_true, Bool.not_eq_false, Bool.not_eq_eq_eq_not, Bool.not_true, Bool.not_false]; assumption)) ?_
    | refine Br.no (by first | (simp only [ltB_t, ltB_f, eqB_t, eqB_f, pB_t, pB_f, sEq_t, sEq_f, emp_iff, ne_eq, List.length_map, Bool.not_eq_true, Bool.not_eq_false, Bool.not_eq_eq_eq_not, Bool.not_true, Bool.not_false]; done) | (simp only [ltB_t, ltB_f, eqB_t, eqB_f, pB_t, pB_f, sEq_t, sEq_f, emp_iff, ne_eq, List.length_map, Bool.not_eq_true, Bool.not_eq_false, Bool.not_eq_eq_eq_not, Bool.not_true, Bool.not_false]; omega) | (simp only [ltB_t, ltB_f, eqB_t, eqB_f, pB_t, pB_f, sEq_t, sEq_f, emp_iff, ne_eq, List.length_map, Bool.not_eq_true, Bool.not_eq_false, Bool.not_eq_eq_eq_not, Bool.not_true, Bool.not_false]; assumption)) ?_
    | (refine Br.mk ?_ ?_ <;> intro h <;> (try simp only [ltB_t, ltB_f, eqB_t, eqB_f, pB_t, pB_f, sEq_t, sEq_f, emp_iff, ne_eq, List.length_map, Bool.not_eq_true, Bool.not_eq_false, Bool.not_eq_eq_eq_not, Bool.not_true, Bool.not_false] at h))
    | refine Elt.mk rfl ?_
    | refine Elt.mk (by assumption) ?_
    | refine Elt.mk (ixE (by omega) (by omega)) ?_
    | refine E.call tt h_listRib rfl rfl ⟨_, rfl, by first | omega | (simp only [List.length_map]; omega), by assumption, _, _, rfl, rfl, ?_⟩
    | refine E.call tt h_isStrip rfl rfl ⟨_, _, rfl, _, _, rfl, rfl, ?_⟩
    | refine E.regionQ tt (id := 15) mixed (by decide +kernel) ?_)) <;> (try (conv => whnf))
      refine E.loop tt (fun q : Int => (0 ≤ q ∧ q ≤ s.u.length) ∧ allTo (fun j => ¬ ix s.u j + (ix xs p.1).Length + saw ≤ strip) q) (fun q => ⟨53, 2, [(9, .loc 1 0 0), (10, .p (I q)), (31, .p (I xs.length)), (32, .p (I p.1))], [(1, ctR 80 xs strip saw p.2.1 p.2.2.1 0 0)], p.2.2.2⟩) (fun q => (s.u.length - q).toNat) 0 ⟨⟨by omega, by omega⟩, allTo_zero _⟩ ⟨rfl, ⟨rfl, rfl, rfl, rfl, trivial⟩, ⟨rfl, trivial⟩, rfl, rfl, fun _ _ h => h⟩ ?_
      rintro q ⟨⟨hq0, hq1⟩, hinv⟩
      (repeat' ((conv => whnf); first
    | refine Sd.mk (by first | omega | (unfold in64; omega) | (simp only [fitK, in64]; omega) | (simp only [fitK, in64, chunk, List.length_map, List.length_append, List.length_replicate, List.length_set, List.length_nil, List.length_cons]; omega)) ?_
    | refine Br.yes rfl ?_
    | refine Br.no rfl ?_
    | refine Br.yes (by first | (simp only [ltB_t, ltB_f, eqB_t, eqB_f, pB_t, pB_f, sEq_t, sEq_f, emp_iff, ne_eq, List.length_map, Bool.not_eq_true, Bool.not_eq_false, Bool.not_eq_eq_eq_not, Bool.not_true, Bool.not_false]; done) | (simp only [ltB_t, ltB_f, eqB_t, eqB_f, pB_t, pB_f, sEq_t, sEq_f, emp_iff, ne_eq, List.length_map, Bool.not_eq_true, Bool.not_eq_false, Bool.not_eq_eq_eq_not, Bool.not_true, Bool.not_false]; omega) | (simp only [ltB_t, ltB_f, eqB_t, eqB_f, pB_t, pB_f, sEq_t, sEq_f, emp_iff, ne_eq, List.length_map, Bool.not_eq_true, Bool.not_eq_false, Bool.not_eq_eq_eq_not, Bool.not_true, Bool.not_false]; assumption)) ?_
    | refine Br.no (by first | (simp only [ltB_t, ltB_f, eqB_t, eqB_f, pB_t, pB_f, sEq_t, sEq_f, emp_iff, ne_eq, List.length_map, Bool.not_eq_true, Bool.not_eq_false, Bool.not_eq_eq_eq_not, Bool.not_true, Bool.not_false]; done) | (simp only [ltB_t, ltB_f, eqB_t, eqB_f, pB_t, pB_f, sEq_t, sEq_f, emp_iff, ne_eq, List.length_map, Bool.not_eq_true, Bool.not_eq_false, Bool.not_eq_eq_eq_not, Bool.not_true, Bool.not_false]; omega) | (simp only [ltB_t, ltB_f, eqB_t, eqB_f, pB_t, pB_f, sEq_t, sEq_f, emp_iff, ne_eq, List.length_map, Bool.not_eq_true, Bool.not_eq_false, Bool.not_eq_eq_eq_not, Bool.not_true, Bool.not_false]; assumption)) ?_
    | (refine Br.mk ?_ ?_ <;> intro h <;> (try simp only [ltB_t, ltB_f, eqB_t, eqB_f, pB_t, pB_f, sEq_t, sEq_f, emp_iff, ne_eq, List.length_map, Bool.not_eq_true, Bool.not_eq_false, Bool.not_eq_eq_eq_not, Bool.not_true, Bool.not_false] at h))
    | refine Elt.mk rfl ?_
    | refine Elt.mk (by assumption) ?_
    | refine Elt.mk (ixE (by omega) (by omega)) ?_
    | refine E.call tt h_listRib rfl rfl ⟨_, rfl, by first | omega | (simp only [List.length_map]; omega), by assumption, _, _, rfl, rfl, ?_⟩
    | refine E.call tt h_isStrip rfl rfl ⟨_, _, rfl, _, _, rfl, rfl, ?_⟩
    | refine E.regionQ tt (id := 15) mixed (by decide +kernel) ?_)) <;> (try (conv => whnf))
      refine E.callYP tt h_take rfl rfl rfl rfl rfl rfl ⟨xs, strip, saw, s.u, s.pl, p.2.1, p.2.2.1, 0, 0, q, rfl, rfl, trivial, hF, hP, hap, ⟨hxs, by omega, by omega⟩, ⟨hq0, hq1⟩, hR, by rw [hel]; exact ⟨hb.2.1.1, hlm⟩, b3, ?_, ?_⟩
      · intro hqlt hnf n r' e _ _
        cases e
        rw [hel] at hnf
        (repeat' ((conv => whnf); first
    | refine Sd.mk (by first | omega | (unfold in64; omega) | (simp only [fitK, in64]; omega) | (simp only [fitK, in64, chunk, List.length_map, List.length_append, List.length_replicate, List.length_set, List.length_nil, List.length_cons]; omega)) ?_
    | refine Br.yes rfl ?_
    | refine Br.no rfl ?_
    | refine Br.yes (by first | (simp only [ltB_t, ltB_f, eqB_t, eqB_f, pB_t, pB_f, sEq_t, sEq_f, emp_iff, ne_eq, List.length_map, Bool.not_eq_true, Bool.not_eq_false, Bool.not_eq_eq_eq_not, Bool.not_true, Bool.not_false]; done) | (simp only [ltB_t, ltB_f, eqB_t, eqB_f, pB_t, pB_f, sEq_t, sEq_f, emp_iff, ne_eq, List.length_map, Bool.not_eq_true, Bool.not_eq_false, Bool.not_eq_eq_eq_not, Bool.not_true, Bool.not_false]; omega) | (simp only [ltB_t, ltB_f, eqB_t, eqB_f, pB_t, pB_f, sEq_t, sEq_f, emp_iff, ne_eq, List.length_map, Bool.not_eq_true, Bool.not_eq_false, Bool.not_eq_eq_eq_not, Bool.not_true, Bool.not_false]; assumption)) ?_
    | refine Br.no (by first | (simp only [ltB_t, ltB_f, eqB_t, eqB_f, pB_t, pB_f, sEq_t, sEq_f, emp_iff, ne_eq, List.length_map, Bool.not_eq_true, Bool.not_eq_false, Bool.not_eq_eq_eq_not, Bool.not_true, Bool.not_false]; done) | (simp only [ltB_t, ltB_f, eqB_t, eqB_f, pB_t, pB_f, sEq_t, sEq_f, emp_iff, ne_eq, List.length_map, Bool.not_eq_true, Bool.not_eq_false, Bool.not_eq_eq_eq_not, Bool.not_true, Bool.not_false]; omega) | (simp only [ltB_t, ltB_f, eqB_t, eqB_f, pB_t, pB_f, sEq_t, sEq_f, emp_iff, ne_eq, List.length_map, Bool.not_eq_true, Bool.not_eq_false, Bool.not_eq_eq_eq_not, Bool.not_true, Bool.not_false]; assumption)) ?_
    | (refine Br.mk ?_ ?_ <;> intro h <;> (try simp only [ltB_t, ltB_f, eqB_t, eqB_f, pB_t, pB_f, sEq_t, sEq_f, emp_iff, ne_eq, List.length_map, Bool.not_eq_true, Bool.not_eq_false, Bool.not_eq_eq_eq_not, Bool.not_true, Bool.not_false] at h))
    | refine Elt.mk rfl ?_
    | refine Elt.mk (by assumption) ?_
    | refine Elt.mk (ixE (by omega) (by omega)) ?_
    | refine E.call tt h_listRib rfl rfl ⟨_, rfl, by first | omega | (simp only [List.length_map]; omega), by assumption, _, _, rfl, rfl, ?_⟩
    | refine E.call tt h_isStrip rfl rfl ⟨_, _, rfl, _, _, rfl, rfl, ?_⟩
    | refine E.regionQ tt (id := 15) mixed (by decide +kernel) ?_)) <;> (try (conv => whnf))
        all_goals (refine ⟨q + 1, ⟨⟨by omega, by omega⟩, allTo_succ hinv hnf⟩, by dsimp only; omega, ⟨rfl, ⟨rfl, rfl, rfl, rfl, trivial⟩, ⟨rfl, trivial⟩, rfl, rfl, fun _ _ h => h⟩⟩)
      · intro hfit fv' pv' X' n hF' hP' hap' r' e _ _
        cases e
        rw [hel] at hfit hF'
        have hkx : kx s.u strip saw (ix xs p.1).Length = q := kx_eq hq0 hinv ((Int.lt_or_le q s.u.length).elim (fun h => .inr ⟨h, hfit.elim (fun h' => by omega) id⟩) (fun h => .inl (by omega)))
        have hn2 : fcL xs strip saw (p.1 + 1) = ⟨fcS s.u saw (ix xs p.1).Length q, s.pl ++ [q]⟩ := by rw [hnx]; unfold fcF; rw [hkx]
        (repeat' ((conv => whnf); first
    | refine Sd.mk (by first | omega | (unfold in64; omega) | (simp only [fitK, in64]; omega) | (simp only [fitK, in64, chunk, List.length_map, List.length_append, List.length_replicate, List.length_set, List.length_nil, List.length_cons]; omega)) ?_
    | refine Br.yes rfl ?_
    | refine Br.no rfl ?_
    | refine Br.yes (by first | (simp only [ltB_t, ltB_f, eqB_t, eqB_f, pB_t, pB_f, sEq_t, sEq_f, emp_iff, ne_eq, List.length_map, Bool.not_eq_true, Bool.not_eq_false, Bool.not_eq_eq_eq_not, Bool.not_true, Bool.not_false]; done) | (simp only [ltB_t, ltB_f, eqB_t, eqB_f, pB_t, pB_f, sEq_t, sEq_f, emp_iff, ne_eq, List.length_map, Bool.not_eq_true, Bool.not_eq_false, Bool.not_eq_eq_eq_not, Bool.not_true, Bool.not_false]; omega) | (simp only [ltB_t, ltB_f, eqB_t, eqB_f, pB_t, pB_f, sEq_t, sEq_f, emp_iff, ne_eq, List.length_map, Bool.not_eq_true, Bool.not_eq_false, Bool.not_eq_eq_eq_not, Bool.not_true, Bool.not_false]; assumption)) ?_
    | refine Br.no (by first | (simp only [ltB_t, ltB_f, eqB_t, eqB_f, pB_t, pB_f, sEq_t, sEq_f, emp_iff, ne_eq, List.length_map, Bool.not_eq_true, Bool.not_eq_false, Bool.not_eq_eq_eq_not, Bool.not_true, Bool.not_false]; done) | (simp only [ltB_t, ltB_f, eqB_t, eqB_f, pB_t, pB_f, sEq_t, sEq_f, emp_iff, ne_eq, List.length_map, Bool.not_eq_true, Bool.not_eq_false, Bool.not_eq_eq_eq_not, Bool.not_true, Bool.not_false]; omega) | (simp only [ltB_t, ltB_f, eqB_t, eqB_f, pB_t, pB_f, sEq_t, sEq_f, emp_iff, ne_eq, List.length_map, Bool.not_eq_true, Bool.not_eq_false, Bool.not_eq_eq_eq_not, Bool.not_true, Bool.not_false]; assumption)) ?_
    | (refine Br.mk ?_ ?_ <;> intro h <;> (try simp only [ltB_t, ltB_f, eqB_t, eqB_f, pB_t, pB_f, sEq_t, sEq_f, emp_iff, ne_eq, List.length_map, Bool.not_eq_true, Bool.not_eq_false, Bool.not_eq_eq_eq_not, Bool.not_true, Bool.not_false] at h))
    | refine Elt.mk rfl ?_
    | refine Elt.mk (by assumption) ?_
    | refine Elt.mk (ixE (by omega) (by omega)) ?_
    | refine E.call tt h_listRib rfl rfl ⟨_, rfl, by first | omega | (simp only [List.length_map]; omega), by assumption, _, _, rfl, rfl, ?_⟩
    | refine E.call tt h_isStrip rfl rfl ⟨_, _, rfl, _, _, rfl, rfl, ?_⟩
    | refine E.regionQ tt (id := 15) mixed (by decide +kernel) ?_)) <;> (try (conv => whnf))
        all_goals (refine ⟨(p.1 + 1, fv', pv', X'), ⟨⟨by dsimp only; omega, by dsimp only; omega⟩, by dsimp only; rw [hn2]; exact hF', by dsimp only; rw [hn2]; exact hP', hap'⟩, by dsimp only; omega, ⟨rfl, ⟨rfl, rfl, rfl, trivial⟩, ⟨rfl, trivial⟩, rfl, rfl, fun _ _ h => h⟩⟩)
    · have hie : p.1 = xs.length := by omega
      rw [hie] at hF hP
      have hK2 := hK _ _ hP
      rw [← frE_len strip] at hK2
      (repeat' ((conv => whnf); first
    | refine Sd.mk (by first | omega | (unfold in64; omega) | (simp only [fitK, in64]; omega) | (simp only [fitK, in64, chunk, List.length_map, List.length_append, List.length_replicate, List.length_set, List.length_nil, List.length_cons]; omega)) ?_
    | refine Br.yes rfl ?_
    | refine Br.no rfl ?_
    | refine Br.yes (by first | (simp only [ltB_t, ltB_f, eqB_t, eqB_f, pB_t, pB_f, sEq_t, sEq_f, emp_iff, ne_eq, List.length_map, Bool.not_eq_true, Bool.not_eq_false, Bool.not_eq_eq_eq_not, Bool.not_true, Bool.not_false]; done) | (simp only [ltB_t, ltB_f, eqB_t, eqB_f, pB_t, pB_f, sEq_t, sEq_f, emp_iff, ne_eq, List.length_map, Bool.not_eq_true, Bool.not_eq_false, Bool.not_eq_eq_eq_not, Bool.not_true, Bool.not_false]; omega) | (simp only [ltB_t, ltB_f, eqB_t, eqB_f, pB_t, pB_f, sEq_t, sEq_f, emp_iff, ne_eq, List.length_map, Bool.not_eq_true, Bool.not_eq_false, Bool.not_eq_eq_eq_not, Bool.not_true, Bool.not_false]; assumption)) ?_
    | refine Br.no (by first | (simp only [ltB_t, ltB_f, eqB_t, eqB_f, pB_t, pB_f, sEq_t, sEq_f, emp_iff, ne_eq, List.length_map, Bool.not_eq_true, Bool.not_eq_false, Bool.not_eq_eq_eq_not, Bool.not_true, Bool.not_false]; done) | (simp only [ltB_t, ltB_f, eqB_t, eqB_f, pB_t, pB_f, sEq_t, sEq_f, emp_iff, ne_eq, List.length_map, Bool.not_eq_true, Bool.not_eq_false, Bool.not_eq_eq_eq_not, Bool.not_true, Bool.not_false]; omega) | (simp only [ltB_t, ltB_f, eqB_t, eqB_f, pB_t, pB_f, sEq_t, sEq_f, emp_iff, ne_eq, List.length_map, Bool.not_eq_true, Bool.not_eq_false, Bool.not_eq_eq_eq_not, Bool.not_true, Bool.not_false]; assumption)) ?_
    | (refine Br.mk ?_ ?_ <;> intro h <;> (try simp only [ltB_t, ltB_f, eqB_t, eqB_f, pB_t, pB_f, sEq_t, sEq_f, emp_iff, ne_eq, List.length_map, Bool.not_eq_true, Bool.not_eq_false, Bool.not_eq_eq_eq_not, Bool.not_true, Bool.not_false] at h))
    | refine Elt.mk rfl ?_
    | refine Elt.mk (by assumption) ?_
    | refine Elt.mk (ixE (by omega) (by omega)) ?_
    | refine E.read tt (rd_lenF tt rfl rfl rfl rfl hF) rfl ?_
    | refine E.call tt h_listRib rfl rfl ⟨_, rfl, by first | omega | (simp only [List.length_map]; omega), by assumption, _, _, rfl, rfl, ?_⟩
    | refine E.call tt h_isStrip rfl rfl ⟨_, _, rfl, _, _, rfl, rfl, ?_⟩
    | refine E.regionQ tt (id := 15) mixed (by decide +kernel) ?_)) <;> (try (conv => whnf))
      all_goals (exact ⟨_, ⟨rfl, rfl, rfl⟩, allSc_ok _ rfl, (fun r h => by cases h), rfl, hK2⟩)
theorem h_FcS : Holds Try.prog 10 (cFcS 2) := by
  refine E.mk tt Try.func10 rfl Try.ntmps10 rfl (by kernel_rfl) ?_
  rintro _ K ⟨xs, strip, saw, rs, rfl, hl, hok, h1, h2, hs, hK⟩
  have hln : (xs.map D.Rib.enc).length = xs.length := by simp
  refine ⟨Nat.le_of_ble_eq_true rfl, _, hK, ?_⟩
  rcases hs with ⟨hB, rfl⟩ | ⟨hB, ⟨hR, rfl⟩ | ⟨hR, ⟨hL, rfl⟩ | ⟨hL, rfl⟩⟩⟩
  · (repeat' ((conv => whnf); first
    | refine Sd.mk (by first | omega | (unfold in64; omega) | (simp only [fitK, in64]; omega) | (simp only [fitK, in64, chunk, List.length_map, List.length_append, List.length_replicate, List.length_set, List.length_nil, List.length_cons]; omega)) ?_
    | refine Br.yes rfl ?_
    | refine Br.no rfl ?_
    | refine Br.yes (by first | (simp only [ltB_t, ltB_f, eqB_t, eqB_f, pB_t, pB_f, sEq_t, sEq_f, emp_iff, ne_eq, List.length_map, Bool.not_eq_true, Bool.not_eq_false, Bool.not_eq_eq_eq_not, Bool.not_true, Bool.not_false]; done) | (simp only [ltB_t, ltB_f, eqB_t, eqB_f, pB_t, pB_f, sEq_t, sEq_f, emp_iff, ne_eq, List.length_map, Bool.not_eq_true, Bool.not_eq_false, Bool.not_eq_eq_eq_not, Bool.not_true, Bool.not_false]; omega) | (simp only [ltB_t, ltB_f, eqB_t, eqB_f, pB_t, pB_f, sEq_t, sEq_f, emp_iff, ne_eq, List.length_map, Bool.not_eq_true, Bool.not_eq_false, Bool.not_eq_eq_eq_not, Bool.not_true, Bool.not_false]; assumption)) ?_
    | refine Br.no (by first | (simp only [ltB_t, ltB_f, eqB_t, eqB_f, pB_t, pB_f, sEq_t, sEq_f, emp_iff, ne_eq, List.length_map, Bool.not_eq_true, Bool.not_eq_false, Bool.not_eq_eq_eq_not, Bool.not_true, Bool.not_false]; done) | (simp only [ltB_t, ltB_f, eqB_t, eqB_f, pB_t, pB_f, sEq_t, sEq_f, emp_iff, ne_eq, List.length_map, Bool.not_eq_true, Bool.not_eq_false, Bool.not_eq_eq_eq_not, Bool.not_true, Bool.not_false]; omega) | (simp only [ltB_t, ltB_f, eqB_t, eqB_f, pB_t, pB_f, sEq_t, sEq_f, emp_iff, ne_eq, List.length_map, Bool.not_eq_true, Bool.not_eq_false, Bool.not_eq_eq_eq_not, Bool.not_true, Bool.not_false]; assumption)) ?_
    | (refine Br.mk ?_ ?_ <;> intro h <;> (try simp only [ltB_t, ltB_f, eqB_t, eqB_f, pB_t, pB_f, sEq_t, sEq_f, emp_iff, ne_eq, List.length_map, Bool.not_eq_true, Bool.not_eq_false, Bool.not_eq_eq_eq_not, Bool.not_true, Bool.not_false] at h))
    | refine Ixv.mk (by omega) (ixE (by omega) (by omega)) ?_
    | refine Elt.mk rfl ?_
    | refine Elt.mk (by assumption) ?_
    | refine Elt.mk (ixE (by omega) (by omega)) ?_
    | refine E.call tt h_ask rfl rfl ⟨_, _, _, _, rfl, by omega, by assumption, .inl ⟨by assumption, rfl⟩, _, _, rfl, rfl, ?_⟩
    | refine E.call tt h_ask rfl rfl ⟨_, _, _, _, rfl, by omega, by assumption, .inr ⟨by assumption, .inl ⟨by assumption, rfl⟩⟩, _, _, rfl, rfl, ?_⟩
    | refine E.call tt h_ask rfl rfl ⟨_, _, _, _, rfl, by omega, by assumption, .inr ⟨by assumption, .inr ⟨by assumption, rfl⟩⟩, _, _, rfl, rfl, ?_⟩
    | refine E.call tt h_short rfl rfl ⟨_, _, _, rfl, by omega, .inl ⟨by assumption, rfl⟩, _, _, rfl, rfl, ?_⟩
    | refine E.call tt h_short rfl rfl ⟨_, _, _, rfl, by omega, .inr ⟨by assumption, rfl⟩, _, _, rfl, rfl, ?_⟩
    | refine E.call tt h_tk rfl rfl ⟨_, _, _, rfl, by omega, by omega, _, _, rfl, rfl, ?_⟩
    | refine E.regionQ tt (id := 12) mixed (by decide +kernel) ?_
    | refine E.regionT tt (id := 16) 17 mixed (by decide +kernel) ?_
    | refine E.regionFY tt (id := 16) [0, 1, 2, 4, 5, 6, 8, 9, 10, 11, 13] 7 (.nd [(3, .nd [(7, .nd [(12, .nd [(14, .nd [(15, .nd [(16, .nd [(17, .nd [])])])])])]), (12, .nd [(7, .nd [(14, .nd [(15, .nd [(16, .nd [(17, .nd [])])])])])])]), (7, .nd [(3, .nd [(12, .nd [(14, .nd [(15, .nd [(16, .nd [(17, .nd [])])])])])]), (12, .nd [(3, .nd [(14, .nd [(15, .nd [(16, .nd [(17, .nd [])])])])]), (14, .nd [(3, .nd [(15, .nd [(16, .nd [(17, .nd [])])])])])])]), (12, .nd [(3, .nd [(7, .nd [(14, .nd [(15, .nd [(16, .nd [(17, .nd [])])])])])]), (7, .nd [(3, .nd [(14, .nd [(15, .nd [(16, .nd [(17, .nd [])])])])]), (14, .nd [(3, .nd [(15, .nd [(16, .nd [(17, .nd [])])])])])])])]) mixed (by decide +kernel) ?_
    | refine Bo.mk ?_ ?_)) <;> (try (conv => whnf))
    all_goals (exact fin_p rfl rfl rfl rfl)
  · (repeat' ((conv => whnf); first
    | refine Sd.mk (by first | omega | (unfold in64; omega) | (simp only [fitK, in64]; omega) | (simp only [fitK, in64, chunk, List.length_map, List.length_append, List.length_replicate, List.length_set, List.length_nil, List.length_cons]; omega)) ?_
    | refine Br.yes rfl ?_
    | refine Br.no rfl ?_
    | refine Br.yes (by first | (simp only [ltB_t, ltB_f, eqB_t, eqB_f, pB_t, pB_f, sEq_t, sEq_f, emp_iff, ne_eq, List.length_map, Bool.not_eq_true, Bool.not_eq_false, Bool.not_eq_eq_eq_not, Bool.not_true, Bool.not_false]; done) | (simp only [ltB_t, ltB_f, eqB_t, eqB_f, pB_t, pB_f, sEq_t, sEq_f, emp_iff, ne_eq, List.length_map, Bool.not_eq_true, Bool.not_eq_false, Bool.not_eq_eq_eq_not, Bool.not_true, Bool.not_false]; omega) | (simp only [ltB_t, ltB_f, eqB_t, eqB_f, pB_t, pB_f, sEq_t, sEq_f, emp_iff, ne_eq, List.length_map, Bool.not_eq_true, Bool.not_eq_false, Bool.not_eq_eq_eq_not, Bool.not_true, Bool.not_false]; assumption)) ?_
    | refine Br.no (by first | (simp only [ltB_t, ltB_f, eqB_t, eqB_f, pB_t, pB_f, sEq_t, sEq_f, emp_iff, ne_eq, List.length_map, Bool.not_eq_true, Bool.not_eq_false, Bool.not_eq_eq_eq_not, Bool.not_true, Bool.not_false]; done) | (simp only [ltB_t, ltB_f, eqB_t, eqB_f, pB_t, pB_f, sEq_t, sEq_f, emp_iff, ne_eq, List.length_map, Bool.not_eq_true, Bool.not_eq_false, Bool.not_eq_eq_eq_not, Bool.not_true, Bool.not_false]; omega) | (simp only [ltB_t, ltB_f, eqB_t, eqB_f, pB_t, pB_f, sEq_t, sEq_f, emp_iff, ne_eq, List.length_map, Bool.not_eq_true, Bool.not_eq_false, Bool.not_eq_eq_eq_not, Bool.not_true, Bool.not_false]; assumption)) ?_
    | (refine Br.mk ?_ ?_ <;> intro h <;> (try simp only [ltB_t, ltB_f, eqB_t, eqB_f, pB_t, pB_f, sEq_t, sEq_f, emp_iff, ne_eq, List.length_map, Bool.not_eq_true, Bool.not_eq_false, Bool.not_eq_eq_eq_not, Bool.not_true, Bool.not_false] at h))
    | refine Ixv.mk (by omega) (ixE (by omega) (by omega)) ?_
    | refine Elt.mk rfl ?_
    | refine Elt.mk (by assumption) ?_
    | refine Elt.mk (ixE (by omega) (by omega)) ?_
    | refine E.call tt h_ask rfl rfl ⟨_, _, _, _, rfl, by omega, by assumption, .inl ⟨by assumption, rfl⟩, _, _, rfl, rfl, ?_⟩
    | refine E.call tt h_ask rfl rfl ⟨_, _, _, _, rfl, by omega, by assumption, .inr ⟨by assumption, .inl ⟨by assumption, rfl⟩⟩, _, _, rfl, rfl, ?_⟩
    | refine E.call tt h_ask rfl rfl ⟨_, _, _, _, rfl, by omega, by assumption, .inr ⟨by assumption, .inr ⟨by assumption, rfl⟩⟩, _, _, rfl, rfl, ?_⟩
    | refine E.call tt h_short rfl rfl ⟨_, _, _, rfl, by omega, .inl ⟨by assumption, rfl⟩, _, _, rfl, rfl, ?_⟩
    | refine E.call tt h_short rfl rfl ⟨_, _, _, rfl, by omega, .inr ⟨by assumption, rfl⟩, _, _, rfl, rfl, ?_⟩
    | refine E.call tt h_tk rfl rfl ⟨_, _, _, rfl, by omega, by omega, _, _, rfl, rfl, ?_⟩
    | refine E.regionQ tt (id := 12) mixed (by decide +kernel) ?_
    | refine E.regionT tt (id := 16) 17 mixed (by decide +kernel) ?_
    | refine E.regionFY tt (id := 16) [0, 1, 2, 4, 5, 6, 8, 9, 10, 11, 13] 7 (.nd [(3, .nd [(7, .nd [(12, .nd [(14, .nd [(15, .nd [(16, .nd [(17, .nd [])])])])])]), (12, .nd [(7, .nd [(14, .nd [(15, .nd [(16, .nd [(17, .nd [])])])])])])]), (7, .nd [(3, .nd [(12, .nd [(14, .nd [(15, .nd [(16, .nd [(17, .nd [])])])])])]), (12, .nd [(3, .nd [(14, .nd [(15, .nd [(16, .nd [(17, .nd [])])])])]), (14, .nd [(3, .nd [(15, .nd [(16, .nd [(17, .nd [])])])])])])]), (12, .nd [(3, .nd [(7, .nd [(14, .nd [(15, .nd [(16, .nd [(17, .nd [])])])])])]), (7, .nd [(3, .nd [(14, .nd [(15, .nd [(16, .nd [(17, .nd [])])])])]), (14, .nd [(3, .nd [(15, .nd [(16, .nd [(17, .nd [])])])])])])])]) mixed (by decide +kernel) ?_
    | refine Bo.mk ?_ ?_)) <;> (try (conv => whnf))
    all_goals (exact fin_p rfl rfl rfl rfl)
  · (repeat' ((conv => whnf); first
    | refine Sd.mk (by first | omega | (unfold in64; omega) | (simp only [fitK, in64]; omega) | (simp only [fitK, in64, chunk, List.length_map, List.length_append, List.length_replicate, List.length_set, List.length_nil, List.length_cons]; omega)) ?_
    | refine Br.yes rfl ?_
    | refine Br.no rfl ?_
    | refine Br.yes (by first | (simp only [ltB_t, ltB_f, eqB_t, eqB_f, pB_t, pB_f, sEq_t, sEq_f, emp_iff, ne_eq, List.length_map, Bool.not_eq_true, Bool.not_eq_false, Bool.not_eq_eq_eq_not, Bool.not_true, Bool.not_false]; done) | (simp only [ltB_t, ltB_f, eqB_t, eqB_f, pB_t, pB_f, sEq_t, sEq_f, emp_iff, ne_eq, List.length_map, Bool.not_eq_true, Bool.not_eq_false, Bool.not_eq_eq_eq_not, Bool.not_true, Bool.not_false]; omega) | (simp only [ltB_t, ltB_f, eqB_t, eqB_f, pB_t, pB_f, sEq_t, sEq_f, emp_iff, ne_eq, List.length_map, Bool.not_eq_true, Bool.not_eq_false, Bool.not_eq_eq_eq_not, Bool.not_true, Bool.not_false]; assumption)) ?_
    | refine Br.no (by first | (simp only [ltB_t, ltB_f, eqB_t, eqB_f, pB_t, pB_f, sEq_t, sEq_f, emp_iff, ne_eq, List.length_map, Bool.not_eq_true, Bool.not_eq_false, Bool.not_eq_eq_eq_not, Bool.not_true, Bool.not_false]; done) | (simp only [ltB_t, ltB_f, eqB_t, eqB_f, pB_t, pB_f, sEq_t, sEq_f, emp_iff, ne_eq, List.length_map, Bool.not_eq_true, Bool.not_eq_false, Bool.not_eq_eq_eq_not, Bool.not_true, Bool.not_false]; omega) | (simp only [ltB_t, ltB_f, eqB_t, eqB_f, pB_t, pB_f, sEq_t, sEq_f, emp_iff, ne_eq, List.length_map, Bool.not_eq_true, Bool.not_eq_false, Bool.not_eq_eq_eq_not, Bool.not_true, Bool.not_false]; assumption)) ?_
    | (refine Br.mk ?_ ?_ <;> intro h <;> (try simp only [ltB_t, ltB_f, eqB_t, eqB_f, pB_t, pB_f, sEq_t, sEq_f, emp_iff, ne_eq, List.length_map, Bool.not_eq_true, Bool.not_eq_false, Bool.not_eq_eq_eq_not, Bool.not_true, Bool.not_false] at h))
    | refine Ixv.mk (by omega) (ixE (by omega) (by omega)) ?_
    | refine Elt.mk rfl ?_
    | refine Elt.mk (by assumption) ?_
    | refine Elt.mk (ixE (by omega) (by omega)) ?_
    | refine E.call tt h_ask rfl rfl ⟨_, _, _, _, rfl, by omega, by assumption, .inl ⟨by assumption, rfl⟩, _, _, rfl, rfl, ?_⟩
    | refine E.call tt h_ask rfl rfl ⟨_, _, _, _, rfl, by omega, by assumption, .inr ⟨by assumption, .inl ⟨by assumption, rfl⟩⟩, _, _, rfl, rfl, ?_⟩
    | refine E.call tt h_ask rfl rfl ⟨_, _, _, _, rfl, by omega, by assumption, .inr ⟨by assumption, .inr ⟨by assumption, rfl⟩⟩, _, _, rfl, rfl, ?_⟩
    | refine E.call tt h_short rfl rfl ⟨_, _, _, rfl, by omega, .inl ⟨by assumption, rfl⟩, _, _, rfl, rfl, ?_⟩
    | refine E.call tt h_short rfl rfl ⟨_, _, _, rfl, by omega, .inr ⟨by assumption, rfl⟩, _, _, rfl, rfl, ?_⟩
    | refine E.call tt h_tk rfl rfl ⟨_, _, _, rfl, by omega, by omega, _, _, rfl, rfl, ?_⟩
    | refine E.regionQ tt (id := 12) mixed (by decide +kernel) ?_
    | refine E.regionT tt (id := 16) 17 mixed (by decide +kernel) ?_
    | refine E.regionFY tt (id := 16) [0, 1, 2, 4, 5, 6, 8, 9, 10, 11, 13] 7 (.nd [(3, .nd [(7, .nd [(12, .nd [(14, .nd [(15, .nd [(16, .nd [(17, .nd [])])])])])]), (12, .nd [(7, .nd [(14, .nd [(15, .nd [(16, .nd [(17, .nd [])])])])])])]), (7, .nd [(3, .nd [(12, .nd [(14, .nd [(15, .nd [(16, .nd [(17, .nd [])])])])])]), (12, .nd [(3, .nd [(14, .nd [(15, .nd [(16, .nd [(17, .nd [])])])])]), (14, .nd [(3, .nd [(15, .nd [(16, .nd [(17, .nd [])])])])])])]), (12, .nd [(3, .nd [(7, .nd [(14, .nd [(15, .nd [(16, .nd [(17, .nd [])])])])])]), (7, .nd [(3, .nd [(14, .nd [(15, .nd [(16, .nd [(17, .nd [])])])])]), (14, .nd [(3, .nd [(15, .nd [(16, .nd [(17, .nd [])])])])])])])]) mixed (by decide +kernel) ?_
    | refine Bo.mk ?_ ?_)) <;> (try (conv => whnf))
    all_goals (exact fin_p rfl rfl rfl rfl)
  · have hle := hB.le
    (repeat' ((conv => whnf); first
    | refine Sd.mk (by first | omega | (unfold in64; omega) | (simp only [fitK, in64]; omega) | (simp only [fitK, in64, chunk, List.length_map, List.length_append, List.length_replicate, List.length_set, List.length_nil, List.length_cons]; omega)) ?_
    | refine Br.yes rfl ?_
    | refine Br.no rfl ?_
    | refine Br.yes (by first | (simp only [ltB_t, ltB_f, eqB_t, eqB_f, pB_t, pB_f, sEq_t, sEq_f, emp_iff, ne_eq, List.length_map, Bool.not_eq_true, Bool.not_eq_false, Bool.not_eq_eq_eq_not, Bool.not_true, Bool.not_false]; done) | (simp only [ltB_t, ltB_f, eqB_t, eqB_f, pB_t, pB_f, sEq_t, sEq_f, emp_iff, ne_eq, List.length_map, Bool.not_eq_true, Bool.not_eq_false, Bool.not_eq_eq_eq_not, Bool.not_true, Bool.not_false]; omega) | (simp only [ltB_t, ltB_f, eqB_t, eqB_f, pB_t, pB_f, sEq_t, sEq_f, emp_iff, ne_eq, List.length_map, Bool.not_eq_true, Bool.not_eq_false, Bool.not_eq_eq_eq_not, Bool.not_true, Bool.not_false]; assumption)) ?_
    | refine Br.no (by first | (simp only [ltB_t, ltB_f, eqB_t, eqB_f, pB_t, pB_f, sEq_t, sEq_f, emp_iff, ne_eq, List.length_map, Bool.not_eq_true, Bool.not_eq_false, Bool.not_eq_eq_eq_not, Bool.not_true, Bool.not_false]; done) | (simp only [ltB_t, ltB_f, eqB_t, eqB_f, pB_t, pB_f, sEq_t, sEq_f, emp_iff, ne_eq, List.length_map, Bool.not_eq_true, Bool.not_eq_false, Bool.not_eq_eq_eq_not, Bool.not_true, Bool.not_false]; omega) | (simp only [ltB_t, ltB_f, eqB_t, eqB_f, pB_t, pB_f, sEq_t, sEq_f, emp_iff, ne_eq, List.length_map, Bool.not_eq_true, Bool.not_eq_false, Bool.not_eq_eq_eq_not, Bool.not_true, Bool.not_false]; assumption)) ?_
    | (refine Br.mk ?_ ?_ <;> intro h <;> (try simp only [ltB_t, ltB_f, eqB_t, eqB_f, pB_t, pB_f, sEq_t, sEq_f, emp_iff, ne_eq, List.length_map, Bool.not_eq_true, Bool.not_eq_false, Bool.not_eq_eq_eq_not, Bool.not_true, Bool.not_false] at h))
    | refine Ixv.mk (by omega) (ixE (by omega) (by omega)) ?_
    | refine Elt.mk rfl ?_
    | refine Elt.mk (by assumption) ?_
    | refine Elt.mk (ixE (by omega) (by omega)) ?_
    | refine E.call tt h_ask rfl rfl ⟨_, _, _, _, rfl, by omega, by assumption, .inl ⟨by assumption, rfl⟩, _, _, rfl, rfl, ?_⟩
    | refine E.call tt h_ask rfl rfl ⟨_, _, _, _, rfl, by omega, by assumption, .inr ⟨by assumption, .inl ⟨by assumption, rfl⟩⟩, _, _, rfl, rfl, ?_⟩
    | refine E.call tt h_ask rfl rfl ⟨_, _, _, _, rfl, by omega, by assumption, .inr ⟨by assumption, .inr ⟨by assumption, rfl⟩⟩, _, _, rfl, rfl, ?_⟩
    | refine E.call tt h_short rfl rfl ⟨_, _, _, rfl, by omega, .inl ⟨by assumption, rfl⟩, _, _, rfl, rfl, ?_⟩
    | refine E.call tt h_short rfl rfl ⟨_, _, _, rfl, by omega, .inr ⟨by assumption, rfl⟩, _, _, rfl, rfl, ?_⟩
    | refine E.call tt h_tk rfl rfl ⟨_, _, _, rfl, by omega, by omega, _, _, rfl, rfl, ?_⟩
    | refine E.regionQ tt (id := 12) mixed (by decide +kernel) ?_
    | refine E.regionT tt (id := 16) 17 mixed (by decide +kernel) ?_
    | refine E.regionFY tt (id := 16) [0, 1, 2, 4, 5, 6, 8, 9, 10, 11, 13] 7 (.nd [(3, .nd [(7, .nd [(12, .nd [(14, .nd [(15, .nd [(16, .nd [(17, .nd [])])])])])]), (12, .nd [(7, .nd [(14, .nd [(15, .nd [(16, .nd [(17, .nd [])])])])])])]), (7, .nd [(3, .nd [(12, .nd [(14, .nd [(15, .nd [(16, .nd [(17, .nd [])])])])])]), (12, .nd [(3, .nd [(14, .nd [(15, .nd [(16, .nd [(17, .nd [])])])])]), (14, .nd [(3, .nd [(15, .nd [(16, .nd [(17, .nd [])])])])])])]), (12, .nd [(3, .nd [(7, .nd [(14, .nd [(15, .nd [(16, .nd [(17, .nd [])])])])])]), (7, .nd [(3, .nd [(14, .nd [(15, .nd [(16, .nd [(17, .nd [])])])])]), (14, .nd [(3, .nd [(15, .nd [(16, .nd [(17, .nd [])])])])])])])]) mixed (by decide +kernel) ?_
    | refine Bo.mk ?_ ?_)) <;> (try (conv => whnf))
    refine E.loop tt (fun i : Int => 0 ≤ i ∧ i ≤ xs.length) (fun i => ⟨87, 3, [(0, .p (.view 3 (xs.map D.Rib.enc))), (1, .p (I strip)), (2, .p (I saw)), (10, .own 1), (11, .own 2), (12, .p (I i))], [(1, ⟨2, 1, (fcL xs strip saw i).pl.map encI⟩), (2, ⟨2, 1, (fcL xs strip saw i).u.map encI⟩)], Frag.nil⟩) (fun i => (xs.length - i).toNat) 0 ⟨by omega, by omega⟩ ⟨rfl, ⟨rfl, rfl, rfl, rfl, rfl, rfl, trivial⟩, ⟨congrArg some (rowEq (by rw [fcL_zero]; rfl)), congrArg some (rowEq (by rw [fcL_zero]; rfl)), trivial⟩, rfl, rfl, fun _ _ h => h⟩ ?_
    rintro i ⟨hi0, hi1⟩
    obtain ⟨b1, b2, b3⟩ := fcL_b hB hR hL hi0 hi1
    have hnx := fcL_succ xs strip saw hi0
    have hR2 := hR
    unfold stripP at hR2
    generalize hs : fcL xs strip saw i = s at *
    obtain ⟨u, pl⟩ := s
    dsimp only at b1 b2 b3
    have hul : (u.map encI).length = u.length := by simp
    have hpll : (pl.map encI).length = pl.length := by simp
    rcases Int.lt_or_le i xs.length with hlt | hge
    · have hb := hB.at hi0 hlt
      unfold RibOk at hb
      have hlm := hL i hi0 hlt
      unfold longC at hlm
      (repeat' ((conv => whnf); first
    | refine Sd.mk (by first | omega | (unfold in64; omega) | (simp only [fitK, in64]; omega) | (simp only [fitK, in64, chunk, List.length_map, List.length_append, List.length_replicate, List.length_set, List.length_nil, List.length_cons]; omega)) ?_
    | refine Br.yes rfl ?_
    | refine Br.no rfl ?_
    | refine Br.yes (by first | (simp only [ltB_t, ltB_f, eqB_t, eqB_f, pB_t, pB_f, sEq_t, sEq_f, emp_iff, ne_eq, List.length_map, Bool.not_eq_true, Bool.not_eq_false, Bool.not_eq_eq_eq_not, Bool.not_true, Bool.not_false]; done) | (simp only [ltB_t, ltB_f, eqB_t, eqB_f, pB_t, pB_f, sEq_t, sEq_f, emp_iff, ne_eq, List.length_map, Bool.not_eq_true, Bool.not_eq_false, Bool.not_eq_eq_eq_not, Bool.not_true, Bool.not_false]; omega) | (simp only [ltB_t, ltB_f, eqB_t, eqB_f, pB_t, pB_f, sEq_t, sEq_f, emp_iff, ne_eq, List.length_map, Bool.not_eq_true, Bool.not_eq_false, Bool.not_eq_eq_eq_not, Bool.not_true, Bool.not_false]; assumption)) ?_
    | refine Br.no (by first | (simp only [ltB_t, ltB_f, eqB_t, eqB_f, pB_t, pB_f, sEq_t, sEq_f, emp_iff, ne_eq, List.length_map, Bool.not_eq_true, Bool.not_eq_false, Bool.not_eq_eq_eq_not, Bool.not_true, Bool.not_false]; done) | (simp only [ltB_t, ltB_f, eqB_t, eqB_f, pB_t, pB_f, sEq_t, sEq_f, emp_iff, ne_eq, List.length_map, Bool.not_eq_true, Bool.not_eq_false, Bool.not_eq_eq_eq_not, Bool.not_true, Bool.not_false]; omega) | (simp only [ltB_t, ltB_f, eqB_t, eqB_f, pB_t, pB_f, sEq_t, sEq_f, emp_iff, ne_eq, List.length_map, Bool.not_eq_true, Bool.not_eq_false, Bool.not_eq_eq_eq_not, Bool.not_true, Bool.not_false]; assumption)) ?_
    | (refine Br.mk ?_ ?_ <;> intro h <;> (try simp only [ltB_t, ltB_f, eqB_t, eqB_f, pB_t, pB_f, sEq_t, sEq_f, emp_iff, ne_eq, List.length_map, Bool.not_eq_true, Bool.not_eq_false, Bool.not_eq_eq_eq_not, Bool.not_true, Bool.not_false] at h))
    | refine Ixv.mk (by omega) (ixE (by omega) (by omega)) ?_
    | refine Elt.mk rfl ?_
    | refine Elt.mk (by assumption) ?_
    | refine Elt.mk (ixE (by omega) (by omega)) ?_
    | refine E.call tt h_ask rfl rfl ⟨_, _, _, _, rfl, by omega, by assumption, .inl ⟨by assumption, rfl⟩, _, _, rfl, rfl, ?_⟩
    | refine E.call tt h_ask rfl rfl ⟨_, _, _, _, rfl, by omega, by assumption, .inr ⟨by assumption, .inl ⟨by assumption, rfl⟩⟩, _, _, rfl, rfl, ?_⟩
    | refine E.call tt h_ask rfl rfl ⟨_, _, _, _, rfl, by omega, by assumption, .inr ⟨by assumption, .inr ⟨by assumption, rfl⟩⟩, _, _, rfl, rfl, ?_⟩
    | refine E.call tt h_short rfl rfl ⟨_, _, _, rfl, by omega, .inl ⟨by assumption, rfl⟩, _, _, rfl, rfl, ?_⟩
    | refine E.call tt h_short rfl rfl ⟨_, _, _, rfl, by omega, .inr ⟨by assumption, rfl⟩, _, _, rfl, rfl, ?_⟩
    | refine E.call tt h_tk rfl rfl ⟨_, _, _, rfl, by omega, by omega, _, _, rfl, rfl, ?_⟩
    | refine E.regionQ tt (id := 12) mixed (by decide +kernel) ?_
    | refine E.regionT tt (id := 16) 17 mixed (by decide +kernel) ?_
    | refine E.regionFY tt (id := 16) [0, 1, 2, 4, 5, 6, 8, 9, 10, 11, 13] 7 (.nd [(3, .nd [(7, .nd [(12, .nd [(14, .nd [(15, .nd [(16, .nd [(17, .nd [])])])])])]), (12, .nd [(7, .nd [(14, .nd [(15, .nd [(16, .nd [(17, .nd [])])])])])])]), (7, .nd [(3, .nd [(12, .nd [(14, .nd [(15, .nd [(16, .nd [(17, .nd [])])])])])]), (12, .nd [(3, .nd [(14, .nd [(15, .nd [(16, .nd [(17, .nd [])])])])]), (14, .nd [(3, .nd [(15, .nd [(16, .nd [(17, .nd [])])])])])])]), (12, .nd [(3, .nd [(7, .nd [(14, .nd [(15, .nd [(16, .nd [(17, .nd [])])])])])]), (7, .nd [(3, .nd [(14, .nd [(15, .nd [(16, .nd [(17, .nd [])])])])]), (14, .nd [(3, .nd [(15, .nd [(16, .nd [(17, .nd [])])])])])])])]) mixed (by decide +kernel) ?_
    | refine Bo.mk ?_ ?_)) <;> (try (conv => whnf))
      refine E.loop tt (fun q : Int => (0 ≤ q ∧ q ≤ u.length) ∧ allTo (fun j => ¬ ix u j + (ix xs i).Length + saw ≤ strip) q) (fun q => ⟨87, 3, [(0, .p (.view 3 (xs.map D.Rib.enc))), (1, .p (I strip)), (2, .p (I saw)), (10, .own 1), (11, .own 2), (12, .p (I i)), (13, .p (I q))], [(1, ⟨2, 1, pl.map encI⟩), (2, ⟨2, 1, u.map encI⟩)], Frag.nil⟩) (fun q => (u.length - q).toNat) 0 ⟨⟨by omega, by omega⟩, allTo_zero _⟩ ⟨rfl, ⟨rfl, rfl, rfl, rfl, rfl, rfl, rfl, trivial⟩, ⟨rfl, rfl, trivial⟩, rfl, rfl, fun _ _ h => h⟩ ?_
      rintro q ⟨⟨hq0, hq1⟩, hinv⟩
      rcases Int.lt_or_le q u.length with hqlt | hqge
      · have hmx := b3 _ (ix_mem (xs := u) hq0 hqlt)
        by_cases hfit : ix u q + (ix xs i).Length + saw ≤ strip
        · have hkx : kx u strip saw (ix xs i).Length = q := kx_eq hq0 hinv (.inr ⟨hqlt, hfit⟩)
          have hn2 : fcL xs strip saw (i + 1) = ⟨u.set q.toNat (ix u q + ((ix xs i).Length + saw)), pl ++ [q]⟩ := by rw [hnx]; unfold fcF; rw [hkx]; unfold fcS; rw [if_neg (by dsimp only; omega)]
          have htk : (if ix u q = 0 then (ix xs i).Length else (ix xs i).Length + saw) = (ix xs i).Length + saw := if_neg (by omega)
          (repeat' ((conv => whnf); first
    | refine Sd.mk (by first | omega | (unfold in64; omega) | (simp only [fitK, in64]; omega) | (simp only [fitK, in64, chunk, List.length_map, List.length_append, List.length_replicate, List.length_set, List.length_nil, List.length_cons]; omega)) ?_
    | refine Br.yes rfl ?_
    | refine Br.no rfl ?_
    | refine Br.yes (by first | (simp only [ltB_t, ltB_f, eqB_t, eqB_f, pB_t, pB_f, sEq_t, sEq_f, emp_iff, ne_eq, List.length_map, Bool.not_eq_true, Bool.not_eq_false, Bool.not_eq_eq_eq_not, Bool.not_true, Bool.not_false]; done) | (simp only [ltB_t, ltB_f, eqB_t, eqB_f, pB_t, pB_f, sEq_t, sEq_f, emp_iff, ne_eq, List.length_map, Bool.not_eq_true, Bool.not_eq_false, Bool.not_eq_eq_eq_not, Bool.not_true, Bool.not_false]; omega) | (simp only [ltB_t, ltB_f, eqB_t, eqB_f, pB_t, pB_f, sEq_t, sEq_f, emp_iff, ne_eq, List.length_map, Bool.not_eq_true, Bool.not_eq_false, Bool.not_eq_eq_eq_not, Bool.not_true, Bool.not_false]; assumption)) ?_
    | refine Br.no (by first | (simp only [ltB_t, ltB_f, eqB_t, eqB_f, pB_t, pB_f, sEq_t, sEq_f, emp_iff, ne_eq, List.length_map, Bool.not_eq_true, Bool.not_eq_false, Bool.not_eq_eq_eq_not, Bool.not_true, Bool.not_false]; done) | (simp only [ltB_t, ltB_f, eqB_t, eqB_f, pB_t, pB_f, sEq_t, sEq_f, emp_iff, ne_eq, List.length_map, Bool.not_eq_true, Bool.not_eq_false, Bool.not_eq_eq_eq_not, Bool.not_true, Bool.not_false]; omega) | (simp only [ltB_t, ltB_f, eqB_t, eqB_f, pB_t, pB_f, sEq_t, sEq_f, emp_iff, ne_eq, List.length_map, Bool.not_eq_true, Bool.not_eq_false, Bool.not_eq_eq_eq_not, Bool.not_true, Bool.not_false]; assumption)) ?_
    | (refine Br.mk ?_ ?_ <;> intro h <;> (try simp only [ltB_t, ltB_f, eqB_t, eqB_f, pB_t, pB_f, sEq_t, sEq_f, emp_iff, ne_eq, List.length_map, Bool.not_eq_true, Bool.not_eq_false, Bool.not_eq_eq_eq_not, Bool.not_true, Bool.not_false] at h))
    | refine Ixv.mk (by omega) (ixE (by omega) (by omega)) ?_
    | refine Elt.mk rfl ?_
    | refine Elt.mk (by assumption) ?_
    | refine Elt.mk (ixE (by omega) (by omega)) ?_
    | refine E.call tt h_ask rfl rfl ⟨_, _, _, _, rfl, by omega, by assumption, .inl ⟨by assumption, rfl⟩, _, _, rfl, rfl, ?_⟩
    | refine E.call tt h_ask rfl rfl ⟨_, _, _, _, rfl, by omega, by assumption, .inr ⟨by assumption, .inl ⟨by assumption, rfl⟩⟩, _, _, rfl, rfl, ?_⟩
    | refine E.call tt h_ask rfl rfl ⟨_, _, _, _, rfl, by omega, by assumption, .inr ⟨by assumption, .inr ⟨by assumption, rfl⟩⟩, _, _, rfl, rfl, ?_⟩
    | refine E.call tt h_short rfl rfl ⟨_, _, _, rfl, by omega, .inl ⟨by assumption, rfl⟩, _, _, rfl, rfl, ?_⟩
    | refine E.call tt h_short rfl rfl ⟨_, _, _, rfl, by omega, .inr ⟨by assumption, rfl⟩, _, _, rfl, rfl, ?_⟩
    | refine E.call tt h_tk rfl rfl ⟨_, _, _, rfl, by omega, by omega, _, _, rfl, rfl, ?_⟩
    | refine E.regionQ tt (id := 12) mixed (by decide +kernel) ?_
    | refine E.regionT tt (id := 16) 17 mixed (by decide +kernel) ?_
    | refine E.regionFY tt (id := 16) [0, 1, 2, 4, 5, 6, 8, 9, 10, 11, 13] 7 (.nd [(3, .nd [(7, .nd [(12, .nd [(14, .nd [(15, .nd [(16, .nd [(17, .nd [])])])])])]), (12, .nd [(7, .nd [(14, .nd [(15, .nd [(16, .nd [(17, .nd [])])])])])])]), (7, .nd [(3, .nd [(12, .nd [(14, .nd [(15, .nd [(16, .nd [(17, .nd [])])])])])]), (12, .nd [(3, .nd [(14, .nd [(15, .nd [(16, .nd [(17, .nd [])])])])]), (14, .nd [(3, .nd [(15, .nd [(16, .nd [(17, .nd [])])])])])])]), (12, .nd [(3, .nd [(7, .nd [(14, .nd [(15, .nd [(16, .nd [(17, .nd [])])])])])]), (7, .nd [(3, .nd [(14, .nd [(15, .nd [(16, .nd [(17, .nd [])])])])]), (14, .nd [(3, .nd [(15, .nd [(16, .nd [(17, .nd [])])])])])])])]) mixed (by decide +kernel) ?_
    | refine Bo.mk ?_ ?_)) <;> (try (conv => whnf))
          all_goals first
            | (exfalso; omega)
            | (refine ⟨i + 1, ⟨by omega, by omega⟩, by dsimp only; omega, ⟨rfl, ⟨rfl, rfl, rfl, rfl, rfl, rfl, trivial⟩, ⟨congrArg some (rowEq (by rw [hn2]; exact encI_app _ _)), congrArg some (rowEq (by rw [hn2, htk]; exact map_set_enc (enc := encI))), trivial⟩, rfl, rfl, fun _ _ h => h⟩⟩; done)
        · (repeat' ((conv => whnf); first
    | refine Sd.mk (by first | omega | (unfold in64; omega) | (simp only [fitK, in64]; omega) | (simp only [fitK, in64, chunk, List.length_map, List.length_append, List.length_replicate, List.length_set, List.length_nil, List.length_cons]; omega)) ?_
    | refine Br.yes rfl ?_
    | refine Br.no rfl ?_
    | refine Br.yes (by first | (simp only [ltB_t, ltB_f, eqB_t, eqB_f, pB_t, pB_f, sEq_t, sEq_f, emp_iff, ne_eq, List.length_map, Bool.not_eq_true, Bool.not_eq_false, Bool.not_eq_eq_eq_not, Bool.not_true, Bool.not_false]; done) | (simp only [ltB_t, ltB_f, eqB_t, eqB_f, pB_t, pB_f, sEq_t, sEq_f, emp_iff, ne_eq, List.length_map, Bool.not_eq_true, Bool.not_eq_false, Bool.not_eq_eq_eq_not, Bool.not_true, Bool.not_false]; omega) | (simp only [ltB_t, ltB_f, eqB_t, eqB_f, pB_t, pB_f, sEq_t, sEq_f, emp_iff, ne_eq, List.length_map, Bool.not_eq_true, Bool.not_eq_false, Bool.not_eq_eq_eq_not, Bool.not_true, Bool.not_false]; assumption)) ?_
    | refine Br.no (by first | (simp only [ltB_t, ltB_f, eqB_t, eqB_f, pB_t, pB_f, sEq_t, sEq_f, emp_iff, ne_eq, List.length_map, Bool.not_eq_true, Bool.not_eq_false, Bool.not_eq_eq_eq_not, Bool.not_true, Bool.not_false]; done) | (simp only [ltB_t, ltB_f, eqB_t, eqB_f, pB_t, pB_f, sEq_t, sEq_f, emp_iff, ne_eq, List.length_map, Bool.not_eq_true, Bool.not_eq_false, Bool.not_eq_eq_eq_not, Bool.not_true, Bool.not_false]; omega) | (simp only [ltB_t, ltB_f, eqB_t, eqB_f, pB_t, pB_f, sEq_t, sEq_f, emp_iff, ne_eq, List.length_map, Bool.not_eq_true, Bool.not_eq_false, Bool.not_eq_eq_eq_not, Bool.not_true, Bool.not_false]; assumption)) ?_
    | (refine Br.mk ?_ ?_ <;> intro h <;> (try simp only [ltB_t, ltB_f, eqB_t, eqB_f, pB_t, pB_f, sEq_t, sEq_f, emp_iff, ne_eq, List.length_map, Bool.not_eq_true, Bool.not_eq_false, Bool.not_eq_eq_eq_not, Bool.not_true, Bool.not_false] at h))
    | refine Ixv.mk (by omega) (ixE (by omega) (by omega)) ?_
    | refine Elt.mk rfl ?_
    | refine Elt.mk (by assumption) ?_
    | refine Elt.mk (ixE (by omega) (by omega)) ?_
    | refine E.call tt h_ask rfl rfl ⟨_, _, _, _, rfl, by omega, by assumption, .inl ⟨by assumption, rfl⟩, _, _, rfl, rfl, ?_⟩
    | refine E.call tt h_ask rfl rfl ⟨_, _, _, _, rfl, by omega, by assumption, .inr ⟨by assumption, .inl ⟨by assumption, rfl⟩⟩, _, _, rfl, rfl, ?_⟩
    | refine E.call tt h_ask rfl rfl ⟨_, _, _, _, rfl, by omega, by assumption, .inr ⟨by assumption, .inr ⟨by assumption, rfl⟩⟩, _, _, rfl, rfl, ?_⟩
    | refine E.call tt h_short rfl rfl ⟨_, _, _, rfl, by omega, .inl ⟨by assumption, rfl⟩, _, _, rfl, rfl, ?_⟩
    | refine E.call tt h_short rfl rfl ⟨_, _, _, rfl, by omega, .inr ⟨by assumption, rfl⟩, _, _, rfl, rfl, ?_⟩
    | refine E.call tt h_tk rfl rfl ⟨_, _, _, rfl, by omega, by omega, _, _, rfl, rfl, ?_⟩
    | refine E.regionQ tt (id := 12) mixed (by decide +kernel) ?_
    | refine E.regionT tt (id := 16) 17 mixed (by decide +kernel) ?_
    | refine E.regionFY tt (id := 16) [0, 1, 2, 4, 5, 6, 8, 9, 10, 11, 13] 7 (.nd [(3, .nd [(7, .nd [(12, .nd [(14, .nd [(15, .nd [(16, .nd [(17, .nd [])])])])])]), (12, .nd [(7, .nd [(14, .nd [(15, .nd [(16, .nd [(17, .nd [])])])])])])]), (7, .nd [(3, .nd [(12, .nd [(14, .nd [(15, .nd [(16, .nd [(17, .nd [])])])])])]), (12, .nd [(3, .nd [(14, .nd [(15, .nd [(16, .nd [(17, .nd [])])])])]), (14, .nd [(3, .nd [(15, .nd [(16, .nd [(17, .nd [])])])])])])]), (12, .nd [(3, .nd [(7, .nd [(14, .nd [(15, .nd [(16, .nd [(17, .nd [])])])])])]), (7, .nd [(3, .nd [(14, .nd [(15, .nd [(16, .nd [(17, .nd [])])])])]), (14, .nd [(3, .nd [(15, .nd [(16, .nd [(17, .nd [])])])])])])])]) mixed (by decide +kernel) ?_
    | refine Bo.mk ?_ ?_)) <;> (try (conv => whnf))
          all_goals first
            | (exfalso; omega)
            | (refine ⟨q + 1, ⟨⟨by omega, by omega⟩, allTo_succ hinv hfit⟩, by dsimp only; omega, ⟨rfl, ⟨rfl, rfl, rfl, rfl, rfl, rfl, rfl, trivial⟩, ⟨rfl, rfl, trivial⟩, rfl, rfl, fun _ _ h => h⟩⟩; done)
      · have hqe : q = u.length := by omega
        have hkx : kx u strip saw (ix xs i).Length = q := kx_eq hq0 hinv (.inl hqe)
        have hn2 : fcL xs strip saw (i + 1) = ⟨u ++ [(ix xs i).Length], pl ++ [q]⟩ := by rw [hnx]; unfold fcF; rw [hkx]; unfold fcS; rw [if_pos (by dsimp only; exact hqe)]
        have hg2 : (u.map encI ++ [encI 0])[q.toNat]? = some (encI 0) := by rw [hqe]; simp
        have hg3 : ((u.map encI ++ [encI 0]).length : Int) = u.length + 1 := by simp
        have hgk : (u.map encI ++ [encI 0]).set q.toNat (encI (0 + (if (0 : Int) = 0 then (ix xs i).Length else (ix xs i).Length + saw))) = (u ++ [(ix xs i).Length]).map encI := by rw [hqe]; simp
        (repeat' ((conv => whnf); first
    | refine Elt.mk (e := encI 0) hg2 ?_
    | refine Sd.mk (by first | omega | (unfold in64; omega) | (simp only [fitK, in64]; omega) | (simp only [fitK, in64, chunk, List.length_map, List.length_append, List.length_replicate, List.length_set, List.length_nil, List.length_cons]; omega)) ?_
    | refine Br.yes rfl ?_
    | refine Br.no rfl ?_
    | refine Br.yes (by first | (simp only [ltB_t, ltB_f, eqB_t, eqB_f, pB_t, pB_f, sEq_t, sEq_f, emp_iff, ne_eq, List.length_map, Bool.not_eq_true, Bool.not_eq_false, Bool.not_eq_eq_eq_not, Bool.not_true, Bool.not_false]; done) | (simp only [ltB_t, ltB_f, eqB_t, eqB_f, pB_t, pB_f, sEq_t, sEq_f, emp_iff, ne_eq, List.length_map, Bool.not_eq_true, Bool.not_eq_false, Bool.not_eq_eq_eq_not, Bool.not_true, Bool.not_false]; omega) | (simp only [ltB_t, ltB_f, eqB_t, eqB_f, pB_t, pB_f, sEq_t, sEq_f, emp_iff, ne_eq, List.length_map, Bool.not_eq_true, Bool.not_eq_false, Bool.not_eq_eq_eq_not, Bool.not_true, Bool.not_false]; assumption)) ?_
    | refine Br.no (by first | (simp only [ltB_t, ltB_f, eqB_t, eqB_f, pB_t, pB_f, sEq_t, sEq_f, emp_iff, ne_eq, List.length_map, Bool.not_eq_true, Bool.not_eq_false, Bool.not_eq_eq_eq_not, Bool.not_true, Bool.not_false]; done) | (simp only [ltB_t, ltB_f, eqB_t, eqB_f, pB_t, pB_f, sEq_t, sEq_f, emp_iff, ne_eq, List.length_map, Bool.not_eq_true, Bool.not_eq_false, Bool.not_eq_eq_eq_not, Bool.not_true, Bool.not_false]; omega) | (simp only [ltB_t, ltB_f, eqB_t, eqB_f, pB_t, pB_f, sEq_t, sEq_f, emp_iff, ne_eq, List.length_map, Bool.not_eq_true, Bool.not_eq_false, Bool.not_eq_eq_eq_not, Bool.not_true, Bool.not_false]; assumption)) ?_
    | (refine Br.mk ?_ ?_ <;> intro h <;> (try simp only [ltB_t, ltB_f, eqB_t, eqB_f, pB_t, pB_f, sEq_t, sEq_f, emp_iff, ne_eq, List.length_map, Bool.not_eq_true, Bool.not_eq_false, Bool.not_eq_eq_eq_not, Bool.not_true, Bool.not_false] at h))
    | refine Ixv.mk (by omega) (ixE (by omega) (by omega)) ?_
    | refine Elt.mk rfl ?_
    | refine Elt.mk (by assumption) ?_
    | refine Elt.mk (ixE (by omega) (by omega)) ?_
    | refine Sd.mk ⟨by omega, by rw [show (_ : Int) = _ from hg3]; omega⟩ ?_
    | refine E.call tt h_ask rfl rfl ⟨_, _, _, _, rfl, by omega, by assumption, .inl ⟨by assumption, rfl⟩, _, _, rfl, rfl, ?_⟩
    | refine E.call tt h_ask rfl rfl ⟨_, _, _, _, rfl, by omega, by assumption, .inr ⟨by assumption, .inl ⟨by assumption, rfl⟩⟩, _, _, rfl, rfl, ?_⟩
    | refine E.call tt h_ask rfl rfl ⟨_, _, _, _, rfl, by omega, by assumption, .inr ⟨by assumption, .inr ⟨by assumption, rfl⟩⟩, _, _, rfl, rfl, ?_⟩
    | refine E.call tt h_short rfl rfl ⟨_, _, _, rfl, by omega, .inl ⟨by assumption, rfl⟩, _, _, rfl, rfl, ?_⟩
    | refine E.call tt h_short rfl rfl ⟨_, _, _, rfl, by omega, .inr ⟨by assumption, rfl⟩, _, _, rfl, rfl, ?_⟩
    | refine E.call tt h_tk rfl rfl ⟨_, _, _, rfl, by omega, by omega, _, _, rfl, rfl, ?_⟩
    | refine E.regionQ tt (id := 12) mixed (by decide +kernel) ?_
    | refine E.regionT tt (id := 16) 17 mixed (by decide +kernel) ?_
    | refine E.regionFY tt (id := 16) [0, 1, 2, 4, 5, 6, 8, 9, 10, 11, 13] 7 (.nd [(3, .nd [(7, .nd [(12, .nd [(14, .nd [(15, .nd [(16, .nd [(17, .nd [])])])])])]), (12, .nd [(7, .nd [(14, .nd [(15, .nd [(16, .nd [(17, .nd [])])])])])])]), (7, .nd [(3, .nd [(12, .nd [(14, .nd [(15, .nd [(16, .nd [(17, .nd [])])])])])]), (12, .nd [(3, .nd [(14, .nd [(15, .nd [(16, .nd [(17, .nd [])])])])]), (14, .nd [(3, .nd [(15, .nd [(16, .nd [(17, .nd [])])])])])])]), (12, .nd [(3, .nd [(7, .nd [(14, .nd [(15, .nd [(16, .nd [(17, .nd [])])])])])]), (7, .nd [(3, .nd [(14, .nd [(15, .nd [(16, .nd [(17, .nd [])])])])]), (14, .nd [(3, .nd [(15, .nd [(16, .nd [(17, .nd [])])])])])])])]) mixed (by decide +kernel) ?_
    | refine Bo.mk ?_ ?_)) <;> (try (conv => whnf))
        all_goals first
          | (exfalso; omega)
          | (refine ⟨i + 1, ⟨by omega, by omega⟩, by dsimp only; omega, ⟨rfl, ⟨rfl, rfl, rfl, rfl, rfl, rfl, trivial⟩, ⟨congrArg some (rowEq (by rw [hn2]; exact encI_app _ _)), congrArg some (rowEq (by rw [hn2]; exact hgk)), trivial⟩, rfl, rfl, fun _ _ h => h⟩⟩; done)
    · have hie : i = xs.length := by omega
      rw [← hie, hs]
      dsimp only
      rw [← hul]
      (repeat' ((conv => whnf); first
    | refine Sd.mk (by first | omega | (unfold in64; omega) | (simp only [fitK, in64]; omega) | (simp only [fitK, in64, chunk, List.length_map, List.length_append, List.length_replicate, List.length_set, List.length_nil, List.length_cons]; omega)) ?_
    | refine Br.yes rfl ?_
    | refine Br.no rfl ?_
    | refine Br.yes (by first | (simp only [ltB_t, ltB_f, eqB_t, eqB_f, pB_t, pB_f, sEq_t, sEq_f, emp_iff, ne_eq, List.length_map, Bool.not_eq_true, Bool.not_eq_false, Bool.not_eq_eq_eq_not, Bool.not_true, Bool.not_false]; done) | (simp only [ltB_t, ltB_f, eqB_t, eqB_f, pB_t, pB_f, sEq_t, sEq_f, emp_iff, ne_eq, List.length_map, Bool.not_eq_true, Bool.not_eq_false, Bool.not_eq_eq_eq_not, Bool.not_true, Bool.not_false]; omega) | (simp only [ltB_t, ltB_f, eqB_t, eqB_f, pB_t, pB_f, sEq_t, sEq_f, emp_iff, ne_eq, List.length_map, Bool.not_eq_true, Bool.not_eq_false, Bool.not_eq_eq_eq_not, Bool.not_true, Bool.not_false]; assumption)) ?_
    | refine Br.no (by first | (simp only [ltB_t, ltB_f, eqB_t, eqB_f, pB_t, pB_f, sEq_t, sEq_f, emp_iff, ne_eq, List.length_map, Bool.not_eq_true, Bool.not_eq_false, Bool.not_eq_eq_eq_not, Bool.not_true, Bool.not_false]; done) | (simp only [ltB_t, ltB_f, eqB_t, eqB_f, pB_t, pB_f, sEq_t, sEq_f, emp_iff, ne_eq, List.length_map, Bool.not_eq_true, Bool.not_eq_false, Bool.not_eq_eq_eq_not, Bool.not_true, Bool.not_false]; omega) | (simp only [ltB_t, ltB_f, eqB_t, eqB_f, pB_t, pB_f, sEq_t, sEq_f, emp_iff, ne_eq, List.length_map, Bool.not_eq_true, Bool.not_eq_false, Bool.not_eq_eq_eq_not, Bool.not_true, Bool.not_false]; assumption)) ?_
    | (refine Br.mk ?_ ?_ <;> intro h <;> (try simp only [ltB_t, ltB_f, eqB_t, eqB_f, pB_t, pB_f, sEq_t, sEq_f, emp_iff, ne_eq, List.length_map, Bool.not_eq_true, Bool.not_eq_false, Bool.not_eq_eq_eq_not, Bool.not_true, Bool.not_false] at h))
    | refine Ixv.mk (by omega) (ixE (by omega) (by omega)) ?_
    | refine Elt.mk rfl ?_
    | refine Elt.mk (by assumption) ?_
    | refine Elt.mk (ixE (by omega) (by omega)) ?_
    | refine E.call tt h_ask rfl rfl ⟨_, _, _, _, rfl, by omega, by assumption, .inl ⟨by assumption, rfl⟩, _, _, rfl, rfl, ?_⟩
    | refine E.call tt h_ask rfl rfl ⟨_, _, _, _, rfl, by omega, by assumption, .inr ⟨by assumption, .inl ⟨by assumption, rfl⟩⟩, _, _, rfl, rfl, ?_⟩
    | refine E.call tt h_ask rfl rfl ⟨_, _, _, _, rfl, by omega, by assumption, .inr ⟨by assumption, .inr ⟨by assumption, rfl⟩⟩, _, _, rfl, rfl, ?_⟩
    | refine E.call tt h_short rfl rfl ⟨_, _, _, rfl, by omega, .inl ⟨by assumption, rfl⟩, _, _, rfl, rfl, ?_⟩
    | refine E.call tt h_short rfl rfl ⟨_, _, _, rfl, by omega, .inr ⟨by assumption, rfl⟩, _, _, rfl, rfl, ?_⟩
    | refine E.call tt h_tk rfl rfl ⟨_, _, _, rfl, by omega, by omega, _, _, rfl, rfl, ?_⟩
    | refine E.regionQ tt (id := 12) mixed (by decide +kernel) ?_
    | refine E.regionT tt (id := 16) 17 mixed (by decide +kernel) ?_
    | refine E.regionFY tt (id := 16) [0, 1, 2, 4, 5, 6, 8, 9, 10, 11, 13] 7 (.nd [(3, .nd [(7, .nd [(12, .nd [(14, .nd [(15, .nd [(16, .nd [(17, .nd [])])])])])]), (12, .nd [(7, .nd [(14, .nd [(15, .nd [(16, .nd [(17, .nd [])])])])])])]), (7, .nd [(3, .nd [(12, .nd [(14, .nd [(15, .nd [(16, .nd [(17, .nd [])])])])])]), (12, .nd [(3, .nd [(14, .nd [(15, .nd [(16, .nd [(17, .nd [])])])])]), (14, .nd [(3, .nd [(15, .nd [(16, .nd [(17, .nd [])])])])])])]), (12, .nd [(3, .nd [(7, .nd [(14, .nd [(15, .nd [(16, .nd [(17, .nd [])])])])])]), (7, .nd [(3, .nd [(14, .nd [(15, .nd [(16, .nd [(17, .nd [])])])])]), (14, .nd [(3, .nd [(15, .nd [(16, .nd [(17, .nd [])])])])])])])]) mixed (by decide +kernel) ?_
    | refine Bo.mk ?_ ?_)) <;> (try (conv => whnf))
      all_goals (exact ⟨rfl, rfl, rfl⟩)





set_option maxHeartbeats 4000000 in
theorem h_lawFirstCuts : Holds Try.prog 3 (fun args K => ∃ (a0 : List D.Rib) (a1 : Int) (a2 : Int), args = [.view 3 (a0.map D.Rib.enc), I a1, I a2] ∧ ((a0.length : Int) ≤ 9223372036854775807 ∧ (∀ x ∈ a0, x.ok)) ∧ (in64 a1) ∧ (in64 a2) ∧ K [.p (.bool true)]) := by
  refine E.mk tt Try.func3 rfl Try.ntmps3 rfl (by kernel_rfl) ?_
  rintro _ K ⟨xs, strip, saw, rfl, ⟨hl, hok⟩, h1, h2, hK⟩
  refine ⟨Nat.le_of_ble_eq_true rfl, _, hK, ?_⟩
  rcases cases3 (RibsOk xs) (stripP strip saw) (allTo (longC xs strip) xs.length) with hB | ⟨hB, hR⟩ | ⟨hB, hR, hL⟩ | ⟨hB, hR, hL⟩
  · (repeat' ((conv => whnf); first
    | refine Sd.mk (by first | omega | (unfold in64; omega) | (simp only [fitK, in64]; omega) | (simp only [fitK, in64, chunk, List.length_map, List.length_append, List.length_replicate, List.length_set, List.length_nil, List.length_cons]; omega)) ?_
    | refine Br.yes rfl ?_
    | refine Br.no rfl ?_
    | refine Br.yes (by first | (simp only [ltB_t, ltB_f, eqB_t, eqB_f, pB_t, pB_f, sEq_t, sEq_f, emp_iff, ne_eq, List.length_map, Bool.not_eq_true, Bool.not_eq_false, Bool.not_eq_eq_eq_not, Bool.not_true, Bool.not_false]; done) | (simp only [ltB_t, ltB_f, eqB_t, eqB_f, pB_t, pB_f, sEq_t, sEq_f, emp_iff, ne_eq, List.length_map, Bool.not_eq_true, Bool.not_eq_false, Bool.not_eq_eq_eq_not, Bool.not_true, Bool.not_false]; omega) | (simp only [ltB_t, ltB_f, eqB_t, eqB_f, pB_t, pB_f, sEq_t, sEq_f, emp_iff, ne_eq, List.length_map, Bool.not_eq_true, Bool.not_eq_false, Bool.not_eq_eq_eq_not, Bool.not_true, Bool.not_false]; assumption)) ?_
    | refine Br.no (by first | (simp only [ltB_t, ltB_f, eqB_t, eqB_f, pB_t, pB_f, sEq_t, sEq_f, emp_iff, ne_eq, List.length_map, Bool.not_eq_true, Bool.not_eq_false, Bool.not_eq_eq_eq_not, Bool.not_true, Bool.not_false]; done) | (simp only [ltB_t, ltB_f, eqB_t, eqB_f, pB_t, pB_f, sEq_t, sEq_f, emp_iff, ne_eq, List.length_map, Bool.not_eq_true, Bool.not_eq_false, Bool.not_eq_eq_eq_not, Bool.not_true, Bool.not_false]; omega) | (simp only [ltB_t, ltB_f, eqB_t, eqB_f, pB_t, pB_f, sEq_t, sEq_f, emp_iff, ne_eq, List.length_map, Bool.not_eq_true, Bool.not_eq_false, Bool.not_eq_eq_eq_not, Bool.not_true, Bool.not_false]; assumption)) ?_
    | (refine Br.mk ?_ ?_ <;> intro h <;> (try simp only [ltB_t, ltB_f, eqB_t, eqB_f, pB_t, pB_f, sEq_t, sEq_f, emp_iff, ne_eq, List.length_map, Bool.not_eq_true, Bool.not_eq_false, Bool.not_eq_eq_eq_not, Bool.not_true, Bool.not_false] at h))
    | refine Elt.mk rfl ?_
    | refine Elt.mk (by assumption) ?_
    | refine Elt.mk (ixE (by omega) (by omega)) ?_
    | refine E.callY0 tt h_FcI rfl rfl ⟨rfl, rfl, _, _, _, rfl, by omega, by assumption, by assumption, by assumption, .inl ⟨hB, fun _ => ?_⟩⟩
    | (refine E.call tt h_szRibS rfl rfl ⟨_, _, rfl, by omega, by assumption, by omega, by omega, fun rz hrz hrz2 => ⟨_, _, rfl, rfl, ?_⟩⟩)
    | refine E.callR tt h_FcS rfl rfl ⟨_, _, _, _, rfl, by omega, by assumption, by assumption, by assumption, .inr ⟨by assumption, .inr ⟨by assumption, .inr ⟨by assumption, rfl⟩⟩⟩, .inr (rv3 (sc_map encI_sc) rfl rfl), ?_⟩
    | refine E.callR tt h_FcS rfl rfl ⟨_, _, _, _, rfl, by omega, by assumption, by assumption, by assumption, .inr ⟨by assumption, .inr ⟨by assumption, .inl ⟨by assumption, rfl⟩⟩⟩, .inr (allSc_ok _ rfl), ?_⟩
    | refine E.callR tt h_FcS rfl rfl ⟨_, _, _, _, rfl, by omega, by assumption, by assumption, by assumption, .inr ⟨by assumption, .inl ⟨by assumption, rfl⟩⟩, .inr (allSc_ok _ rfl), ?_⟩
    | refine E.callR tt h_FcS rfl rfl ⟨_, _, _, _, rfl, by omega, by assumption, by assumption, by assumption, .inl ⟨by assumption, rfl⟩, .inr (allSc_ok _ rfl), ?_⟩
    | refine E.callR tt h_toRibS rfl rfl ⟨_, rfl, by omega, .inl rfl, ?_⟩
    | refine E.call tt h_eqInt64S rfl rfl ⟨_, _, rfl, by omega, _, _, rfl, rfl, ?_⟩
    | refine E.call tt (h_eqInt64S.nilV [1, 1]) rfl rfl ⟨[], [], rfl, by decide, _, _, rfl, rfl, ?_⟩
    | refine E.call tt h_eqRibS rfl rfl ⟨_, _, rfl, by omega, _, _, rfl, rfl, ?_⟩
    | refine E.call tt (h_eqRibS.nilV [3, 3]) rfl rfl ⟨[], [], rfl, by decide, _, _, rfl, rfl, ?_⟩
    | refine E.callM tt h_markRibS rfl rfl rfl rfl rfl rfl ⟨_, _, rfl, rfl, by omega, by omega, by omega, rfl, _, rfl, by simp [mkl_length], ?_⟩
    | refine E.call tt (h_markRibSN.nilV [3]) rfl rfl ⟨_, rfl, by unfold in64; omega, _, _, rfl, rfl, ?_⟩
    | refine E.callM tt h_markInt64S rfl rfl rfl rfl rfl rfl ⟨_, _, rfl, rfl, by omega, by omega, by omega, rfl, _, rfl, by simp [mkl_length], ?_⟩
    | refine E.call tt (h_markInt64SN.nilV [1]) rfl rfl ⟨_, rfl, by unfold in64; omega, _, _, rfl, rfl, ?_⟩
    | refine E.call tt h_heldInt64S rfl rfl ⟨_, _, rfl, by omega, by omega, by omega, _, _, rfl, rfl, ?_⟩
    | refine E.call tt (h_heldInt64S.nilV [1]) rfl rfl ⟨0, _, rfl, by decide, by omega, by omega, _, _, rfl, rfl, ?_⟩)) <;> (try (conv => whnf))
    all_goals exact fin_p rfl rfl rfl rfl
  · (repeat' ((conv => whnf); first
    | refine Sd.mk (by first | omega | (unfold in64; omega) | (simp only [fitK, in64]; omega) | (simp only [fitK, in64, chunk, List.length_map, List.length_append, List.length_replicate, List.length_set, List.length_nil, List.length_cons]; omega)) ?_
    | refine Br.yes rfl ?_
    | refine Br.no rfl ?_
    | refine Br.yes (by first | (simp only [ltB_t, ltB_f, eqB_t, eqB_f, pB_t, pB_f, sEq_t, sEq_f, emp_iff, ne_eq, List.length_map, Bool.not_eq_true, Bool.not_eq_false, Bool.not_eq_eq_eq_not, Bool.not_true, Bool.not_false]; done) | (simp only [ltB_t, ltB_f, eqB_t, eqB_f, pB_t, pB_f, sEq_t, sEq_f, emp_iff, ne_eq, List.length_map, Bool.not_eq_true, Bool.not_eq_false, Bool.not_eq_eq_eq_not, Bool.not_true, Bool.not_false]; omega) | (simp only [ltB_t, ltB_f, eqB_t, eqB_f, pB_t, pB_f, sEq_t, sEq_f, emp_iff, ne_eq, List.length_map, Bool.not_eq_true, Bool.not_eq_false, Bool.not_eq_eq_eq_not, Bool.not_true, Bool.not_false]; assumption)) ?_
    | refine Br.no (by first | (simp only [ltB_t, ltB_f, eqB_t, eqB_f, pB_t, pB_f, sEq_t, sEq_f, emp_iff, ne_eq, List.length_map, Bool.not_eq_true, Bool.not_eq_false, Bool.not_eq_eq_eq_not, Bool.not_true, Bool.not_false]; done) | (simp only [ltB_t, ltB_f, eqB_t, eqB_f, pB_t, pB_f, sEq_t, sEq_f, emp_iff, ne_eq, List.length_map, Bool.not_eq_true, Bool.not_eq_false, Bool.not_eq_eq_eq_not, Bool.not_true, Bool.not_false]; omega) | (simp only [ltB_t, ltB_f, eqB_t, eqB_f, pB_t, pB_f, sEq_t, sEq_f, emp_iff, ne_eq, List.length_map, Bool.not_eq_true, Bool.not_eq_false, Bool.not_eq_eq_eq_not, Bool.not_true, Bool.not_false]; assumption)) ?_
    | (refine Br.mk ?_ ?_ <;> intro h <;> (try simp only [ltB_t, ltB_f, eqB_t, eqB_f, pB_t, pB_f, sEq_t, sEq_f, emp_iff, ne_eq, List.length_map, Bool.not_eq_true, Bool.not_eq_false, Bool.not_eq_eq_eq_not, Bool.not_true, Bool.not_false] at h))
    | refine Elt.mk rfl ?_
    | refine Elt.mk (by assumption) ?_
    | refine Elt.mk (ixE (by omega) (by omega)) ?_
    | refine E.callY0 tt h_FcI rfl rfl ⟨rfl, rfl, _, _, _, rfl, by omega, by assumption, by assumption, by assumption, .inr ⟨hB, .inl ⟨hR, fun _ => ?_⟩⟩⟩
    | (refine E.call tt h_szRibS rfl rfl ⟨_, _, rfl, by omega, by assumption, by omega, by omega, fun rz hrz hrz2 => ⟨_, _, rfl, rfl, ?_⟩⟩)
    | refine E.callR tt h_FcS rfl rfl ⟨_, _, _, _, rfl, by omega, by assumption, by assumption, by assumption, .inr ⟨by assumption, .inr ⟨by assumption, .inr ⟨by assumption, rfl⟩⟩⟩, .inr (rv3 (sc_map encI_sc) rfl rfl), ?_⟩
    | refine E.callR tt h_FcS rfl rfl ⟨_, _, _, _, rfl, by omega, by assumption, by assumption, by assumption, .inr ⟨by assumption, .inr ⟨by assumption, .inl ⟨by assumption, rfl⟩⟩⟩, .inr (allSc_ok _ rfl), ?_⟩
    | refine E.callR tt h_FcS rfl rfl ⟨_, _, _, _, rfl, by omega, by assumption, by assumption, by assumption, .inr ⟨by assumption, .inl ⟨by assumption, rfl⟩⟩, .inr (allSc_ok _ rfl), ?_⟩
    | refine E.callR tt h_FcS rfl rfl ⟨_, _, _, _, rfl, by omega, by assumption, by assumption, by assumption, .inl ⟨by assumption, rfl⟩, .inr (allSc_ok _ rfl), ?_⟩
    | refine E.callR tt h_toRibS rfl rfl ⟨_, rfl, by omega, .inl rfl, ?_⟩
    | refine E.call tt h_eqInt64S rfl rfl ⟨_, _, rfl, by omega, _, _, rfl, rfl, ?_⟩
    | refine E.call tt (h_eqInt64S.nilV [1, 1]) rfl rfl ⟨[], [], rfl, by decide, _, _, rfl, rfl, ?_⟩
    | refine E.call tt h_eqRibS rfl rfl ⟨_, _, rfl, by omega, _, _, rfl, rfl, ?_⟩
    | refine E.call tt (h_eqRibS.nilV [3, 3]) rfl rfl ⟨[], [], rfl, by decide, _, _, rfl, rfl, ?_⟩
    | refine E.callM tt h_markRibS rfl rfl rfl rfl rfl rfl ⟨_, _, rfl, rfl, by omega, by omega, by omega, rfl, _, rfl, by simp [mkl_length], ?_⟩
    | refine E.call tt (h_markRibSN.nilV [3]) rfl rfl ⟨_, rfl, by unfold in64; omega, _, _, rfl, rfl, ?_⟩
    | refine E.callM tt h_markInt64S rfl rfl rfl rfl rfl rfl ⟨_, _, rfl, rfl, by omega, by omega, by omega, rfl, _, rfl, by simp [mkl_length], ?_⟩
    | refine E.call tt (h_markInt64SN.nilV [1]) rfl rfl ⟨_, rfl, by unfold in64; omega, _, _, rfl, rfl, ?_⟩
    | refine E.call tt h_heldInt64S rfl rfl ⟨_, _, rfl, by omega, by omega, by omega, _, _, rfl, rfl, ?_⟩
    | refine E.call tt (h_heldInt64S.nilV [1]) rfl rfl ⟨0, _, rfl, by decide, by omega, by omega, _, _, rfl, rfl, ?_⟩)) <;> (try (conv => whnf))
    all_goals exact fin_p rfl rfl rfl rfl
  · (repeat' ((conv => whnf); first
    | refine Sd.mk (by first | omega | (unfold in64; omega) | (simp only [fitK, in64]; omega) | (simp only [fitK, in64, chunk, List.length_map, List.length_append, List.length_replicate, List.length_set, List.length_nil, List.length_cons]; omega)) ?_
    | refine Br.yes rfl ?_
    | refine Br.no rfl ?_
    | refine Br.yes (by first | (simp only [ltB_t, ltB_f, eqB_t, eqB_f, pB_t, pB_f, sEq_t, sEq_f, emp_iff, ne_eq, List.length_map, Bool.not_eq_true, Bool.not_eq_false, Bool.not_eq_eq_eq_not, Bool.not_true, Bool.not_false]; done) | (simp only [ltB_t, ltB_f, eqB_t, eqB_f, pB_t, pB_f, sEq_t, sEq_f, emp_iff, ne_eq, List.length_map, Bool.not_eq_true, Bool.not_eq_false, Bool.not_eq_eq_eq_not, Bool.not_true, Bool.not_false]; omega) | (simp only [ltB_t, ltB_f, eqB_t, eqB_f, pB_t, pB_f, sEq_t, sEq_f, emp_iff, ne_eq, List.length_map, Bool.not_eq_true, Bool.not_eq_false, Bool.not_eq_eq_eq_not, Bool.not_true, Bool.not_false]; assumption)) ?_
    | refine Br.no (by first | (simp only [ltB_t, ltB_f, eqB_t, eqB_f, pB_t, pB_f, sEq_t, sEq_f, emp_iff, ne_eq, List.length_map, Bool.not_eq_true, Bool.not_eq_false, Bool.not_eq_eq_eq_not, Bool.not_true, Bool.not_false]; done) | (simp only [ltB_t, ltB_f, eqB_t, eqB_f, pB_t, pB_f, sEq_t, sEq_f, emp_iff, ne_eq, List.length_map, Bool.not_eq_true, Bool.not_eq_false, Bool.not_eq_eq_eq_not, Bool.not_true, Bool.not_false]; omega) | (simp only [ltB_t, ltB_f, eqB_t, eqB_f, pB_t, pB_f, sEq_t, sEq_f, emp_iff, ne_eq, List.length_map, Bool.not_eq_true, Bool.not_eq_false, Bool.not_eq_eq_eq_not, Bool.not_true, Bool.not_false]; assumption)) ?_
    | (refine Br.mk ?_ ?_ <;> intro h <;> (try simp only [ltB_t, ltB_f, eqB_t, eqB_f, pB_t, pB_f, sEq_t, sEq_f, emp_iff, ne_eq, List.length_map, Bool.not_eq_true, Bool.not_eq_false, Bool.not_eq_eq_eq_not, Bool.not_true, Bool.not_false] at h))
    | refine Elt.mk rfl ?_
    | refine Elt.mk (by assumption) ?_
    | refine Elt.mk (ixE (by omega) (by omega)) ?_
    | refine E.callY0 tt h_FcI rfl rfl ⟨rfl, rfl, _, _, _, rfl, by omega, by assumption, by assumption, by assumption, .inr ⟨hB, .inr ⟨hR, .inl ⟨hL, fun _ => ?_⟩⟩⟩⟩
    | (refine E.call tt h_szRibS rfl rfl ⟨_, _, rfl, by omega, by assumption, by omega, by omega, fun rz hrz hrz2 => ⟨_, _, rfl, rfl, ?_⟩⟩)
    | refine E.callR tt h_FcS rfl rfl ⟨_, _, _, _, rfl, by omega, by assumption, by assumption, by assumption, .inr ⟨by assumption, .inr ⟨by assumption, .inr ⟨by assumption, rfl⟩⟩⟩, .inr (rv3 (sc_map encI_sc) rfl rfl), ?_⟩
    | refine E.callR tt h_FcS rfl rfl ⟨_, _, _, _, rfl, by omega, by assumption, by assumption, by assumption, .inr ⟨by assumption, .inr ⟨by assumption, .inl ⟨by assumption, rfl⟩⟩⟩, .inr (allSc_ok _ rfl), ?_⟩
    | refine E.callR tt h_FcS rfl rfl ⟨_, _, _, _, rfl, by omega, by assumption, by assumption, by assumption, .inr ⟨by assumption, .inl ⟨by assumption, rfl⟩⟩, .inr (allSc_ok _ rfl), ?_⟩
    | refine E.callR tt h_FcS rfl rfl ⟨_, _, _, _, rfl, by omega, by assumption, by assumption, by assumption, .inl ⟨by assumption, rfl⟩, .inr (allSc_ok _ rfl), ?_⟩
    | refine E.callR tt h_toRibS rfl rfl ⟨_, rfl, by omega, .inl rfl, ?_⟩
    | refine E.call tt h_eqInt64S rfl rfl ⟨_, _, rfl, by omega, _, _, rfl, rfl, ?_⟩
    | refine E.call tt (h_eqInt64S.nilV [1, 1]) rfl rfl ⟨[], [], rfl, by decide, _, _, rfl, rfl, ?_⟩
    | refine E.call tt h_eqRibS rfl rfl ⟨_, _, rfl, by omega, _, _, rfl, rfl, ?_⟩
    | refine E.call tt (h_eqRibS.nilV [3, 3]) rfl rfl ⟨[], [], rfl, by decide, _, _, rfl, rfl, ?_⟩
    | refine E.callM tt h_markRibS rfl rfl rfl rfl rfl rfl ⟨_, _, rfl, rfl, by omega, by omega, by omega, rfl, _, rfl, by simp [mkl_length], ?_⟩
    | refine E.call tt (h_markRibSN.nilV [3]) rfl rfl ⟨_, rfl, by unfold in64; omega, _, _, rfl, rfl, ?_⟩
    | refine E.callM tt h_markInt64S rfl rfl rfl rfl rfl rfl ⟨_, _, rfl, rfl, by omega, by omega, by omega, rfl, _, rfl, by simp [mkl_length], ?_⟩
    | refine E.call tt (h_markInt64SN.nilV [1]) rfl rfl ⟨_, rfl, by unfold in64; omega, _, _, rfl, rfl, ?_⟩
    | refine E.call tt h_heldInt64S rfl rfl ⟨_, _, rfl, by omega, by omega, by omega, _, _, rfl, rfl, ?_⟩
    | refine E.call tt (h_heldInt64S.nilV [1]) rfl rfl ⟨0, _, rfl, by decide, by omega, by omega, _, _, rfl, rfl, ?_⟩)) <;> (try (conv => whnf))
    all_goals exact fin_p rfl rfl rfl rfl
  · have hle := hB.le
    obtain ⟨hpl, _, _⟩ := fcL_b hB hR hL (n := xs.length) (by omega) (by omega)
    have hlm : (mkl mkI 1 1 (fcL xs strip saw xs.length).pl.length).length = (fcL xs strip saw xs.length).pl.length := mkl_length _ _ _ _
    (repeat' ((conv => whnf); first
    | refine Sd.mk (by first | omega | (unfold in64; omega) | (simp only [fitK, in64]; omega) | (simp only [fitK, in64, chunk, List.length_map, List.length_append, List.length_replicate, List.length_set, List.length_nil, List.length_cons]; omega)) ?_
    | refine Br.yes rfl ?_
    | refine Br.no rfl ?_
    | refine Br.yes (by first | (simp only [ltB_t, ltB_f, eqB_t, eqB_f, pB_t, pB_f, sEq_t, sEq_f, emp_iff, ne_eq, List.length_map, Bool.not_eq_true, Bool.not_eq_false, Bool.not_eq_eq_eq_not, Bool.not_true, Bool.not_false]; done) | (simp only [ltB_t, ltB_f, eqB_t, eqB_f, pB_t, pB_f, sEq_t, sEq_f, emp_iff, ne_eq, List.length_map, Bool.not_eq_true, Bool.not_eq_false, Bool.not_eq_eq_eq_not, Bool.not_true, Bool.not_false]; omega) | (simp only [ltB_t, ltB_f, eqB_t, eqB_f, pB_t, pB_f, sEq_t, sEq_f, emp_iff, ne_eq, List.length_map, Bool.not_eq_true, Bool.not_eq_false, Bool.not_eq_eq_eq_not, Bool.not_true, Bool.not_false]; assumption)) ?_
    | refine Br.no (by first | (simp only [ltB_t, ltB_f, eqB_t, eqB_f, pB_t, pB_f, sEq_t, sEq_f, emp_iff, ne_eq, List.length_map, Bool.not_eq_true, Bool.not_eq_false, Bool.not_eq_eq_eq_not, Bool.not_true, Bool.not_false]; done) | (simp only [ltB_t, ltB_f, eqB_t, eqB_f, pB_t, pB_f, sEq_t, sEq_f, emp_iff, ne_eq, List.length_map, Bool.not_eq_true, Bool.not_eq_false, Bool.not_eq_eq_eq_not, Bool.not_true, Bool.not_false]; omega) | (simp only [ltB_t, ltB_f, eqB_t, eqB_f, pB_t, pB_f, sEq_t, sEq_f, emp_iff, ne_eq, List.length_map, Bool.not_eq_true, Bool.not_eq_false, Bool.not_eq_eq_eq_not, Bool.not_true, Bool.not_false]; assumption)) ?_
    | (refine Br.mk ?_ ?_ <;> intro h <;> (try simp only [ltB_t, ltB_f, eqB_t, eqB_f, pB_t, pB_f, sEq_t, sEq_f, emp_iff, ne_eq, List.length_map, Bool.not_eq_true, Bool.not_eq_false, Bool.not_eq_eq_eq_not, Bool.not_true, Bool.not_false] at h))
    | refine Elt.mk rfl ?_
    | refine Elt.mk (by assumption) ?_
    | refine Elt.mk (ixE (by omega) (by omega)) ?_
    | refine E.callY0 tt h_FcI rfl rfl ⟨rfl, rfl, _, _, _, rfl, by omega, by assumption, by assumption, by assumption, .inr ⟨hB, .inr ⟨hR, .inr ⟨hL, fun v X' hF hdis => ?_⟩⟩⟩⟩
    | (refine E.call tt h_szRibS rfl rfl ⟨_, _, rfl, by omega, by assumption, by omega, by omega, fun rz hrz hrz2 => ⟨_, _, rfl, rfl, ?_⟩⟩)
    | refine E.callR tt h_FcS rfl rfl ⟨_, _, _, _, rfl, by omega, by assumption, by assumption, by assumption, .inr ⟨by assumption, .inr ⟨by assumption, .inr ⟨by assumption, rfl⟩⟩⟩, .inr (rv3 (sc_map encI_sc) rfl rfl), ?_⟩
    | refine E.callR tt h_FcS rfl rfl ⟨_, _, _, _, rfl, by omega, by assumption, by assumption, by assumption, .inr ⟨by assumption, .inr ⟨by assumption, .inl ⟨by assumption, rfl⟩⟩⟩, .inr (allSc_ok _ rfl), ?_⟩
    | refine E.callR tt h_FcS rfl rfl ⟨_, _, _, _, rfl, by omega, by assumption, by assumption, by assumption, .inr ⟨by assumption, .inl ⟨by assumption, rfl⟩⟩, .inr (allSc_ok _ rfl), ?_⟩
    | refine E.callR tt h_FcS rfl rfl ⟨_, _, _, _, rfl, by omega, by assumption, by assumption, by assumption, .inl ⟨by assumption, rfl⟩, .inr (allSc_ok _ rfl), ?_⟩
    | refine E.callR tt h_toRibS rfl rfl ⟨_, rfl, by omega, .inl rfl, ?_⟩
    | refine E.call tt h_eqInt64S rfl rfl ⟨_, _, rfl, by omega, _, _, rfl, rfl, ?_⟩
    | refine E.call tt (h_eqInt64S.nilV [1, 1]) rfl rfl ⟨[], [], rfl, by decide, _, _, rfl, rfl, ?_⟩
    | refine E.call tt h_eqRibS rfl rfl ⟨_, _, rfl, by omega, _, _, rfl, rfl, ?_⟩
    | refine E.call tt (h_eqRibS.nilV [3, 3]) rfl rfl ⟨[], [], rfl, by decide, _, _, rfl, rfl, ?_⟩
    | refine E.callM tt h_markRibS rfl rfl rfl rfl rfl rfl ⟨_, _, rfl, rfl, by omega, by omega, by omega, rfl, _, rfl, by simp [mkl_length], ?_⟩
    | refine E.call tt (h_markRibSN.nilV [3]) rfl rfl ⟨_, rfl, by unfold in64; omega, _, _, rfl, rfl, ?_⟩
    | refine E.callM tt h_markInt64S rfl rfl rfl rfl rfl rfl ⟨_, _, rfl, rfl, by omega, by omega, by omega, rfl, _, rfl, by simp [mkl_length], ?_⟩
    | refine E.call tt (h_markInt64SN.nilV [1]) rfl rfl ⟨_, rfl, by unfold in64; omega, _, _, rfl, rfl, ?_⟩
    | refine E.call tt h_heldInt64S rfl rfl ⟨_, _, rfl, by omega, by omega, by omega, _, _, rfl, rfl, ?_⟩
    | refine E.call tt (h_heldInt64S.nilV [1]) rfl rfl ⟨0, _, rfl, by decide, by omega, by omega, _, _, rfl, rfl, ?_⟩)) <;> (try (conv => whnf))
    all_goals try (exact fin_p rfl rfl rfl rfl)
    have hF0 := hF.mrgR (x := Frag.nil)
    refine E.callD tt (args := [.view 1 ((fcL xs strip saw xs.length).pl.map encI), .view 1 ((fcL xs strip saw xs.length).pl.map encI)]) h_eqInt64S ⟨Deep.fv rfl hF0, Deep.rd rfl, trivial⟩ rfl ⟨_, _, rfl, by omega, _, _, rfl, rfl, ?_⟩
    (repeat' ((conv => whnf); first
    | refine Sd.mk (by first | omega | (unfold in64; omega) | (simp only [fitK, in64]; omega) | (simp only [fitK, in64, chunk, List.length_map, List.length_append, List.length_replicate, List.length_set, List.length_nil, List.length_cons]; omega)) ?_
    | refine Br.yes rfl ?_
    | refine Br.no rfl ?_
    | refine Br.yes (by first | (simp only [ltB_t, ltB_f, eqB_t, eqB_f, pB_t, pB_f, sEq_t, sEq_f, emp_iff, ne_eq, List.length_map, Bool.not_eq_true, Bool.not_eq_false, Bool.not_eq_eq_eq_not, Bool.not_true, Bool.not_false]; done) | (simp only [ltB_t, ltB_f, eqB_t, eqB_f, pB_t, pB_f, sEq_t, sEq_f, emp_iff, ne_eq, List.length_map, Bool.not_eq_true, Bool.not_eq_false, Bool.not_eq_eq_eq_not, Bool.not_true, Bool.not_false]; omega) | (simp only [ltB_t, ltB_f, eqB_t, eqB_f, pB_t, pB_f, sEq_t, sEq_f, emp_iff, ne_eq, List.length_map, Bool.not_eq_true, Bool.not_eq_false, Bool.not_eq_eq_eq_not, Bool.not_true, Bool.not_false]; assumption)) ?_
    | refine Br.no (by first | (simp only [ltB_t, ltB_f, eqB_t, eqB_f, pB_t, pB_f, sEq_t, sEq_f, emp_iff, ne_eq, List.length_map, Bool.not_eq_true, Bool.not_eq_false, Bool.not_eq_eq_eq_not, Bool.not_true, Bool.not_false]; done) | (simp only [ltB_t, ltB_f, eqB_t, eqB_f, pB_t, pB_f, sEq_t, sEq_f, emp_iff, ne_eq, List.length_map, Bool.not_eq_true, Bool.not_eq_false, Bool.not_eq_eq_eq_not, Bool.not_true, Bool.not_false]; omega) | (simp only [ltB_t, ltB_f, eqB_t, eqB_f, pB_t, pB_f, sEq_t, sEq_f, emp_iff, ne_eq, List.length_map, Bool.not_eq_true, Bool.not_eq_false, Bool.not_eq_eq_eq_not, Bool.not_true, Bool.not_false]; assumption)) ?_
    | (refine Br.mk ?_ ?_ <;> intro h <;> (try simp only [ltB_t, ltB_f, eqB_t, eqB_f, pB_t, pB_f, sEq_t, sEq_f, emp_iff, ne_eq, List.length_map, Bool.not_eq_true, Bool.not_eq_false, Bool.not_eq_eq_eq_not, Bool.not_true, Bool.not_false] at h))
    | refine Elt.mk rfl ?_
    | refine Elt.mk (by assumption) ?_
    | refine Elt.mk (ixE (by omega) (by omega)) ?_
    | (refine E.call tt h_szRibS rfl rfl ⟨_, _, rfl, by omega, by assumption, by omega, by omega, fun rz hrz hrz2 => ⟨_, _, rfl, rfl, ?_⟩⟩)
    | refine E.callR tt h_FcS rfl rfl ⟨_, _, _, _, rfl, by omega, by assumption, by assumption, by assumption, .inr ⟨by assumption, .inr ⟨by assumption, .inr ⟨by assumption, rfl⟩⟩⟩, .inr (rv3 (sc_map encI_sc) rfl rfl), ?_⟩
    | refine E.callR tt h_FcS rfl rfl ⟨_, _, _, _, rfl, by omega, by assumption, by assumption, by assumption, .inr ⟨by assumption, .inr ⟨by assumption, .inl ⟨by assumption, rfl⟩⟩⟩, .inr (allSc_ok _ rfl), ?_⟩
    | refine E.callR tt h_FcS rfl rfl ⟨_, _, _, _, rfl, by omega, by assumption, by assumption, by assumption, .inr ⟨by assumption, .inl ⟨by assumption, rfl⟩⟩, .inr (allSc_ok _ rfl), ?_⟩
    | refine E.callR tt h_FcS rfl rfl ⟨_, _, _, _, rfl, by omega, by assumption, by assumption, by assumption, .inl ⟨by assumption, rfl⟩, .inr (allSc_ok _ rfl), ?_⟩
    | refine E.callR tt h_toRibS rfl rfl ⟨_, rfl, by omega, .inl rfl, ?_⟩
    | refine E.call tt h_eqInt64S rfl rfl ⟨_, _, rfl, by omega, _, _, rfl, rfl, ?_⟩
    | refine E.call tt (h_eqInt64S.nilV [1, 1]) rfl rfl ⟨[], [], rfl, by decide, _, _, rfl, rfl, ?_⟩
    | refine E.call tt h_eqRibS rfl rfl ⟨_, _, rfl, by omega, _, _, rfl, rfl, ?_⟩
    | refine E.call tt (h_eqRibS.nilV [3, 3]) rfl rfl ⟨[], [], rfl, by decide, _, _, rfl, rfl, ?_⟩
    | refine E.callM tt h_markRibS rfl rfl rfl rfl rfl rfl ⟨_, _, rfl, rfl, by omega, by omega, by omega, rfl, _, rfl, by simp [mkl_length], ?_⟩
    | refine E.call tt (h_markRibSN.nilV [3]) rfl rfl ⟨_, rfl, by unfold in64; omega, _, _, rfl, rfl, ?_⟩
    | refine E.callM tt h_markInt64S rfl rfl rfl rfl rfl rfl ⟨_, _, rfl, rfl, by omega, by omega, by omega, rfl, _, rfl, by simp [mkl_length], ?_⟩
    | refine E.call tt (h_markInt64SN.nilV [1]) rfl rfl ⟨_, rfl, by unfold in64; omega, _, _, rfl, rfl, ?_⟩
    | refine E.call tt h_heldInt64S rfl rfl ⟨_, _, rfl, by omega, by omega, by omega, _, _, rfl, rfl, ?_⟩
    | refine E.call tt (h_heldInt64S.nilV [1]) rfl rfl ⟨0, _, rfl, by decide, by omega, by omega, _, _, rfl, rfl, ?_⟩)) <;> (try (conv => whnf))
    refine E.callD tt (args := [.view 1 ((fcL xs strip saw xs.length).pl.map encI), .view 1 ((fcL xs strip saw xs.length).pl.map encI)]) h_eqInt64S ⟨Deep.fv rfl hF0, Deep.rd rfl, trivial⟩ rfl ⟨_, _, rfl, by omega, _, _, rfl, rfl, ?_⟩
    (repeat' ((conv => whnf); first
    | refine Sd.mk (by first | omega | (unfold in64; omega) | (simp only [fitK, in64]; omega) | (simp only [fitK, in64, chunk, List.length_map, List.length_append, List.length_replicate, List.length_set, List.length_nil, List.length_cons]; omega)) ?_
    | refine Br.yes rfl ?_
    | refine Br.no rfl ?_
    | refine Br.yes (by first | (simp only [ltB_t, ltB_f, eqB_t, eqB_f, pB_t, pB_f, sEq_t, sEq_f, emp_iff, ne_eq, List.length_map, Bool.not_eq_true, Bool.not_eq_false, Bool.not_eq_eq_eq_not, Bool.not_true, Bool.not_false]; done) | (simp only [ltB_t, ltB_f, eqB_t, eqB_f, pB_t, pB_f, sEq_t, sEq_f, emp_iff, ne_eq, List.length_map, Bool.not_eq_true, Bool.not_eq_false, Bool.not_eq_eq_eq_not, Bool.not_true, Bool.not_false]; omega) | (simp only [ltB_t, ltB_f, eqB_t, eqB_f, pB_t, pB_f, sEq_t, sEq_f, emp_iff, ne_eq, List.length_map, Bool.not_eq_true, Bool.not_eq_false, Bool.not_eq_eq_eq_not, Bool.not_true, Bool.not_false]; assumption)) ?_
    | refine Br.no (by first | (simp only [ltB_t, ltB_f, eqB_t, eqB_f, pB_t, pB_f, sEq_t, sEq_f, emp_iff, ne_eq, List.length_map, Bool.not_eq_true, Bool.not_eq_false, Bool.not_eq_eq_eq_not, Bool.not_true, Bool.not_false]; done) | (simp only [ltB_t, ltB_f, eqB_t, eqB_f, pB_t, pB_f, sEq_t, sEq_f, emp_iff, ne_eq, List.length_map, Bool.not_eq_true, Bool.not_eq_false, Bool.not_eq_eq_eq_not, Bool.not_true, Bool.not_false]; omega) | (simp only [ltB_t, ltB_f, eqB_t, eqB_f, pB_t, pB_f, sEq_t, sEq_f, emp_iff, ne_eq, List.length_map, Bool.not_eq_true, Bool.not_eq_false, Bool.not_eq_eq_eq_not, Bool.not_true, Bool.not_false]; assumption)) ?_
    | (refine Br.mk ?_ ?_ <;> intro h <;> (try simp only [ltB_t, ltB_f, eqB_t, eqB_f, pB_t, pB_f, sEq_t, sEq_f, emp_iff, ne_eq, List.length_map, Bool.not_eq_true, Bool.not_eq_false, Bool.not_eq_eq_eq_not, Bool.not_true, Bool.not_false] at h))
    | refine Elt.mk rfl ?_
    | refine Elt.mk (by assumption) ?_
    | refine Elt.mk (ixE (by omega) (by omega)) ?_
    | (refine E.call tt h_szRibS rfl rfl ⟨_, _, rfl, by omega, by assumption, by omega, by omega, fun rz hrz hrz2 => ⟨_, _, rfl, rfl, ?_⟩⟩)
    | refine E.callR tt h_FcS rfl rfl ⟨_, _, _, _, rfl, by omega, by assumption, by assumption, by assumption, .inr ⟨by assumption, .inr ⟨by assumption, .inr ⟨by assumption, rfl⟩⟩⟩, .inr (rv3 (sc_map encI_sc) rfl rfl), ?_⟩
    | refine E.callR tt h_FcS rfl rfl ⟨_, _, _, _, rfl, by omega, by assumption, by assumption, by assumption, .inr ⟨by assumption, .inr ⟨by assumption, .inl ⟨by assumption, rfl⟩⟩⟩, .inr (allSc_ok _ rfl), ?_⟩
    | refine E.callR tt h_FcS rfl rfl ⟨_, _, _, _, rfl, by omega, by assumption, by assumption, by assumption, .inr ⟨by assumption, .inl ⟨by assumption, rfl⟩⟩, .inr (allSc_ok _ rfl), ?_⟩
    | refine E.callR tt h_FcS rfl rfl ⟨_, _, _, _, rfl, by omega, by assumption, by assumption, by assumption, .inl ⟨by assumption, rfl⟩, .inr (allSc_ok _ rfl), ?_⟩
    | refine E.callR tt h_toRibS rfl rfl ⟨_, rfl, by omega, .inl rfl, ?_⟩
    | refine E.call tt h_eqInt64S rfl rfl ⟨_, _, rfl, by omega, _, _, rfl, rfl, ?_⟩
    | refine E.call tt (h_eqInt64S.nilV [1, 1]) rfl rfl ⟨[], [], rfl, by decide, _, _, rfl, rfl, ?_⟩
    | refine E.call tt h_eqRibS rfl rfl ⟨_, _, rfl, by omega, _, _, rfl, rfl, ?_⟩
    | refine E.call tt (h_eqRibS.nilV [3, 3]) rfl rfl ⟨[], [], rfl, by decide, _, _, rfl, rfl, ?_⟩
    | refine E.callM tt h_markRibS rfl rfl rfl rfl rfl rfl ⟨_, _, rfl, rfl, by omega, by omega, by omega, rfl, _, rfl, by simp [mkl_length], ?_⟩
    | refine E.call tt (h_markRibSN.nilV [3]) rfl rfl ⟨_, rfl, by unfold in64; omega, _, _, rfl, rfl, ?_⟩
    | refine E.callM tt h_markInt64S rfl rfl rfl rfl rfl rfl ⟨_, _, rfl, rfl, by omega, by omega, by omega, rfl, _, rfl, by simp [mkl_length], ?_⟩
    | refine E.call tt (h_markInt64SN.nilV [1]) rfl rfl ⟨_, rfl, by unfold in64; omega, _, _, rfl, rfl, ?_⟩
    | refine E.call tt h_heldInt64S rfl rfl ⟨_, _, rfl, by omega, by omega, by omega, _, _, rfl, rfl, ?_⟩
    | refine E.call tt (h_heldInt64S.nilV [1]) rfl rfl ⟨0, _, rfl, by decide, by omega, by omega, _, _, rfl, rfl, ?_⟩)) <;> (try (conv => whnf))
    rcases hF0 with ⟨rfl, hn⟩ | ⟨b, c, C, hv, hb, hC⟩
    · refine E.callD tt (args := [.view 1 [], I 1]) h_markInt64SN ⟨Deep.fv rfl (FV.nil 2 _), Deep.rd rfl, trivial⟩ rfl ⟨1, rfl, by unfold in64; omega, _, _, rfl, rfl, ?_⟩
      (repeat' ((conv => whnf); first
    | refine Sd.mk (by first | omega | (unfold in64; omega) | (simp only [fitK, in64]; omega) | (simp only [fitK, in64, chunk, List.length_map, List.length_append, List.length_replicate, List.length_set, List.length_nil, List.length_cons]; omega)) ?_
    | refine Br.yes rfl ?_
    | refine Br.no rfl ?_
    | refine Br.yes (by first | (simp only [ltB_t, ltB_f, eqB_t, eqB_f, pB_t, pB_f, sEq_t, sEq_f, emp_iff, ne_eq, List.length_map, Bool.not_eq_true, Bool.not_eq_false, Bool.not_eq_eq_eq_not, Bool.not_true, Bool.not_false]; done) | (simp only [ltB_t, ltB_f, eqB_t, eqB_f, pB_t, pB_f, sEq_t, sEq_f, emp_iff, ne_eq, List.length_map, Bool.not_eq_true, Bool.not_eq_false, Bool.not_eq_eq_eq_not, Bool.not_true, Bool.not_false]; omega) | (simp only [ltB_t, ltB_f, eqB_t, eqB_f, pB_t, pB_f, sEq_t, sEq_f, emp_iff, ne_eq, List.length_map, Bool.not_eq_true, Bool.not_eq_false, Bool.not_eq_eq_eq_not, Bool.not_true, Bool.not_false]; assumption)) ?_
    | refine Br.no (by first | (simp only [ltB_t, ltB_f, eqB_t, eqB_f, pB_t, pB_f, sEq_t, sEq_f, emp_iff, ne_eq, List.length_map, Bool.not_eq_true, Bool.not_eq_false, Bool.not_eq_eq_eq_not, Bool.not_true, Bool.not_false]; done) | (simp only [ltB_t, ltB_f, eqB_t, eqB_f, pB_t, pB_f, sEq_t, sEq_f, emp_iff, ne_eq, List.length_map, Bool.not_eq_true, Bool.not_eq_false, Bool.not_eq_eq_eq_not, Bool.not_true, Bool.not_false]; omega) | (simp only [ltB_t, ltB_f, eqB_t, eqB_f, pB_t, pB_f, sEq_t, sEq_f, emp_iff, ne_eq, List.length_map, Bool.not_eq_true, Bool.not_eq_false, Bool.not_eq_eq_eq_not, Bool.not_true, Bool.not_false]; assumption)) ?_
    | (refine Br.mk ?_ ?_ <;> intro h <;> (try simp only [ltB_t, ltB_f, eqB_t, eqB_f, pB_t, pB_f, sEq_t, sEq_f, emp_iff, ne_eq, List.length_map, Bool.not_eq_true, Bool.not_eq_false, Bool.not_eq_eq_eq_not, Bool.not_true, Bool.not_false] at h))
    | refine Elt.mk rfl ?_
    | refine Elt.mk (by assumption) ?_
    | refine Elt.mk (ixE (by omega) (by omega)) ?_
    | (refine E.call tt h_szRibS rfl rfl ⟨_, _, rfl, by omega, by assumption, by omega, by omega, fun rz hrz hrz2 => ⟨_, _, rfl, rfl, ?_⟩⟩)
    | refine E.callR tt h_FcS rfl rfl ⟨_, _, _, _, rfl, by omega, by assumption, by assumption, by assumption, .inr ⟨by assumption, .inr ⟨by assumption, .inr ⟨by assumption, rfl⟩⟩⟩, .inr (rv3 (sc_map encI_sc) rfl rfl), ?_⟩
    | refine E.callR tt h_FcS rfl rfl ⟨_, _, _, _, rfl, by omega, by assumption, by assumption, by assumption, .inr ⟨by assumption, .inr ⟨by assumption, .inl ⟨by assumption, rfl⟩⟩⟩, .inr (allSc_ok _ rfl), ?_⟩
    | refine E.callR tt h_FcS rfl rfl ⟨_, _, _, _, rfl, by omega, by assumption, by assumption, by assumption, .inr ⟨by assumption, .inl ⟨by assumption, rfl⟩⟩, .inr (allSc_ok _ rfl), ?_⟩
    | refine E.callR tt h_FcS rfl rfl ⟨_, _, _, _, rfl, by omega, by assumption, by assumption, by assumption, .inl ⟨by assumption, rfl⟩, .inr (allSc_ok _ rfl), ?_⟩
    | refine E.callR tt h_toRibS rfl rfl ⟨_, rfl, by omega, .inl rfl, ?_⟩
    | refine E.call tt h_eqInt64S rfl rfl ⟨_, _, rfl, by omega, _, _, rfl, rfl, ?_⟩
    | refine E.call tt (h_eqInt64S.nilV [1, 1]) rfl rfl ⟨[], [], rfl, by decide, _, _, rfl, rfl, ?_⟩
    | refine E.call tt h_eqRibS rfl rfl ⟨_, _, rfl, by omega, _, _, rfl, rfl, ?_⟩
    | refine E.call tt (h_eqRibS.nilV [3, 3]) rfl rfl ⟨[], [], rfl, by decide, _, _, rfl, rfl, ?_⟩
    | refine E.callM tt h_markRibS rfl rfl rfl rfl rfl rfl ⟨_, _, rfl, rfl, by omega, by omega, by omega, rfl, _, rfl, by simp [mkl_length], ?_⟩
    | refine E.call tt (h_markRibSN.nilV [3]) rfl rfl ⟨_, rfl, by unfold in64; omega, _, _, rfl, rfl, ?_⟩
    | refine E.callM tt h_markInt64S rfl rfl rfl rfl rfl rfl ⟨_, _, rfl, rfl, by omega, by omega, by omega, rfl, _, rfl, by simp [mkl_length], ?_⟩
    | refine E.call tt (h_markInt64SN.nilV [1]) rfl rfl ⟨_, rfl, by unfold in64; omega, _, _, rfl, rfl, ?_⟩
    | refine E.call tt h_heldInt64S rfl rfl ⟨_, _, rfl, by omega, by omega, by omega, _, _, rfl, rfl, ?_⟩
    | refine E.call tt (h_heldInt64S.nilV [1]) rfl rfl ⟨0, _, rfl, by decide, by omega, by omega, _, _, rfl, rfl, ?_⟩)) <;> (try (conv => whnf))
      refine E.callD tt (args := [.view 1 [], I 1]) h_heldInt64S ⟨Deep.fv rfl (FV.nil 2 _), Deep.rd rfl, trivial⟩ rfl ⟨0, 1, rfl, by omega, by omega, by omega, _, _, rfl, rfl, ?_⟩
      (repeat' ((conv => whnf); first
    | refine Sd.mk (by first | omega | (unfold in64; omega) | (simp only [fitK, in64]; omega) | (simp only [fitK, in64, chunk, List.length_map, List.length_append, List.length_replicate, List.length_set, List.length_nil, List.length_cons]; omega)) ?_
    | refine Br.yes rfl ?_
    | refine Br.no rfl ?_
    | refine Br.yes (by first | (simp only [ltB_t, ltB_f, eqB_t, eqB_f, pB_t, pB_f, sEq_t, sEq_f, emp_iff, ne_eq, List.length_map, Bool.not_eq_true, Bool.not_eq_false, Bool.not_eq_eq_eq_not, Bool.not_true, Bool.not_false]; done) | (simp only [ltB_t, ltB_f, eqB_t, eqB_f, pB_t, pB_f, sEq_t, sEq_f, emp_iff, ne_eq, List.length_map, Bool.not_eq_true, Bool.not_eq_false, Bool.not_eq_eq_eq_not, Bool.not_true, Bool.not_false]; omega) | (simp only [ltB_t, ltB_f, eqB_t, eqB_f, pB_t, pB_f, sEq_t, sEq_f, emp_iff, ne_eq, List.length_map, Bool.not_eq_true, Bool.not_eq_false, Bool.not_eq_eq_eq_not, Bool.not_true, Bool.not_false]; assumption)) ?_
    | refine Br.no (by first | (simp only [ltB_t, ltB_f, eqB_t, eqB_f, pB_t, pB_f, sEq_t, sEq_f, emp_iff, ne_eq, List.length_map, Bool.not_eq_true, Bool.not_eq_false, Bool.not_eq_eq_eq_not, Bool.not_true, Bool.not_false]; done) | (simp only [ltB_t, ltB_f, eqB_t, eqB_f, pB_t, pB_f, sEq_t, sEq_f, emp_iff, ne_eq, List.length_map, Bool.not_eq_true, Bool.not_eq_false, Bool.not_eq_eq_eq_not, Bool.not_true, Bool.not_false]; omega) | (simp only [ltB_t, ltB_f, eqB_t, eqB_f, pB_t, pB_f, sEq_t, sEq_f, emp_iff, ne_eq, List.length_map, Bool.not_eq_true, Bool.not_eq_false, Bool.not_eq_eq_eq_not, Bool.not_true, Bool.not_false]; assumption)) ?_
    | (refine Br.mk ?_ ?_ <;> intro h <;> (try simp only [ltB_t, ltB_f, eqB_t, eqB_f, pB_t, pB_f, sEq_t, sEq_f, emp_iff, ne_eq, List.length_map, Bool.not_eq_true, Bool.not_eq_false, Bool.not_eq_eq_eq_not, Bool.not_true, Bool.not_false] at h))
    | refine Elt.mk rfl ?_
    | refine Elt.mk (by assumption) ?_
    | refine Elt.mk (ixE (by omega) (by omega)) ?_
    | refine E.callY0 tt h_FcI rfl rfl ⟨rfl, rfl, _, _, _, rfl, by omega, by assumption, by assumption, by assumption, .inr ⟨hB, .inr ⟨hR, .inr ⟨hL, fun v2 X2 hF2 hdis2 => ?_⟩⟩⟩⟩
    | (refine E.call tt h_szRibS rfl rfl ⟨_, _, rfl, by omega, by assumption, by omega, by omega, fun rz hrz hrz2 => ⟨_, _, rfl, rfl, ?_⟩⟩)
    | refine E.callR tt h_FcS rfl rfl ⟨_, _, _, _, rfl, by omega, by assumption, by assumption, by assumption, .inr ⟨by assumption, .inr ⟨by assumption, .inr ⟨by assumption, rfl⟩⟩⟩, .inr (rv3 (sc_map encI_sc) rfl rfl), ?_⟩
    | refine E.callR tt h_FcS rfl rfl ⟨_, _, _, _, rfl, by omega, by assumption, by assumption, by assumption, .inr ⟨by assumption, .inr ⟨by assumption, .inl ⟨by assumption, rfl⟩⟩⟩, .inr (allSc_ok _ rfl), ?_⟩
    | refine E.callR tt h_FcS rfl rfl ⟨_, _, _, _, rfl, by omega, by assumption, by assumption, by assumption, .inr ⟨by assumption, .inl ⟨by assumption, rfl⟩⟩, .inr (allSc_ok _ rfl), ?_⟩
    | refine E.callR tt h_FcS rfl rfl ⟨_, _, _, _, rfl, by omega, by assumption, by assumption, by assumption, .inl ⟨by assumption, rfl⟩, .inr (allSc_ok _ rfl), ?_⟩
    | refine E.callR tt h_toRibS rfl rfl ⟨_, rfl, by omega, .inl rfl, ?_⟩
    | refine E.call tt h_eqInt64S rfl rfl ⟨_, _, rfl, by omega, _, _, rfl, rfl, ?_⟩
    | refine E.call tt (h_eqInt64S.nilV [1, 1]) rfl rfl ⟨[], [], rfl, by decide, _, _, rfl, rfl, ?_⟩
    | refine E.call tt h_eqRibS rfl rfl ⟨_, _, rfl, by omega, _, _, rfl, rfl, ?_⟩
    | refine E.call tt (h_eqRibS.nilV [3, 3]) rfl rfl ⟨[], [], rfl, by decide, _, _, rfl, rfl, ?_⟩
    | refine E.callM tt h_markRibS rfl rfl rfl rfl rfl rfl ⟨_, _, rfl, rfl, by omega, by omega, by omega, rfl, _, rfl, by simp [mkl_length], ?_⟩
    | refine E.call tt (h_markRibSN.nilV [3]) rfl rfl ⟨_, rfl, by unfold in64; omega, _, _, rfl, rfl, ?_⟩
    | refine E.callM tt h_markInt64S rfl rfl rfl rfl rfl rfl ⟨_, _, rfl, rfl, by omega, by omega, by omega, rfl, _, rfl, by simp [mkl_length], ?_⟩
    | refine E.call tt (h_markInt64SN.nilV [1]) rfl rfl ⟨_, rfl, by unfold in64; omega, _, _, rfl, rfl, ?_⟩
    | refine E.call tt h_heldInt64S rfl rfl ⟨_, _, rfl, by omega, by omega, by omega, _, _, rfl, rfl, ?_⟩
    | refine E.call tt (h_heldInt64S.nilV [1]) rfl rfl ⟨0, _, rfl, by decide, by omega, by omega, _, _, rfl, rfl, ?_⟩)) <;> (try (conv => whnf))
      refine E.callD tt (args := [.view 1 ((fcL xs strip saw xs.length).pl.map encI), .view 1 ((fcL xs strip saw xs.length).pl.map encI)]) h_eqInt64S ⟨Deep.fv rfl hF2.mrgR, Deep.rd rfl, trivial⟩ rfl ⟨_, _, rfl, by omega, _, _, rfl, rfl, ?_⟩
      (repeat' ((conv => whnf); first
    | refine Sd.mk (by first | omega | (unfold in64; omega) | (simp only [fitK, in64]; omega) | (simp only [fitK, in64, chunk, List.length_map, List.length_append, List.length_replicate, List.length_set, List.length_nil, List.length_cons]; omega)) ?_
    | refine Br.yes rfl ?_
    | refine Br.no rfl ?_
    | refine Br.yes (by first | (simp only [ltB_t, ltB_f, eqB_t, eqB_f, pB_t, pB_f, sEq_t, sEq_f, emp_iff, ne_eq, List.length_map, Bool.not_eq_true, Bool.not_eq_false, Bool.not_eq_eq_eq_not, Bool.not_true, Bool.not_false]; done) | (simp only [ltB_t, ltB_f, eqB_t, eqB_f, pB_t, pB_f, sEq_t, sEq_f, emp_iff, ne_eq, List.length_map, Bool.not_eq_true, Bool.not_eq_false, Bool.not_eq_eq_eq_not, Bool.not_true, Bool.not_false]; omega) | (simp only [ltB_t, ltB_f, eqB_t, eqB_f, pB_t, pB_f, sEq_t, sEq_f, emp_iff, ne_eq, List.length_map, Bool.not_eq_true, Bool.not_eq_false, Bool.not_eq_eq_eq_not, Bool.not_true, Bool.not_false]; assumption)) ?_
    | refine Br.no (by first | (simp only [ltB_t, ltB_f, eqB_t, eqB_f, pB_t, pB_f, sEq_t, sEq_f, emp_iff, ne_eq, List.length_map, Bool.not_eq_true, Bool.not_eq_false, Bool.not_eq_eq_eq_not, Bool.not_true, Bool.not_false]; done) | (simp only [ltB_t, ltB_f, eqB_t, eqB_f, pB_t, pB_f, sEq_t, sEq_f, emp_iff, ne_eq, List.length_map, Bool.not_eq_true, Bool.not_eq_false, Bool.not_eq_eq_eq_not, Bool.not_true, Bool.not_false]; omega) | (simp only [ltB_t, ltB_f, eqB_t, eqB_f, pB_t, pB_f, sEq_t, sEq_f, emp_iff, ne_eq, List.length_map, Bool.not_eq_true, Bool.not_eq_false, Bool.not_eq_eq_eq_not, Bool.not_true, Bool.not_false]; assumption)) ?_
    | (refine Br.mk ?_ ?_ <;> intro h <;> (try simp only [ltB_t, ltB_f, eqB_t, eqB_f, pB_t, pB_f, sEq_t, sEq_f, emp_iff, ne_eq, List.length_map, Bool.not_eq_true, Bool.not_eq_false, Bool.not_eq_eq_eq_not, Bool.not_true, Bool.not_false] at h))
    | refine Elt.mk rfl ?_
    | refine Elt.mk (by assumption) ?_
    | refine Elt.mk (ixE (by omega) (by omega)) ?_
    | (refine E.call tt h_szRibS rfl rfl ⟨_, _, rfl, by omega, by assumption, by omega, by omega, fun rz hrz hrz2 => ⟨_, _, rfl, rfl, ?_⟩⟩)
    | refine E.callR tt h_FcS rfl rfl ⟨_, _, _, _, rfl, by omega, by assumption, by assumption, by assumption, .inr ⟨by assumption, .inr ⟨by assumption, .inr ⟨by assumption, rfl⟩⟩⟩, .inr (rv3 (sc_map encI_sc) rfl rfl), ?_⟩
    | refine E.callR tt h_FcS rfl rfl ⟨_, _, _, _, rfl, by omega, by assumption, by assumption, by assumption, .inr ⟨by assumption, .inr ⟨by assumption, .inl ⟨by assumption, rfl⟩⟩⟩, .inr (allSc_ok _ rfl), ?_⟩
    | refine E.callR tt h_FcS rfl rfl ⟨_, _, _, _, rfl, by omega, by assumption, by assumption, by assumption, .inr ⟨by assumption, .inl ⟨by assumption, rfl⟩⟩, .inr (allSc_ok _ rfl), ?_⟩
    | refine E.callR tt h_FcS rfl rfl ⟨_, _, _, _, rfl, by omega, by assumption, by assumption, by assumption, .inl ⟨by assumption, rfl⟩, .inr (allSc_ok _ rfl), ?_⟩
    | refine E.callR tt h_toRibS rfl rfl ⟨_, rfl, by omega, .inl rfl, ?_⟩
    | refine E.call tt h_eqInt64S rfl rfl ⟨_, _, rfl, by omega, _, _, rfl, rfl, ?_⟩
    | refine E.call tt (h_eqInt64S.nilV [1, 1]) rfl rfl ⟨[], [], rfl, by decide, _, _, rfl, rfl, ?_⟩
    | refine E.call tt h_eqRibS rfl rfl ⟨_, _, rfl, by omega, _, _, rfl, rfl, ?_⟩
    | refine E.call tt (h_eqRibS.nilV [3, 3]) rfl rfl ⟨[], [], rfl, by decide, _, _, rfl, rfl, ?_⟩
    | refine E.callM tt h_markRibS rfl rfl rfl rfl rfl rfl ⟨_, _, rfl, rfl, by omega, by omega, by omega, rfl, _, rfl, by simp [mkl_length], ?_⟩
    | refine E.call tt (h_markRibSN.nilV [3]) rfl rfl ⟨_, rfl, by unfold in64; omega, _, _, rfl, rfl, ?_⟩
    | refine E.callM tt h_markInt64S rfl rfl rfl rfl rfl rfl ⟨_, _, rfl, rfl, by omega, by omega, by omega, rfl, _, rfl, by simp [mkl_length], ?_⟩
    | refine E.call tt (h_markInt64SN.nilV [1]) rfl rfl ⟨_, rfl, by unfold in64; omega, _, _, rfl, rfl, ?_⟩
    | refine E.call tt h_heldInt64S rfl rfl ⟨_, _, rfl, by omega, by omega, by omega, _, _, rfl, rfl, ?_⟩
    | refine E.call tt (h_heldInt64S.nilV [1]) rfl rfl ⟨0, _, rfl, by decide, by omega, by omega, _, _, rfl, rfl, ?_⟩)) <;> (try (conv => whnf))
      refine E.callD tt (args := [.view 1 [], I 1]) h_heldInt64S ⟨Deep.fv rfl (FV.nil 2 _), Deep.rd rfl, trivial⟩ rfl ⟨0, 1, rfl, by omega, by omega, by omega, _, _, rfl, rfl, ?_⟩
      (repeat' ((conv => whnf); first
    | refine Sd.mk (by first | omega | (unfold in64; omega) | (simp only [fitK, in64]; omega) | (simp only [fitK, in64, chunk, List.length_map, List.length_append, List.length_replicate, List.length_set, List.length_nil, List.length_cons]; omega)) ?_
    | refine Br.yes rfl ?_
    | refine Br.no rfl ?_
    | refine Br.yes (by first | (simp only [ltB_t, ltB_f, eqB_t, eqB_f, pB_t, pB_f, sEq_t, sEq_f, emp_iff, ne_eq, List.length_map, Bool.not_eq_true, Bool.not_eq_false, Bool.not_eq_eq_eq_not, Bool.not_true, Bool.not_false]; done) | (simp only [ltB_t, ltB_f, eqB_t, eqB_f, pB_t, pB_f, sEq_t, sEq_f, emp_iff, ne_eq, List.length_map, Bool.not_eq_true, Bool.not_eq_false, Bool.not_eq_eq_eq_not, Bool.not_true, Bool.not_false]; omega) | (simp only [ltB_t, ltB_f, eqB_t, eqB_f, pB_t, pB_f, sEq_t, sEq_f, emp_iff, ne_eq, List.length_map, Bool.not_eq_true, Bool.not_eq_false, Bool.not_eq_eq_eq_not, Bool.not_true, Bool.not_false]; assumption)) ?_
    | refine Br.no (by first | (simp only [ltB_t, ltB_f, eqB_t, eqB_f, pB_t, pB_f, sEq_t, sEq_f, emp_iff, ne_eq, List.length_map, Bool.not_eq_true, Bool.not_eq_false, Bool.not_eq_eq_eq_not, Bool.not_true, Bool.not_false]; done) | (simp only [ltB_t, ltB_f, eqB_t, eqB_f, pB_t, pB_f, sEq_t, sEq_f, emp_iff, ne_eq, List.length_map, Bool.not_eq_true, Bool.not_eq_false, Bool.not_eq_eq_eq_not, Bool.not_true, Bool.not_false]; omega) | (simp only [ltB_t, ltB_f, eqB_t, eqB_f, pB_t, pB_f, sEq_t, sEq_f, emp_iff, ne_eq, List.length_map, Bool.not_eq_true, Bool.not_eq_false, Bool.not_eq_eq_eq_not, Bool.not_true, Bool.not_false]; assumption)) ?_
    | (refine Br.mk ?_ ?_ <;> intro h <;> (try simp only [ltB_t, ltB_f, eqB_t, eqB_f, pB_t, pB_f, sEq_t, sEq_f, emp_iff, ne_eq, List.length_map, Bool.not_eq_true, Bool.not_eq_false, Bool.not_eq_eq_eq_not, Bool.not_true, Bool.not_false] at h))
    | refine Elt.mk rfl ?_
    | refine Elt.mk (by assumption) ?_
    | refine Elt.mk (ixE (by omega) (by omega)) ?_
    | (refine E.call tt h_szRibS rfl rfl ⟨_, _, rfl, by omega, by assumption, by omega, by omega, fun rz hrz hrz2 => ⟨_, _, rfl, rfl, ?_⟩⟩)
    | refine E.callR tt h_FcS rfl rfl ⟨_, _, _, _, rfl, by omega, by assumption, by assumption, by assumption, .inr ⟨by assumption, .inr ⟨by assumption, .inr ⟨by assumption, rfl⟩⟩⟩, .inr (rv3 (sc_map encI_sc) rfl rfl), ?_⟩
    | refine E.callR tt h_FcS rfl rfl ⟨_, _, _, _, rfl, by omega, by assumption, by assumption, by assumption, .inr ⟨by assumption, .inr ⟨by assumption, .inl ⟨by assumption, rfl⟩⟩⟩, .inr (allSc_ok _ rfl), ?_⟩
    | refine E.callR tt h_FcS rfl rfl ⟨_, _, _, _, rfl, by omega, by assumption, by assumption, by assumption, .inr ⟨by assumption, .inl ⟨by assumption, rfl⟩⟩, .inr (allSc_ok _ rfl), ?_⟩
    | refine E.callR tt h_FcS rfl rfl ⟨_, _, _, _, rfl, by omega, by assumption, by assumption, by assumption, .inl ⟨by assumption, rfl⟩, .inr (allSc_ok _ rfl), ?_⟩
    | refine E.callR tt h_toRibS rfl rfl ⟨_, rfl, by omega, .inl rfl, ?_⟩
    | refine E.call tt h_eqInt64S rfl rfl ⟨_, _, rfl, by omega, _, _, rfl, rfl, ?_⟩
    | refine E.call tt (h_eqInt64S.nilV [1, 1]) rfl rfl ⟨[], [], rfl, by decide, _, _, rfl, rfl, ?_⟩
    | refine E.call tt h_eqRibS rfl rfl ⟨_, _, rfl, by omega, _, _, rfl, rfl, ?_⟩
    | refine E.call tt (h_eqRibS.nilV [3, 3]) rfl rfl ⟨[], [], rfl, by decide, _, _, rfl, rfl, ?_⟩
    | refine E.callM tt h_markRibS rfl rfl rfl rfl rfl rfl ⟨_, _, rfl, rfl, by omega, by omega, by omega, rfl, _, rfl, by simp [mkl_length], ?_⟩
    | refine E.call tt (h_markRibSN.nilV [3]) rfl rfl ⟨_, rfl, by unfold in64; omega, _, _, rfl, rfl, ?_⟩
    | refine E.callM tt h_markInt64S rfl rfl rfl rfl rfl rfl ⟨_, _, rfl, rfl, by omega, by omega, by omega, rfl, _, rfl, by simp [mkl_length], ?_⟩
    | refine E.call tt (h_markInt64SN.nilV [1]) rfl rfl ⟨_, rfl, by unfold in64; omega, _, _, rfl, rfl, ?_⟩
    | refine E.call tt h_heldInt64S rfl rfl ⟨_, _, rfl, by omega, by omega, by omega, _, _, rfl, rfl, ?_⟩
    | refine E.call tt (h_heldInt64S.nilV [1]) rfl rfl ⟨0, _, rfl, by decide, by omega, by omega, _, _, rfl, rfl, ?_⟩)) <;> (try (conv => whnf))
      all_goals exact fin_p rfl rfl rfl rfl
    · rw [List.length_map] at hv
      subst hv
      refine E.callMX tt (b := b) (c := c) (l := (fcL xs strip saw xs.length).pl) (C := C) h_markInt64S rfl rfl hb hC.nums rfl rfl rfl ⟨(fcL xs strip saw xs.length).pl, 1, rfl, rfl, by omega, by omega, by omega, _, _, rfl, rfl, fun C' hC' => ?_⟩
      have hM := FV.marked (e := 2) (X := mrg Frag.nil X') (b := b) hC' hlm
      (repeat' ((conv => whnf); first
    | refine Sd.mk (by first | omega | (unfold in64; omega) | (simp only [fitK, in64]; omega) | (simp only [fitK, in64, chunk, List.length_map, List.length_append, List.length_replicate, List.length_set, List.length_nil, List.length_cons]; omega)) ?_
    | refine Br.yes rfl ?_
    | refine Br.no rfl ?_
    | refine Br.yes (by first | (simp only [ltB_t, ltB_f, eqB_t, eqB_f, pB_t, pB_f, sEq_t, sEq_f, emp_iff, ne_eq, List.length_map, Bool.not_eq_true, Bool.not_eq_false, Bool.not_eq_eq_eq_not, Bool.not_true, Bool.not_false]; done) | (simp only [ltB_t, ltB_f, eqB_t, eqB_f, pB_t, pB_f, sEq_t, sEq_f, emp_iff, ne_eq, List.length_map, Bool.not_eq_true, Bool.not_eq_false, Bool.not_eq_eq_eq_not, Bool.not_true, Bool.not_false]; omega) | (simp only [ltB_t, ltB_f, eqB_t, eqB_f, pB_t, pB_f, sEq_t, sEq_f, emp_iff, ne_eq, List.length_map, Bool.not_eq_true, Bool.not_eq_false, Bool.not_eq_eq_eq_not, Bool.not_true, Bool.not_false]; assumption)) ?_
    | refine Br.no (by first | (simp only [ltB_t, ltB_f, eqB_t, eqB_f, pB_t, pB_f, sEq_t, sEq_f, emp_iff, ne_eq, List.length_map, Bool.not_eq_true, Bool.not_eq_false, Bool.not_eq_eq_eq_not, Bool.not_true, Bool.not_false]; done) | (simp only [ltB_t, ltB_f, eqB_t, eqB_f, pB_t, pB_f, sEq_t, sEq_f, emp_iff, ne_eq, List.length_map, Bool.not_eq_true, Bool.not_eq_false, Bool.not_eq_eq_eq_not, Bool.not_true, Bool.not_false]; omega) | (simp only [ltB_t, ltB_f, eqB_t, eqB_f, pB_t, pB_f, sEq_t, sEq_f, emp_iff, ne_eq, List.length_map, Bool.not_eq_true, Bool.not_eq_false, Bool.not_eq_eq_eq_not, Bool.not_true, Bool.not_false]; assumption)) ?_
    | (refine Br.mk ?_ ?_ <;> intro h <;> (try simp only [ltB_t, ltB_f, eqB_t, eqB_f, pB_t, pB_f, sEq_t, sEq_f, emp_iff, ne_eq, List.length_map, Bool.not_eq_true, Bool.not_eq_false, Bool.not_eq_eq_eq_not, Bool.not_true, Bool.not_false] at h))
    | refine Elt.mk rfl ?_
    | refine Elt.mk (by assumption) ?_
    | refine Elt.mk (ixE (by omega) (by omega)) ?_
    | (refine E.call tt h_szRibS rfl rfl ⟨_, _, rfl, by omega, by assumption, by omega, by omega, fun rz hrz hrz2 => ⟨_, _, rfl, rfl, ?_⟩⟩)
    | refine E.callR tt h_FcS rfl rfl ⟨_, _, _, _, rfl, by omega, by assumption, by assumption, by assumption, .inr ⟨by assumption, .inr ⟨by assumption, .inr ⟨by assumption, rfl⟩⟩⟩, .inr (rv3 (sc_map encI_sc) rfl rfl), ?_⟩
    | refine E.callR tt h_FcS rfl rfl ⟨_, _, _, _, rfl, by omega, by assumption, by assumption, by assumption, .inr ⟨by assumption, .inr ⟨by assumption, .inl ⟨by assumption, rfl⟩⟩⟩, .inr (allSc_ok _ rfl), ?_⟩
    | refine E.callR tt h_FcS rfl rfl ⟨_, _, _, _, rfl, by omega, by assumption, by assumption, by assumption, .inr ⟨by assumption, .inl ⟨by assumption, rfl⟩⟩, .inr (allSc_ok _ rfl), ?_⟩
    | refine E.callR tt h_FcS rfl rfl ⟨_, _, _, _, rfl, by omega, by assumption, by assumption, by assumption, .inl ⟨by assumption, rfl⟩, .inr (allSc_ok _ rfl), ?_⟩
    | refine E.callR tt h_toRibS rfl rfl ⟨_, rfl, by omega, .inl rfl, ?_⟩
    | refine E.call tt h_eqInt64S rfl rfl ⟨_, _, rfl, by omega, _, _, rfl, rfl, ?_⟩
    | refine E.call tt (h_eqInt64S.nilV [1, 1]) rfl rfl ⟨[], [], rfl, by decide, _, _, rfl, rfl, ?_⟩
    | refine E.call tt h_eqRibS rfl rfl ⟨_, _, rfl, by omega, _, _, rfl, rfl, ?_⟩
    | refine E.call tt (h_eqRibS.nilV [3, 3]) rfl rfl ⟨[], [], rfl, by decide, _, _, rfl, rfl, ?_⟩
    | refine E.callM tt h_markRibS rfl rfl rfl rfl rfl rfl ⟨_, _, rfl, rfl, by omega, by omega, by omega, rfl, _, rfl, by simp [mkl_length], ?_⟩
    | refine E.call tt (h_markRibSN.nilV [3]) rfl rfl ⟨_, rfl, by unfold in64; omega, _, _, rfl, rfl, ?_⟩
    | refine E.callM tt h_markInt64S rfl rfl rfl rfl rfl rfl ⟨_, _, rfl, rfl, by omega, by omega, by omega, rfl, _, rfl, by simp [mkl_length], ?_⟩
    | refine E.call tt (h_markInt64SN.nilV [1]) rfl rfl ⟨_, rfl, by unfold in64; omega, _, _, rfl, rfl, ?_⟩
    | refine E.call tt h_heldInt64S rfl rfl ⟨_, _, rfl, by omega, by omega, by omega, _, _, rfl, rfl, ?_⟩
    | refine E.call tt (h_heldInt64S.nilV [1]) rfl rfl ⟨0, _, rfl, by decide, by omega, by omega, _, _, rfl, rfl, ?_⟩)) <;> (try (conv => whnf))
      refine E.callD tt (args := [.view 1 ((mkl mkI 1 1 (fcL xs strip saw xs.length).pl.length).map encI), I 1]) h_heldInt64S ⟨Deep.fv rfl hM, Deep.rd rfl, trivial⟩ rfl ⟨(fcL xs strip saw xs.length).pl.length, 1, rfl, by omega, by omega, by omega, _, _, rfl, rfl, ?_⟩
      (repeat' ((conv => whnf); first
    | refine Sd.mk (by first | omega | (unfold in64; omega) | (simp only [fitK, in64]; omega) | (simp only [fitK, in64, chunk, List.length_map, List.length_append, List.length_replicate, List.length_set, List.length_nil, List.length_cons]; omega)) ?_
    | refine Br.yes rfl ?_
    | refine Br.no rfl ?_
    | refine Br.yes (by first | (simp only [ltB_t, ltB_f, eqB_t, eqB_f, pB_t, pB_f, sEq_t, sEq_f, emp_iff, ne_eq, List.length_map, Bool.not_eq_true, Bool.not_eq_false, Bool.not_eq_eq_eq_not, Bool.not_true, Bool.not_false]; done) | (simp only [ltB_t, ltB_f, eqB_t, eqB_f, pB_t, pB_f, sEq_t, sEq_f, emp_iff, ne_eq, List.length_map, Bool.not_eq_true, Bool.not_eq_false, Bool.not_eq_eq_eq_not, Bool.not_true, Bool.not_false]; omega) | (simp only [ltB_t, ltB_f, eqB_t, eqB_f, pB_t, pB_f, sEq_t, sEq_f, emp_iff, ne_eq, List.length_map, Bool.not_eq_true, Bool.not_eq_false, Bool.not_eq_eq_eq_not, Bool.not_true, Bool.not_false]; assumption)) ?_
    | refine Br.no (by first | (simp only [ltB_t, ltB_f, eqB_t, eqB_f, pB_t, pB_f, sEq_t, sEq_f, emp_iff, ne_eq, List.length_map, Bool.not_eq_true, Bool.not_eq_false, Bool.not_eq_eq_eq_not, Bool.not_true, Bool.not_false]; done) | (simp only [ltB_t, ltB_f, eqB_t, eqB_f, pB_t, pB_f, sEq_t, sEq_f, emp_iff, ne_eq, List.length_map, Bool.not_eq_true, Bool.not_eq_false, Bool.not_eq_eq_eq_not, Bool.not_true, Bool.not_false]; omega) | (simp only [ltB_t, ltB_f, eqB_t, eqB_f, pB_t, pB_f, sEq_t, sEq_f, emp_iff, ne_eq, List.length_map, Bool.not_eq_true, Bool.not_eq_false, Bool.not_eq_eq_eq_not, Bool.not_true, Bool.not_false]; assumption)) ?_
    | (refine Br.mk ?_ ?_ <;> intro h <;> (try simp only [ltB_t, ltB_f, eqB_t, eqB_f, pB_t, pB_f, sEq_t, sEq_f, emp_iff, ne_eq, List.length_map, Bool.not_eq_true, Bool.not_eq_false, Bool.not_eq_eq_eq_not, Bool.not_true, Bool.not_false] at h))
    | refine Elt.mk rfl ?_
    | refine Elt.mk (by assumption) ?_
    | refine Elt.mk (ixE (by omega) (by omega)) ?_
    | refine E.callY0 tt h_FcI rfl rfl ⟨rfl, rfl, _, _, _, rfl, by omega, by assumption, by assumption, by assumption, .inr ⟨hB, .inr ⟨hR, .inr ⟨hL, fun v2 X2 hF2 hdis2 => ?_⟩⟩⟩⟩
    | (refine E.call tt h_szRibS rfl rfl ⟨_, _, rfl, by omega, by assumption, by omega, by omega, fun rz hrz hrz2 => ⟨_, _, rfl, rfl, ?_⟩⟩)
    | refine E.callR tt h_FcS rfl rfl ⟨_, _, _, _, rfl, by omega, by assumption, by assumption, by assumption, .inr ⟨by assumption, .inr ⟨by assumption, .inr ⟨by assumption, rfl⟩⟩⟩, .inr (rv3 (sc_map encI_sc) rfl rfl), ?_⟩
    | refine E.callR tt h_FcS rfl rfl ⟨_, _, _, _, rfl, by omega, by assumption, by assumption, by assumption, .inr ⟨by assumption, .inr ⟨by assumption, .inl ⟨by assumption, rfl⟩⟩⟩, .inr (allSc_ok _ rfl), ?_⟩
    | refine E.callR tt h_FcS rfl rfl ⟨_, _, _, _, rfl, by omega, by assumption, by assumption, by assumption, .inr ⟨by assumption, .inl ⟨by assumption, rfl⟩⟩, .inr (allSc_ok _ rfl), ?_⟩
    | refine E.callR tt h_FcS rfl rfl ⟨_, _, _, _, rfl, by omega, by assumption, by assumption, by assumption, .inl ⟨by assumption, rfl⟩, .inr (allSc_ok _ rfl), ?_⟩
    | refine E.callR tt h_toRibS rfl rfl ⟨_, rfl, by omega, .inl rfl, ?_⟩
    | refine E.call tt h_eqInt64S rfl rfl ⟨_, _, rfl, by omega, _, _, rfl, rfl, ?_⟩
    | refine E.call tt (h_eqInt64S.nilV [1, 1]) rfl rfl ⟨[], [], rfl, by decide, _, _, rfl, rfl, ?_⟩
    | refine E.call tt h_eqRibS rfl rfl ⟨_, _, rfl, by omega, _, _, rfl, rfl, ?_⟩
    | refine E.call tt (h_eqRibS.nilV [3, 3]) rfl rfl ⟨[], [], rfl, by decide, _, _, rfl, rfl, ?_⟩
    | refine E.callM tt h_markRibS rfl rfl rfl rfl rfl rfl ⟨_, _, rfl, rfl, by omega, by omega, by omega, rfl, _, rfl, by simp [mkl_length], ?_⟩
    | refine E.call tt (h_markRibSN.nilV [3]) rfl rfl ⟨_, rfl, by unfold in64; omega, _, _, rfl, rfl, ?_⟩
    | refine E.callM tt h_markInt64S rfl rfl rfl rfl rfl rfl ⟨_, _, rfl, rfl, by omega, by omega, by omega, rfl, _, rfl, by simp [mkl_length], ?_⟩
    | refine E.call tt (h_markInt64SN.nilV [1]) rfl rfl ⟨_, rfl, by unfold in64; omega, _, _, rfl, rfl, ?_⟩
    | refine E.call tt h_heldInt64S rfl rfl ⟨_, _, rfl, by omega, by omega, by omega, _, _, rfl, rfl, ?_⟩
    | refine E.call tt (h_heldInt64S.nilV [1]) rfl rfl ⟨0, _, rfl, by decide, by omega, by omega, _, _, rfl, rfl, ?_⟩)) <;> (try (conv => whnf))
      refine E.callD tt (args := [.view 1 ((fcL xs strip saw xs.length).pl.map encI), .view 1 ((fcL xs strip saw xs.length).pl.map encI)]) h_eqInt64S ⟨Deep.fv rfl hF2.mrgR, Deep.rd rfl, trivial⟩ rfl ⟨_, _, rfl, by omega, _, _, rfl, rfl, ?_⟩
      (repeat' ((conv => whnf); first
    | refine Sd.mk (by first | omega | (unfold in64; omega) | (simp only [fitK, in64]; omega) | (simp only [fitK, in64, chunk, List.length_map, List.length_append, List.length_replicate, List.length_set, List.length_nil, List.length_cons]; omega)) ?_
    | refine Br.yes rfl ?_
    | refine Br.no rfl ?_
    | refine Br.yes (by first | (simp only [ltB_t, ltB_f, eqB_t, eqB_f, pB_t, pB_f, sEq_t, sEq_f, emp_iff, ne_eq, List.length_map, Bool.not_eq_true, Bool.not_eq_false, Bool.not_eq_eq_eq_not, Bool.not_true, Bool.not_false]; done) | (simp only [ltB_t, ltB_f, eqB_t, eqB_f, pB_t, pB_f, sEq_t, sEq_f, emp_iff, ne_eq, List.length_map, Bool.not_eq_true, Bool.not_eq_false, Bool.not_eq_eq_eq_not, Bool.not_true, Bool.not_false]; omega) | (simp only [ltB_t, ltB_f, eqB_t, eqB_f, pB_t, pB_f, sEq_t, sEq_f, emp_iff, ne_eq, List.length_map, Bool.not_eq_true, Bool.not_eq_false, Bool.not_eq_eq_eq_not, Bool.not_true, Bool.not_false]; assumption)) ?_
    | refine Br.no (by first | (simp only [ltB_t, ltB_f, eqB_t, eqB_f, pB_t, pB_f, sEq_t, sEq_f, emp_iff, ne_eq, List.length_map, Bool.not_eq_true, Bool.not_eq_false, Bool.not_eq_eq_eq_not, Bool.not_true, Bool.not_false]; done) | (simp only [ltB_t, ltB_f, eqB_t, eqB_f, pB_t, pB_f, sEq_t, sEq_f, emp_iff, ne_eq, List.length_map, Bool.not_eq_true, Bool.not_eq_false, Bool.not_eq_eq_eq_not, Bool.not_true, Bool.not_false]; omega) | (simp only [ltB_t, ltB_f, eqB_t, eqB_f, pB_t, pB_f, sEq_t, sEq_f, emp_iff, ne_eq, List.length_map, Bool.not_eq_true, Bool.not_eq_false, Bool.not_eq_eq_eq_not, Bool.not_true, Bool.not_false]; assumption)) ?_
    | (refine Br.mk ?_ ?_ <;> intro h <;> (try simp only [ltB_t, ltB_f, eqB_t, eqB_f, pB_t, pB_f, sEq_t, sEq_f, emp_iff, ne_eq, List.length_map, Bool.not_eq_true, Bool.not_eq_false, Bool.not_eq_eq_eq_not, Bool.not_true, Bool.not_false] at h))
    | refine Elt.mk rfl ?_
    | refine Elt.mk (by assumption) ?_
    | refine Elt.mk (ixE (by omega) (by omega)) ?_
    | (refine E.call tt h_szRibS rfl rfl ⟨_, _, rfl, by omega, by assumption, by omega, by omega, fun rz hrz hrz2 => ⟨_, _, rfl, rfl, ?_⟩⟩)
    | refine E.callR tt h_FcS rfl rfl ⟨_, _, _, _, rfl, by omega, by assumption, by assumption, by assumption, .inr ⟨by assumption, .inr ⟨by assumption, .inr ⟨by assumption, rfl⟩⟩⟩, .inr (rv3 (sc_map encI_sc) rfl rfl), ?_⟩
    | refine E.callR tt h_FcS rfl rfl ⟨_, _, _, _, rfl, by omega, by assumption, by assumption, by assumption, .inr ⟨by assumption, .inr ⟨by assumption, .inl ⟨by assumption, rfl⟩⟩⟩, .inr (allSc_ok _ rfl), ?_⟩
    | refine E.callR tt h_FcS rfl rfl ⟨_, _, _, _, rfl, by omega, by assumption, by assumption, by assumption, .inr ⟨by assumption, .inl ⟨by assumption, rfl⟩⟩, .inr (allSc_ok _ rfl), ?_⟩
    | refine E.callR tt h_FcS rfl rfl ⟨_, _, _, _, rfl, by omega, by assumption, by assumption, by assumption, .inl ⟨by assumption, rfl⟩, .inr (allSc_ok _ rfl), ?_⟩
    | refine E.callR tt h_toRibS rfl rfl ⟨_, rfl, by omega, .inl rfl, ?_⟩
    | refine E.call tt h_eqInt64S rfl rfl ⟨_, _, rfl, by omega, _, _, rfl, rfl, ?_⟩
    | refine E.call tt (h_eqInt64S.nilV [1, 1]) rfl rfl ⟨[], [], rfl, by decide, _, _, rfl, rfl, ?_⟩
    | refine E.call tt h_eqRibS rfl rfl ⟨_, _, rfl, by omega, _, _, rfl, rfl, ?_⟩
    | refine E.call tt (h_eqRibS.nilV [3, 3]) rfl rfl ⟨[], [], rfl, by decide, _, _, rfl, rfl, ?_⟩
    | refine E.callM tt h_markRibS rfl rfl rfl rfl rfl rfl ⟨_, _, rfl, rfl, by omega, by omega, by omega, rfl, _, rfl, by simp [mkl_length], ?_⟩
    | refine E.call tt (h_markRibSN.nilV [3]) rfl rfl ⟨_, rfl, by unfold in64; omega, _, _, rfl, rfl, ?_⟩
    | refine E.callM tt h_markInt64S rfl rfl rfl rfl rfl rfl ⟨_, _, rfl, rfl, by omega, by omega, by omega, rfl, _, rfl, by simp [mkl_length], ?_⟩
    | refine E.call tt (h_markInt64SN.nilV [1]) rfl rfl ⟨_, rfl, by unfold in64; omega, _, _, rfl, rfl, ?_⟩
    | refine E.call tt h_heldInt64S rfl rfl ⟨_, _, rfl, by omega, by omega, by omega, _, _, rfl, rfl, ?_⟩
    | refine E.call tt (h_heldInt64S.nilV [1]) rfl rfl ⟨0, _, rfl, by decide, by omega, by omega, _, _, rfl, rfl, ?_⟩)) <;> (try (conv => whnf))
      refine E.callD tt (args := [.view 1 ((mkl mkI 1 1 (fcL xs strip saw xs.length).pl.length).map encI), I 1]) h_heldInt64S ⟨Deep.fv rfl (hM.mrgL hdis2), Deep.rd rfl, trivial⟩ rfl ⟨(fcL xs strip saw xs.length).pl.length, 1, rfl, by omega, by omega, by omega, _, _, rfl, rfl, ?_⟩
      (repeat' ((conv => whnf); first
    | refine Sd.mk (by first | omega | (unfold in64; omega) | (simp only [fitK, in64]; omega) | (simp only [fitK, in64, chunk, List.length_map, List.length_append, List.length_replicate, List.length_set, List.length_nil, List.length_cons]; omega)) ?_
    | refine Br.yes rfl ?_
    | refine Br.no rfl ?_
    | refine Br.yes (by first | (simp only [ltB_t, ltB_f, eqB_t, eqB_f, pB_t, pB_f, sEq_t, sEq_f, emp_iff, ne_eq, List.length_map, Bool.not_eq_true, Bool.not_eq_false, Bool.not_eq_eq_eq_not, Bool.not_true, Bool.not_false]; done) | (simp only [ltB_t, ltB_f, eqB_t, eqB_f, pB_t, pB_f, sEq_t, sEq_f, emp_iff, ne_eq, List.length_map, Bool.not_eq_true, Bool.not_eq_false, Bool.not_eq_eq_eq_not, Bool.not_true, Bool.not_false]; omega) | (simp only [ltB_t, ltB_f, eqB_t, eqB_f, pB_t, pB_f, sEq_t, sEq_f, emp_iff, ne_eq, List.length_map, Bool.not_eq_true, Bool.not_eq_false, Bool.not_eq_eq_eq_not, Bool.not_true, Bool.not_false]; assumption)) ?_
    | refine Br.no (by first | (simp only [ltB_t, ltB_f, eqB_t, eqB_f, pB_t, pB_f, sEq_t, sEq_f, emp_iff, ne_eq, List.length_map, Bool.not_eq_true, Bool.not_eq_false, Bool.not_eq_eq_eq_not, Bool.not_true, Bool.not_false]; done) | (simp only [ltB_t, ltB_f, eqB_t, eqB_f, pB_t, pB_f, sEq_t, sEq_f, emp_iff, ne_eq, List.length_map, Bool.not_eq_true, Bool.not_eq_false, Bool.not_eq_eq_eq_not, Bool.not_true, Bool.not_false]; omega) | (simp only [ltB_t, ltB_f, eqB_t, eqB_f, pB_t, pB_f, sEq_t, sEq_f, emp_iff, ne_eq, List.length_map, Bool.not_eq_true, Bool.not_eq_false, Bool.not_eq_eq_eq_not, Bool.not_true, Bool.not_false]; assumption)) ?_
    | (refine Br.mk ?_ ?_ <;> intro h <;> (try simp only [ltB_t, ltB_f, eqB_t, eqB_f, pB_t, pB_f, sEq_t, sEq_f, emp_iff, ne_eq, List.length_map, Bool.not_eq_true, Bool.not_eq_false, Bool.not_eq_eq_eq_not, Bool.not_true, Bool.not_false] at h))
    | refine Elt.mk rfl ?_
    | refine Elt.mk (by assumption) ?_
    | refine Elt.mk (ixE (by omega) (by omega)) ?_
    | (refine E.call tt h_szRibS rfl rfl ⟨_, _, rfl, by omega, by assumption, by omega, by omega, fun rz hrz hrz2 => ⟨_, _, rfl, rfl, ?_⟩⟩)
    | refine E.callR tt h_FcS rfl rfl ⟨_, _, _, _, rfl, by omega, by assumption, by assumption, by assumption, .inr ⟨by assumption, .inr ⟨by assumption, .inr ⟨by assumption, rfl⟩⟩⟩, .inr (rv3 (sc_map encI_sc) rfl rfl), ?_⟩
    | refine E.callR tt h_FcS rfl rfl ⟨_, _, _, _, rfl, by omega, by assumption, by assumption, by assumption, .inr ⟨by assumption, .inr ⟨by assumption, .inl ⟨by assumption, rfl⟩⟩⟩, .inr (allSc_ok _ rfl), ?_⟩
    | refine E.callR tt h_FcS rfl rfl ⟨_, _, _, _, rfl, by omega, by assumption, by assumption, by assumption, .inr ⟨by assumption, .inl ⟨by assumption, rfl⟩⟩, .inr (allSc_ok _ rfl), ?_⟩
    | refine E.callR tt h_FcS rfl rfl ⟨_, _, _, _, rfl, by omega, by assumption, by assumption, by assumption, .inl ⟨by assumption, rfl⟩, .inr (allSc_ok _ rfl), ?_⟩
    | refine E.callR tt h_toRibS rfl rfl ⟨_, rfl, by omega, .inl rfl, ?_⟩
    | refine E.call tt h_eqInt64S rfl rfl ⟨_, _, rfl, by omega, _, _, rfl, rfl, ?_⟩
    | refine E.call tt (h_eqInt64S.nilV [1, 1]) rfl rfl ⟨[], [], rfl, by decide, _, _, rfl, rfl, ?_⟩
    | refine E.call tt h_eqRibS rfl rfl ⟨_, _, rfl, by omega, _, _, rfl, rfl, ?_⟩
    | refine E.call tt (h_eqRibS.nilV [3, 3]) rfl rfl ⟨[], [], rfl, by decide, _, _, rfl, rfl, ?_⟩
    | refine E.callM tt h_markRibS rfl rfl rfl rfl rfl rfl ⟨_, _, rfl, rfl, by omega, by omega, by omega, rfl, _, rfl, by simp [mkl_length], ?_⟩
    | refine E.call tt (h_markRibSN.nilV [3]) rfl rfl ⟨_, rfl, by unfold in64; omega, _, _, rfl, rfl, ?_⟩
    | refine E.callM tt h_markInt64S rfl rfl rfl rfl rfl rfl ⟨_, _, rfl, rfl, by omega, by omega, by omega, rfl, _, rfl, by simp [mkl_length], ?_⟩
    | refine E.call tt (h_markInt64SN.nilV [1]) rfl rfl ⟨_, rfl, by unfold in64; omega, _, _, rfl, rfl, ?_⟩
    | refine E.call tt h_heldInt64S rfl rfl ⟨_, _, rfl, by omega, by omega, by omega, _, _, rfl, rfl, ?_⟩
    | refine E.call tt (h_heldInt64S.nilV [1]) rfl rfl ⟨0, _, rfl, by decide, by omega, by omega, _, _, rfl, rfl, ?_⟩)) <;> (try (conv => whnf))
      all_goals exact fin_p rfl rfl rfl rfl

end Go.Proofs.Ythjbcgdmdmfijaa
