/- The law FnExactAgrees: contracts of the functions that it reaches, and its own. -/
import Derived.Test.YtpgobcimkbffpaaPap
set_option linter.unusedVariables false
set_option linter.unusedSimpArgs false
set_option maxRecDepth 100000
namespace Go.Lo
-- deps: Pap
end Go.Lo
namespace Go.Proofs.Ytpgobcimkbffpaa
open Go.Lo
attribute [local irreducible] W Wc

theorem h_AgS : Holds Try.prog 30 (fun args K => ∃ (xs : List D.Paper) (l : List Int), args = [.view 5 (xs.map D.Paper.enc), .view 1 (l.map encI)] ∧ (xs.length : Int) ≤ 1048576 ∧ (∀ x ∈ xs, x.ok) ∧ (l.length : Int) ≤ 1048576 ∧ K [.p (.bool (pB (PapersOk xs ∧ AgP xs l)))]) := by
  refine E.mk tt Try.func30 rfl Try.ntmps30 rfl (by kernel_rfl) ?_
  rintro _ K ⟨xs, l, rfl, hl, hok, hl2, hK⟩
  refine ⟨Nat.le_of_ble_eq_true rfl, _, hK, ?_⟩
  have hln2 : ((xs.map D.Paper.enc).length : Int) = xs.length := by simp
  (repeat' ((conv => whnf); first
    | refine Sd.mk (by first | omega | (unfold in64; omega) | (simp only [fitK, in64]; omega) | (simp only [fitK, in64, chunk, List.length_map, List.length_append, List.length_replicate, List.length_set, List.length_nil, List.length_cons]; omega)) ?_
    | refine Br.yes rfl ?_
    | refine Br.no rfl ?_
    | refine Br.yes (by first | (simp only [ltB_t, ltB_f, eqB_t, eqB_f, pB_t, pB_f, sEq_t, sEq_f, emp_iff, ne_eq, List.length_map, Bool.not_eq_true, Bool.not_eq_false, Bool.not_eq_eq_eq_not, Bool.not_true, Bool.not_false]; done) | (simp only [ltB_t, ltB_f, eqB_t, eqB_f, pB_t, pB_f, sEq_t, sEq_f, emp_iff, ne_eq, List.length_map, Bool.not_eq_true, Bool.not_eq_false, Bool.not_eq_eq_eq_not, Bool.not_true, Bool.not_false]; omega) | (simp only [ltB_t, ltB_f, eqB_t, eqB_f, pB_t, pB_f, sEq_t, sEq_f, emp_iff, ne_eq, List.length_map, Bool.not_eq_true, Bool.not_eq_false, Bool.not_eq_eq_eq_not, Bool.not_true, Bool.not_false]; assumption)) ?_
    | refine Br.no (by first | (simp only [ltB_t, ltB_f, eqB_t, eqB_f, pB_t, pB_f, sEq_t, sEq_f, emp_iff, ne_eq, List.length_map, Bool.not_eq_true, Bool.not_eq_false, Bool.not_eq_eq_eq_not, Bool.not_true, Bool.not_false]; done) | (simp only [ltB_t, ltB_f, eqB_t, eqB_f, pB_t, pB_f, sEq_t, sEq_f, emp_iff, ne_eq, List.length_map, Bool.not_eq_true, Bool.not_eq_false, Bool.not_eq_eq_eq_not, Bool.not_true, Bool.not_false]; omega) | (simp only [ltB_t, ltB_f, eqB_t, eqB_f, pB_t, pB_f, sEq_t, sEq_f, emp_iff, ne_eq, List.length_map, Bool.not_eq_true, Bool.not_eq_false, Bool.not_eq_eq_eq_not, Bool.not_true, Bool.not_false]; assumption)) ?_
    | (refine Br.mk ?_ ?_ <;> intro h <;> (try simp only [ltB_t, ltB_f, eqB_t, eqB_f, pB_t, pB_f, sEq_t, sEq_f, emp_iff, ne_eq, List.length_map, Bool.not_eq_true, Bool.not_eq_false, Bool.not_eq_eq_eq_not, Bool.not_true, Bool.not_false] at h))
    | refine Elt.mk rfl ?_
    | refine Elt.mk (by assumption) ?_
    | refine Elt.mk (ixE (by omega) (by omega)) ?_
    | refine E.call tt h_l20Agrees rfl rfl ⟨_, _, rfl, by omega, by rw [← hln2]; assumption, _, _, rfl, rfl, ?_⟩
    | refine E.call tt h_okPaper rfl rfl ⟨_, rfl, by first | omega | (simp only [List.length_map]; omega), by assumption, _, _, rfl, rfl, ?_⟩
    | refine E.call tt h_l00Rises rfl rfl ⟨_, _, _, rfl, by omega, _, _, rfl, rfl, ?_⟩
    | refine E.call tt h_l20Agrees rfl rfl ⟨_, _, rfl, by omega, by first | assumption | (simp only [List.length_map] at *; assumption), _, _, rfl, rfl, ?_⟩)) <;> (try (conv => whnf))
  all_goals (refine fin_pB rfl rfl rfl ?_; simp only [ltB_t, ltB_f, eqB_t, eqB_f, pB_t, pB_f, sEq_t, sEq_f, emp_iff, ne_eq, List.length_map, Bool.not_eq_true, Bool.not_eq_false, Bool.not_eq_eq_eq_not, Bool.not_true, Bool.not_false, true_iff, false_iff, Bool.false_eq_true, iff_true, iff_false, and_true, true_and, not_false_eq_true]; unfold AgP; simp_all)

set_option maxHeartbeats 4000000 in
theorem h_lawAgrees : Holds Try.prog 5 (fun args K => ∃ (a0 : List D.Paper) (a1 : List Int), args = [.view 5 (a0.map D.Paper.enc), .view 1 (a1.map encI)] ∧ ((a0.length : Int) ≤ 9223372036854775807 ∧ (∀ x ∈ a0, x.ok)) ∧ ((a1.length : Int) ≤ 9223372036854775807 ∧ (∀ x ∈ a1, in64 x)) ∧ K [.p (.bool true)]) := by
  refine E.mk tt Try.func5 rfl Try.ntmps5 rfl (by kernel_rfl) ?_
  rintro _ K ⟨xs, l, rfl, ⟨hl, hok⟩, ⟨hl2, hok2⟩, hK⟩
  refine ⟨Nat.le_of_ble_eq_true rfl, _, hK, ?_⟩
  (repeat' ((conv => whnf); first
    | refine Br.no (bne_self_eq_false _) ?_
    | refine Sd.mk (by first | omega | (unfold in64; omega) | (simp only [fitK, in64]; omega) | (simp only [fitK, in64, chunk, List.length_map, List.length_append, List.length_replicate, List.length_set, List.length_nil, List.length_cons]; omega)) ?_
    | refine Br.yes rfl ?_
    | refine Br.no rfl ?_
    | refine Br.yes (by first | (simp only [ltB_t, ltB_f, eqB_t, eqB_f, pB_t, pB_f, sEq_t, sEq_f, emp_iff, ne_eq, List.length_map, Bool.not_eq_true, Bool.not_eq_false, Bool.not_eq_eq_eq_not, Bool.not_true, Bool.not_false]; done) | (simp only [ltB_t, ltB_f, eqB_t, eqB_f, pB_t, pB_f, sEq_t, sEq_f, emp_iff, ne_eq, List.length_map, Bool.not_eq_true, Bool.not_eq_false, Bool.not_eq_eq_eq_not, Bool.not_true, Bool.not_false]; omega) | (simp only [ltB_t, ltB_f, eqB_t, eqB_f, pB_t, pB_f, sEq_t, sEq_f, emp_iff, ne_eq, List.length_map, Bool.not_eq_true, Bool.not_eq_false, Bool.not_eq_eq_eq_not, Bool.not_true, Bool.not_false]; assumption)) ?_
    | refine Br.no (by first | (simp only [ltB_t, ltB_f, eqB_t, eqB_f, pB_t, pB_f, sEq_t, sEq_f, emp_iff, ne_eq, List.length_map, Bool.not_eq_true, Bool.not_eq_false, Bool.not_eq_eq_eq_not, Bool.not_true, Bool.not_false]; done) | (simp only [ltB_t, ltB_f, eqB_t, eqB_f, pB_t, pB_f, sEq_t, sEq_f, emp_iff, ne_eq, List.length_map, Bool.not_eq_true, Bool.not_eq_false, Bool.not_eq_eq_eq_not, Bool.not_true, Bool.not_false]; omega) | (simp only [ltB_t, ltB_f, eqB_t, eqB_f, pB_t, pB_f, sEq_t, sEq_f, emp_iff, ne_eq, List.length_map, Bool.not_eq_true, Bool.not_eq_false, Bool.not_eq_eq_eq_not, Bool.not_true, Bool.not_false]; assumption)) ?_
    | (refine Br.mk ?_ ?_ <;> intro h <;> (try simp only [ltB_t, ltB_f, eqB_t, eqB_f, pB_t, pB_f, sEq_t, sEq_f, emp_iff, ne_eq, List.length_map, Bool.not_eq_true, Bool.not_eq_false, Bool.not_eq_eq_eq_not, Bool.not_true, Bool.not_false] at h))
    | refine Elt.mk rfl ?_
    | refine Elt.mk (by assumption) ?_
    | refine Elt.mk (ixE (by omega) (by omega)) ?_
    | refine E.read tt (rd_bneq Try.underlying4 rfl rfl) rfl ?_
    | refine E.callR tt h_toInt64S rfl rfl ⟨_, rfl, by omega, .inl rfl, ?_⟩
    | refine E.call tt h_eqInt64S rfl rfl ⟨_, _, rfl, by omega, _, _, rfl, rfl, ?_⟩
    | refine E.call tt (h_eqInt64S.nilV [1, 1]) rfl rfl ⟨[], [], rfl, by decide, _, _, rfl, rfl, ?_⟩
    | (refine E.call tt h_szPaperS rfl rfl ⟨_, _, rfl, by omega, by assumption, by omega, by omega, fun rz hrz hrz2 => ⟨_, _, rfl, rfl, ?_⟩⟩)
    | refine E.call tt h_AgS rfl rfl ⟨_, _, rfl, by omega, by assumption, by omega, _, _, rfl, rfl, ?_⟩
    | refine E.callR tt h_toPaperS rfl rfl ⟨_, rfl, by omega, .inl rfl, ?_⟩
    | refine E.call tt h_AgI rfl rfl ⟨_, _, rfl, by omega, by assumption, by omega, _, _, rfl, rfl, ?_⟩
    | refine E.call tt h_eqPaperS rfl rfl ⟨_, _, rfl, by omega, _, _, rfl, rfl, ?_⟩
    | refine E.call tt (h_eqPaperS.nilV [5, 5]) rfl rfl ⟨[], [], rfl, by decide, _, _, rfl, rfl, ?_⟩)) <;> (try (conv => whnf))
  all_goals exact fin_p rfl rfl rfl rfl

end Go.Proofs.Ytpgobcimkbffpaa
