/- The law FnExactClampsUsed: contracts of the functions that it reaches, and its own. -/
import Derived.Test.YtpgobcimkbffpaaStp
set_option linter.unusedVariables false
set_option linter.unusedSimpArgs false
set_option maxRecDepth 100000
namespace Go.Lo
-- deps: Stp
def cCu : Ct := fun args K => ∃ (xs : List D.Step) (l : List Int) (h : Int) (rs : RV), args = [.view 4 (xs.map D.Step.enc), .view 1 (l.map encI), I h] ∧ (xs.length : Int) ≤ 1048576 ∧ (l.length : Int) ≤ 1048576 ∧ (∀ x ∈ xs, x.okS) ∧
  spec3 (StepsOk xs) (0 ≤ h ∧ h ≤ 1000000000000) (StartsOk xs.length l) [.p (I 0), .p (I 1)] [.p (I 0), .p (I 2)] [.p (I 0), .p (I 7)] [.p (I (usL xs l h l.length)), .p (I 0)] rs ∧ K rs
end Go.Lo
namespace Go.Proofs.Ytpgobcimkbffpaa
open Go.Lo
attribute [local irreducible] W Wc

theorem h_CuS : Holds Try.prog 71 cCu := by
  refine E.mk tt Try.func71 rfl Try.ntmps71 rfl (by kernel_rfl) ?_
  rintro _ K ⟨xs, l, h0, rs, rfl, hx, hl, hok, ⟨hB, rfl⟩ | ⟨hB, ⟨hR, rfl⟩ | ⟨hR, ⟨hT, rfl⟩ | ⟨hT, rfl⟩⟩⟩, hK⟩
  all_goals refine ⟨Nat.le_of_ble_eq_true rfl, _, hK, ?_⟩
  all_goals ((repeat' ((conv => whnf); first
    | refine Sd.mk (by first | omega | (unfold in64; omega) | (simp only [fitK, in64]; omega) | (simp only [fitK, in64, chunk, List.length_map, List.length_append, List.length_replicate, List.length_set, List.length_nil, List.length_cons]; omega)) ?_
    | refine Br.yes rfl ?_
    | refine Br.no rfl ?_
    | refine Br.yes (by first | (simp only [ltB_t, ltB_f, eqB_t, eqB_f, pB_t, pB_f, sEq_t, sEq_f, emp_iff, ne_eq, List.length_map, Bool.not_eq_true, Bool.not_eq_false, Bool.not_eq_eq_eq_not, Bool.not_true, Bool.not_false]; done) | (simp only [ltB_t, ltB_f, eqB_t, eqB_f, pB_t, pB_f, sEq_t, sEq_f, emp_iff, ne_eq, List.length_map, Bool.not_eq_true, Bool.not_eq_false, Bool.not_eq_eq_eq_not, Bool.not_true, Bool.not_false]; omega) | (simp only [ltB_t, ltB_f, eqB_t, eqB_f, pB_t, pB_f, sEq_t, sEq_f, emp_iff, ne_eq, List.length_map, Bool.not_eq_true, Bool.not_eq_false, Bool.not_eq_eq_eq_not, Bool.not_true, Bool.not_false]; assumption)) ?_
    | refine Br.no (by first | (simp only [ltB_t, ltB_f, eqB_t, eqB_f, pB_t, pB_f, sEq_t, sEq_f, emp_iff, ne_eq, List.length_map, Bool.not_eq_true, Bool.not_eq_false, Bool.not_eq_eq_eq_not, Bool.not_true, Bool.not_false]; done) | (simp only [ltB_t, ltB_f, eqB_t, eqB_f, pB_t, pB_f, sEq_t, sEq_f, emp_iff, ne_eq, List.length_map, Bool.not_eq_true, Bool.not_eq_false, Bool.not_eq_eq_eq_not, Bool.not_true, Bool.not_false]; omega) | (simp only [ltB_t, ltB_f, eqB_t, eqB_f, pB_t, pB_f, sEq_t, sEq_f, emp_iff, ne_eq, List.length_map, Bool.not_eq_true, Bool.not_eq_false, Bool.not_eq_eq_eq_not, Bool.not_true, Bool.not_false]; assumption)) ?_
    | (refine Br.mk ?_ ?_ <;> intro h <;> (try simp only [ltB_t, ltB_f, eqB_t, eqB_f, pB_t, pB_f, sEq_t, sEq_f, emp_iff, ne_eq, List.length_map, Bool.not_eq_true, Bool.not_eq_false, Bool.not_eq_eq_eq_not, Bool.not_true, Bool.not_false] at h))
    | refine Elt.mk rfl ?_
    | refine Elt.mk (by assumption) ?_
    | refine Elt.mk (ixE (by omega) (by omega)) ?_
    | refine E.call tt h_l00In rfl rfl ⟨_, _, _, rfl, _, _, rfl, rfl, ?_⟩
    | refine E.call tt h_okSStep rfl rfl ⟨_, rfl, by omega, by assumption, _, _, rfl, rfl, ?_⟩
    | refine E.call tt h_startsS rfl rfl ⟨_, _, rfl, by omega, by omega, _, _, rfl, rfl, ?_⟩
    | refine E.call tt h_usedS rfl rfl ⟨_, _, _, rfl, by assumption, by assumption, by first | assumption | (unfold in64; omega), _, _, rfl, rfl, ?_⟩)) <;> (try (conv => whnf)))
  all_goals first | (exact fin_p rfl rfl rfl rfl) | (exfalso; omega)





theorem h_CuI : Holds Try.prog 73 cCu := by
  refine E.mk tt Try.func73 rfl Try.ntmps73 rfl (by kernel_rfl) ?_
  rintro _ K ⟨xs, l, h0, rs, rfl, hx, hl, hok, ⟨hB, rfl⟩ | ⟨hB, ⟨hR, rfl⟩ | ⟨hR, ⟨hT, rfl⟩ | ⟨hT, rfl⟩⟩⟩, hK⟩
  all_goals refine ⟨Nat.le_of_ble_eq_true rfl, _, hK, ?_⟩
  all_goals ((repeat' ((conv => whnf); first
    | refine Sd.mk (by first | omega | (unfold in64; omega) | (simp only [fitK, in64]; omega) | (simp only [fitK, in64, chunk, List.length_map, List.length_append, List.length_replicate, List.length_set, List.length_nil, List.length_cons]; omega)) ?_
    | refine Br.yes rfl ?_
    | refine Br.no rfl ?_
    | refine Br.yes (by first | (simp only [ltB_t, ltB_f, eqB_t, eqB_f, pB_t, pB_f, sEq_t, sEq_f, emp_iff, ne_eq, List.length_map, Bool.not_eq_true, Bool.not_eq_false, Bool.not_eq_eq_eq_not, Bool.not_true, Bool.not_false]; done) | (simp only [ltB_t, ltB_f, eqB_t, eqB_f, pB_t, pB_f, sEq_t, sEq_f, emp_iff, ne_eq, List.length_map, Bool.not_eq_true, Bool.not_eq_false, Bool.not_eq_eq_eq_not, Bool.not_true, Bool.not_false]; omega) | (simp only [ltB_t, ltB_f, eqB_t, eqB_f, pB_t, pB_f, sEq_t, sEq_f, emp_iff, ne_eq, List.length_map, Bool.not_eq_true, Bool.not_eq_false, Bool.not_eq_eq_eq_not, Bool.not_true, Bool.not_false]; assumption)) ?_
    | refine Br.no (by first | (simp only [ltB_t, ltB_f, eqB_t, eqB_f, pB_t, pB_f, sEq_t, sEq_f, emp_iff, ne_eq, List.length_map, Bool.not_eq_true, Bool.not_eq_false, Bool.not_eq_eq_eq_not, Bool.not_true, Bool.not_false]; done) | (simp only [ltB_t, ltB_f, eqB_t, eqB_f, pB_t, pB_f, sEq_t, sEq_f, emp_iff, ne_eq, List.length_map, Bool.not_eq_true, Bool.not_eq_false, Bool.not_eq_eq_eq_not, Bool.not_true, Bool.not_false]; omega) | (simp only [ltB_t, ltB_f, eqB_t, eqB_f, pB_t, pB_f, sEq_t, sEq_f, emp_iff, ne_eq, List.length_map, Bool.not_eq_true, Bool.not_eq_false, Bool.not_eq_eq_eq_not, Bool.not_true, Bool.not_false]; assumption)) ?_
    | (refine Br.mk ?_ ?_ <;> intro h <;> (try simp only [ltB_t, ltB_f, eqB_t, eqB_f, pB_t, pB_f, sEq_t, sEq_f, emp_iff, ne_eq, List.length_map, Bool.not_eq_true, Bool.not_eq_false, Bool.not_eq_eq_eq_not, Bool.not_true, Bool.not_false] at h))
    | refine Elt.mk rfl ?_
    | refine Elt.mk (by assumption) ?_
    | refine Elt.mk (ixE (by omega) (by omega)) ?_
    | refine E.call tt h_within rfl rfl ⟨_, _, _, rfl, _, _, rfl, rfl, ?_⟩
    | refine E.call tt h_okIStep rfl rfl ⟨_, rfl, by omega, by assumption, _, _, rfl, rfl, ?_⟩
    | refine E.call tt h_startsI rfl rfl ⟨_, _, rfl, by omega, by omega, _, _, rfl, rfl, ?_⟩
    | refine E.call tt h_usedI rfl rfl ⟨_, _, _, rfl, by assumption, by assumption, by first | assumption | (unfold in64; omega), _, _, rfl, rfl, ?_⟩)) <;> (try (conv => whnf)))
  all_goals first | (exact fin_p rfl rfl rfl rfl) | (exfalso; omega)





set_option maxHeartbeats 4000000 in
theorem h_lawClampsUsed : Holds Try.prog 12 (fun args K => ∃ (a0 : List D.Step) (a1 : List Int) (a2 : Int), args = [.view 4 (a0.map D.Step.enc), .view 1 (a1.map encI), I a2] ∧ ((a0.length : Int) ≤ 9223372036854775807 ∧ (∀ x ∈ a0, x.ok)) ∧ ((a1.length : Int) ≤ 9223372036854775807 ∧ (∀ x ∈ a1, in64 x)) ∧ (in64 a2) ∧ K [.p (.bool true)]) := by
  refine E.mk tt Try.func12 rfl Try.ntmps12 rfl (by kernel_rfl) ?_
  rintro _ K ⟨xs, l, h0, rfl, ⟨hx, hok⟩, ⟨hl, hlo⟩, hh, hK⟩
  refine ⟨Nat.le_of_ble_eq_true rfl, _, hK, ?_⟩
  rcases cases3 (StepsOk xs) (0 ≤ h0 ∧ h0 ≤ 1000000000000) (StartsOk xs.length l) with hB | ⟨hB, hR⟩ | ⟨hB, hR, hT⟩ | ⟨hB, hR, hT⟩
  all_goals ((repeat' ((conv => whnf); first
    | refine Sd.mk (by first | omega | (unfold in64; omega) | (simp only [fitK, in64]; omega) | (simp only [fitK, in64, chunk, List.length_map, List.length_append, List.length_replicate, List.length_set, List.length_nil, List.length_cons]; omega)) ?_
    | refine Br.yes rfl ?_
    | refine Br.no rfl ?_
    | refine Br.yes (by first | (simp only [ltB_t, ltB_f, eqB_t, eqB_f, pB_t, pB_f, sEq_t, sEq_f, emp_iff, ne_eq, List.length_map, Bool.not_eq_true, Bool.not_eq_false, Bool.not_eq_eq_eq_not, Bool.not_true, Bool.not_false]; done) | (simp only [ltB_t, ltB_f, eqB_t, eqB_f, pB_t, pB_f, sEq_t, sEq_f, emp_iff, ne_eq, List.length_map, Bool.not_eq_true, Bool.not_eq_false, Bool.not_eq_eq_eq_not, Bool.not_true, Bool.not_false]; omega) | (simp only [ltB_t, ltB_f, eqB_t, eqB_f, pB_t, pB_f, sEq_t, sEq_f, emp_iff, ne_eq, List.length_map, Bool.not_eq_true, Bool.not_eq_false, Bool.not_eq_eq_eq_not, Bool.not_true, Bool.not_false]; assumption)) ?_
    | refine Br.no (by first | (simp only [ltB_t, ltB_f, eqB_t, eqB_f, pB_t, pB_f, sEq_t, sEq_f, emp_iff, ne_eq, List.length_map, Bool.not_eq_true, Bool.not_eq_false, Bool.not_eq_eq_eq_not, Bool.not_true, Bool.not_false]; done) | (simp only [ltB_t, ltB_f, eqB_t, eqB_f, pB_t, pB_f, sEq_t, sEq_f, emp_iff, ne_eq, List.length_map, Bool.not_eq_true, Bool.not_eq_false, Bool.not_eq_eq_eq_not, Bool.not_true, Bool.not_false]; omega) | (simp only [ltB_t, ltB_f, eqB_t, eqB_f, pB_t, pB_f, sEq_t, sEq_f, emp_iff, ne_eq, List.length_map, Bool.not_eq_true, Bool.not_eq_false, Bool.not_eq_eq_eq_not, Bool.not_true, Bool.not_false]; assumption)) ?_
    | (refine Br.mk ?_ ?_ <;> intro h <;> (try simp only [ltB_t, ltB_f, eqB_t, eqB_f, pB_t, pB_f, sEq_t, sEq_f, emp_iff, ne_eq, List.length_map, Bool.not_eq_true, Bool.not_eq_false, Bool.not_eq_eq_eq_not, Bool.not_true, Bool.not_false] at h))
    | refine Elt.mk rfl ?_
    | refine Elt.mk (by assumption) ?_
    | refine Elt.mk (ixE (by omega) (by omega)) ?_
    | refine E.callR tt h_toInt64S rfl rfl ⟨_, rfl, by omega, .inl rfl, ?_⟩
    | refine E.call tt h_eqInt64S rfl rfl ⟨_, _, rfl, by omega, _, _, rfl, rfl, ?_⟩
    | refine E.call tt (h_eqInt64S.nilV [1, 1]) rfl rfl ⟨[], [], rfl, by decide, _, _, rfl, rfl, ?_⟩
    | (refine E.call tt h_szStepS rfl rfl ⟨_, _, rfl, by omega, by assumption, by omega, by omega, fun rc hrc hrc2 => ⟨_, _, rfl, rfl, ?_⟩⟩)
    | refine E.callR tt h_CuS rfl rfl ⟨_, _, _, _, rfl, by omega, by omega, fun x hx => ⟨hok x hx, (hrc2 (by omega)).2 x hx⟩, .inr ⟨by assumption, .inr ⟨by assumption, .inr ⟨by assumption, rfl⟩⟩⟩, .inr (allSc_ok _ rfl), ?_⟩
    | refine E.callR tt h_CuS rfl rfl ⟨_, _, _, _, rfl, by omega, by omega, fun x hx => ⟨hok x hx, (hrc2 (by omega)).2 x hx⟩, .inr ⟨by assumption, .inr ⟨by assumption, .inl ⟨by assumption, rfl⟩⟩⟩, .inr (allSc_ok _ rfl), ?_⟩
    | refine E.callR tt h_CuS rfl rfl ⟨_, _, _, _, rfl, by omega, by omega, fun x hx => ⟨hok x hx, (hrc2 (by omega)).2 x hx⟩, .inr ⟨by assumption, .inl ⟨by assumption, rfl⟩⟩, .inr (allSc_ok _ rfl), ?_⟩
    | refine E.callR tt h_CuS rfl rfl ⟨_, _, _, _, rfl, by omega, by omega, fun x hx => ⟨hok x hx, (hrc2 (by omega)).2 x hx⟩, .inl ⟨by assumption, rfl⟩, .inr (allSc_ok _ rfl), ?_⟩
    | refine E.callR tt h_toStepS rfl rfl ⟨_, rfl, by omega, by first | assumption | exact (hrc2 (by omega)).2, .inl rfl, ?_⟩
    | refine E.callR tt h_CuI rfl rfl ⟨_, _, _, _, rfl, by omega, by omega, fun x hx => ⟨hok x hx, (hrc2 (by omega)).2 x hx⟩, .inr ⟨by assumption, .inr ⟨by assumption, .inr ⟨by assumption, rfl⟩⟩⟩, .inr (allSc_ok _ rfl), ?_⟩
    | refine E.callR tt h_CuI rfl rfl ⟨_, _, _, _, rfl, by omega, by omega, fun x hx => ⟨hok x hx, (hrc2 (by omega)).2 x hx⟩, .inr ⟨by assumption, .inr ⟨by assumption, .inl ⟨by assumption, rfl⟩⟩⟩, .inr (allSc_ok _ rfl), ?_⟩
    | refine E.callR tt h_CuI rfl rfl ⟨_, _, _, _, rfl, by omega, by omega, fun x hx => ⟨hok x hx, (hrc2 (by omega)).2 x hx⟩, .inr ⟨by assumption, .inl ⟨by assumption, rfl⟩⟩, .inr (allSc_ok _ rfl), ?_⟩
    | refine E.callR tt h_CuI rfl rfl ⟨_, _, _, _, rfl, by omega, by omega, fun x hx => ⟨hok x hx, (hrc2 (by omega)).2 x hx⟩, .inl ⟨by assumption, rfl⟩, .inr (allSc_ok _ rfl), ?_⟩
    | refine E.call tt h_eqStepS rfl rfl ⟨_, _, rfl, by omega, by first | assumption | exact (hrc2 (by omega)).2, _, _, rfl, rfl, ?_⟩)) <;> (try (conv => whnf)))
  all_goals exact fin_p rfl rfl rfl rfl

end Go.Proofs.Ytpgobcimkbffpaa
