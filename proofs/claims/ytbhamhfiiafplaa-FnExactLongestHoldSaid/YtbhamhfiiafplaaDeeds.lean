/- Contracts (Deeds). -/
import Derived.Test.YtbhamhfiiafplaaTyDeed
import Derived.Test.YtbhamhfiiafplaaAr
set_option linter.unusedVariables false
set_option linter.unusedSimpArgs false
set_option maxRecDepth 100000
namespace Go.Lo
-- deps: TyDeed Ar
def ChainC (xs : List D.Deed) (ch : List Int) (i : Int) : Prop := (0 ≤ ix ch i ∧ ix ch i < xs.length) ∧ (0 < i → ix ch (i - 1) < ix ch i ∧ (ix xs (ix ch (i - 1))).To = (ix xs (ix ch i)).From)
def ChainOk (xs : List D.Deed) (ch : List Int) : Prop := allTo (ChainC xs ch) ch.length ∧ 0 < (ch.length : Int)
def LinkC (xs : List D.Deed) (ch : List Int) (i : Int) : Prop := 0 < i → (ix xs (ix ch (i - 1))).To = (ix xs (ix ch i)).From
theorem chain_iff {xs : List D.Deed} {ch : List Int} (h : RisesP ch 0 (xs.length - 1)) : allTo (LinkC xs ch) ch.length ↔ allTo (ChainC xs ch) ch.length := by
  constructor
  · intro hl i h0 h1
    have hr := h i h0 h1
    unfold RisesC at hr
    exact ⟨by omega, fun hi => ⟨hr.2 hi, hl i h0 h1 hi⟩⟩
  · intro hc i h0 h1 hi
    exact ((hc i h0 h1).2 hi).2
theorem chain_rises {xs : List D.Deed} {ch : List Int} (h : ChainOk xs ch) : RisesP ch 0 (xs.length - 1) := fun i h0 h1 => by
  have := h.1 i h0 h1
  unfold ChainC at this
  exact ⟨by omega, fun hi => (this.2 hi).1⟩
def cChain : Ct := fun args K => ∃ (xs : List D.Deed) (ch : List Int), args = [.view 4 (xs.map D.Deed.enc), .view 1 (ch.map encI)] ∧ (xs.length : Int) ≤ 1048576 ∧ (ch.length : Int) ≤ 1048576 ∧ K [.p (.bool (pB (ChainOk xs ch)))]
end Go.Lo
namespace Go.Proofs.Ytbhamhfiiafplaa
open Go.Lo
attribute [local irreducible] W Wc

theorem h_chainS : Holds Try.prog 96 cChain := by
  refine E.mk tt Try.func96 rfl Try.ntmps96 rfl (by kernel_rfl) ?_
  rintro _ K ⟨xs, ch, rfl, hl, hl2, hK⟩
  have hln : (xs.map D.Deed.enc).length = xs.length := by simp
  have hln2 : (ch.map encI).length = ch.length := by simp
  refine ⟨Nat.le_of_ble_eq_true rfl, _, hK, ?_⟩
  (repeat' ((conv => whnf); first
    | refine Sd.mk (by first | omega | (unfold in64; omega) | (simp only [fitK, in64]; omega) | (simp only [fitK, in64, chunk, List.length_map, List.length_append, List.length_replicate, List.length_set, List.length_nil, List.length_cons]; omega)) ?_
    | refine Br.yes rfl ?_
    | refine Br.no rfl ?_
    | refine Br.yes (by first | (simp only [ltB_t, ltB_f, eqB_t, eqB_f, pB_t, pB_f, sEq_t, sEq_f, emp_iff, ne_eq, List.length_map, Bool.not_eq_true, Bool.not_eq_false, Bool.not_eq_eq_eq_not, Bool.not_true, Bool.not_false]; done) | (simp only [ltB_t, ltB_f, eqB_t, eqB_f, pB_t, pB_f, sEq_t, sEq_f, emp_iff, ne_eq, List.length_map, Bool.not_eq_true, Bool.not_eq_false, Bool.not_eq_eq_eq_not, Bool.not_true, Bool.not_false]; omega) | (simp only [ltB_t, ltB_f, eqB_t, eqB_f, pB_t, pB_f, sEq_t, sEq_f, emp_iff, ne_eq, List.length_map, Bool.not_eq_true, Bool.not_eq_false, Bool.not_eq_eq_eq_not, Bool.not_true, Bool.not_false]; assumption)) ?_
    | refine Br.no (by first | (simp only [ltB_t, ltB_f, eqB_t, eqB_f, pB_t, pB_f, sEq_t, sEq_f, emp_iff, ne_eq, List.length_map, Bool.not_eq_true, Bool.not_eq_false, Bool.not_eq_eq_eq_not, Bool.not_true, Bool.not_false]; done) | (simp only [ltB_t, ltB_f, eqB_t, eqB_f, pB_t, pB_f, sEq_t, sEq_f, emp_iff, ne_eq, List.length_map, Bool.not_eq_true, Bool.not_eq_false, Bool.not_eq_eq_eq_not, Bool.not_true, Bool.not_false]; omega) | (simp only [ltB_t, ltB_f, eqB_t, eqB_f, pB_t, pB_f, sEq_t, sEq_f, emp_iff, ne_eq, List.length_map, Bool.not_eq_true, Bool.not_eq_false, Bool.not_eq_eq_eq_not, Bool.not_true, Bool.not_false]; assumption)) ?_
    | (refine Br.mk ?_ ?_ <;> intro h <;> (try simp only [ltB_t, ltB_f, eqB_t, eqB_f, pB_t, pB_f, sEq_t, sEq_f, emp_iff, ne_eq, List.length_map, Bool.not_eq_true, Bool.not_eq_false, Bool.not_eq_eq_eq_not, Bool.not_true, Bool.not_false] at h))
    | refine Ixv.mk (by omega) (ixE (by omega) (by omega)) ?_
    | refine Elt.mk rfl ?_
    | refine Elt.mk (by assumption) ?_
    | refine Elt.mk (ixE (by omega) (by omega)) ?_
    | refine E.call tt h_l00Rises rfl rfl ⟨_, _, _, rfl, by omega, _, _, rfl, rfl, ?_⟩
    | refine E.regionQ tt (id := 6) mixed (by decide +kernel) ?_)) <;> (try (conv => whnf))
  all_goals try (refine fin_pB rfl rfl rfl ?_; simp only [ltB_t, ltB_f, eqB_t, eqB_f, pB_t, pB_f, sEq_t, sEq_f, emp_iff, ne_eq, List.length_map, Bool.not_eq_true, Bool.not_eq_false, Bool.not_eq_eq_eq_not, Bool.not_true, Bool.not_false, true_iff, false_iff, Bool.false_eq_true, iff_true, iff_false, and_true, true_and, not_false_eq_true]; first | (intro hB; have := hB.2; omega) | (intro hB; have hr := chain_rises hB; first | exact absurd hr (by assumption) | (simp only [List.length_map] at *; exact absurd hr (by assumption))))
  have hR : RisesP ch 0 (xs.length - 1) := by first | assumption | (rw [← hln]; assumption)
  refine E.loop tt (fun i : Int => 1 ≤ i ∧ i ≤ ch.length ∧ allTo (LinkC xs ch) i) (fun i => ⟨41, 1, [(0, .p (.view 4 (xs.map D.Deed.enc))), (1, .p (.view 1 (ch.map encI))), (5, .p (I i))], []⟩) (fun i => (ch.length - i).toNat) 1 ⟨by omega, by omega, fun i h0 h1 hi => by omega⟩ ⟨rfl, ⟨rfl, rfl, rfl, trivial⟩, trivial, rfl, rfl⟩ ?_
  rintro i ⟨hi0, hi1, hinv⟩
  rcases Int.lt_or_le i ch.length with hlt | hge
  · have hr1 := hR i (by omega) hlt
    have hr0 := hR (i - 1) (by omega) (by omega)
    unfold RisesC at hr1 hr0
    (repeat' ((conv => whnf); first
    | refine Sd.mk (by first | omega | (unfold in64; omega) | (simp only [fitK, in64]; omega) | (simp only [fitK, in64, chunk, List.length_map, List.length_append, List.length_replicate, List.length_set, List.length_nil, List.length_cons]; omega)) ?_
    | refine Br.yes rfl ?_
    | refine Br.no rfl ?_
    | refine Br.yes (by first | (simp only [ltB_t, ltB_f, eqB_t, eqB_f, pB_t, pB_f, sEq_t, sEq_f, emp_iff, ne_eq, List.length_map, Bool.not_eq_true, Bool.not_eq_false, Bool.not_eq_eq_eq_not, Bool.not_true, Bool.not_false]; done) | (simp only [ltB_t, ltB_f, eqB_t, eqB_f, pB_t, pB_f, sEq_t, sEq_f, emp_iff, ne_eq, List.length_map, Bool.not_eq_true, Bool.not_eq_false, Bool.not_eq_eq_eq_not, Bool.not_true, Bool.not_false]; omega) | (simp only [ltB_t, ltB_f, eqB_t, eqB_f, pB_t, pB_f, sEq_t, sEq_f, emp_iff, ne_eq, List.length_map, Bool.not_eq_true, Bool.not_eq_false, Bool.not_eq_eq_eq_not, Bool.not_true, Bool.not_false]; assumption)) ?_
    | refine Br.no (by first | (simp only [ltB_t, ltB_f, eqB_t, eqB_f, pB_t, pB_f, sEq_t, sEq_f, emp_iff, ne_eq, List.length_map, Bool.not_eq_true, Bool.not_eq_false, Bool.not_eq_eq_eq_not, Bool.not_true, Bool.not_false]; done) | (simp only [ltB_t, ltB_f, eqB_t, eqB_f, pB_t, pB_f, sEq_t, sEq_f, emp_iff, ne_eq, List.length_map, Bool.not_eq_true, Bool.not_eq_false, Bool.not_eq_eq_eq_not, Bool.not_true, Bool.not_false]; omega) | (simp only [ltB_t, ltB_f, eqB_t, eqB_f, pB_t, pB_f, sEq_t, sEq_f, emp_iff, ne_eq, List.length_map, Bool.not_eq_true, Bool.not_eq_false, Bool.not_eq_eq_eq_not, Bool.not_true, Bool.not_false]; assumption)) ?_
    | (refine Br.mk ?_ ?_ <;> intro h <;> (try simp only [ltB_t, ltB_f, eqB_t, eqB_f, pB_t, pB_f, sEq_t, sEq_f, emp_iff, ne_eq, List.length_map, Bool.not_eq_true, Bool.not_eq_false, Bool.not_eq_eq_eq_not, Bool.not_true, Bool.not_false] at h))
    | refine Ixv.mk (by omega) (ixE (by omega) (by omega)) ?_
    | refine Elt.mk rfl ?_
    | refine Elt.mk (by assumption) ?_
    | refine Elt.mk (ixE (by omega) (by omega)) ?_
    | refine E.call tt h_l00Rises rfl rfl ⟨_, _, _, rfl, by omega, _, _, rfl, rfl, ?_⟩
    | refine E.regionQ tt (id := 6) mixed (by decide +kernel) ?_)) <;> (try (conv => whnf))
    all_goals first
      | (refine ⟨i + 1, ⟨by omega, by omega, allTo_succ hinv (fun _ => by assumption)⟩, by dsimp only; omega, ⟨rfl, ⟨rfl, rfl, rfl, trivial⟩, trivial, rfl, rfl⟩⟩)
      | (refine fin_pB rfl rfl rfl ?_; simp only [ltB_t, ltB_f, eqB_t, eqB_f, pB_t, pB_f, sEq_t, sEq_f, emp_iff, ne_eq, List.length_map, Bool.not_eq_true, Bool.not_eq_false, Bool.not_eq_eq_eq_not, Bool.not_true, Bool.not_false, true_iff, false_iff, Bool.false_eq_true, iff_true, iff_false, and_true, true_and, not_false_eq_true]; intro hB; exact absurd ((hB.1 i (by omega) hlt).2 (by omega)).2 (by assumption))
  · have hie : i = ch.length := by omega
    (repeat' ((conv => whnf); first
    | refine Sd.mk (by first | omega | (unfold in64; omega) | (simp only [fitK, in64]; omega) | (simp only [fitK, in64, chunk, List.length_map, List.length_append, List.length_replicate, List.length_set, List.length_nil, List.length_cons]; omega)) ?_
    | refine Br.yes rfl ?_
    | refine Br.no rfl ?_
    | refine Br.yes (by first | (simp only [ltB_t, ltB_f, eqB_t, eqB_f, pB_t, pB_f, sEq_t, sEq_f, emp_iff, ne_eq, List.length_map, Bool.not_eq_true, Bool.not_eq_false, Bool.not_eq_eq_eq_not, Bool.not_true, Bool.not_false]; done) | (simp only [ltB_t, ltB_f, eqB_t, eqB_f, pB_t, pB_f, sEq_t, sEq_f, emp_iff, ne_eq, List.length_map, Bool.not_eq_true, Bool.not_eq_false, Bool.not_eq_eq_eq_not, Bool.not_true, Bool.not_false]; omega) | (simp only [ltB_t, ltB_f, eqB_t, eqB_f, pB_t, pB_f, sEq_t, sEq_f, emp_iff, ne_eq, List.length_map, Bool.not_eq_true, Bool.not_eq_false, Bool.not_eq_eq_eq_not, Bool.not_true, Bool.not_false]; assumption)) ?_
    | refine Br.no (by first | (simp only [ltB_t, ltB_f, eqB_t, eqB_f, pB_t, pB_f, sEq_t, sEq_f, emp_iff, ne_eq, List.length_map, Bool.not_eq_true, Bool.not_eq_false, Bool.not_eq_eq_eq_not, Bool.not_true, Bool.not_false]; done) | (simp only [ltB_t, ltB_f, eqB_t, eqB_f, pB_t, pB_f, sEq_t, sEq_f, emp_iff, ne_eq, List.length_map, Bool.not_eq_true, Bool.not_eq_false, Bool.not_eq_eq_eq_not, Bool.not_true, Bool.not_false]; omega) | (simp only [ltB_t, ltB_f, eqB_t, eqB_f, pB_t, pB_f, sEq_t, sEq_f, emp_iff, ne_eq, List.length_map, Bool.not_eq_true, Bool.not_eq_false, Bool.not_eq_eq_eq_not, Bool.not_true, Bool.not_false]; assumption)) ?_
    | (refine Br.mk ?_ ?_ <;> intro h <;> (try simp only [ltB_t, ltB_f, eqB_t, eqB_f, pB_t, pB_f, sEq_t, sEq_f, emp_iff, ne_eq, List.length_map, Bool.not_eq_true, Bool.not_eq_false, Bool.not_eq_eq_eq_not, Bool.not_true, Bool.not_false] at h))
    | refine Ixv.mk (by omega) (ixE (by omega) (by omega)) ?_
    | refine Elt.mk rfl ?_
    | refine Elt.mk (by assumption) ?_
    | refine Elt.mk (ixE (by omega) (by omega)) ?_
    | refine E.call tt h_l00Rises rfl rfl ⟨_, _, _, rfl, by omega, _, _, rfl, rfl, ?_⟩
    | refine E.regionQ tt (id := 6) mixed (by decide +kernel) ?_)) <;> (try (conv => whnf))
    all_goals (refine fin_pB rfl rfl rfl ?_; simp only [ltB_t, ltB_f, eqB_t, eqB_f, pB_t, pB_f, sEq_t, sEq_f, emp_iff, ne_eq, List.length_map, Bool.not_eq_true, Bool.not_eq_false, Bool.not_eq_eq_eq_not, Bool.not_true, Bool.not_false, true_iff, false_iff, Bool.false_eq_true, iff_true, iff_false, and_true, true_and, not_false_eq_true]; exact ⟨(chain_iff hR).1 (allTo_le hinv (by omega)), by omega⟩)

theorem h_chainI : Holds Try.prog 100 cChain := by
  refine E.mk tt Try.func100 rfl Try.ntmps100 rfl (by kernel_rfl) ?_
  rintro _ K ⟨xs, ch, rfl, hl, hl2, hK⟩
  have hln : (xs.map D.Deed.enc).length = xs.length := by simp
  have hln2 : (ch.map encI).length = ch.length := by simp
  refine ⟨Nat.le_of_ble_eq_true rfl, _, hK, ?_⟩
  (repeat' ((conv => whnf); first
    | refine Sd.mk (by first | omega | (unfold in64; omega) | (simp only [fitK, in64]; omega) | (simp only [fitK, in64, chunk, List.length_map, List.length_append, List.length_replicate, List.length_set, List.length_nil, List.length_cons]; omega)) ?_
    | refine Br.yes rfl ?_
    | refine Br.no rfl ?_
    | refine Br.yes (by first | (simp only [ltB_t, ltB_f, eqB_t, eqB_f, pB_t, pB_f, sEq_t, sEq_f, emp_iff, ne_eq, List.length_map, Bool.not_eq_true, Bool.not_eq_false, Bool.not_eq_eq_eq_not, Bool.not_true, Bool.not_false]; done) | (simp only [ltB_t, ltB_f, eqB_t, eqB_f, pB_t, pB_f, sEq_t, sEq_f, emp_iff, ne_eq, List.length_map, Bool.not_eq_true, Bool.not_eq_false, Bool.not_eq_eq_eq_not, Bool.not_true, Bool.not_false]; omega) | (simp only [ltB_t, ltB_f, eqB_t, eqB_f, pB_t, pB_f, sEq_t, sEq_f, emp_iff, ne_eq, List.length_map, Bool.not_eq_true, Bool.not_eq_false, Bool.not_eq_eq_eq_not, Bool.not_true, Bool.not_false]; assumption)) ?_
    | refine Br.no (by first | (simp only [ltB_t, ltB_f, eqB_t, eqB_f, pB_t, pB_f, sEq_t, sEq_f, emp_iff, ne_eq, List.length_map, Bool.not_eq_true, Bool.not_eq_false, Bool.not_eq_eq_eq_not, Bool.not_true, Bool.not_false]; done) | (simp only [ltB_t, ltB_f, eqB_t, eqB_f, pB_t, pB_f, sEq_t, sEq_f, emp_iff, ne_eq, List.length_map, Bool.not_eq_true, Bool.not_eq_false, Bool.not_eq_eq_eq_not, Bool.not_true, Bool.not_false]; omega) | (simp only [ltB_t, ltB_f, eqB_t, eqB_f, pB_t, pB_f, sEq_t, sEq_f, emp_iff, ne_eq, List.length_map, Bool.not_eq_true, Bool.not_eq_false, Bool.not_eq_eq_eq_not, Bool.not_true, Bool.not_false]; assumption)) ?_
    | (refine Br.mk ?_ ?_ <;> intro h <;> (try simp only [ltB_t, ltB_f, eqB_t, eqB_f, pB_t, pB_f, sEq_t, sEq_f, emp_iff, ne_eq, List.length_map, Bool.not_eq_true, Bool.not_eq_false, Bool.not_eq_eq_eq_not, Bool.not_true, Bool.not_false] at h))
    | refine Ixv.mk (by omega) (ixE (by omega) (by omega)) ?_
    | refine Elt.mk rfl ?_
    | refine Elt.mk (by assumption) ?_
    | refine Elt.mk (ixE (by omega) (by omega)) ?_
    | refine E.call tt h_at rfl rfl ⟨_, _, rfl, _, _, rfl, rfl, ?_⟩
    | refine E.regionQ tt (id := 4) mixed (by decide +kernel) ?_)) <;> (try (conv => whnf))
  refine E.loop tt (fun i : Int => 0 ≤ i ∧ i ≤ ch.length ∧ allTo (ChainC xs ch) i) (fun i => ⟨53, 1, [(0, .p (.view 4 (xs.map D.Deed.enc))), (1, .p (.view 1 (ch.map encI))), (7, .p (.view 1 (ch.map encI))), (8, .p (I (ch.map encI).length)), (9, .p (I i))], []⟩) (fun i => (ch.length - i).toNat) 0 ⟨by omega, by omega, allTo_zero _⟩ ⟨rfl, ⟨rfl, rfl, rfl, rfl, rfl, trivial⟩, trivial, rfl, rfl⟩ ?_
  rintro i ⟨hi0, hi1, hinv⟩
  have hpr : 0 < i → 0 ≤ ix ch (i - 1) ∧ ix ch (i - 1) < xs.length := fun h => (hinv (i - 1) (by omega) (by omega)).1
  rcases Int.lt_or_le i ch.length with hlt | hge
  · by_cases hz : i = 0
    · (repeat' ((conv => whnf); first
    | refine Sd.mk (by first | omega | (unfold in64; omega) | (simp only [fitK, in64]; omega) | (simp only [fitK, in64, chunk, List.length_map, List.length_append, List.length_replicate, List.length_set, List.length_nil, List.length_cons]; omega)) ?_
    | refine Br.yes rfl ?_
    | refine Br.no rfl ?_
    | refine Br.yes (by first | (simp only [ltB_t, ltB_f, eqB_t, eqB_f, pB_t, pB_f, sEq_t, sEq_f, emp_iff, ne_eq, List.length_map, Bool.not_eq_true, Bool.not_eq_false, Bool.not_eq_eq_eq_not, Bool.not_true, Bool.not_false]; done) | (simp only [ltB_t, ltB_f, eqB_t, eqB_f, pB_t, pB_f, sEq_t, sEq_f, emp_iff, ne_eq, List.length_map, Bool.not_eq_true, Bool.not_eq_false, Bool.not_eq_eq_eq_not, Bool.not_true, Bool.not_false]; omega) | (simp only [ltB_t, ltB_f, eqB_t, eqB_f, pB_t, pB_f, sEq_t, sEq_f, emp_iff, ne_eq, List.length_map, Bool.not_eq_true, Bool.not_eq_false, Bool.not_eq_eq_eq_not, Bool.not_true, Bool.not_false]; assumption)) ?_
    | refine Br.no (by first | (simp only [ltB_t, ltB_f, eqB_t, eqB_f, pB_t, pB_f, sEq_t, sEq_f, emp_iff, ne_eq, List.length_map, Bool.not_eq_true, Bool.not_eq_false, Bool.not_eq_eq_eq_not, Bool.not_true, Bool.not_false]; done) | (simp only [ltB_t, ltB_f, eqB_t, eqB_f, pB_t, pB_f, sEq_t, sEq_f, emp_iff, ne_eq, List.length_map, Bool.not_eq_true, Bool.not_eq_false, Bool.not_eq_eq_eq_not, Bool.not_true, Bool.not_false]; omega) | (simp only [ltB_t, ltB_f, eqB_t, eqB_f, pB_t, pB_f, sEq_t, sEq_f, emp_iff, ne_eq, List.length_map, Bool.not_eq_true, Bool.not_eq_false, Bool.not_eq_eq_eq_not, Bool.not_true, Bool.not_false]; assumption)) ?_
    | (refine Br.mk ?_ ?_ <;> intro h <;> (try simp only [ltB_t, ltB_f, eqB_t, eqB_f, pB_t, pB_f, sEq_t, sEq_f, emp_iff, ne_eq, List.length_map, Bool.not_eq_true, Bool.not_eq_false, Bool.not_eq_eq_eq_not, Bool.not_true, Bool.not_false] at h))
    | refine Ixv.mk (by omega) (ixE (by omega) (by omega)) ?_
    | refine Elt.mk rfl ?_
    | refine Elt.mk (by assumption) ?_
    | refine Elt.mk (ixE (by omega) (by omega)) ?_
    | refine E.call tt h_at rfl rfl ⟨_, _, rfl, _, _, rfl, rfl, ?_⟩
    | refine E.regionQ tt (id := 4) mixed (by decide +kernel) ?_)) <;> (try (conv => whnf))
      all_goals first
        | (refine ⟨i + 1, ⟨by omega, by omega, allTo_succ hinv ⟨by omega, fun _ => by omega⟩⟩, by dsimp only; omega, ⟨rfl, ⟨rfl, rfl, rfl, rfl, rfl, trivial⟩, trivial, rfl, rfl⟩⟩)
        | (refine fin_pB rfl rfl rfl ?_; simp only [ltB_t, ltB_f, eqB_t, eqB_f, pB_t, pB_f, sEq_t, sEq_f, emp_iff, ne_eq, List.length_map, Bool.not_eq_true, Bool.not_eq_false, Bool.not_eq_eq_eq_not, Bool.not_true, Bool.not_false, true_iff, false_iff, Bool.false_eq_true, iff_true, iff_false, and_true, true_and, not_false_eq_true]; intro hB; have hq := (hB.1 i (by omega) hlt); unfold ChainC at hq; omega)
    · have hpr2 := hpr (by omega)
      (repeat' ((conv => whnf); first
    | refine Sd.mk (by first | omega | (unfold in64; omega) | (simp only [fitK, in64]; omega) | (simp only [fitK, in64, chunk, List.length_map, List.length_append, List.length_replicate, List.length_set, List.length_nil, List.length_cons]; omega)) ?_
    | refine Br.yes rfl ?_
    | refine Br.no rfl ?_
    | refine Br.yes (by first | (simp only [ltB_t, ltB_f, eqB_t, eqB_f, pB_t, pB_f, sEq_t, sEq_f, emp_iff, ne_eq, List.length_map, Bool.not_eq_true, Bool.not_eq_false, Bool.not_eq_eq_eq_not, Bool.not_true, Bool.not_false]; done) | (simp only [ltB_t, ltB_f, eqB_t, eqB_f, pB_t, pB_f, sEq_t, sEq_f, emp_iff, ne_eq, List.length_map, Bool.not_eq_true, Bool.not_eq_false, Bool.not_eq_eq_eq_not, Bool.not_true, Bool.not_false]; omega) | (simp only [ltB_t, ltB_f, eqB_t, eqB_f, pB_t, pB_f, sEq_t, sEq_f, emp_iff, ne_eq, List.length_map, Bool.not_eq_true, Bool.not_eq_false, Bool.not_eq_eq_eq_not, Bool.not_true, Bool.not_false]; assumption)) ?_
    | refine Br.no (by first | (simp only [ltB_t, ltB_f, eqB_t, eqB_f, pB_t, pB_f, sEq_t, sEq_f, emp_iff, ne_eq, List.length_map, Bool.not_eq_true, Bool.not_eq_false, Bool.not_eq_eq_eq_not, Bool.not_true, Bool.not_false]; done) | (simp only [ltB_t, ltB_f, eqB_t, eqB_f, pB_t, pB_f, sEq_t, sEq_f, emp_iff, ne_eq, List.length_map, Bool.not_eq_true, Bool.not_eq_false, Bool.not_eq_eq_eq_not, Bool.not_true, Bool.not_false]; omega) | (simp only [ltB_t, ltB_f, eqB_t, eqB_f, pB_t, pB_f, sEq_t, sEq_f, emp_iff, ne_eq, List.length_map, Bool.not_eq_true, Bool.not_eq_false, Bool.not_eq_eq_eq_not, Bool.not_true, Bool.not_false]; assumption)) ?_
    | (refine Br.mk ?_ ?_ <;> intro h <;> (try simp only [ltB_t, ltB_f, eqB_t, eqB_f, pB_t, pB_f, sEq_t, sEq_f, emp_iff, ne_eq, List.length_map, Bool.not_eq_true, Bool.not_eq_false, Bool.not_eq_eq_eq_not, Bool.not_true, Bool.not_false] at h))
    | refine Ixv.mk (by omega) (ixE (by omega) (by omega)) ?_
    | refine Elt.mk rfl ?_
    | refine Elt.mk (by assumption) ?_
    | refine Elt.mk (ixE (by omega) (by omega)) ?_
    | refine E.call tt h_at rfl rfl ⟨_, _, rfl, _, _, rfl, rfl, ?_⟩
    | refine E.regionQ tt (id := 4) mixed (by decide +kernel) ?_)) <;> (try (conv => whnf))
      all_goals first
        | (refine ⟨i + 1, ⟨by omega, by omega, allTo_succ hinv ⟨by omega, fun _ => ⟨by omega, by assumption⟩⟩⟩, by dsimp only; omega, ⟨rfl, ⟨rfl, rfl, rfl, rfl, rfl, trivial⟩, trivial, rfl, rfl⟩⟩)
        | (refine fin_pB rfl rfl rfl ?_; simp only [ltB_t, ltB_f, eqB_t, eqB_f, pB_t, pB_f, sEq_t, sEq_f, emp_iff, ne_eq, List.length_map, Bool.not_eq_true, Bool.not_eq_false, Bool.not_eq_eq_eq_not, Bool.not_true, Bool.not_false, true_iff, false_iff, Bool.false_eq_true, iff_true, iff_false, and_true, true_and, not_false_eq_true]; intro hB; have hq := (hB.1 i (by omega) hlt); unfold ChainC at hq; have hq2 := hq.2 (by omega); first | omega | exact absurd hq2.2 (by assumption))
  · have hie : i = ch.length := by omega
    (repeat' ((conv => whnf); first
    | refine Sd.mk (by first | omega | (unfold in64; omega) | (simp only [fitK, in64]; omega) | (simp only [fitK, in64, chunk, List.length_map, List.length_append, List.length_replicate, List.length_set, List.length_nil, List.length_cons]; omega)) ?_
    | refine Br.yes rfl ?_
    | refine Br.no rfl ?_
    | refine Br.yes (by first | (simp only [ltB_t, ltB_f, eqB_t, eqB_f, pB_t, pB_f, sEq_t, sEq_f, emp_iff, ne_eq, List.length_map, Bool.not_eq_true, Bool.not_eq_false, Bool.not_eq_eq_eq_not, Bool.not_true, Bool.not_false]; done) | (simp only [ltB_t, ltB_f, eqB_t, eqB_f, pB_t, pB_f, sEq_t, sEq_f, emp_iff, ne_eq, List.length_map, Bool.not_eq_true, Bool.not_eq_false, Bool.not_eq_eq_eq_not, Bool.not_true, Bool.not_false]; omega) | (simp only [ltB_t, ltB_f, eqB_t, eqB_f, pB_t, pB_f, sEq_t, sEq_f, emp_iff, ne_eq, List.length_map, Bool.not_eq_true, Bool.not_eq_false, Bool.not_eq_eq_eq_not, Bool.not_true, Bool.not_false]; assumption)) ?_
    | refine Br.no (by first | (simp only [ltB_t, ltB_f, eqB_t, eqB_f, pB_t, pB_f, sEq_t, sEq_f, emp_iff, ne_eq, List.length_map, Bool.not_eq_true, Bool.not_eq_false, Bool.not_eq_eq_eq_not, Bool.not_true, Bool.not_false]; done) | (simp only [ltB_t, ltB_f, eqB_t, eqB_f, pB_t, pB_f, sEq_t, sEq_f, emp_iff, ne_eq, List.length_map, Bool.not_eq_true, Bool.not_eq_false, Bool.not_eq_eq_eq_not, Bool.not_true, Bool.not_false]; omega) | (simp only [ltB_t, ltB_f, eqB_t, eqB_f, pB_t, pB_f, sEq_t, sEq_f, emp_iff, ne_eq, List.length_map, Bool.not_eq_true, Bool.not_eq_false, Bool.not_eq_eq_eq_not, Bool.not_true, Bool.not_false]; assumption)) ?_
    | (refine Br.mk ?_ ?_ <;> intro h <;> (try simp only [ltB_t, ltB_f, eqB_t, eqB_f, pB_t, pB_f, sEq_t, sEq_f, emp_iff, ne_eq, List.length_map, Bool.not_eq_true, Bool.not_eq_false, Bool.not_eq_eq_eq_not, Bool.not_true, Bool.not_false] at h))
    | refine Ixv.mk (by omega) (ixE (by omega) (by omega)) ?_
    | refine Elt.mk rfl ?_
    | refine Elt.mk (by assumption) ?_
    | refine Elt.mk (ixE (by omega) (by omega)) ?_
    | refine E.call tt h_at rfl rfl ⟨_, _, rfl, _, _, rfl, rfl, ?_⟩
    | refine E.regionQ tt (id := 4) mixed (by decide +kernel) ?_)) <;> (try (conv => whnf))
    all_goals (refine fin_pB rfl rfl rfl ?_; simp only [ltB_t, ltB_f, eqB_t, eqB_f, pB_t, pB_f, sEq_t, sEq_f, emp_iff, ne_eq, List.length_map, Bool.not_eq_true, Bool.not_eq_false, Bool.not_eq_eq_eq_not, Bool.not_true, Bool.not_false, true_iff, false_iff, Bool.false_eq_true, iff_true, iff_false, and_true, true_and, not_false_eq_true]; exact ⟨fun h => ⟨allTo_le hinv (by omega), by omega⟩, fun hB => by have := hB.2; omega⟩)


end Go.Proofs.Ytbhamhfiiafplaa
