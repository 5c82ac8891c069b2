/- Contracts (Stp). -/
import Derived.Test.YthjbcgdmdmfijaaTyStep
set_option linter.unusedVariables false
set_option linter.unusedSimpArgs false
set_option maxRecDepth 100000
namespace Go.Lo
-- deps: TyStep
def StC (l : List Int) (i : Int) : Prop := 0 ≤ ix l i ∧ ix l i ≤ 2400
def StartsOk (n : Nat) (l : List Int) : Prop := allTo (StC l) l.length ∧ (l.length : Int) = n
def cStarts : Ct := fun args K => ∃ (xs : List D.Step) (l : List Int), args = [.view 4 (xs.map D.Step.enc), .view 1 (l.map encI)] ∧ (xs.length : Int) ≤ 1048576 ∧ (l.length : Int) ≤ 1048576 ∧ K [.p (.bool (pB (StartsOk xs.length l)))]
def usT (xs : List D.Step) (l : List Int) (h j : Int) : Int := if ix l j ≤ h ∧ h < ix l j + (ix xs j).Hours then (ix xs j).Clamps else 0
def usL (xs : List D.Step) (l : List Int) (h i : Int) : Int := sumTo (usT xs l h) i
theorem usL_bd {xs : List D.Step} {l : List Int} {h : Int} (hB : StepsOk xs) : ∀ (n : Nat), (n : Int) ≤ xs.length → 0 ≤ usL xs l h n ∧ usL xs l h n ≤ 20 * n
  | 0, _ => by
    have e : usL xs l h ((0 : Nat) : Int) = 0 := sumTo_zero _
    omega
  | n + 1, hn => by
    have ih := usL_bd (l := l) (h := h) hB n (by omega)
    have hs : usL xs l h ((n + 1 : Nat) : Int) = usL xs l h n + usT xs l h n := by
      rw [show ((n + 1 : Nat) : Int) = (n : Int) + 1 by omega]; exact sumTo_succ (by omega)
    have hc := (hB.at (i := n) (by omega) (by omega)).1
    unfold StepOk at hc
    have ht : 0 ≤ usT xs l h n ∧ usT xs l h n ≤ 20 := by unfold usT; split <;> omega
    omega
def cUsed : Ct := fun args K => ∃ (xs : List D.Step) (l : List Int) (h : Int), args = [.view 4 (xs.map D.Step.enc), .view 1 (l.map encI), I h] ∧ StepsOk xs ∧ StartsOk xs.length l ∧ in64 h ∧ K [.p (I (usL xs l h l.length))]
def rdT (xs : List D.Step) (l a : List Int) (k : Int) : Int := ix l (ix a k) + (ix xs (ix a k)).Hours
def rdL (xs : List D.Step) (l a : List Int) (j : Int) : Int := it (fun h k => max h (rdT xs l a k)) 0 j
theorem rdL_le {xs : List D.Step} {l a : List Int} {s : Int} : ∀ (n : Nat), rdL xs l a n ≤ s ↔ 0 ≤ s ∧ allTo (fun k => rdT xs l a k ≤ s) n
  | 0 => ⟨fun h => ⟨h, allTo_zero _⟩, fun h => h.1⟩
  | n + 1 => by
    have hs : rdL xs l a ((n + 1 : Nat) : Int) = max (rdL xs l a n) (rdT xs l a n) := by
      rw [show ((n + 1 : Nat) : Int) = (n : Int) + 1 by omega]; exact it_succ (f := fun h k => max h (rdT xs l a k)) (by omega)
    have ih := rdL_le (xs := xs) (l := l) (a := a) (s := s) n
    rw [hs, show ((n + 1 : Nat) : Int) = (n : Int) + 1 by omega]
    constructor
    · intro h
      have h1 := ih.1 (by omega)
      exact ⟨h1.1, allTo_succ h1.2 (by omega)⟩
    · rintro ⟨h1, h2⟩
      have h3 := ih.2 ⟨h1, allTo_le h2 (by omega)⟩
      have h4 := h2 n (by omega) (by omega)
      dsimp only at h4
      omega
/-- The start of what a step waits for. -/
theorem StepsOk.af {xs : List D.Step} (h : StepsOk xs) {i j : Int} (h0 : 0 ≤ i) (h1 : i < xs.length) (j0 : 0 ≤ j) (j1 : j < (ix xs i).After.length) : 0 ≤ ix (ix xs i).After j ∧ ix (ix xs i).After j < i := by
  have := ((h.at h0 h1).2.1 j j0 j1).1
  omega
def cReady : Ct := fun args K => ∃ (xs : List D.Step) (l : List Int) (i : Int), args = [.view 4 (xs.map D.Step.enc), .view 1 (l.map encI), I i] ∧ StepsOk xs ∧ 0 ≤ i ∧ i < xs.length ∧ i ≤ l.length ∧ allTo (StC l) l.length ∧ ((ix xs i).After.length : Int) ≤ 1048576 ∧ K [.p (I (rdL xs l (ix xs i).After (ix xs i).After.length))]
theorem rdL_bd {xs : List D.Step} {l : List Int} {i : Int} (hB : StepsOk xs) (h0 : 0 ≤ i) (h1 : i < xs.length) (hl : i ≤ l.length) (hs : allTo (StC l) l.length) {j : Int} (j0 : 0 ≤ j) (j1 : j ≤ (ix xs i).After.length) : 0 ≤ rdL xs l (ix xs i).After j ∧ rdL xs l (ix xs i).After j ≤ 2600 := by
  refine it_inv (f := fun h k => max h (rdT xs l (ix xs i).After k)) (fun _ h => 0 ≤ h ∧ h ≤ 2600) ⟨by omega, by omega⟩ (N := (ix xs i).After.length) (fun n x n0 n1 hq => ?_) j0 j1
  have ha := hB.af h0 h1 n0 n1
  have hst := hs _ ha.1 (by omega)
  have hc := (hB.at ha.1 (by omega)).1
  unfold StC at hst
  unfold StepOk at hc
  dsimp only [rdT]
  omega
end Go.Lo
namespace Go.Proofs.Ythjbcgdmdmfijaa
open Go.Lo
attribute [local irreducible] W Wc

theorem h_ready : Holds Try.prog 101 cReady := by
  refine E.mk tt Try.func101 rfl Try.ntmps101 rfl (by kernel_rfl) ?_
  rintro _ K ⟨xs, l, n, rfl, hB, hn0, hn1, hnl, hS, hal, hK⟩
  have hln : (l.map encI).length = l.length := by simp
  have hln2 : (xs.map D.Step.enc).length = xs.length := by simp
  have hln3 : ((ix xs n).After.map encI).length = (ix xs n).After.length := by simp
  have hle := hB.le
  refine ⟨Nat.le_of_ble_eq_true rfl, _, hK, ?_⟩
  (repeat' ((conv => whnf); first
    | refine Sd.mk (by first | omega | (unfold in64; omega) | (simp only [fitK, in64]; omega) | (simp only [fitK, in64, chunk, List.length_map, List.length_append, List.length_replicate, List.length_set, List.length_nil, List.length_cons]; omega)) ?_
    | refine Br.yes rfl ?_
    | refine Br.no rfl ?_
    | refine Br.yes (by first | (simp only [ltB_t, ltB_f, eqB_t, eqB_f, pB_t, pB_f, sEq_t, sEq_f, emp_iff, ne_eq, List.length_map, Bool.not_eq_true, Bool.not_eq_false, Bool.not_eq_eq_eq_not, Bool.not_true, Bool.not_false]; done) | (simp only [ltB_t, ltB_f, eqB_t, eqB_f, pB_t, pB_f, sEq_t, sEq_f, emp_iff, ne_eq, List.length_map, Bool.not_eq_true, Bool.not_eq_false, Bool.not_eq_eq_eq_not, Bool.not_true, Bool.not_false]; omega) | (simp only [ltB_t, ltB_f, eqB_t, eqB_f, pB_t, pB_f, sEq_t, sEq_f, emp_iff, ne_eq, List.length_map, Bool.not_eq_true, Bool.not_eq_false, Bool.not_eq_eq_eq_not, Bool.not_true, Bool.not_false]; assumption)) ?_
    | refine Br.no (by first | (simp only [ltB_t, ltB_f, eqB_t, eqB_f, pB_t, pB_f, sEq_t, sEq_f, emp_iff, ne_eq, List.length_map, Bool.not_eq_true, Bool.not_eq_false, Bool.not_eq_eq_eq_not, Bool.not_true, Bool.not_false]; done) | (simp only [ltB_t, ltB_f, eqB_t, eqB_f, pB_t, pB_f, sEq_t, sEq_f, emp_iff, ne_eq, List.length_map, Bool.not_eq_true, Bool.not_eq_false, Bool.not_eq_eq_eq_not, Bool.not_true, Bool.not_false]; omega) | (simp only [ltB_t, ltB_f, eqB_t, eqB_f, pB_t, pB_f, sEq_t, sEq_f, emp_iff, ne_eq, List.length_map, Bool.not_eq_true, Bool.not_eq_false, Bool.not_eq_eq_eq_not, Bool.not_true, Bool.not_false]; assumption)) ?_
    | (refine Br.mk ?_ ?_ <;> intro h <;> (try simp only [ltB_t, ltB_f, eqB_t, eqB_f, pB_t, pB_f, sEq_t, sEq_f, emp_iff, ne_eq, List.length_map, Bool.not_eq_true, Bool.not_eq_false, Bool.not_eq_eq_eq_not, Bool.not_true, Bool.not_false] at h))
    | refine Ixv.mk (by omega) (ixE (by omega) (by omega)) ?_
    | refine Elt.mk rfl ?_
    | refine Elt.mk (by assumption) ?_
    | refine Elt.mk (ixE (by omega) (by omega)) ?_
    | refine E.regionQ tt (id := 5) mixed (by decide +kernel) ?_)) <;> (try (conv => whnf))
  refine E.loop tt (fun j : Int => 0 ≤ j ∧ j ≤ (ix xs n).After.length) (fun j => ⟨34, 1, [(0, .p (.view 4 (xs.map D.Step.enc))), (1, .p (.view 1 (l.map encI))), (7, .p (I (rdL xs l (ix xs n).After j))), (14, .p (.view 1 ((ix xs n).After.map encI))), (15, .p (I ((ix xs n).After.map encI).length)), (16, .p (I j))], [], Frag.nil⟩) (fun j => ((ix xs n).After.length - j).toNat) 0 ⟨by omega, by omega⟩ ⟨rfl, ⟨rfl, rfl, rfl, rfl, rfl, rfl, trivial⟩, trivial, rfl, rfl, fun _ _ h => h⟩ ?_
  rintro j ⟨hj0, hj1⟩
  have hbd := rdL_bd hB hn0 hn1 hnl hS hj0 hj1
  rcases Int.lt_or_le j (ix xs n).After.length with hlt | hge
  · have ha := hB.af hn0 hn1 hj0 hlt
    have hst := hS _ ha.1 (by omega)
    have hc := (hB.at ha.1 (by omega)).1
    unfold StC at hst
    unfold StepOk at hc
    have hsu : rdL xs l (ix xs n).After (j + 1) = max (rdL xs l (ix xs n).After j) (rdT xs l (ix xs n).After j) := it_succ (f := fun h k => max h (rdT xs l (ix xs n).After k)) hj0
    (repeat' ((conv => whnf); first
    | refine Sd.mk (by first | omega | (unfold in64; omega) | (simp only [fitK, in64]; omega) | (simp only [fitK, in64, chunk, List.length_map, List.length_append, List.length_replicate, List.length_set, List.length_nil, List.length_cons]; omega)) ?_
    | refine Br.yes rfl ?_
    | refine Br.no rfl ?_
    | refine Br.yes (by first | (simp only [ltB_t, ltB_f, eqB_t, eqB_f, pB_t, pB_f, sEq_t, sEq_f, emp_iff, ne_eq, List.length_map, Bool.not_eq_true, Bool.not_eq_false, Bool.not_eq_eq_eq_not, Bool.not_true, Bool.not_false]; done) | (simp only [ltB_t, ltB_f, eqB_t, eqB_f, pB_t, pB_f, sEq_t, sEq_f, emp_iff, ne_eq, List.length_map, Bool.not_eq_true, Bool.not_eq_false, Bool.not_eq_eq_eq_not, Bool.not_true, Bool.not_false]; omega) | (simp only [ltB_t, ltB_f, eqB_t, eqB_f, pB_t, pB_f, sEq_t, sEq_f, emp_iff, ne_eq, List.length_map, Bool.not_eq_true, Bool.not_eq_false, Bool.not_eq_eq_eq_not, Bool.not_true, Bool.not_false]; assumption)) ?_
    | refine Br.no (by first | (simp only [ltB_t, ltB_f, eqB_t, eqB_f, pB_t, pB_f, sEq_t, sEq_f, emp_iff, ne_eq, List.length_map, Bool.not_eq_true, Bool.not_eq_false, Bool.not_eq_eq_eq_not, Bool.not_true, Bool.not_false]; done) | (simp only [ltB_t, ltB_f, eqB_t, eqB_f, pB_t, pB_f, sEq_t, sEq_f, emp_iff, ne_eq, List.length_map, Bool.not_eq_true, Bool.not_eq_false, Bool.not_eq_eq_eq_not, Bool.not_true, Bool.not_false]; omega) | (simp only [ltB_t, ltB_f, eqB_t, eqB_f, pB_t, pB_f, sEq_t, sEq_f, emp_iff, ne_eq, List.length_map, Bool.not_eq_true, Bool.not_eq_false, Bool.not_eq_eq_eq_not, Bool.not_true, Bool.not_false]; assumption)) ?_
    | (refine Br.mk ?_ ?_ <;> intro h <;> (try simp only [ltB_t, ltB_f, eqB_t, eqB_f, pB_t, pB_f, sEq_t, sEq_f, emp_iff, ne_eq, List.length_map, Bool.not_eq_true, Bool.not_eq_false, Bool.not_eq_eq_eq_not, Bool.not_true, Bool.not_false] at h))
    | refine Ixv.mk (by omega) (ixE (by omega) (by omega)) ?_
    | refine Elt.mk rfl ?_
    | refine Elt.mk (by assumption) ?_
    | refine Elt.mk (ixE (by omega) (by omega)) ?_
    | refine E.regionQ tt (id := 5) mixed (by decide +kernel) ?_)) <;> (try (conv => whnf))
    all_goals (refine ⟨j + 1, ⟨by omega, by omega⟩, by dsimp only; omega, ⟨rfl, ⟨rfl, rfl, pI (by rw [hsu]; unfold rdT; first | rfl | omega), rfl, rfl, rfl, trivial⟩, trivial, rfl, rfl, fun _ _ h => h⟩⟩)
  · have hie : j = (ix xs n).After.length := by omega
    subst hie
    (repeat' ((conv => whnf); first
    | refine Sd.mk (by first | omega | (unfold in64; omega) | (simp only [fitK, in64]; omega) | (simp only [fitK, in64, chunk, List.length_map, List.length_append, List.length_replicate, List.length_set, List.length_nil, List.length_cons]; omega)) ?_
    | refine Br.yes rfl ?_
    | refine Br.no rfl ?_
    | refine Br.yes (by first | (simp only [ltB_t, ltB_f, eqB_t, eqB_f, pB_t, pB_f, sEq_t, sEq_f, emp_iff, ne_eq, List.length_map, Bool.not_eq_true, Bool.not_eq_false, Bool.not_eq_eq_eq_not, Bool.not_true, Bool.not_false]; done) | (simp only [ltB_t, ltB_f, eqB_t, eqB_f, pB_t, pB_f, sEq_t, sEq_f, emp_iff, ne_eq, List.length_map, Bool.not_eq_true, Bool.not_eq_false, Bool.not_eq_eq_eq_not, Bool.not_true, Bool.not_false]; omega) | (simp only [ltB_t, ltB_f, eqB_t, eqB_f, pB_t, pB_f, sEq_t, sEq_f, emp_iff, ne_eq, List.length_map, Bool.not_eq_true, Bool.not_eq_false, Bool.not_eq_eq_eq_not, Bool.not_true, Bool.not_false]; assumption)) ?_
    | refine Br.no (by first | (simp only [ltB_t, ltB_f, eqB_t, eqB_f, pB_t, pB_f, sEq_t, sEq_f, emp_iff, ne_eq, List.length_map, Bool.not_eq_true, Bool.not_eq_false, Bool.not_eq_eq_eq_not, Bool.not_true, Bool.not_false]; done) | (simp only [ltB_t, ltB_f, eqB_t, eqB_f, pB_t, pB_f, sEq_t, sEq_f, emp_iff, ne_eq, List.length_map, Bool.not_eq_true, Bool.not_eq_false, Bool.not_eq_eq_eq_not, Bool.not_true, Bool.not_false]; omega) | (simp only [ltB_t, ltB_f, eqB_t, eqB_f, pB_t, pB_f, sEq_t, sEq_f, emp_iff, ne_eq, List.length_map, Bool.not_eq_true, Bool.not_eq_false, Bool.not_eq_eq_eq_not, Bool.not_true, Bool.not_false]; assumption)) ?_
    | (refine Br.mk ?_ ?_ <;> intro h <;> (try simp only [ltB_t, ltB_f, eqB_t, eqB_f, pB_t, pB_f, sEq_t, sEq_f, emp_iff, ne_eq, List.length_map, Bool.not_eq_true, Bool.not_eq_false, Bool.not_eq_eq_eq_not, Bool.not_true, Bool.not_false] at h))
    | refine Ixv.mk (by omega) (ixE (by omega) (by omega)) ?_
    | refine Elt.mk rfl ?_
    | refine Elt.mk (by assumption) ?_
    | refine Elt.mk (ixE (by omega) (by omega)) ?_
    | refine E.regionQ tt (id := 5) mixed (by decide +kernel) ?_)) <;> (try (conv => whnf))
    all_goals (exact fin_p rfl rfl rfl rfl)


end Go.Proofs.Ythjbcgdmdmfijaa
