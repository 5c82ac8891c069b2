/- Proved: the law FnExactCornersOf answers true for every input and leaves its arguments as they were (Rows.FnExactCornersOfSaid); no conditions. -/
import Derived.Test.YthpcibkoldnpaaaTyArc
import Derived.Test.YthpcibkoldnpaaaRows
import Derived.WalkKit
import Derived.ProofKit
import Derived.OpenShut
import Derived.ShutString
import Derived.ChangeOld
import Derived.Below
set_option linter.unusedVariables false
set_option linter.unusedSimpArgs false
set_option maxRecDepth 100000
namespace Go.Lo
-- deps: TyArc
def Smooth (a b : D.Arc) : Prop := (a.CX - a.TX) * (b.CY - a.TY) = (a.CY - a.TY) * (b.CX - a.TX)
theorem smooth_bd {a b : D.Arc} (ha : ArcOk a) (hb : ArcOk b) : (-40000000000 ≤ (a.CX - a.TX) * (b.CY - a.TY) ∧ (a.CX - a.TX) * (b.CY - a.TY) ≤ 40000000000) ∧ (-40000000000 ≤ (a.CY - a.TY) * (b.CX - a.TX) ∧ (a.CY - a.TY) * (b.CX - a.TX) ≤ 40000000000) := by
  unfold ArcOk PtOk at ha hb
  exact ⟨mul_bd3 (A := 200000) (B := 200000) (by omega) (by omega) (by omega) (by omega) (by omega) (by omega), mul_bd3 (A := 200000) (B := 200000) (by omega) (by omega) (by omega) (by omega) (by omega) (by omega)⟩
open Classical in
noncomputable def corG (xs : List D.Arc) (i : Int) : List Int := if Smooth (ix xs i) (ix xs (nxt xs i)) then [] else [i]
theorem corG_le (xs : List D.Arc) (i : Int) : ((corG xs i).length : Int) ≤ 1 := by unfold corG; split <;> simp
noncomputable def cCor (ty : Nat) : Ct := fun args K => ∃ (xs : List D.Arc) (rs : RV), args = [.view 6 (xs.map D.Arc.enc)] ∧ (xs.length : Int) ≤ 1048576 ∧
  spec1 (ArcsOk xs) [.p .nil, .p (I 1)] [.fresh ⟨ty, 1, (cat (corG xs) xs.length).map encI⟩, .p (I 0)] rs ∧ K rs
end Go.Lo
namespace Go.Proofs.Ythpcibkoldnpaaa
open Go.Lo
attribute [local irreducible] W Wc

theorem h_smoothS : Holds Try.prog 167 (fun args K => ∃ a b : D.Arc, args = [.ref a.enc, .ref b.enc] ∧ ArcOk a ∧ ArcOk b ∧ K [.p (.bool (pB (Smooth a b)))]) := by
  refine E.mk tt Try.func167 rfl Try.ntmps167 rfl (by kernel_rfl) ?_
  rintro _ K ⟨a, b, rfl, ha, hb, hK⟩
  have hs := smooth_bd ha hb
  unfold ArcOk PtOk at ha hb
  refine ⟨Nat.le_of_ble_eq_true rfl, _, hK, ?_⟩
  (repeat' ((conv => whnf); first
    | refine Sd.mk (by first | omega | (unfold in64; omega) | (simp only [fitK, in64]; omega) | (simp only [fitK, in64, chunk, List.length_map, List.length_append, List.length_replicate, List.length_set, List.length_nil, List.length_cons]; omega)) ?_
    | refine Br.yes rfl ?_
    | refine Br.no rfl ?_
    | refine Br.yes (by first | (simp only [ltB_t, ltB_f, eqB_t, eqB_f, pB_t, pB_f, sEq_t, sEq_f, emp_iff, ne_eq, List.length_map, Bool.not_eq_true, Bool.not_eq_false, Bool.not_eq_eq_eq_not, Bool.not_true, Bool.not_false]; done) | (simp only [ltB_t, ltB_f, eqB_t, eqB_f, pB_t, pB_f, sEq_t, sEq_f, emp_iff, ne_eq, List.length_map, Bool.not_eq_true, Bool.not_eq_false, Bool.not_eq_eq_eq_not, Bool.not_true, Bool.not_false]; omega) | (simp only [ltB_t, ltB_f, eqB_t, eqB_f, pB_t, pB_f, sEq_t, sEq_f, emp_iff, ne_eq, List.length_map, Bool.not_eq_true, Bool.not_eq_false, Bool.not_eq_eq_eq_not, Bool.not_true, Bool.not_false]; assumption)) ?_
    | refine Br.no (by first | (simp only [ltB_t, ltB_f, eqB_t, eqB_f, pB_t, pB_f, sEq_t, sEq_f, emp_iff, ne_eq, List.length_map, Bool.not_eq_true, Bool.not_eq_false, Bool.not_eq_eq_eq_not, Bool.not_true, Bool.not_false]; done) | (simp only [ltB_t, ltB_f, eqB_t, eqB_f, pB_t, pB_f, sEq_t, sEq_f, emp_iff, ne_eq, List.length_map, Bool.not_eq_true, Bool.not_eq_false, Bool.not_eq_eq_eq_not, Bool.not_true, Bool.not_false]; omega) | (simp only [ltB_t, ltB_f, eqB_t, eqB_f, pB_t, pB_f, sEq_t, sEq_f, emp_iff, ne_eq, List.length_map, Bool.not_eq_true, Bool.not_eq_false, Bool.not_eq_eq_eq_not, Bool.not_true, Bool.not_false]; assumption)) ?_
    | (refine Br.mk ?_ ?_ <;> intro h <;> (try simp only [ltB_t, ltB_f, eqB_t, eqB_f, pB_t, pB_f, sEq_t, sEq_f, emp_iff, ne_eq, List.length_map, Bool.not_eq_true, Bool.not_eq_false, Bool.not_eq_eq_eq_not, Bool.not_true, Bool.not_false] at h))
    | refine Elt.mk rfl ?_
    | refine Elt.mk (by assumption) ?_
    | refine Elt.mk (ixE (by omega) (by omega)) ?_
    | refine E.regionQ tt (id := 2) mixed (by decide +kernel) ?_
    | refine E.regionQ tt (id := 3) mixed (by decide +kernel) ?_
    | refine E.regionQ tt (id := 4) mixed (by decide +kernel) ?_
    | refine E.regionQ tt (id := 5) mixed (by decide +kernel) ?_)) <;> (try (conv => whnf))
  all_goals (refine fin_pB rfl rfl rfl ?_; simp only [ltB_t, ltB_f, eqB_t, eqB_f, pB_t, pB_f, sEq_t, sEq_f, emp_iff, ne_eq, List.length_map, Bool.not_eq_true, Bool.not_eq_false, Bool.not_eq_eq_eq_not, Bool.not_true, Bool.not_false, true_iff, false_iff, Bool.false_eq_true, iff_true, iff_false, and_true, true_and, not_false_eq_true]; unfold Smooth; first | exact Iff.rfl | simp)

theorem h_smoothI : Holds Try.prog 97 (fun args K => ∃ a b : D.Arc, args = [.agg a.enc, .agg b.enc] ∧ ArcOk a ∧ ArcOk b ∧ K [.p (.bool (pB (Smooth a b)))]) := by
  refine E.mk tt Try.func97 rfl Try.ntmps97 rfl (by kernel_rfl) ?_
  rintro _ K ⟨a, b, rfl, ha, hb, hK⟩
  have hs := smooth_bd ha hb
  unfold ArcOk PtOk at ha hb
  refine ⟨Nat.le_of_ble_eq_true rfl, _, hK, ?_⟩
  (repeat' ((conv => whnf); first
    | refine Sd.mk (by first | omega | (unfold in64; omega) | (simp only [fitK, in64]; omega) | (simp only [fitK, in64, chunk, List.length_map, List.length_append, List.length_replicate, List.length_set, List.length_nil, List.length_cons]; omega)) ?_
    | refine Br.yes rfl ?_
    | refine Br.no rfl ?_
    | refine Br.yes (by first | (simp only [ltB_t, ltB_f, eqB_t, eqB_f, pB_t, pB_f, sEq_t, sEq_f, emp_iff, ne_eq, List.length_map, Bool.not_eq_true, Bool.not_eq_false, Bool.not_eq_eq_eq_not, Bool.not_true, Bool.not_false]; done) | (simp only [ltB_t, ltB_f, eqB_t, eqB_f, pB_t, pB_f, sEq_t, sEq_f, emp_iff, ne_eq, List.length_map, Bool.not_eq_true, Bool.not_eq_false, Bool.not_eq_eq_eq_not, Bool.not_true, Bool.not_false]; omega) | (simp only [ltB_t, ltB_f, eqB_t, eqB_f, pB_t, pB_f, sEq_t, sEq_f, emp_iff, ne_eq, List.length_map, Bool.not_eq_true, Bool.not_eq_false, Bool.not_eq_eq_eq_not, Bool.not_true, Bool.not_false]; assumption)) ?_
    | refine Br.no (by first | (simp only [ltB_t, ltB_f, eqB_t, eqB_f, pB_t, pB_f, sEq_t, sEq_f, emp_iff, ne_eq, List.length_map, Bool.not_eq_true, Bool.not_eq_false, Bool.not_eq_eq_eq_not, Bool.not_true, Bool.not_false]; done) | (simp only [ltB_t, ltB_f, eqB_t, eqB_f, pB_t, pB_f, sEq_t, sEq_f, emp_iff, ne_eq, List.length_map, Bool.not_eq_true, Bool.not_eq_false, Bool.not_eq_eq_eq_not, Bool.not_true, Bool.not_false]; omega) | (simp only [ltB_t, ltB_f, eqB_t, eqB_f, pB_t, pB_f, sEq_t, sEq_f, emp_iff, ne_eq, List.length_map, Bool.not_eq_true, Bool.not_eq_false, Bool.not_eq_eq_eq_not, Bool.not_true, Bool.not_false]; assumption)) ?_
    | (refine Br.mk ?_ ?_ <;> intro h <;> (try simp only [ltB_t, ltB_f, eqB_t, eqB_f, pB_t, pB_f, sEq_t, sEq_f, emp_iff, ne_eq, List.length_map, Bool.not_eq_true, Bool.not_eq_false, Bool.not_eq_eq_eq_not, Bool.not_true, Bool.not_false] at h))
    | refine Elt.mk rfl ?_
    | refine Elt.mk (by assumption) ?_
    | refine Elt.mk (ixE (by omega) (by omega)) ?_)) <;> (try (conv => whnf))
  all_goals (refine fin_pB rfl rfl rfl ?_; simp only [ltB_t, ltB_f, eqB_t, eqB_f, pB_t, pB_f, sEq_t, sEq_f, emp_iff, ne_eq, List.length_map, Bool.not_eq_true, Bool.not_eq_false, Bool.not_eq_eq_eq_not, Bool.not_true, Bool.not_false, true_iff, false_iff, Bool.false_eq_true, iff_true, iff_false, and_true, true_and, not_false_eq_true]; unfold Smooth; first | exact Iff.rfl | simp)

theorem h_corners : Holds Try.prog 96 (fun args K => ∃ xs : List D.Arc, args = [.view 6 (xs.map D.Arc.enc)] ∧ ArcsOk xs ∧ K [.fresh ⟨2, 1, (cat (corG xs) xs.length).map encI⟩]) := by
  refine E.mk tt Try.func96 rfl Try.ntmps96 rfl (by kernel_rfl) ?_
  rintro _ K ⟨xs, rfl, hB, hK⟩
  have hln : (xs.map D.Arc.enc).length = xs.length := by simp
  have hle := hB.le
  refine ⟨Nat.le_of_ble_eq_true rfl, _, hK, ?_⟩
  (repeat' ((conv => whnf); first
    | refine Sd.mk (by first | omega | (unfold in64; omega) | (simp only [fitK, in64]; omega) | (simp only [fitK, in64, chunk, List.length_map, List.length_append, List.length_replicate, List.length_set, List.length_nil, List.length_cons]; omega)) ?_
    | refine Br.yes rfl ?_
    | refine Br.no rfl ?_
    | refine Br.yes (by first | (simp only [ltB_t, ltB_f, eqB_t, eqB_f, pB_t, pB_f, sEq_t, sEq_f, emp_iff, ne_eq, List.length_map, Bool.not_eq_true, Bool.not_eq_false, Bool.not_eq_eq_eq_not, Bool.not_true, Bool.not_false]; done) | (simp only [ltB_t, ltB_f, eqB_t, eqB_f, pB_t, pB_f, sEq_t, sEq_f, emp_iff, ne_eq, List.length_map, Bool.not_eq_true, Bool.not_eq_false, Bool.not_eq_eq_eq_not, Bool.not_true, Bool.not_false]; omega) | (simp only [ltB_t, ltB_f, eqB_t, eqB_f, pB_t, pB_f, sEq_t, sEq_f, emp_iff, ne_eq, List.length_map, Bool.not_eq_true, Bool.not_eq_false, Bool.not_eq_eq_eq_not, Bool.not_true, Bool.not_false]; assumption)) ?_
    | refine Br.no (by first | (simp only [ltB_t, ltB_f, eqB_t, eqB_f, pB_t, pB_f, sEq_t, sEq_f, emp_iff, ne_eq, List.length_map, Bool.not_eq_true, Bool.not_eq_false, Bool.not_eq_eq_eq_not, Bool.not_true, Bool.not_false]; done) | (simp only [ltB_t, ltB_f, eqB_t, eqB_f, pB_t, pB_f, sEq_t, sEq_f, emp_iff, ne_eq, List.length_map, Bool.not_eq_true, Bool.not_eq_false, Bool.not_eq_eq_eq_not, Bool.not_true, Bool.not_false]; omega) | (simp only [ltB_t, ltB_f, eqB_t, eqB_f, pB_t, pB_f, sEq_t, sEq_f, emp_iff, ne_eq, List.length_map, Bool.not_eq_true, Bool.not_eq_false, Bool.not_eq_eq_eq_not, Bool.not_true, Bool.not_false]; assumption)) ?_
    | (refine Br.mk ?_ ?_ <;> intro h <;> (try simp only [ltB_t, ltB_f, eqB_t, eqB_f, pB_t, pB_f, sEq_t, sEq_f, emp_iff, ne_eq, List.length_map, Bool.not_eq_true, Bool.not_eq_false, Bool.not_eq_eq_eq_not, Bool.not_true, Bool.not_false] at h))
    | refine Ixv.mk (by omega) (ixE (by omega) (by omega)) ?_
    | refine Elt.mk rfl ?_
    | refine Elt.mk (by assumption) ?_
    | refine Elt.mk (ixE (by omega) (by omega)) ?_
    | refine E.call tt h_smoothS rfl rfl ⟨_, _, rfl, by assumption, by assumption, _, _, rfl, rfl, ?_⟩
    | refine E.regionQ tt (id := 6) mixed (by decide +kernel) ?_)) <;> (try (conv => whnf))
  refine E.loop tt (fun i : Int => 0 ≤ i ∧ i ≤ xs.length) (fun i => ⟨30, 2, [(0, .p (.view 6 (xs.map D.Arc.enc))), (3, .own 1), (4, .p (I (xs.map D.Arc.enc).length)), (5, .p (I i))], [(1, ⟨2, 1, (cat (corG xs) i).map encI⟩)]⟩) (fun i => (xs.length - i).toNat) 0 ⟨by omega, by omega⟩ ⟨rfl, ⟨rfl, rfl, rfl, rfl, trivial⟩, ⟨rfl, trivial⟩, rfl, rfl⟩ ?_
  rintro i ⟨hi0, hi1⟩
  have hcl := cat_le (corG_le xs) (by omega) hi0
  rcases Int.lt_or_le i xs.length with hlt | hge
  · have hn := nxt_bd hi0 hlt
    have hn2 : (i + 1).tmod ((xs.map D.Arc.enc).length : Int) = nxt xs i := by rw [hln]; rfl
    have hn3 : (i + 1).tmod (xs.length : Int) = nxt xs i := rfl
    have hb1 := hB.at hi0 hlt
    have hb2 : ArcOk (ix xs ((i + 1).tmod ((xs.map D.Arc.enc).length : Int))) := by rw [hn2]; exact hB.at hn.1 hn.2
    (repeat' ((conv => whnf); first
    | refine Ixv.mk (by rw [hn2]; omega) (ixE (by rw [hn2]; omega) (by rw [hn2]; omega)) ?_
    | refine Sd.mk (by first | omega | (unfold in64; omega) | (simp only [fitK, in64]; omega) | (simp only [fitK, in64, chunk, List.length_map, List.length_append, List.length_replicate, List.length_set, List.length_nil, List.length_cons]; omega)) ?_
    | refine Br.yes rfl ?_
    | refine Br.no rfl ?_
    | refine Br.yes (by first | (simp only [ltB_t, ltB_f, eqB_t, eqB_f, pB_t, pB_f, sEq_t, sEq_f, emp_iff, ne_eq, List.length_map, Bool.not_eq_true, Bool.not_eq_false, Bool.not_eq_eq_eq_not, Bool.not_true, Bool.not_false]; done) | (simp only [ltB_t, ltB_f, eqB_t, eqB_f, pB_t, pB_f, sEq_t, sEq_f, emp_iff, ne_eq, List.length_map, Bool.not_eq_true, Bool.not_eq_false, Bool.not_eq_eq_eq_not, Bool.not_true, Bool.not_false]; omega) | (simp only [ltB_t, ltB_f, eqB_t, eqB_f, pB_t, pB_f, sEq_t, sEq_f, emp_iff, ne_eq, List.length_map, Bool.not_eq_true, Bool.not_eq_false, Bool.not_eq_eq_eq_not, Bool.not_true, Bool.not_false]; assumption)) ?_
    | refine Br.no (by first | (simp only [ltB_t, ltB_f, eqB_t, eqB_f, pB_t, pB_f, sEq_t, sEq_f, emp_iff, ne_eq, List.length_map, Bool.not_eq_true, Bool.not_eq_false, Bool.not_eq_eq_eq_not, Bool.not_true, Bool.not_false]; done) | (simp only [ltB_t, ltB_f, eqB_t, eqB_f, pB_t, pB_f, sEq_t, sEq_f, emp_iff, ne_eq, List.length_map, Bool.not_eq_true, Bool.not_eq_false, Bool.not_eq_eq_eq_not, Bool.not_true, Bool.not_false]; omega) | (simp only [ltB_t, ltB_f, eqB_t, eqB_f, pB_t, pB_f, sEq_t, sEq_f, emp_iff, ne_eq, List.length_map, Bool.not_eq_true, Bool.not_eq_false, Bool.not_eq_eq_eq_not, Bool.not_true, Bool.not_false]; assumption)) ?_
    | (refine Br.mk ?_ ?_ <;> intro h <;> (try simp only [ltB_t, ltB_f, eqB_t, eqB_f, pB_t, pB_f, sEq_t, sEq_f, emp_iff, ne_eq, List.length_map, Bool.not_eq_true, Bool.not_eq_false, Bool.not_eq_eq_eq_not, Bool.not_true, Bool.not_false] at h))
    | refine Ixv.mk (by omega) (ixE (by omega) (by omega)) ?_
    | refine Elt.mk rfl ?_
    | refine Elt.mk (by assumption) ?_
    | refine Elt.mk (ixE (by omega) (by omega)) ?_
    | refine E.call tt h_smoothS rfl rfl ⟨_, _, rfl, by assumption, by assumption, _, _, rfl, rfl, ?_⟩
    | refine E.regionQ tt (id := 6) mixed (by decide +kernel) ?_)) <;> (try (conv => whnf))
    all_goals (refine ⟨i + 1, ⟨by omega, by omega⟩, by dsimp only; omega, ⟨rfl, ⟨rfl, rfl, rfl, rfl, trivial⟩, ⟨congrArg some (rowEq (by first | (rw [cat_succ_nil hi0 (if_pos (by first | assumption | (rw [← hn3]; assumption) | (rw [← hn2]; assumption)))]) | (rw [cat_succ hi0, List.map_append, show corG xs i = [i] from if_neg (by first | assumption | (rw [← hn3]; assumption) | (rw [← hn2]; assumption))]; rfl))), trivial⟩, rfl, rfl⟩⟩)
  · have hie : i = xs.length := by omega
    (repeat' ((conv => whnf); first
    | refine Sd.mk (by first | omega | (unfold in64; omega) | (simp only [fitK, in64]; omega) | (simp only [fitK, in64, chunk, List.length_map, List.length_append, List.length_replicate, List.length_set, List.length_nil, List.length_cons]; omega)) ?_
    | refine Br.yes rfl ?_
    | refine Br.no rfl ?_
    | refine Br.yes (by first | (simp only [ltB_t, ltB_f, eqB_t, eqB_f, pB_t, pB_f, sEq_t, sEq_f, emp_iff, ne_eq, List.length_map, Bool.not_eq_true, Bool.not_eq_false, Bool.not_eq_eq_eq_not, Bool.not_true, Bool.not_false]; done) | (simp only [ltB_t, ltB_f, eqB_t, eqB_f, pB_t, pB_f, sEq_t, sEq_f, emp_iff, ne_eq, List.length_map, Bool.not_eq_true, Bool.not_eq_false, Bool.not_eq_eq_eq_not, Bool.not_true, Bool.not_false]; omega) | (simp only [ltB_t, ltB_f, eqB_t, eqB_f, pB_t, pB_f, sEq_t, sEq_f, emp_iff, ne_eq, List.length_map, Bool.not_eq_true, Bool.not_eq_false, Bool.not_eq_eq_eq_not, Bool.not_true, Bool.not_false]; assumption)) ?_
    | refine Br.no (by first | (simp only [ltB_t, ltB_f, eqB_t, eqB_f, pB_t, pB_f, sEq_t, sEq_f, emp_iff, ne_eq, List.length_map, Bool.not_eq_true, Bool.not_eq_false, Bool.not_eq_eq_eq_not, Bool.not_true, Bool.not_false]; done) | (simp only [ltB_t, ltB_f, eqB_t, eqB_f, pB_t, pB_f, sEq_t, sEq_f, emp_iff, ne_eq, List.length_map, Bool.not_eq_true, Bool.not_eq_false, Bool.not_eq_eq_eq_not, Bool.not_true, Bool.not_false]; omega) | (simp only [ltB_t, ltB_f, eqB_t, eqB_f, pB_t, pB_f, sEq_t, sEq_f, emp_iff, ne_eq, List.length_map, Bool.not_eq_true, Bool.not_eq_false, Bool.not_eq_eq_eq_not, Bool.not_true, Bool.not_false]; assumption)) ?_
    | (refine Br.mk ?_ ?_ <;> intro h <;> (try simp only [ltB_t, ltB_f, eqB_t, eqB_f, pB_t, pB_f, sEq_t, sEq_f, emp_iff, ne_eq, List.length_map, Bool.not_eq_true, Bool.not_eq_false, Bool.not_eq_eq_eq_not, Bool.not_true, Bool.not_false] at h))
    | refine Ixv.mk (by omega) (ixE (by omega) (by omega)) ?_
    | refine Elt.mk rfl ?_
    | refine Elt.mk (by assumption) ?_
    | refine Elt.mk (ixE (by omega) (by omega)) ?_
    | refine E.call tt h_smoothS rfl rfl ⟨_, _, rfl, by assumption, by assumption, _, _, rfl, rfl, ?_⟩
    | refine E.regionQ tt (id := 6) mixed (by decide +kernel) ?_)) <;> (try (conv => whnf))
    all_goals (subst hie; exact fin_p rfl rfl rfl rfl)

theorem h_CorS : Holds Try.prog 27 (cCor 2) := by
  refine E.mk tt Try.func27 rfl Try.ntmps27 rfl (by kernel_rfl) ?_
  rintro _ K ⟨xs, rs, rfl, hl, ⟨hB, rfl⟩ | ⟨hB, rfl⟩, hK⟩
  all_goals (refine ⟨Nat.le_of_ble_eq_true rfl, _, hK, ?_⟩)
  all_goals ((repeat' ((conv => whnf); first
    | refine Sd.mk (by first | omega | (unfold in64; omega) | (simp only [fitK, in64]; omega) | (simp only [fitK, in64, chunk, List.length_map, List.length_append, List.length_replicate, List.length_set, List.length_nil, List.length_cons]; omega)) ?_
    | refine Br.yes rfl ?_
    | refine Br.no rfl ?_
    | refine Br.yes (by first | (simp only [ltB_t, ltB_f, eqB_t, eqB_f, pB_t, pB_f, sEq_t, sEq_f, emp_iff, ne_eq, List.length_map, Bool.not_eq_true, Bool.not_eq_false, Bool.not_eq_eq_eq_not, Bool.not_true, Bool.not_false]; done) | (simp only [ltB_t, ltB_f, eqB_t, eqB_f, pB_t, pB_f, sEq_t, sEq_f, emp_iff, ne_eq, List.length_map, Bool.not_eq_true, Bool.not_eq_false, Bool.not_eq_eq_eq_not, Bool.not_true, Bool.not_false]; omega) | (simp only [ltB_t, ltB_f, eqB_t, eqB_f, pB_t, pB_f, sEq_t, sEq_f, emp_iff, ne_eq, List.length_map, Bool.not_eq_true, Bool.not_eq_false, Bool.not_eq_eq_eq_not, Bool.not_true, Bool.not_false]; assumption)) ?_
    | refine Br.no (by first | (simp only [ltB_t, ltB_f, eqB_t, eqB_f, pB_t, pB_f, sEq_t, sEq_f, emp_iff, ne_eq, List.length_map, Bool.not_eq_true, Bool.not_eq_false, Bool.not_eq_eq_eq_not, Bool.not_true, Bool.not_false]; done) | (simp only [ltB_t, ltB_f, eqB_t, eqB_f, pB_t, pB_f, sEq_t, sEq_f, emp_iff, ne_eq, List.length_map, Bool.not_eq_true, Bool.not_eq_false, Bool.not_eq_eq_eq_not, Bool.not_true, Bool.not_false]; omega) | (simp only [ltB_t, ltB_f, eqB_t, eqB_f, pB_t, pB_f, sEq_t, sEq_f, emp_iff, ne_eq, List.length_map, Bool.not_eq_true, Bool.not_eq_false, Bool.not_eq_eq_eq_not, Bool.not_true, Bool.not_false]; assumption)) ?_
    | (refine Br.mk ?_ ?_ <;> intro h <;> (try simp only [ltB_t, ltB_f, eqB_t, eqB_f, pB_t, pB_f, sEq_t, sEq_f, emp_iff, ne_eq, List.length_map, Bool.not_eq_true, Bool.not_eq_false, Bool.not_eq_eq_eq_not, Bool.not_true, Bool.not_false] at h))
    | refine Elt.mk rfl ?_
    | refine Elt.mk (by assumption) ?_
    | refine Elt.mk (ixE (by omega) (by omega)) ?_
    | refine E.call tt h_okSArc rfl rfl ⟨_, rfl, by first | omega | (simp only [List.length_map]; omega), fun _ _ => trivial, _, _, rfl, rfl, ?_⟩
    | refine E.callR tt h_corners rfl rfl ⟨_, rfl, by assumption, .inl rfl, ?_⟩)) <;> (try (conv => whnf)))
  all_goals (exact fin_p rfl rfl rfl rfl)



theorem h_CorI : Holds Try.prog 28 (cCor 2) := by
  refine E.mk tt Try.func28 rfl Try.ntmps28 rfl (by kernel_rfl) ?_
  rintro _ K ⟨xs, rs, rfl, hl, ⟨hB, rfl⟩ | ⟨hB, rfl⟩, hK⟩
  · refine ⟨Nat.le_of_ble_eq_true rfl, _, hK, ?_⟩
    (repeat' ((conv => whnf); first
    | refine Sd.mk (by first | omega | (unfold in64; omega) | (simp only [fitK, in64]; omega) | (simp only [fitK, in64, chunk, List.length_map, List.length_append, List.length_replicate, List.length_set, List.length_nil, List.length_cons]; omega)) ?_
    | refine Br.yes rfl ?_
    | refine Br.no rfl ?_
    | refine Br.yes (by first | (simp only [ltB_t, ltB_f, eqB_t, eqB_f, pB_t, pB_f, sEq_t, sEq_f, emp_iff, ne_eq, List.length_map, Bool.not_eq_true, Bool.not_eq_false, Bool.not_eq_eq_eq_not, Bool.not_true, Bool.not_false]; done) | (simp only [ltB_t, ltB_f, eqB_t, eqB_f, pB_t, pB_f, sEq_t, sEq_f, emp_iff, ne_eq, List.length_map, Bool.not_eq_true, Bool.not_eq_false, Bool.not_eq_eq_eq_not, Bool.not_true, Bool.not_false]; omega) | (simp only [ltB_t, ltB_f, eqB_t, eqB_f, pB_t, pB_f, sEq_t, sEq_f, emp_iff, ne_eq, List.length_map, Bool.not_eq_true, Bool.not_eq_false, Bool.not_eq_eq_eq_not, Bool.not_true, Bool.not_false]; assumption)) ?_
    | refine Br.no (by first | (simp only [ltB_t, ltB_f, eqB_t, eqB_f, pB_t, pB_f, sEq_t, sEq_f, emp_iff, ne_eq, List.length_map, Bool.not_eq_true, Bool.not_eq_false, Bool.not_eq_eq_eq_not, Bool.not_true, Bool.not_false]; done) | (simp only [ltB_t, ltB_f, eqB_t, eqB_f, pB_t, pB_f, sEq_t, sEq_f, emp_iff, ne_eq, List.length_map, Bool.not_eq_true, Bool.not_eq_false, Bool.not_eq_eq_eq_not, Bool.not_true, Bool.not_false]; omega) | (simp only [ltB_t, ltB_f, eqB_t, eqB_f, pB_t, pB_f, sEq_t, sEq_f, emp_iff, ne_eq, List.length_map, Bool.not_eq_true, Bool.not_eq_false, Bool.not_eq_eq_eq_not, Bool.not_true, Bool.not_false]; assumption)) ?_
    | (refine Br.mk ?_ ?_ <;> intro h <;> (try simp only [ltB_t, ltB_f, eqB_t, eqB_f, pB_t, pB_f, sEq_t, sEq_f, emp_iff, ne_eq, List.length_map, Bool.not_eq_true, Bool.not_eq_false, Bool.not_eq_eq_eq_not, Bool.not_true, Bool.not_false] at h))
    | refine Ixv.mk (by omega) (ixE (by omega) (by omega)) ?_
    | refine Elt.mk rfl ?_
    | refine Elt.mk (by assumption) ?_
    | refine Elt.mk (ixE (by omega) (by omega)) ?_
    | refine E.call tt h_okIArc rfl rfl ⟨_, rfl, by first | omega | (simp only [List.length_map]; omega), fun _ _ => trivial, _, _, rfl, rfl, ?_⟩
    | refine E.call tt h_smoothI rfl rfl ⟨_, _, rfl, by assumption, by assumption, _, _, rfl, rfl, ?_⟩
    | refine E.call tt h_next rfl rfl ⟨_, _, rfl, by omega, by omega, by omega, _, _, rfl, rfl, ?_⟩
    | refine E.regionQ tt (id := 7) mixed (by decide +kernel) ?_)) <;> (try (conv => whnf))
    all_goals (exact fin_p rfl rfl rfl rfl)
  · have hln : (xs.map D.Arc.enc).length = xs.length := by simp
    have hle := hB.le
    refine ⟨Nat.le_of_ble_eq_true rfl, _, hK, ?_⟩
    (repeat' ((conv => whnf); first
    | refine Sd.mk (by first | omega | (unfold in64; omega) | (simp only [fitK, in64]; omega) | (simp only [fitK, in64, chunk, List.length_map, List.length_append, List.length_replicate, List.length_set, List.length_nil, List.length_cons]; omega)) ?_
    | refine Br.yes rfl ?_
    | refine Br.no rfl ?_
    | refine Br.yes (by first | (simp only [ltB_t, ltB_f, eqB_t, eqB_f, pB_t, pB_f, sEq_t, sEq_f, emp_iff, ne_eq, List.length_map, Bool.not_eq_true, Bool.not_eq_false, Bool.not_eq_eq_eq_not, Bool.not_true, Bool.not_false]; done) | (simp only [ltB_t, ltB_f, eqB_t, eqB_f, pB_t, pB_f, sEq_t, sEq_f, emp_iff, ne_eq, List.length_map, Bool.not_eq_true, Bool.not_eq_false, Bool.not_eq_eq_eq_not, Bool.not_true, Bool.not_false]; omega) | (simp only [ltB_t, ltB_f, eqB_t, eqB_f, pB_t, pB_f, sEq_t, sEq_f, emp_iff, ne_eq, List.length_map, Bool.not_eq_true, Bool.not_eq_false, Bool.not_eq_eq_eq_not, Bool.not_true, Bool.not_false]; assumption)) ?_
    | refine Br.no (by first | (simp only [ltB_t, ltB_f, eqB_t, eqB_f, pB_t, pB_f, sEq_t, sEq_f, emp_iff, ne_eq, List.length_map, Bool.not_eq_true, Bool.not_eq_false, Bool.not_eq_eq_eq_not, Bool.not_true, Bool.not_false]; done) | (simp only [ltB_t, ltB_f, eqB_t, eqB_f, pB_t, pB_f, sEq_t, sEq_f, emp_iff, ne_eq, List.length_map, Bool.not_eq_true, Bool.not_eq_false, Bool.not_eq_eq_eq_not, Bool.not_true, Bool.not_false]; omega) | (simp only [ltB_t, ltB_f, eqB_t, eqB_f, pB_t, pB_f, sEq_t, sEq_f, emp_iff, ne_eq, List.length_map, Bool.not_eq_true, Bool.not_eq_false, Bool.not_eq_eq_eq_not, Bool.not_true, Bool.not_false]; assumption)) ?_
    | (refine Br.mk ?_ ?_ <;> intro h <;> (try simp only [ltB_t, ltB_f, eqB_t, eqB_f, pB_t, pB_f, sEq_t, sEq_f, emp_iff, ne_eq, List.length_map, Bool.not_eq_true, Bool.not_eq_false, Bool.not_eq_eq_eq_not, Bool.not_true, Bool.not_false] at h))
    | refine Ixv.mk (by omega) (ixE (by omega) (by omega)) ?_
    | refine Elt.mk rfl ?_
    | refine Elt.mk (by assumption) ?_
    | refine Elt.mk (ixE (by omega) (by omega)) ?_
    | refine E.call tt h_okIArc rfl rfl ⟨_, rfl, by first | omega | (simp only [List.length_map]; omega), fun _ _ => trivial, _, _, rfl, rfl, ?_⟩
    | refine E.call tt h_smoothI rfl rfl ⟨_, _, rfl, by assumption, by assumption, _, _, rfl, rfl, ?_⟩
    | refine E.call tt h_next rfl rfl ⟨_, _, rfl, by omega, by omega, by omega, _, _, rfl, rfl, ?_⟩
    | refine E.regionQ tt (id := 7) mixed (by decide +kernel) ?_)) <;> (try (conv => whnf))
    refine E.loop tt (fun i : Int => 0 ≤ i ∧ i ≤ xs.length) (fun i => ⟨30, 2, [(0, .p (.view 6 (xs.map D.Arc.enc))), (4, .own 1), (11, .p (.view 6 (xs.map D.Arc.enc))), (12, .p (I (xs.map D.Arc.enc).length)), (13, .p (I i))], [(1, ⟨2, 1, (cat (corG xs) i).map encI⟩)]⟩) (fun i => (xs.length - i).toNat) 0 ⟨by omega, by omega⟩ ⟨rfl, ⟨rfl, rfl, rfl, rfl, rfl, trivial⟩, ⟨rfl, trivial⟩, rfl, rfl⟩ ?_
    rintro i ⟨hi0, hi1⟩
    have hcl := cat_le (corG_le xs) (by omega) hi0
    rcases Int.lt_or_le i xs.length with hlt | hge
    · have hn := nxt_bd hi0 hlt
      have hb1 := hB.at hi0 hlt
      have hb2 := hB.at hn.1 hn.2
      (repeat' ((conv => whnf); first
    | refine Sd.mk (by first | omega | (unfold in64; omega) | (simp only [fitK, in64]; omega) | (simp only [fitK, in64, chunk, List.length_map, List.length_append, List.length_replicate, List.length_set, List.length_nil, List.length_cons]; omega)) ?_
    | refine Br.yes rfl ?_
    | refine Br.no rfl ?_
    | refine Br.yes (by first | (simp only [ltB_t, ltB_f, eqB_t, eqB_f, pB_t, pB_f, sEq_t, sEq_f, emp_iff, ne_eq, List.length_map, Bool.not_eq_true, Bool.not_eq_false, Bool.not_eq_eq_eq_not, Bool.not_true, Bool.not_false]; done) | (simp only [ltB_t, ltB_f, eqB_t, eqB_f, pB_t, pB_f, sEq_t, sEq_f, emp_iff, ne_eq, List.length_map, Bool.not_eq_true, Bool.not_eq_false, Bool.not_eq_eq_eq_not, Bool.not_true, Bool.not_false]; omega) | (simp only [ltB_t, ltB_f, eqB_t, eqB_f, pB_t, pB_f, sEq_t, sEq_f, emp_iff, ne_eq, List.length_map, Bool.not_eq_true, Bool.not_eq_false, Bool.not_eq_eq_eq_not, Bool.not_true, Bool.not_false]; assumption)) ?_
    | refine Br.no (by first | (simp only [ltB_t, ltB_f, eqB_t, eqB_f, pB_t, pB_f, sEq_t, sEq_f, emp_iff, ne_eq, List.length_map, Bool.not_eq_true, Bool.not_eq_false, Bool.not_eq_eq_eq_not, Bool.not_true, Bool.not_false]; done) | (simp only [ltB_t, ltB_f, eqB_t, eqB_f, pB_t, pB_f, sEq_t, sEq_f, emp_iff, ne_eq, List.length_map, Bool.not_eq_true, Bool.not_eq_false, Bool.not_eq_eq_eq_not, Bool.not_true, Bool.not_false]; omega) | (simp only [ltB_t, ltB_f, eqB_t, eqB_f, pB_t, pB_f, sEq_t, sEq_f, emp_iff, ne_eq, List.length_map, Bool.not_eq_true, Bool.not_eq_false, Bool.not_eq_eq_eq_not, Bool.not_true, Bool.not_false]; assumption)) ?_
    | (refine Br.mk ?_ ?_ <;> intro h <;> (try simp only [ltB_t, ltB_f, eqB_t, eqB_f, pB_t, pB_f, sEq_t, sEq_f, emp_iff, ne_eq, List.length_map, Bool.not_eq_true, Bool.not_eq_false, Bool.not_eq_eq_eq_not, Bool.not_true, Bool.not_false] at h))
    | refine Ixv.mk (by omega) (ixE (by omega) (by omega)) ?_
    | refine Elt.mk rfl ?_
    | refine Elt.mk (by assumption) ?_
    | refine Elt.mk (ixE (by omega) (by omega)) ?_
    | refine E.call tt h_okIArc rfl rfl ⟨_, rfl, by first | omega | (simp only [List.length_map]; omega), fun _ _ => trivial, _, _, rfl, rfl, ?_⟩
    | refine E.call tt h_smoothI rfl rfl ⟨_, _, rfl, by assumption, by assumption, _, _, rfl, rfl, ?_⟩
    | refine E.call tt h_next rfl rfl ⟨_, _, rfl, by omega, by omega, by omega, _, _, rfl, rfl, ?_⟩
    | refine E.regionQ tt (id := 7) mixed (by decide +kernel) ?_)) <;> (try (conv => whnf))
      all_goals (refine ⟨i + 1, ⟨by omega, by omega⟩, by dsimp only; omega, ⟨rfl, ⟨rfl, rfl, rfl, rfl, rfl, trivial⟩, ⟨congrArg some (rowEq (by first | (rw [cat_succ_nil hi0 (if_pos (by assumption))]) | (rw [cat_succ hi0, List.map_append, show corG xs i = [i] from if_neg (by assumption)]; rfl))), trivial⟩, rfl, rfl⟩⟩)
    · have hie : i = xs.length := by omega
      (repeat' ((conv => whnf); first
    | refine Sd.mk (by first | omega | (unfold in64; omega) | (simp only [fitK, in64]; omega) | (simp only [fitK, in64, chunk, List.length_map, List.length_append, List.length_replicate, List.length_set, List.length_nil, List.length_cons]; omega)) ?_
    | refine Br.yes rfl ?_
    | refine Br.no rfl ?_
    | refine Br.yes (by first | (simp only [ltB_t, ltB_f, eqB_t, eqB_f, pB_t, pB_f, sEq_t, sEq_f, emp_iff, ne_eq, List.length_map, Bool.not_eq_true, Bool.not_eq_false, Bool.not_eq_eq_eq_not, Bool.not_true, Bool.not_false]; done) | (simp only [ltB_t, ltB_f, eqB_t, eqB_f, pB_t, pB_f, sEq_t, sEq_f, emp_iff, ne_eq, List.length_map, Bool.not_eq_true, Bool.not_eq_false, Bool.not_eq_eq_eq_not, Bool.not_true, Bool.not_false]; omega) | (simp only [ltB_t, ltB_f, eqB_t, eqB_f, pB_t, pB_f, sEq_t, sEq_f, emp_iff, ne_eq, List.length_map, Bool.not_eq_true, Bool.not_eq_false, Bool.not_eq_eq_eq_not, Bool.not_true, Bool.not_false]; assumption)) ?_
    | refine Br.no (by first | (simp only [ltB_t, ltB_f, eqB_t, eqB_f, pB_t, pB_f, sEq_t, sEq_f, emp_iff, ne_eq, List.length_map, Bool.not_eq_true, Bool.not_eq_false, Bool.not_eq_eq_eq_not, Bool.not_true, Bool.not_false]; done) | (simp only [ltB_t, ltB_f, eqB_t, eqB_f, pB_t, pB_f, sEq_t, sEq_f, emp_iff, ne_eq, List.length_map, Bool.not_eq_true, Bool.not_eq_false, Bool.not_eq_eq_eq_not, Bool.not_true, Bool.not_false]; omega) | (simp only [ltB_t, ltB_f, eqB_t, eqB_f, pB_t, pB_f, sEq_t, sEq_f, emp_iff, ne_eq, List.length_map, Bool.not_eq_true, Bool.not_eq_false, Bool.not_eq_eq_eq_not, Bool.not_true, Bool.not_false]; assumption)) ?_
    | (refine Br.mk ?_ ?_ <;> intro h <;> (try simp only [ltB_t, ltB_f, eqB_t, eqB_f, pB_t, pB_f, sEq_t, sEq_f, emp_iff, ne_eq, List.length_map, Bool.not_eq_true, Bool.not_eq_false, Bool.not_eq_eq_eq_not, Bool.not_true, Bool.not_false] at h))
    | refine Ixv.mk (by omega) (ixE (by omega) (by omega)) ?_
    | refine Elt.mk rfl ?_
    | refine Elt.mk (by assumption) ?_
    | refine Elt.mk (ixE (by omega) (by omega)) ?_
    | refine E.call tt h_okIArc rfl rfl ⟨_, rfl, by first | omega | (simp only [List.length_map]; omega), fun _ _ => trivial, _, _, rfl, rfl, ?_⟩
    | refine E.call tt h_smoothI rfl rfl ⟨_, _, rfl, by assumption, by assumption, _, _, rfl, rfl, ?_⟩
    | refine E.call tt h_next rfl rfl ⟨_, _, rfl, by omega, by omega, by omega, _, _, rfl, rfl, ?_⟩
    | refine E.regionQ tt (id := 7) mixed (by decide +kernel) ?_)) <;> (try (conv => whnf))
      all_goals (subst hie; exact fin_p rfl rfl rfl rfl)



set_option maxHeartbeats 4000000 in
theorem h_lawCornersOf : Holds Try.prog 5 (fun args K => ∃ (a0 : List D.Arc), args = [.view 6 (a0.map D.Arc.enc)] ∧ ((a0.length : Int) ≤ 9223372036854775807 ∧ (∀ x ∈ a0, x.ok)) ∧ K [.p (.bool true)]) := by
  refine E.mk tt Try.func5 rfl Try.ntmps5 rfl (by kernel_rfl) ?_
  rintro _ K ⟨xs, rfl, ⟨hl, hok⟩, hK⟩
  have hcl := cat_le (corG_le xs) (by omega) (n := xs.length) (by omega)
  refine ⟨Nat.le_of_ble_eq_true rfl, _, hK, ?_⟩
  rcases cases1 (ArcsOk xs) with hB | hB
  all_goals (try have hle := hB.le)
  all_goals ((repeat' ((conv => whnf); first
    | refine Sd.mk (by first | omega | (unfold in64; omega) | (simp only [fitK, in64]; omega) | (simp only [fitK, in64, chunk, List.length_map, List.length_append, List.length_replicate, List.length_set, List.length_nil, List.length_cons]; omega)) ?_
    | refine Br.yes rfl ?_
    | refine Br.no rfl ?_
    | refine Br.yes (by first | (simp only [ltB_t, ltB_f, eqB_t, eqB_f, pB_t, pB_f, sEq_t, sEq_f, emp_iff, ne_eq, List.length_map, Bool.not_eq_true, Bool.not_eq_false, Bool.not_eq_eq_eq_not, Bool.not_true, Bool.not_false]; done) | (simp only [ltB_t, ltB_f, eqB_t, eqB_f, pB_t, pB_f, sEq_t, sEq_f, emp_iff, ne_eq, List.length_map, Bool.not_eq_true, Bool.not_eq_false, Bool.not_eq_eq_eq_not, Bool.not_true, Bool.not_false]; omega) | (simp only [ltB_t, ltB_f, eqB_t, eqB_f, pB_t, pB_f, sEq_t, sEq_f, emp_iff, ne_eq, List.length_map, Bool.not_eq_true, Bool.not_eq_false, Bool.not_eq_eq_eq_not, Bool.not_true, Bool.not_false]; assumption)) ?_
    | refine Br.no (by first | (simp only [ltB_t, ltB_f, eqB_t, eqB_f, pB_t, pB_f, sEq_t, sEq_f, emp_iff, ne_eq, List.length_map, Bool.not_eq_true, Bool.not_eq_false, Bool.not_eq_eq_eq_not, Bool.not_true, Bool.not_false]; done) | (simp only [ltB_t, ltB_f, eqB_t, eqB_f, pB_t, pB_f, sEq_t, sEq_f, emp_iff, ne_eq, List.length_map, Bool.not_eq_true, Bool.not_eq_false, Bool.not_eq_eq_eq_not, Bool.not_true, Bool.not_false]; omega) | (simp only [ltB_t, ltB_f, eqB_t, eqB_f, pB_t, pB_f, sEq_t, sEq_f, emp_iff, ne_eq, List.length_map, Bool.not_eq_true, Bool.not_eq_false, Bool.not_eq_eq_eq_not, Bool.not_true, Bool.not_false]; assumption)) ?_
    | (refine Br.mk ?_ ?_ <;> intro h <;> (try simp only [ltB_t, ltB_f, eqB_t, eqB_f, pB_t, pB_f, sEq_t, sEq_f, emp_iff, ne_eq, List.length_map, Bool.not_eq_true, Bool.not_eq_false, Bool.not_eq_eq_eq_not, Bool.not_true, Bool.not_false] at h))
    | refine Elt.mk rfl ?_
    | refine Elt.mk (by assumption) ?_
    | refine Elt.mk (ixE (by omega) (by omega)) ?_
    | (refine E.call tt h_szArcS rfl rfl ⟨_, _, rfl, by omega, by assumption, by omega, by omega, fun rz hrz hrz2 => ⟨_, _, rfl, rfl, ?_⟩⟩)
    | refine E.callR tt h_toArcS rfl rfl ⟨_, rfl, by omega, .inl rfl, ?_⟩
    | refine E.call tt h_eqArcS rfl rfl ⟨_, _, rfl, by omega, _, _, rfl, rfl, ?_⟩
    | refine E.call tt (h_eqArcS.nilV [6, 6]) rfl rfl ⟨[], [], rfl, by decide, _, _, rfl, rfl, ?_⟩
    | refine E.callM tt h_markArcS rfl rfl rfl rfl rfl rfl ⟨_, _, rfl, rfl, by omega, by omega, by omega, rfl, _, rfl, by simp [mkl_length], ?_⟩
    | refine E.call tt (h_markArcSN.nilV [6]) rfl rfl ⟨_, rfl, by unfold in64; omega, _, _, rfl, rfl, ?_⟩
    | refine E.callR tt h_CorS rfl rfl ⟨_, _, rfl, by omega, .inr ⟨by assumption, rfl⟩, .inr (rv2 (sc_map encI_sc) rfl), ?_⟩
    | refine E.callR tt h_CorS rfl rfl ⟨_, _, rfl, by omega, .inl ⟨by assumption, rfl⟩, .inr (allSc_ok _ rfl), ?_⟩
    | refine E.callR tt h_CorI rfl rfl ⟨_, _, rfl, by omega, .inr ⟨by assumption, rfl⟩, .inr (rv2 (sc_map encI_sc) rfl), ?_⟩
    | refine E.callR tt h_CorI rfl rfl ⟨_, _, rfl, by omega, .inl ⟨by assumption, rfl⟩, .inr (allSc_ok _ rfl), ?_⟩
    | refine E.call tt h_eqInt64S rfl rfl ⟨_, _, rfl, by omega, _, _, rfl, rfl, ?_⟩
    | refine E.call tt (h_eqInt64S.nilV [1, 1]) rfl rfl ⟨[], [], rfl, by decide, _, _, rfl, rfl, ?_⟩
    | refine E.callM tt h_markInt64S rfl rfl rfl rfl rfl rfl ⟨_, _, rfl, rfl, by omega, by omega, by omega, rfl, _, rfl, by simp [mkl_length], ?_⟩
    | refine E.call tt (h_markInt64SN.nilV [1]) rfl rfl ⟨_, rfl, by unfold in64; omega, _, _, rfl, rfl, ?_⟩
    | refine E.call tt h_heldInt64S rfl rfl ⟨_, _, rfl, by omega, by omega, by omega, _, _, rfl, rfl, ?_⟩
    | refine E.call tt (h_heldInt64S.nilV [1]) rfl rfl ⟨0, _, rfl, by decide, by omega, by omega, _, _, rfl, rfl, ?_⟩)) <;> (try (conv => whnf)))
  all_goals exact fin_p rfl rfl rfl rfl

end Go.Proofs.Ythpcibkoldnpaaa
namespace Go.Proofs.Ythpcibkoldnpaaa
open Go.ChangeShapes Go.WideShapes Go.ChangeAt Go.RowKit Go.Lo
open Go.ChangeMaps (open_string shut_string)
theorem cornersOf_own : ownKnob Try.prog.godebug = none := by kernel_rfl
theorem cornersOf_laidOut : laidOutB Try.prog = true := by kernel_rfl
theorem cornersOf_rd_Arc_pt : Reads Try.prog 129 2 (fun p => ∃ a b : Int, p = [I a, I b] ∧ in64 a ∧ in64 b) :=
  (reads_struct Try.underlying129 [(1, _), (1, _)] ⟨rfl, by kernel_rfl, reads_int Try.underlying2, rfl, by kernel_rfl, reads_int Try.underlying2, trivial⟩ (by kernel_rfl)).mono fun p h => by
    obtain ⟨_, _, rfl, _, ⟨n0, rfl, h0⟩, _, _, rfl, _, ⟨n1, rfl, h1⟩, rfl⟩ := h
    exact ⟨n0, n1, rfl, h0, h1⟩
theorem cornersOf_rd_Arc : Reads Try.prog 131 6 (fun p => ∃ x : D.Arc, p = x.enc ∧ x.ok) :=
  (reads_struct Try.underlying131 [(2, _), (2, _), (2, _)] ⟨rfl, by kernel_rfl, cornersOf_rd_Arc_pt, rfl, by kernel_rfl, cornersOf_rd_Arc_pt, rfl, by kernel_rfl, cornersOf_rd_Arc_pt, trivial⟩ (by kernel_rfl)).mono fun p h => by
    obtain ⟨_, _, rfl, _, ⟨a0, b0, rfl, p0, q0⟩, _, _, rfl, _, ⟨a1, b1, rfl, p1, q1⟩, _, _, rfl, _, ⟨a2, b2, rfl, p2, q2⟩, rfl⟩ := h
    exact ⟨⟨a0, b0, a1, b1, a2, b2⟩, rfl, by unfold D.Arc.ok; exact ⟨p0, q0, p1, q1, p2, q2⟩⟩
theorem cornersOf_lifted (os : Os) (started : os.Started) (H : Type) (enc : TypeId × Value → H) :
    ReturnsInHanded {} Try.checked os 5 .any (Rows.fnExactCornersOfSpec.pre6 enc Try.prog Try.f5 Rows.fnExactCornersOfRow.domain false) (Rows.fnExactCornersOfSpec.post enc Try.prog Try.f5 false true false false) := by
  refine returnsInHanded_of_change (C := Try.checked) cornersOf_own started (by kernel_rfl) Try.func5
    (ChangeSpec.witness6 (enc := enc) (C := Try.checked) false ⟨#[], #[.slice none 0 0], []⟩ 8 (by kernel_rfl) (by kernel_rfl) (by kernel_rfl) (by kernel_rfl)) ?_
  intro W base args ds gs before hval0 hW hcnd _
  have hval : ∀ (j : Nat) t v, Try.f5.params[j]? = some t → args[j]? = some v → Value.okWide Try.prog W .any base t v := hval0
  have hW' := hW
  obtain ⟨p, q, hA0, hV, rfl, hfz, hnd⟩ := hW
  have hA : DataW.TrodAll enc Try.prog W 0 (fun _ => true) true Try.f5.params.toList args.toList ds p := hA0
  rw [Try.params5] at hA hval
  obtain ⟨v0, vs0, d0, ds0, p0, q0, hargs, rfl, rfl, h0, r0⟩ := trodAll_cons hA
  obtain ⟨rfl, rfl, rfl⟩ := trodAll_nil r0
  obtain rfl : args = #[v0] := by cases args; simp_all
  obtain ⟨rfl, rfl⟩ := trodVars_none hV
  have lt0 : ∀ x ∈ p0, x.block < W.heap.size := by obtain ⟨m, hm⟩ := h0; exact DataW.trod_lt m _ _ _ hm
  obtain ⟨y0, hy0, a0, e0, c0, d0⟩ := (reads_list Try.underlying30 cornersOf_rd_Arc (by kernel_rfl) (by decide)).arg h0 (by obtain ⟨a, l, c, rfl⟩ := okWide_slice Try.underlying30 (hval 0 30 v0 rfl rfl); rfl)
  cases e0
  obtain ⟨rs, hro, hrs⟩ := h_lawCornersOf.2 [.view 6 (a0.map D.Arc.enc)] (fun rs => rs = [.p (.bool true)]) ⟨a0, rfl, ⟨c0, d0⟩, rfl⟩
  subst hrs
  have hAr : ArgsR W (fun _ => True) [.view 6 (a0.map D.Arc.enc)] #[v0] := ⟨rfl, fun i m u hm hu => by
    match i, hm, hu with
    | 0, hm, hu => simp at hm hu; subst hm; subst hu; exact hy0.mono fun b hb => ⟨⟨hb, trivial⟩, rfl⟩⟩
  refine (hro W _ _ hAr).mono fun e W' ⟨v, he, ⟨bl, cp, hr⟩, bel⟩ => ?_
  have hvv := hr.one _ rfl
  simp only [R1] at hvv
  have hvv := VR.of_val (u := .bool true) rfl hvv
  subst hvv
  subst he
  exact ⟨_, rfl, _, _, _, [], _, [], hW', trodAll_mk1 (shut_bool Try.underlying4 _), (trodAll_cons_mk (Below.trod cornersOf_laidOut (by kernel_rfl) (of_decide_eq_true (by kernel_rfl)) h0 bel lt0) trodAll_mk0), rfl, bel.frame _, fun h => by cases h⟩
theorem cornersOf_proved : Rows.FnExactCornersOfSaid :=
  OpenClaim.holds_of_wide 5 Try.f5 rfl rfl rfl rfl rfl rfl rfl ⟨rfl, rfl, rfl, rfl, rfl⟩ rfl rfl rfl rfl rfl (by kernel_rfl) Try.func5 (by kernel_rfl)
    (of_decide_eq_true (by kernel_rfl)) (by unfold Func.isWrapper; first | (rw [if_pos (by decide +kernel)]; kernel_rfl) | (rw [if_neg (by decide +kernel)]; exact ⟨rfl, rfl⟩))
    (fun os started H enc _ => cornersOf_lifted os started H enc)
#print axioms cornersOf_proved
end Go.Proofs.Ythpcibkoldnpaaa
