/- Proved: the law FnExactLongestHold answers true for every input and leaves its arguments as they were (Rows.FnExactLongestHoldSaid); no conditions. -/
import Derived.Test.YtbhamhfiiafplaaDeeds
import Derived.Test.YtbhamhfiiafplaaRows
import Derived.WalkKit
import Derived.ProofKit
import Derived.OpenShut
import Derived.ShutString
import Derived.ChangeOld
import Derived.Below
set_option linter.unusedVariables false
set_option linter.unusedSimpArgs false
set_option maxRecDepth 100000
namespace Go.Lo
-- deps: Deeds
def held (xs : List D.Deed) (ch : List Int) (i : Int) : Int := (ix xs (ix ch i)).Year - (ix xs (ix ch (i - 1))).Year
def lhF (xs : List D.Deed) (ch : List Int) (p : Int × Int) (j : Int) : Int × Int := if p.1 < 0 ∨ p.2 < held xs ch (j + 1) then (j + 1, held xs ch (j + 1)) else p
def lh (xs : List D.Deed) (ch : List Int) (j : Int) : Int × Int := it (lhF xs ch) (-1, 0) j
theorem deeds_sorted {xs : List D.Deed} (h : DeedsOk xs) {a b : Int} (h0 : 0 ≤ a) (h1 : a ≤ b) (h2 : b < xs.length) : (ix xs a).Year ≤ (ix xs b).Year := by
  obtain ⟨n, rfl⟩ : ∃ n : Nat, b = a + n := ⟨(b - a).toNat, by omega⟩
  clear h1
  induction n with
  | zero => simp
  | succ n ih =>
    have ih := ih (by omega)
    have hc := (h.1 (a + n + 1) (by omega) (by omega)).2 (by omega)
    rw [show a + (n : Int) + 1 - 1 = a + n by omega] at hc
    rw [show a + ((n + 1 : Nat) : Int) = a + n + 1 by omega]
    omega
theorem held_nn {xs : List D.Deed} {ch : List Int} (h : DeedsOk xs) (hc : ChainOk xs ch) {i : Int} (h0 : 1 ≤ i) (h1 : i < ch.length) : 0 ≤ held xs ch i ∧ held xs ch i ≤ 2100 := by
  have a := hc.1 i (by omega) h1
  have b := hc.1 (i - 1) (by omega) (by omega)
  unfold ChainC at a b
  have c := a.2 (by omega)
  have d := deeds_sorted h (a := ix ch (i - 1)) (b := ix ch i) (by omega) (by omega) (by omega)
  have e := h.at (i := ix ch (i - 1)) (by omega) (by omega)
  have f := h.at (i := ix ch i) (by omega) (by omega)
  unfold DeedOk at e f
  unfold held
  omega
theorem lh_inv {xs : List D.Deed} {ch : List Int} (h : DeedsOk xs) (hc : ChainOk xs ch) {j : Int} (h0 : 0 ≤ j) (h1 : j < ch.length) : (j = 0 → lh xs ch j = (-1, 0)) ∧ (0 < j → 1 ≤ (lh xs ch j).1 ∧ (lh xs ch j).1 < ch.length ∧ 0 ≤ (lh xs ch j).2 ∧ (lh xs ch j).2 ≤ 2100) := by
  refine ⟨fun e => by subst e; rfl, ?_⟩
  refine (it_inv (f := lhF xs ch) (fun n p => (n = 0 → p.1 = -1) ∧ (0 < n → 1 ≤ p.1 ∧ p.1 < ch.length ∧ 0 ≤ p.2 ∧ p.2 ≤ 2100)) ⟨fun _ => rfl, fun h => by omega⟩ (N := ch.length - 1) (fun n p n0 n1 hq => ⟨fun _ => by omega, fun _ => ?_⟩) h0 (by omega)).2
  have hb := held_nn h hc (i := n + 1) (by omega) (by omega)
  unfold lhF
  split
  · exact ⟨by dsimp only; omega, by dsimp only; omega, by dsimp only; omega, by dsimp only; omega⟩
  · rename_i hn
    by_cases hz : 0 < n
    · exact hq.2 hz
    · have := hq.1 (by omega)
      omega
def cHold : Ct := fun args K => ∃ (xs : List D.Deed) (ch : List Int) (rs : RV), args = [.view 4 (xs.map D.Deed.enc), .view 1 (ch.map encI)] ∧ (xs.length : Int) ≤ 1048576 ∧ (ch.length : Int) ≤ 1048576 ∧ (∀ x ∈ xs, x.ok) ∧
  spec3 (DeedsOk xs) (ChainOk xs ch) (¬ (ch.length : Int) = 1) [.p (I 0), .p (I 0), .p (I 1)] [.p (I 0), .p (I 0), .p (I 7)] [.p (I 0), .p (I 0), .p (I 3)] [.p (I (lh xs ch (ch.length - 1)).1), .p (I (lh xs ch (ch.length - 1)).2), .p (I 0)] rs ∧ K rs
end Go.Lo
namespace Go.Proofs.Ytbhamhfiiafplaa
open Go.Lo
attribute [local irreducible] W Wc

theorem h_HoldS : Holds Try.prog 68 cHold := by
  refine E.mk tt Try.func68 rfl Try.ntmps68 rfl (by kernel_rfl) ?_
  rintro _ K ⟨xs, ch, rs, rfl, hl, hl2, hok, ⟨hB, rfl⟩ | ⟨hB, ⟨hC, rfl⟩ | ⟨hC, hrs⟩⟩, hK⟩
  · refine ⟨Nat.le_of_ble_eq_true rfl, _, hK, ?_⟩
    (repeat' ((conv => whnf); first
    | refine Sd.mk (by first | omega | (unfold in64; omega) | (simp only [fitK, in64]; omega) | (simp only [fitK, in64, chunk, List.length_map, List.length_append, List.length_replicate, List.length_set, List.length_nil, List.length_cons]; omega)) ?_
    | refine Br.yes rfl ?_
    | refine Br.no rfl ?_
    | refine Br.yes (by first | (simp only [ltB_t, ltB_f, eqB_t, eqB_f, pB_t, pB_f, sEq_t, sEq_f, emp_iff, ne_eq, List.length_map, Bool.not_eq_true, Bool.not_eq_false, Bool.not_eq_eq_eq_not, Bool.not_true, Bool.not_false]; done) | (simp only [ltB_t, ltB_f, eqB_t, eqB_f, pB_t, pB_f, sEq_t, sEq_f, emp_iff, ne_eq, List.length_map, Bool.not_eq_true, Bool.not_eq_false, Bool.not_eq_eq_eq_not, Bool.not_true, Bool.not_false]; omega) | (simp only [ltB_t, ltB_f, eqB_t, eqB_f, pB_t, pB_f, sEq_t, sEq_f, emp_iff, ne_eq, List.length_map, Bool.not_eq_true, Bool.not_eq_false, Bool.not_eq_eq_eq_not, Bool.not_true, Bool.not_false]; assumption)) ?_
    | refine Br.no (by first | (simp only [ltB_t, ltB_f, eqB_t, eqB_f, pB_t, pB_f, sEq_t, sEq_f, emp_iff, ne_eq, List.length_map, Bool.not_eq_true, Bool.not_eq_false, Bool.not_eq_eq_eq_not, Bool.not_true, Bool.not_false]; done) | (simp only [ltB_t, ltB_f, eqB_t, eqB_f, pB_t, pB_f, sEq_t, sEq_f, emp_iff, ne_eq, List.length_map, Bool.not_eq_true, Bool.not_eq_false, Bool.not_eq_eq_eq_not, Bool.not_true, Bool.not_false]; omega) | (simp only [ltB_t, ltB_f, eqB_t, eqB_f, pB_t, pB_f, sEq_t, sEq_f, emp_iff, ne_eq, List.length_map, Bool.not_eq_true, Bool.not_eq_false, Bool.not_eq_eq_eq_not, Bool.not_true, Bool.not_false]; assumption)) ?_
    | (refine Br.mk ?_ ?_ <;> intro h <;> (try simp only [ltB_t, ltB_f, eqB_t, eqB_f, pB_t, pB_f, sEq_t, sEq_f, emp_iff, ne_eq, List.length_map, Bool.not_eq_true, Bool.not_eq_false, Bool.not_eq_eq_eq_not, Bool.not_true, Bool.not_false] at h))
    | refine Ixv.mk (by omega) (ixE (by omega) (by omega)) ?_
    | refine Elt.mk rfl ?_
    | refine Elt.mk (by assumption) ?_
    | refine Elt.mk (ixE (by omega) (by omega)) ?_
    | refine E.call tt h_okDeed rfl rfl ⟨_, rfl, by first | omega | (simp only [List.length_map]; omega), by assumption, _, _, rfl, rfl, ?_⟩
    | refine E.call tt h_chainS rfl rfl ⟨_, _, rfl, by omega, by omega, _, _, rfl, rfl, ?_⟩
    | refine E.regionQ tt (id := 10) mixed (by decide +kernel) ?_)) <;> (try (conv => whnf))
    all_goals (exact fin_p rfl rfl rfl rfl)
  · refine ⟨Nat.le_of_ble_eq_true rfl, _, hK, ?_⟩
    (repeat' ((conv => whnf); first
    | refine Sd.mk (by first | omega | (unfold in64; omega) | (simp only [fitK, in64]; omega) | (simp only [fitK, in64, chunk, List.length_map, List.length_append, List.length_replicate, List.length_set, List.length_nil, List.length_cons]; omega)) ?_
    | refine Br.yes rfl ?_
    | refine Br.no rfl ?_
    | refine Br.yes (by first | (simp only [ltB_t, ltB_f, eqB_t, eqB_f, pB_t, pB_f, sEq_t, sEq_f, emp_iff, ne_eq, List.length_map, Bool.not_eq_true, Bool.not_eq_false, Bool.not_eq_eq_eq_not, Bool.not_true, Bool.not_false]; done) | (simp only [ltB_t, ltB_f, eqB_t, eqB_f, pB_t, pB_f, sEq_t, sEq_f, emp_iff, ne_eq, List.length_map, Bool.not_eq_true, Bool.not_eq_false, Bool.not_eq_eq_eq_not, Bool.not_true, Bool.not_false]; omega) | (simp only [ltB_t, ltB_f, eqB_t, eqB_f, pB_t, pB_f, sEq_t, sEq_f, emp_iff, ne_eq, List.length_map, Bool.not_eq_true, Bool.not_eq_false, Bool.not_eq_eq_eq_not, Bool.not_true, Bool.not_false]; assumption)) ?_
    | refine Br.no (by first | (simp only [ltB_t, ltB_f, eqB_t, eqB_f, pB_t, pB_f, sEq_t, sEq_f, emp_iff, ne_eq, List.length_map, Bool.not_eq_true, Bool.not_eq_false, Bool.not_eq_eq_eq_not, Bool.not_true, Bool.not_false]; done) | (simp only [ltB_t, ltB_f, eqB_t, eqB_f, pB_t, pB_f, sEq_t, sEq_f, emp_iff, ne_eq, List.length_map, Bool.not_eq_true, Bool.not_eq_false, Bool.not_eq_eq_eq_not, Bool.not_true, Bool.not_false]; omega) | (simp only [ltB_t, ltB_f, eqB_t, eqB_f, pB_t, pB_f, sEq_t, sEq_f, emp_iff, ne_eq, List.length_map, Bool.not_eq_true, Bool.not_eq_false, Bool.not_eq_eq_eq_not, Bool.not_true, Bool.not_false]; assumption)) ?_
    | (refine Br.mk ?_ ?_ <;> intro h <;> (try simp only [ltB_t, ltB_f, eqB_t, eqB_f, pB_t, pB_f, sEq_t, sEq_f, emp_iff, ne_eq, List.length_map, Bool.not_eq_true, Bool.not_eq_false, Bool.not_eq_eq_eq_not, Bool.not_true, Bool.not_false] at h))
    | refine Ixv.mk (by omega) (ixE (by omega) (by omega)) ?_
    | refine Elt.mk rfl ?_
    | refine Elt.mk (by assumption) ?_
    | refine Elt.mk (ixE (by omega) (by omega)) ?_
    | refine E.call tt h_okDeed rfl rfl ⟨_, rfl, by first | omega | (simp only [List.length_map]; omega), by assumption, _, _, rfl, rfl, ?_⟩
    | refine E.call tt h_chainS rfl rfl ⟨_, _, rfl, by omega, by omega, _, _, rfl, rfl, ?_⟩
    | refine E.regionQ tt (id := 10) mixed (by decide +kernel) ?_)) <;> (try (conv => whnf))
    all_goals (exact fin_p rfl rfl rfl rfl)
  · have hln : (xs.map D.Deed.enc).length = xs.length := by simp
    have hln2 : (ch.map encI).length = ch.length := by simp
    have hpos := hC.2
    refine ⟨Nat.le_of_ble_eq_true rfl, _, hK, ?_⟩
    (repeat' ((conv => whnf); first
    | refine Sd.mk (by first | omega | (unfold in64; omega) | (simp only [fitK, in64]; omega) | (simp only [fitK, in64, chunk, List.length_map, List.length_append, List.length_replicate, List.length_set, List.length_nil, List.length_cons]; omega)) ?_
    | refine Br.yes rfl ?_
    | refine Br.no rfl ?_
    | refine Br.yes (by first | (simp only [ltB_t, ltB_f, eqB_t, eqB_f, pB_t, pB_f, sEq_t, sEq_f, emp_iff, ne_eq, List.length_map, Bool.not_eq_true, Bool.not_eq_false, Bool.not_eq_eq_eq_not, Bool.not_true, Bool.not_false]; done) | (simp only [ltB_t, ltB_f, eqB_t, eqB_f, pB_t, pB_f, sEq_t, sEq_f, emp_iff, ne_eq, List.length_map, Bool.not_eq_true, Bool.not_eq_false, Bool.not_eq_eq_eq_not, Bool.not_true, Bool.not_false]; omega) | (simp only [ltB_t, ltB_f, eqB_t, eqB_f, pB_t, pB_f, sEq_t, sEq_f, emp_iff, ne_eq, List.length_map, Bool.not_eq_true, Bool.not_eq_false, Bool.not_eq_eq_eq_not, Bool.not_true, Bool.not_false]; assumption)) ?_
    | refine Br.no (by first | (simp only [ltB_t, ltB_f, eqB_t, eqB_f, pB_t, pB_f, sEq_t, sEq_f, emp_iff, ne_eq, List.length_map, Bool.not_eq_true, Bool.not_eq_false, Bool.not_eq_eq_eq_not, Bool.not_true, Bool.not_false]; done) | (simp only [ltB_t, ltB_f, eqB_t, eqB_f, pB_t, pB_f, sEq_t, sEq_f, emp_iff, ne_eq, List.length_map, Bool.not_eq_true, Bool.not_eq_false, Bool.not_eq_eq_eq_not, Bool.not_true, Bool.not_false]; omega) | (simp only [ltB_t, ltB_f, eqB_t, eqB_f, pB_t, pB_f, sEq_t, sEq_f, emp_iff, ne_eq, List.length_map, Bool.not_eq_true, Bool.not_eq_false, Bool.not_eq_eq_eq_not, Bool.not_true, Bool.not_false]; assumption)) ?_
    | (refine Br.mk ?_ ?_ <;> intro h <;> (try simp only [ltB_t, ltB_f, eqB_t, eqB_f, pB_t, pB_f, sEq_t, sEq_f, emp_iff, ne_eq, List.length_map, Bool.not_eq_true, Bool.not_eq_false, Bool.not_eq_eq_eq_not, Bool.not_true, Bool.not_false] at h))
    | refine Ixv.mk (by omega) (ixE (by omega) (by omega)) ?_
    | refine Elt.mk rfl ?_
    | refine Elt.mk (by assumption) ?_
    | refine Elt.mk (ixE (by omega) (by omega)) ?_
    | refine E.call tt h_okDeed rfl rfl ⟨_, rfl, by first | omega | (simp only [List.length_map]; omega), by assumption, _, _, rfl, rfl, ?_⟩
    | refine E.call tt h_chainS rfl rfl ⟨_, _, rfl, by omega, by omega, _, _, rfl, rfl, ?_⟩
    | refine E.regionQ tt (id := 10) mixed (by decide +kernel) ?_)) <;> (try (conv => whnf))
    refine E.loop tt (fun i : Int => 1 ≤ i ∧ i ≤ ch.length) (fun i => ⟨55, 1, [(0, .p (.view 4 (xs.map D.Deed.enc))), (1, .p (.view 1 (ch.map encI))), (7, .p (I (lh xs ch (i - 1)).1)), (8, .p (I (lh xs ch (i - 1)).2)), (9, .p (I i))], []⟩) (fun i => (ch.length - i).toNat) 1 ⟨by omega, by omega⟩ ⟨rfl, ⟨rfl, rfl, rfl, rfl, rfl, trivial⟩, trivial, rfl, rfl⟩ ?_
    rintro i ⟨hi0, hi1⟩
    have hinv := lh_inv hB hC (j := i - 1) (by omega) (by omega)
    rcases Int.lt_or_le i ch.length with hlt | hge
    · have a := (hC.1 i (by omega) hlt).1
      have b := (hC.1 (i - 1) (by omega) (by omega)).1
      have hb := held_nn hB hC hi0 hlt
      have hh : (ix xs (ix ch i)).Year - (ix xs (ix ch (i - 1))).Year = held xs ch i := rfl
      have e := hB.at (i := ix ch (i - 1)) (by omega) (by omega)
      have f := hB.at (i := ix ch i) (by omega) (by omega)
      unfold DeedOk at e f
      have hsu : lh xs ch (i + 1 - 1) = lhF xs ch (lh xs ch (i - 1)) (i - 1) := by
        have := it_succ (f := lhF xs ch) (s := (-1, 0)) (n := i - 1) (by omega)
        rw [show i + 1 - 1 = i - 1 + 1 by omega]; exact this
      unfold lhF at hsu
      rw [show i - 1 + 1 = i by omega] at hsu
      by_cases hc : (lh xs ch (i - 1)).1 < 0 ∨ (lh xs ch (i - 1)).2 < held xs ch i
      · rw [if_pos hc] at hsu
        (repeat' ((conv => whnf); first
    | refine Sd.mk (by first | omega | (unfold in64; omega) | (simp only [fitK, in64]; omega) | (simp only [fitK, in64, chunk, List.length_map, List.length_append, List.length_replicate, List.length_set, List.length_nil, List.length_cons]; omega)) ?_
    | refine Br.yes rfl ?_
    | refine Br.no rfl ?_
    | refine Br.yes (by first | (simp only [ltB_t, ltB_f, eqB_t, eqB_f, pB_t, pB_f, sEq_t, sEq_f, emp_iff, ne_eq, List.length_map, Bool.not_eq_true, Bool.not_eq_false, Bool.not_eq_eq_eq_not, Bool.not_true, Bool.not_false]; done) | (simp only [ltB_t, ltB_f, eqB_t, eqB_f, pB_t, pB_f, sEq_t, sEq_f, emp_iff, ne_eq, List.length_map, Bool.not_eq_true, Bool.not_eq_false, Bool.not_eq_eq_eq_not, Bool.not_true, Bool.not_false]; omega) | (simp only [ltB_t, ltB_f, eqB_t, eqB_f, pB_t, pB_f, sEq_t, sEq_f, emp_iff, ne_eq, List.length_map, Bool.not_eq_true, Bool.not_eq_false, Bool.not_eq_eq_eq_not, Bool.not_true, Bool.not_false]; assumption)) ?_
    | refine Br.no (by first | (simp only [ltB_t, ltB_f, eqB_t, eqB_f, pB_t, pB_f, sEq_t, sEq_f, emp_iff, ne_eq, List.length_map, Bool.not_eq_true, Bool.not_eq_false, Bool.not_eq_eq_eq_not, Bool.not_true, Bool.not_false]; done) | (simp only [ltB_t, ltB_f, eqB_t, eqB_f, pB_t, pB_f, sEq_t, sEq_f, emp_iff, ne_eq, List.length_map, Bool.not_eq_true, Bool.not_eq_false, Bool.not_eq_eq_eq_not, Bool.not_true, Bool.not_false]; omega) | (simp only [ltB_t, ltB_f, eqB_t, eqB_f, pB_t, pB_f, sEq_t, sEq_f, emp_iff, ne_eq, List.length_map, Bool.not_eq_true, Bool.not_eq_false, Bool.not_eq_eq_eq_not, Bool.not_true, Bool.not_false]; assumption)) ?_
    | (refine Br.mk ?_ ?_ <;> intro h <;> (try simp only [ltB_t, ltB_f, eqB_t, eqB_f, pB_t, pB_f, sEq_t, sEq_f, emp_iff, ne_eq, List.length_map, Bool.not_eq_true, Bool.not_eq_false, Bool.not_eq_eq_eq_not, Bool.not_true, Bool.not_false] at h))
    | refine Ixv.mk (by omega) (ixE (by omega) (by omega)) ?_
    | refine Elt.mk rfl ?_
    | refine Elt.mk (by assumption) ?_
    | refine Elt.mk (ixE (by omega) (by omega)) ?_
    | refine E.call tt h_okDeed rfl rfl ⟨_, rfl, by first | omega | (simp only [List.length_map]; omega), by assumption, _, _, rfl, rfl, ?_⟩
    | refine E.call tt h_chainS rfl rfl ⟨_, _, rfl, by omega, by omega, _, _, rfl, rfl, ?_⟩
    | refine E.regionQ tt (id := 10) mixed (by decide +kernel) ?_)) <;> (try (conv => whnf))
        all_goals (refine ⟨i + 1, ⟨by omega, by omega⟩, by dsimp only; omega, ⟨rfl, ⟨rfl, rfl, pI (by rw [hsu]), pI (by rw [hsu]; rfl), rfl, trivial⟩, trivial, rfl, rfl⟩⟩)
      · rw [if_neg hc] at hsu
        (repeat' ((conv => whnf); first
    | refine Sd.mk (by first | omega | (unfold in64; omega) | (simp only [fitK, in64]; omega) | (simp only [fitK, in64, chunk, List.length_map, List.length_append, List.length_replicate, List.length_set, List.length_nil, List.length_cons]; omega)) ?_
    | refine Br.yes rfl ?_
    | refine Br.no rfl ?_
    | refine Br.yes (by first | (simp only [ltB_t, ltB_f, eqB_t, eqB_f, pB_t, pB_f, sEq_t, sEq_f, emp_iff, ne_eq, List.length_map, Bool.not_eq_true, Bool.not_eq_false, Bool.not_eq_eq_eq_not, Bool.not_true, Bool.not_false]; done) | (simp only [ltB_t, ltB_f, eqB_t, eqB_f, pB_t, pB_f, sEq_t, sEq_f, emp_iff, ne_eq, List.length_map, Bool.not_eq_true, Bool.not_eq_false, Bool.not_eq_eq_eq_not, Bool.not_true, Bool.not_false]; omega) | (simp only [ltB_t, ltB_f, eqB_t, eqB_f, pB_t, pB_f, sEq_t, sEq_f, emp_iff, ne_eq, List.length_map, Bool.not_eq_true, Bool.not_eq_false, Bool.not_eq_eq_eq_not, Bool.not_true, Bool.not_false]; assumption)) ?_
    | refine Br.no (by first | (simp only [ltB_t, ltB_f, eqB_t, eqB_f, pB_t, pB_f, sEq_t, sEq_f, emp_iff, ne_eq, List.length_map, Bool.not_eq_true, Bool.not_eq_false, Bool.not_eq_eq_eq_not, Bool.not_true, Bool.not_false]; done) | (simp only [ltB_t, ltB_f, eqB_t, eqB_f, pB_t, pB_f, sEq_t, sEq_f, emp_iff, ne_eq, List.length_map, Bool.not_eq_true, Bool.not_eq_false, Bool.not_eq_eq_eq_not, Bool.not_true, Bool.not_false]; omega) | (simp only [ltB_t, ltB_f, eqB_t, eqB_f, pB_t, pB_f, sEq_t, sEq_f, emp_iff, ne_eq, List.length_map, Bool.not_eq_true, Bool.not_eq_false, Bool.not_eq_eq_eq_not, Bool.not_true, Bool.not_false]; assumption)) ?_
    | (refine Br.mk ?_ ?_ <;> intro h <;> (try simp only [ltB_t, ltB_f, eqB_t, eqB_f, pB_t, pB_f, sEq_t, sEq_f, emp_iff, ne_eq, List.length_map, Bool.not_eq_true, Bool.not_eq_false, Bool.not_eq_eq_eq_not, Bool.not_true, Bool.not_false] at h))
    | refine Ixv.mk (by omega) (ixE (by omega) (by omega)) ?_
    | refine Elt.mk rfl ?_
    | refine Elt.mk (by assumption) ?_
    | refine Elt.mk (ixE (by omega) (by omega)) ?_
    | refine E.call tt h_okDeed rfl rfl ⟨_, rfl, by first | omega | (simp only [List.length_map]; omega), by assumption, _, _, rfl, rfl, ?_⟩
    | refine E.call tt h_chainS rfl rfl ⟨_, _, rfl, by omega, by omega, _, _, rfl, rfl, ?_⟩
    | refine E.regionQ tt (id := 10) mixed (by decide +kernel) ?_)) <;> (try (conv => whnf))
        all_goals (refine ⟨i + 1, ⟨by omega, by omega⟩, by dsimp only; omega, ⟨rfl, ⟨rfl, rfl, pI (by rw [hsu]), pI (by rw [hsu]), rfl, trivial⟩, trivial, rfl, rfl⟩⟩)
    · have hie : i = ch.length := by omega
      subst hie
      rcases hrs with ⟨h1, rfl⟩ | ⟨h1, rfl⟩
      · have hz := hinv.1 (by omega)
        rw [hz]
        (repeat' ((conv => whnf); first
    | refine Sd.mk (by first | omega | (unfold in64; omega) | (simp only [fitK, in64]; omega) | (simp only [fitK, in64, chunk, List.length_map, List.length_append, List.length_replicate, List.length_set, List.length_nil, List.length_cons]; omega)) ?_
    | refine Br.yes rfl ?_
    | refine Br.no rfl ?_
    | refine Br.yes (by first | (simp only [ltB_t, ltB_f, eqB_t, eqB_f, pB_t, pB_f, sEq_t, sEq_f, emp_iff, ne_eq, List.length_map, Bool.not_eq_true, Bool.not_eq_false, Bool.not_eq_eq_eq_not, Bool.not_true, Bool.not_false]; done) | (simp only [ltB_t, ltB_f, eqB_t, eqB_f, pB_t, pB_f, sEq_t, sEq_f, emp_iff, ne_eq, List.length_map, Bool.not_eq_true, Bool.not_eq_false, Bool.not_eq_eq_eq_not, Bool.not_true, Bool.not_false]; omega) | (simp only [ltB_t, ltB_f, eqB_t, eqB_f, pB_t, pB_f, sEq_t, sEq_f, emp_iff, ne_eq, List.length_map, Bool.not_eq_true, Bool.not_eq_false, Bool.not_eq_eq_eq_not, Bool.not_true, Bool.not_false]; assumption)) ?_
    | refine Br.no (by first | (simp only [ltB_t, ltB_f, eqB_t, eqB_f, pB_t, pB_f, sEq_t, sEq_f, emp_iff, ne_eq, List.length_map, Bool.not_eq_true, Bool.not_eq_false, Bool.not_eq_eq_eq_not, Bool.not_true, Bool.not_false]; done) | (simp only [ltB_t, ltB_f, eqB_t, eqB_f, pB_t, pB_f, sEq_t, sEq_f, emp_iff, ne_eq, List.length_map, Bool.not_eq_true, Bool.not_eq_false, Bool.not_eq_eq_eq_not, Bool.not_true, Bool.not_false]; omega) | (simp only [ltB_t, ltB_f, eqB_t, eqB_f, pB_t, pB_f, sEq_t, sEq_f, emp_iff, ne_eq, List.length_map, Bool.not_eq_true, Bool.not_eq_false, Bool.not_eq_eq_eq_not, Bool.not_true, Bool.not_false]; assumption)) ?_
    | (refine Br.mk ?_ ?_ <;> intro h <;> (try simp only [ltB_t, ltB_f, eqB_t, eqB_f, pB_t, pB_f, sEq_t, sEq_f, emp_iff, ne_eq, List.length_map, Bool.not_eq_true, Bool.not_eq_false, Bool.not_eq_eq_eq_not, Bool.not_true, Bool.not_false] at h))
    | refine Ixv.mk (by omega) (ixE (by omega) (by omega)) ?_
    | refine Elt.mk rfl ?_
    | refine Elt.mk (by assumption) ?_
    | refine Elt.mk (ixE (by omega) (by omega)) ?_
    | refine E.call tt h_okDeed rfl rfl ⟨_, rfl, by first | omega | (simp only [List.length_map]; omega), by assumption, _, _, rfl, rfl, ?_⟩
    | refine E.call tt h_chainS rfl rfl ⟨_, _, rfl, by omega, by omega, _, _, rfl, rfl, ?_⟩
    | refine E.regionQ tt (id := 10) mixed (by decide +kernel) ?_)) <;> (try (conv => whnf))
        all_goals (exact fin_p rfl rfl rfl rfl)
      · have hz := hinv.2 (by omega)
        (repeat' ((conv => whnf); first
    | refine Sd.mk (by first | omega | (unfold in64; omega) | (simp only [fitK, in64]; omega) | (simp only [fitK, in64, chunk, List.length_map, List.length_append, List.length_replicate, List.length_set, List.length_nil, List.length_cons]; omega)) ?_
    | refine Br.yes rfl ?_
    | refine Br.no rfl ?_
    | refine Br.yes (by first | (simp only [ltB_t, ltB_f, eqB_t, eqB_f, pB_t, pB_f, sEq_t, sEq_f, emp_iff, ne_eq, List.length_map, Bool.not_eq_true, Bool.not_eq_false, Bool.not_eq_eq_eq_not, Bool.not_true, Bool.not_false]; done) | (simp only [ltB_t, ltB_f, eqB_t, eqB_f, pB_t, pB_f, sEq_t, sEq_f, emp_iff, ne_eq, List.length_map, Bool.not_eq_true, Bool.not_eq_false, Bool.not_eq_eq_eq_not, Bool.not_true, Bool.not_false]; omega) | (simp only [ltB_t, ltB_f, eqB_t, eqB_f, pB_t, pB_f, sEq_t, sEq_f, emp_iff, ne_eq, List.length_map, Bool.not_eq_true, Bool.not_eq_false, Bool.not_eq_eq_eq_not, Bool.not_true, Bool.not_false]; assumption)) ?_
    | refine Br.no (by first | (simp only [ltB_t, ltB_f, eqB_t, eqB_f, pB_t, pB_f, sEq_t, sEq_f, emp_iff, ne_eq, List.length_map, Bool.not_eq_true, Bool.not_eq_false, Bool.not_eq_eq_eq_not, Bool.not_true, Bool.not_false]; done) | (simp only [ltB_t, ltB_f, eqB_t, eqB_f, pB_t, pB_f, sEq_t, sEq_f, emp_iff, ne_eq, List.length_map, Bool.not_eq_true, Bool.not_eq_false, Bool.not_eq_eq_eq_not, Bool.not_true, Bool.not_false]; omega) | (simp only [ltB_t, ltB_f, eqB_t, eqB_f, pB_t, pB_f, sEq_t, sEq_f, emp_iff, ne_eq, List.length_map, Bool.not_eq_true, Bool.not_eq_false, Bool.not_eq_eq_eq_not, Bool.not_true, Bool.not_false]; assumption)) ?_
    | (refine Br.mk ?_ ?_ <;> intro h <;> (try simp only [ltB_t, ltB_f, eqB_t, eqB_f, pB_t, pB_f, sEq_t, sEq_f, emp_iff, ne_eq, List.length_map, Bool.not_eq_true, Bool.not_eq_false, Bool.not_eq_eq_eq_not, Bool.not_true, Bool.not_false] at h))
    | refine Ixv.mk (by omega) (ixE (by omega) (by omega)) ?_
    | refine Elt.mk rfl ?_
    | refine Elt.mk (by assumption) ?_
    | refine Elt.mk (ixE (by omega) (by omega)) ?_
    | refine E.call tt h_okDeed rfl rfl ⟨_, rfl, by first | omega | (simp only [List.length_map]; omega), by assumption, _, _, rfl, rfl, ?_⟩
    | refine E.call tt h_chainS rfl rfl ⟨_, _, rfl, by omega, by omega, _, _, rfl, rfl, ?_⟩
    | refine E.regionQ tt (id := 10) mixed (by decide +kernel) ?_)) <;> (try (conv => whnf))
        all_goals (exact fin_p rfl rfl rfl rfl)





theorem h_HoldI : Holds Try.prog 69 cHold := by
  refine E.mk tt Try.func69 rfl Try.ntmps69 rfl (by kernel_rfl) ?_
  rintro _ K ⟨xs, ch, rs, rfl, hl, hl2, hok, ⟨hB, rfl⟩ | ⟨hB, ⟨hC, rfl⟩ | ⟨hC, ⟨h1, rfl⟩ | ⟨h1, rfl⟩⟩⟩, hK⟩
  · refine ⟨Nat.le_of_ble_eq_true rfl, _, hK, ?_⟩
    (repeat' ((conv => whnf); first
    | refine Sd.mk (by first | omega | (unfold in64; omega) | (simp only [fitK, in64]; omega) | (simp only [fitK, in64, chunk, List.length_map, List.length_append, List.length_replicate, List.length_set, List.length_nil, List.length_cons]; omega)) ?_
    | refine Br.yes rfl ?_
    | refine Br.no rfl ?_
    | refine Br.yes (by first | (simp only [ltB_t, ltB_f, eqB_t, eqB_f, pB_t, pB_f, sEq_t, sEq_f, emp_iff, ne_eq, List.length_map, Bool.not_eq_true, Bool.not_eq_false, Bool.not_eq_eq_eq_not, Bool.not_true, Bool.not_false]; done) | (simp only [ltB_t, ltB_f, eqB_t, eqB_f, pB_t, pB_f, sEq_t, sEq_f, emp_iff, ne_eq, List.length_map, Bool.not_eq_true, Bool.not_eq_false, Bool.not_eq_eq_eq_not, Bool.not_true, Bool.not_false]; omega) | (simp only [ltB_t, ltB_f, eqB_t, eqB_f, pB_t, pB_f, sEq_t, sEq_f, emp_iff, ne_eq, List.length_map, Bool.not_eq_true, Bool.not_eq_false, Bool.not_eq_eq_eq_not, Bool.not_true, Bool.not_false]; assumption)) ?_
    | refine Br.no (by first | (simp only [ltB_t, ltB_f, eqB_t, eqB_f, pB_t, pB_f, sEq_t, sEq_f, emp_iff, ne_eq, List.length_map, Bool.not_eq_true, Bool.not_eq_false, Bool.not_eq_eq_eq_not, Bool.not_true, Bool.not_false]; done) | (simp only [ltB_t, ltB_f, eqB_t, eqB_f, pB_t, pB_f, sEq_t, sEq_f, emp_iff, ne_eq, List.length_map, Bool.not_eq_true, Bool.not_eq_false, Bool.not_eq_eq_eq_not, Bool.not_true, Bool.not_false]; omega) | (simp only [ltB_t, ltB_f, eqB_t, eqB_f, pB_t, pB_f, sEq_t, sEq_f, emp_iff, ne_eq, List.length_map, Bool.not_eq_true, Bool.not_eq_false, Bool.not_eq_eq_eq_not, Bool.not_true, Bool.not_false]; assumption)) ?_
    | (refine Br.mk ?_ ?_ <;> intro h <;> (try simp only [ltB_t, ltB_f, eqB_t, eqB_f, pB_t, pB_f, sEq_t, sEq_f, emp_iff, ne_eq, List.length_map, Bool.not_eq_true, Bool.not_eq_false, Bool.not_eq_eq_eq_not, Bool.not_true, Bool.not_false] at h))
    | refine Ixv.mk (by omega) (ixE (by omega) (by omega)) ?_
    | refine Elt.mk rfl ?_
    | refine Elt.mk (by assumption) ?_
    | refine Elt.mk (ixE (by omega) (by omega)) ?_
    | refine E.call tt h_listDeed rfl rfl ⟨_, rfl, by first | omega | (simp only [List.length_map]; omega), by assumption, _, _, rfl, rfl, ?_⟩
    | refine E.call tt h_chainI rfl rfl ⟨_, _, rfl, by omega, by omega, _, _, rfl, rfl, ?_⟩
    | refine E.regionQ tt (id := 11) mixed (by decide +kernel) ?_)) <;> (try (conv => whnf))
    all_goals (exact fin_p rfl rfl rfl rfl)
  · refine ⟨Nat.le_of_ble_eq_true rfl, _, hK, ?_⟩
    (repeat' ((conv => whnf); first
    | refine Sd.mk (by first | omega | (unfold in64; omega) | (simp only [fitK, in64]; omega) | (simp only [fitK, in64, chunk, List.length_map, List.length_append, List.length_replicate, List.length_set, List.length_nil, List.length_cons]; omega)) ?_
    | refine Br.yes rfl ?_
    | refine Br.no rfl ?_
    | refine Br.yes (by first | (simp only [ltB_t, ltB_f, eqB_t, eqB_f, pB_t, pB_f, sEq_t, sEq_f, emp_iff, ne_eq, List.length_map, Bool.not_eq_true, Bool.not_eq_false, Bool.not_eq_eq_eq_not, Bool.not_true, Bool.not_false]; done) | (simp only [ltB_t, ltB_f, eqB_t, eqB_f, pB_t, pB_f, sEq_t, sEq_f, emp_iff, ne_eq, List.length_map, Bool.not_eq_true, Bool.not_eq_false, Bool.not_eq_eq_eq_not, Bool.not_true, Bool.not_false]; omega) | (simp only [ltB_t, ltB_f, eqB_t, eqB_f, pB_t, pB_f, sEq_t, sEq_f, emp_iff, ne_eq, List.length_map, Bool.not_eq_true, Bool.not_eq_false, Bool.not_eq_eq_eq_not, Bool.not_true, Bool.not_false]; assumption)) ?_
    | refine Br.no (by first | (simp only [ltB_t, ltB_f, eqB_t, eqB_f, pB_t, pB_f, sEq_t, sEq_f, emp_iff, ne_eq, List.length_map, Bool.not_eq_true, Bool.not_eq_false, Bool.not_eq_eq_eq_not, Bool.not_true, Bool.not_false]; done) | (simp only [ltB_t, ltB_f, eqB_t, eqB_f, pB_t, pB_f, sEq_t, sEq_f, emp_iff, ne_eq, List.length_map, Bool.not_eq_true, Bool.not_eq_false, Bool.not_eq_eq_eq_not, Bool.not_true, Bool.not_false]; omega) | (simp only [ltB_t, ltB_f, eqB_t, eqB_f, pB_t, pB_f, sEq_t, sEq_f, emp_iff, ne_eq, List.length_map, Bool.not_eq_true, Bool.not_eq_false, Bool.not_eq_eq_eq_not, Bool.not_true, Bool.not_false]; assumption)) ?_
    | (refine Br.mk ?_ ?_ <;> intro h <;> (try simp only [ltB_t, ltB_f, eqB_t, eqB_f, pB_t, pB_f, sEq_t, sEq_f, emp_iff, ne_eq, List.length_map, Bool.not_eq_true, Bool.not_eq_false, Bool.not_eq_eq_eq_not, Bool.not_true, Bool.not_false] at h))
    | refine Ixv.mk (by omega) (ixE (by omega) (by omega)) ?_
    | refine Elt.mk rfl ?_
    | refine Elt.mk (by assumption) ?_
    | refine Elt.mk (ixE (by omega) (by omega)) ?_
    | refine E.call tt h_listDeed rfl rfl ⟨_, rfl, by first | omega | (simp only [List.length_map]; omega), by assumption, _, _, rfl, rfl, ?_⟩
    | refine E.call tt h_chainI rfl rfl ⟨_, _, rfl, by omega, by omega, _, _, rfl, rfl, ?_⟩
    | refine E.regionQ tt (id := 11) mixed (by decide +kernel) ?_)) <;> (try (conv => whnf))
    all_goals (exact fin_p rfl rfl rfl rfl)
  · have hln2 : (ch.map encI).length = ch.length := by simp
    refine ⟨Nat.le_of_ble_eq_true rfl, _, hK, ?_⟩
    (repeat' ((conv => whnf); first
    | refine Sd.mk (by first | omega | (unfold in64; omega) | (simp only [fitK, in64]; omega) | (simp only [fitK, in64, chunk, List.length_map, List.length_append, List.length_replicate, List.length_set, List.length_nil, List.length_cons]; omega)) ?_
    | refine Br.yes rfl ?_
    | refine Br.no rfl ?_
    | refine Br.yes (by first | (simp only [ltB_t, ltB_f, eqB_t, eqB_f, pB_t, pB_f, sEq_t, sEq_f, emp_iff, ne_eq, List.length_map, Bool.not_eq_true, Bool.not_eq_false, Bool.not_eq_eq_eq_not, Bool.not_true, Bool.not_false]; done) | (simp only [ltB_t, ltB_f, eqB_t, eqB_f, pB_t, pB_f, sEq_t, sEq_f, emp_iff, ne_eq, List.length_map, Bool.not_eq_true, Bool.not_eq_false, Bool.not_eq_eq_eq_not, Bool.not_true, Bool.not_false]; omega) | (simp only [ltB_t, ltB_f, eqB_t, eqB_f, pB_t, pB_f, sEq_t, sEq_f, emp_iff, ne_eq, List.length_map, Bool.not_eq_true, Bool.not_eq_false, Bool.not_eq_eq_eq_not, Bool.not_true, Bool.not_false]; assumption)) ?_
    | refine Br.no (by first | (simp only [ltB_t, ltB_f, eqB_t, eqB_f, pB_t, pB_f, sEq_t, sEq_f, emp_iff, ne_eq, List.length_map, Bool.not_eq_true, Bool.not_eq_false, Bool.not_eq_eq_eq_not, Bool.not_true, Bool.not_false]; done) | (simp only [ltB_t, ltB_f, eqB_t, eqB_f, pB_t, pB_f, sEq_t, sEq_f, emp_iff, ne_eq, List.length_map, Bool.not_eq_true, Bool.not_eq_false, Bool.not_eq_eq_eq_not, Bool.not_true, Bool.not_false]; omega) | (simp only [ltB_t, ltB_f, eqB_t, eqB_f, pB_t, pB_f, sEq_t, sEq_f, emp_iff, ne_eq, List.length_map, Bool.not_eq_true, Bool.not_eq_false, Bool.not_eq_eq_eq_not, Bool.not_true, Bool.not_false]; assumption)) ?_
    | (refine Br.mk ?_ ?_ <;> intro h <;> (try simp only [ltB_t, ltB_f, eqB_t, eqB_f, pB_t, pB_f, sEq_t, sEq_f, emp_iff, ne_eq, List.length_map, Bool.not_eq_true, Bool.not_eq_false, Bool.not_eq_eq_eq_not, Bool.not_true, Bool.not_false] at h))
    | refine Ixv.mk (by omega) (ixE (by omega) (by omega)) ?_
    | refine Elt.mk rfl ?_
    | refine Elt.mk (by assumption) ?_
    | refine Elt.mk (ixE (by omega) (by omega)) ?_
    | refine E.call tt h_listDeed rfl rfl ⟨_, rfl, by first | omega | (simp only [List.length_map]; omega), by assumption, _, _, rfl, rfl, ?_⟩
    | refine E.call tt h_chainI rfl rfl ⟨_, _, rfl, by omega, by omega, _, _, rfl, rfl, ?_⟩
    | refine E.regionQ tt (id := 11) mixed (by decide +kernel) ?_)) <;> (try (conv => whnf))
    all_goals (exact fin_p rfl rfl rfl rfl)
  · have hln : (xs.map D.Deed.enc).length = xs.length := by simp
    have hln2 : (ch.map encI).length = ch.length := by simp
    have hpos := hC.2
    refine ⟨Nat.le_of_ble_eq_true rfl, _, hK, ?_⟩
    (repeat' ((conv => whnf); first
    | refine Sd.mk (by first | omega | (unfold in64; omega) | (simp only [fitK, in64]; omega) | (simp only [fitK, in64, chunk, List.length_map, List.length_append, List.length_replicate, List.length_set, List.length_nil, List.length_cons]; omega)) ?_
    | refine Br.yes rfl ?_
    | refine Br.no rfl ?_
    | refine Br.yes (by first | (simp only [ltB_t, ltB_f, eqB_t, eqB_f, pB_t, pB_f, sEq_t, sEq_f, emp_iff, ne_eq, List.length_map, Bool.not_eq_true, Bool.not_eq_false, Bool.not_eq_eq_eq_not, Bool.not_true, Bool.not_false]; done) | (simp only [ltB_t, ltB_f, eqB_t, eqB_f, pB_t, pB_f, sEq_t, sEq_f, emp_iff, ne_eq, List.length_map, Bool.not_eq_true, Bool.not_eq_false, Bool.not_eq_eq_eq_not, Bool.not_true, Bool.not_false]; omega) | (simp only [ltB_t, ltB_f, eqB_t, eqB_f, pB_t, pB_f, sEq_t, sEq_f, emp_iff, ne_eq, List.length_map, Bool.not_eq_true, Bool.not_eq_false, Bool.not_eq_eq_eq_not, Bool.not_true, Bool.not_false]; assumption)) ?_
    | refine Br.no (by first | (simp only [ltB_t, ltB_f, eqB_t, eqB_f, pB_t, pB_f, sEq_t, sEq_f, emp_iff, ne_eq, List.length_map, Bool.not_eq_true, Bool.not_eq_false, Bool.not_eq_eq_eq_not, Bool.not_true, Bool.not_false]; done) | (simp only [ltB_t, ltB_f, eqB_t, eqB_f, pB_t, pB_f, sEq_t, sEq_f, emp_iff, ne_eq, List.length_map, Bool.not_eq_true, Bool.not_eq_false, Bool.not_eq_eq_eq_not, Bool.not_true, Bool.not_false]; omega) | (simp only [ltB_t, ltB_f, eqB_t, eqB_f, pB_t, pB_f, sEq_t, sEq_f, emp_iff, ne_eq, List.length_map, Bool.not_eq_true, Bool.not_eq_false, Bool.not_eq_eq_eq_not, Bool.not_true, Bool.not_false]; assumption)) ?_
    | (refine Br.mk ?_ ?_ <;> intro h <;> (try simp only [ltB_t, ltB_f, eqB_t, eqB_f, pB_t, pB_f, sEq_t, sEq_f, emp_iff, ne_eq, List.length_map, Bool.not_eq_true, Bool.not_eq_false, Bool.not_eq_eq_eq_not, Bool.not_true, Bool.not_false] at h))
    | refine Ixv.mk (by omega) (ixE (by omega) (by omega)) ?_
    | refine Elt.mk rfl ?_
    | refine Elt.mk (by assumption) ?_
    | refine Elt.mk (ixE (by omega) (by omega)) ?_
    | refine E.call tt h_listDeed rfl rfl ⟨_, rfl, by first | omega | (simp only [List.length_map]; omega), by assumption, _, _, rfl, rfl, ?_⟩
    | refine E.call tt h_chainI rfl rfl ⟨_, _, rfl, by omega, by omega, _, _, rfl, rfl, ?_⟩
    | refine E.regionQ tt (id := 11) mixed (by decide +kernel) ?_)) <;> (try (conv => whnf))
    refine E.loop tt (fun i : Int => 1 ≤ i ∧ i ≤ ch.length) (fun i => ⟨55, 1, [(0, .p (.view 4 (xs.map D.Deed.enc))), (1, .p (.view 1 (ch.map encI))), (7, .p (I (if i = 1 then 0 else (lh xs ch (i - 1)).1))), (8, .p (I (if i = 1 then -1 else (lh xs ch (i - 1)).2))), (9, .p (I i))], []⟩) (fun i => (ch.length - i).toNat) 1 ⟨by omega, by omega⟩ ⟨rfl, ⟨rfl, rfl, rfl, rfl, rfl, trivial⟩, trivial, rfl, rfl⟩ ?_
    rintro i ⟨hi0, hi1⟩
    have hinv := lh_inv hB hC (j := i - 1) (by omega) (by omega)
    rcases Int.lt_or_le i ch.length with hlt | hge
    · have a := (hC.1 i (by omega) hlt).1
      have b := (hC.1 (i - 1) (by omega) (by omega)).1
      have hb := held_nn hB hC hi0 hlt
      have hh : (ix xs (ix ch i)).Year - (ix xs (ix ch (i - 1))).Year = held xs ch i := rfl
      have e := hB.at (i := ix ch (i - 1)) (by omega) (by omega)
      have f := hB.at (i := ix ch i) (by omega) (by omega)
      unfold DeedOk at e f
      have hsu : lh xs ch (i + 1 - 1) = lhF xs ch (lh xs ch (i - 1)) (i - 1) := by
        have := it_succ (f := lhF xs ch) (s := (-1, 0)) (n := i - 1) (by omega)
        rw [show i + 1 - 1 = i - 1 + 1 by omega]; exact this
      unfold lhF at hsu
      rw [show i - 1 + 1 = i by omega] at hsu
      have hne : ¬ i + 1 = 1 := by omega
      by_cases hc : (lh xs ch (i - 1)).1 < 0 ∨ (lh xs ch (i - 1)).2 < held xs ch i
      · rw [if_pos hc] at hsu
        (repeat' ((conv => whnf); first
    | refine Sd.mk (by first | omega | (unfold in64; omega) | (simp only [fitK, in64]; omega) | (simp only [fitK, in64, chunk, List.length_map, List.length_append, List.length_replicate, List.length_set, List.length_nil, List.length_cons]; omega)) ?_
    | refine Br.yes rfl ?_
    | refine Br.no rfl ?_
    | refine Br.yes (by first | (simp only [ltB_t, ltB_f, eqB_t, eqB_f, pB_t, pB_f, sEq_t, sEq_f, emp_iff, ne_eq, List.length_map, Bool.not_eq_true, Bool.not_eq_false, Bool.not_eq_eq_eq_not, Bool.not_true, Bool.not_false]; done) | (simp only [ltB_t, ltB_f, eqB_t, eqB_f, pB_t, pB_f, sEq_t, sEq_f, emp_iff, ne_eq, List.length_map, Bool.not_eq_true, Bool.not_eq_false, Bool.not_eq_eq_eq_not, Bool.not_true, Bool.not_false]; omega) | (simp only [ltB_t, ltB_f, eqB_t, eqB_f, pB_t, pB_f, sEq_t, sEq_f, emp_iff, ne_eq, List.length_map, Bool.not_eq_true, Bool.not_eq_false, Bool.not_eq_eq_eq_not, Bool.not_true, Bool.not_false]; assumption)) ?_
    | refine Br.no (by first | (simp only [ltB_t, ltB_f, eqB_t, eqB_f, pB_t, pB_f, sEq_t, sEq_f, emp_iff, ne_eq, List.length_map, Bool.not_eq_true, Bool.not_eq_false, Bool.not_eq_eq_eq_not, Bool.not_true, Bool.not_false]; done) | (simp only [ltB_t, ltB_f, eqB_t, eqB_f, pB_t, pB_f, sEq_t, sEq_f, emp_iff, ne_eq, List.length_map, Bool.not_eq_true, Bool.not_eq_false, Bool.not_eq_eq_eq_not, Bool.not_true, Bool.not_false]; omega) | (simp only [ltB_t, ltB_f, eqB_t, eqB_f, pB_t, pB_f, sEq_t, sEq_f, emp_iff, ne_eq, List.length_map, Bool.not_eq_true, Bool.not_eq_false, Bool.not_eq_eq_eq_not, Bool.not_true, Bool.not_false]; assumption)) ?_
    | (refine Br.mk ?_ ?_ <;> intro h <;> (try simp only [ltB_t, ltB_f, eqB_t, eqB_f, pB_t, pB_f, sEq_t, sEq_f, emp_iff, ne_eq, List.length_map, Bool.not_eq_true, Bool.not_eq_false, Bool.not_eq_eq_eq_not, Bool.not_true, Bool.not_false] at h))
    | refine Ixv.mk (by omega) (ixE (by omega) (by omega)) ?_
    | refine Elt.mk rfl ?_
    | refine Elt.mk (by assumption) ?_
    | refine Elt.mk (ixE (by omega) (by omega)) ?_
    | refine E.call tt h_listDeed rfl rfl ⟨_, rfl, by first | omega | (simp only [List.length_map]; omega), by assumption, _, _, rfl, rfl, ?_⟩
    | refine E.call tt h_chainI rfl rfl ⟨_, _, rfl, by omega, by omega, _, _, rfl, rfl, ?_⟩
    | refine E.regionQ tt (id := 11) mixed (by decide +kernel) ?_)) <;> (try (conv => whnf))
        all_goals first
          | (refine ⟨i + 1, ⟨by omega, by omega⟩, by dsimp only; omega, ⟨rfl, ⟨rfl, rfl, pI (by rw [if_neg hne, hsu]), pI (by rw [if_neg hne, hsu]; rfl), rfl, trivial⟩, trivial, rfl, rfl⟩⟩; done)
          | (exfalso; by_cases hz : i = 1 <;> simp only [hz, if_true, if_false] at * <;> omega)
      · rw [if_neg hc] at hsu
        have hn1 : ¬ i = 1 := fun e => by subst e; have := hinv.1 rfl; rw [show (1 : Int) - 1 = 0 by omega] at *; rw [this] at hc; simp at hc
        simp only [hn1, if_false]
        (repeat' ((conv => whnf); first
    | refine Sd.mk (by first | omega | (unfold in64; omega) | (simp only [fitK, in64]; omega) | (simp only [fitK, in64, chunk, List.length_map, List.length_append, List.length_replicate, List.length_set, List.length_nil, List.length_cons]; omega)) ?_
    | refine Br.yes rfl ?_
    | refine Br.no rfl ?_
    | refine Br.yes (by first | (simp only [ltB_t, ltB_f, eqB_t, eqB_f, pB_t, pB_f, sEq_t, sEq_f, emp_iff, ne_eq, List.length_map, Bool.not_eq_true, Bool.not_eq_false, Bool.not_eq_eq_eq_not, Bool.not_true, Bool.not_false]; done) | (simp only [ltB_t, ltB_f, eqB_t, eqB_f, pB_t, pB_f, sEq_t, sEq_f, emp_iff, ne_eq, List.length_map, Bool.not_eq_true, Bool.not_eq_false, Bool.not_eq_eq_eq_not, Bool.not_true, Bool.not_false]; omega) | (simp only [ltB_t, ltB_f, eqB_t, eqB_f, pB_t, pB_f, sEq_t, sEq_f, emp_iff, ne_eq, List.length_map, Bool.not_eq_true, Bool.not_eq_false, Bool.not_eq_eq_eq_not, Bool.not_true, Bool.not_false]; assumption)) ?_
    | refine Br.no (by first | (simp only [ltB_t, ltB_f, eqB_t, eqB_f, pB_t, pB_f, sEq_t, sEq_f, emp_iff, ne_eq, List.length_map, Bool.not_eq_true, Bool.not_eq_false, Bool.not_eq_eq_eq_not, Bool.not_true, Bool.not_false]; done) | (simp only [ltB_t, ltB_f, eqB_t, eqB_f, pB_t, pB_f, sEq_t, sEq_f, emp_iff, ne_eq, List.length_map, Bool.not_eq_true, Bool.not_eq_false, Bool.not_eq_eq_eq_not, Bool.not_true, Bool.not_false]; omega) | (simp only [ltB_t, ltB_f, eqB_t, eqB_f, pB_t, pB_f, sEq_t, sEq_f, emp_iff, ne_eq, List.length_map, Bool.not_eq_true, Bool.not_eq_false, Bool.not_eq_eq_eq_not, Bool.not_true, Bool.not_false]; assumption)) ?_
    | (refine Br.mk ?_ ?_ <;> intro h <;> (try simp only [ltB_t, ltB_f, eqB_t, eqB_f, pB_t, pB_f, sEq_t, sEq_f, emp_iff, ne_eq, List.length_map, Bool.not_eq_true, Bool.not_eq_false, Bool.not_eq_eq_eq_not, Bool.not_true, Bool.not_false] at h))
    | refine Ixv.mk (by omega) (ixE (by omega) (by omega)) ?_
    | refine Elt.mk rfl ?_
    | refine Elt.mk (by assumption) ?_
    | refine Elt.mk (ixE (by omega) (by omega)) ?_
    | refine E.call tt h_listDeed rfl rfl ⟨_, rfl, by first | omega | (simp only [List.length_map]; omega), by assumption, _, _, rfl, rfl, ?_⟩
    | refine E.call tt h_chainI rfl rfl ⟨_, _, rfl, by omega, by omega, _, _, rfl, rfl, ?_⟩
    | refine E.regionQ tt (id := 11) mixed (by decide +kernel) ?_)) <;> (try (conv => whnf))
        all_goals (refine ⟨i + 1, ⟨by omega, by omega⟩, by dsimp only; omega, ⟨rfl, ⟨rfl, rfl, pI (by rw [if_neg hne, hsu]), pI (by rw [if_neg hne, hsu]), rfl, trivial⟩, trivial, rfl, rfl⟩⟩)
    · have hie : i = ch.length := by omega
      subst hie
      have hn1 : ¬ (ch.length : Int) = 1 := h1
      simp only [hn1, if_false]
      (repeat' ((conv => whnf); first
    | refine Sd.mk (by first | omega | (unfold in64; omega) | (simp only [fitK, in64]; omega) | (simp only [fitK, in64, chunk, List.length_map, List.length_append, List.length_replicate, List.length_set, List.length_nil, List.length_cons]; omega)) ?_
    | refine Br.yes rfl ?_
    | refine Br.no rfl ?_
    | refine Br.yes (by first | (simp only [ltB_t, ltB_f, eqB_t, eqB_f, pB_t, pB_f, sEq_t, sEq_f, emp_iff, ne_eq, List.length_map, Bool.not_eq_true, Bool.not_eq_false, Bool.not_eq_eq_eq_not, Bool.not_true, Bool.not_false]; done) | (simp only [ltB_t, ltB_f, eqB_t, eqB_f, pB_t, pB_f, sEq_t, sEq_f, emp_iff, ne_eq, List.length_map, Bool.not_eq_true, Bool.not_eq_false, Bool.not_eq_eq_eq_not, Bool.not_true, Bool.not_false]; omega) | (simp only [ltB_t, ltB_f, eqB_t, eqB_f, pB_t, pB_f, sEq_t, sEq_f, emp_iff, ne_eq, List.length_map, Bool.not_eq_true, Bool.not_eq_false, Bool.not_eq_eq_eq_not, Bool.not_true, Bool.not_false]; assumption)) ?_
    | refine Br.no (by first | (simp only [ltB_t, ltB_f, eqB_t, eqB_f, pB_t, pB_f, sEq_t, sEq_f, emp_iff, ne_eq, List.length_map, Bool.not_eq_true, Bool.not_eq_false, Bool.not_eq_eq_eq_not, Bool.not_true, Bool.not_false]; done) | (simp only [ltB_t, ltB_f, eqB_t, eqB_f, pB_t, pB_f, sEq_t, sEq_f, emp_iff, ne_eq, List.length_map, Bool.not_eq_true, Bool.not_eq_false, Bool.not_eq_eq_eq_not, Bool.not_true, Bool.not_false]; omega) | (simp only [ltB_t, ltB_f, eqB_t, eqB_f, pB_t, pB_f, sEq_t, sEq_f, emp_iff, ne_eq, List.length_map, Bool.not_eq_true, Bool.not_eq_false, Bool.not_eq_eq_eq_not, Bool.not_true, Bool.not_false]; assumption)) ?_
    | (refine Br.mk ?_ ?_ <;> intro h <;> (try simp only [ltB_t, ltB_f, eqB_t, eqB_f, pB_t, pB_f, sEq_t, sEq_f, emp_iff, ne_eq, List.length_map, Bool.not_eq_true, Bool.not_eq_false, Bool.not_eq_eq_eq_not, Bool.not_true, Bool.not_false] at h))
    | refine Ixv.mk (by omega) (ixE (by omega) (by omega)) ?_
    | refine Elt.mk rfl ?_
    | refine Elt.mk (by assumption) ?_
    | refine Elt.mk (ixE (by omega) (by omega)) ?_
    | refine E.call tt h_listDeed rfl rfl ⟨_, rfl, by first | omega | (simp only [List.length_map]; omega), by assumption, _, _, rfl, rfl, ?_⟩
    | refine E.call tt h_chainI rfl rfl ⟨_, _, rfl, by omega, by omega, _, _, rfl, rfl, ?_⟩
    | refine E.regionQ tt (id := 11) mixed (by decide +kernel) ?_)) <;> (try (conv => whnf))
      all_goals (exact fin_p rfl rfl rfl rfl)





set_option maxHeartbeats 4000000 in
theorem h_lawLongestHold : Holds Try.prog 13 (fun args K => ∃ (a0 : List D.Deed) (a1 : List Int), args = [.view 4 (a0.map D.Deed.enc), .view 1 (a1.map encI)] ∧ ((a0.length : Int) ≤ 9223372036854775807 ∧ (∀ x ∈ a0, x.ok)) ∧ ((a1.length : Int) ≤ 9223372036854775807 ∧ (∀ x ∈ a1, in64 x)) ∧ K [.p (.bool true)]) := by
  refine E.mk tt Try.func13 rfl Try.ntmps13 rfl (by kernel_rfl) ?_
  rintro _ K ⟨xs, ch, rfl, ⟨hl, hok⟩, ⟨hl2, hok2⟩, hK⟩
  refine ⟨Nat.le_of_ble_eq_true rfl, _, hK, ?_⟩
  rcases cases3 (DeedsOk xs) (ChainOk xs ch) (¬ (ch.length : Int) = 1) with hB | ⟨hB, hR⟩ | ⟨hB, hR, hT⟩ | ⟨hB, hR, hT⟩
  all_goals ((repeat' ((conv => whnf); first
    | refine Sd.mk (by first | omega | (unfold in64; omega) | (simp only [fitK, in64]; omega) | (simp only [fitK, in64, chunk, List.length_map, List.length_append, List.length_replicate, List.length_set, List.length_nil, List.length_cons]; omega)) ?_
    | refine Br.yes rfl ?_
    | refine Br.no rfl ?_
    | refine Br.yes (by first | (simp only [ltB_t, ltB_f, eqB_t, eqB_f, pB_t, pB_f, sEq_t, sEq_f, emp_iff, ne_eq, List.length_map, Bool.not_eq_true, Bool.not_eq_false, Bool.not_eq_eq_eq_not, Bool.not_true, Bool.not_false]; done) | (simp only [ltB_t, ltB_f, eqB_t, eqB_f, pB_t, pB_f, sEq_t, sEq_f, emp_iff, ne_eq, List.length_map, Bool.not_eq_true, Bool.not_eq_false, Bool.not_eq_eq_eq_not, Bool.not_true, Bool.not_false]; omega) | (simp only [ltB_t, ltB_f, eqB_t, eqB_f, pB_t, pB_f, sEq_t, sEq_f, emp_iff, ne_eq, List.length_map, Bool.not_eq_true, Bool.not_eq_false, Bool.not_eq_eq_eq_not, Bool.not_true, Bool.not_false]; assumption)) ?_
    | refine Br.no (by first | (simp only [ltB_t, ltB_f, eqB_t, eqB_f, pB_t, pB_f, sEq_t, sEq_f, emp_iff, ne_eq, List.length_map, Bool.not_eq_true, Bool.not_eq_false, Bool.not_eq_eq_eq_not, Bool.not_true, Bool.not_false]; done) | (simp only [ltB_t, ltB_f, eqB_t, eqB_f, pB_t, pB_f, sEq_t, sEq_f, emp_iff, ne_eq, List.length_map, Bool.not_eq_true, Bool.not_eq_false, Bool.not_eq_eq_eq_not, Bool.not_true, Bool.not_false]; omega) | (simp only [ltB_t, ltB_f, eqB_t, eqB_f, pB_t, pB_f, sEq_t, sEq_f, emp_iff, ne_eq, List.length_map, Bool.not_eq_true, Bool.not_eq_false, Bool.not_eq_eq_eq_not, Bool.not_true, Bool.not_false]; assumption)) ?_
    | (refine Br.mk ?_ ?_ <;> intro h <;> (try simp only [ltB_t, ltB_f, eqB_t, eqB_f, pB_t, pB_f, sEq_t, sEq_f, emp_iff, ne_eq, List.length_map, Bool.not_eq_true, Bool.not_eq_false, Bool.not_eq_eq_eq_not, Bool.not_true, Bool.not_false] at h))
    | refine Elt.mk rfl ?_
    | refine Elt.mk (by assumption) ?_
    | refine Elt.mk (ixE (by omega) (by omega)) ?_
    | refine E.callR tt h_toInt64S rfl rfl ⟨_, rfl, by omega, .inl rfl, ?_⟩
    | refine E.call tt h_eqInt64S rfl rfl ⟨_, _, rfl, by omega, _, _, rfl, rfl, ?_⟩
    | refine E.call tt (h_eqInt64S.nilV [1, 1]) rfl rfl ⟨[], [], rfl, by decide, _, _, rfl, rfl, ?_⟩
    | (refine E.call tt h_szDeedS rfl rfl ⟨_, _, rfl, by omega, by assumption, by omega, by omega, fun rz hrz hrz2 => ⟨_, _, rfl, rfl, ?_⟩⟩)
    | refine E.callR tt h_toDeedS rfl rfl ⟨_, rfl, by omega, .inl rfl, ?_⟩
    | refine E.call tt h_eqDeedS rfl rfl ⟨_, _, rfl, by omega, _, _, rfl, rfl, ?_⟩
    | refine E.call tt (h_eqDeedS.nilV [4, 4]) rfl rfl ⟨[], [], rfl, by decide, _, _, rfl, rfl, ?_⟩
    | refine E.callR tt h_HoldS rfl rfl ⟨_, _, _, rfl, by omega, by omega, by assumption, .inr ⟨by assumption, .inr ⟨by assumption, .inr ⟨by assumption, rfl⟩⟩⟩, .inr (allSc_ok _ rfl), ?_⟩
    | refine E.callR tt h_HoldS rfl rfl ⟨_, _, _, rfl, by omega, by omega, by assumption, .inr ⟨by assumption, .inr ⟨by assumption, .inl ⟨by assumption, rfl⟩⟩⟩, .inr (allSc_ok _ rfl), ?_⟩
    | refine E.callR tt h_HoldS rfl rfl ⟨_, _, _, rfl, by omega, by omega, by assumption, .inr ⟨by assumption, .inl ⟨by assumption, rfl⟩⟩, .inr (allSc_ok _ rfl), ?_⟩
    | refine E.callR tt h_HoldS rfl rfl ⟨_, _, _, rfl, by omega, by omega, by assumption, .inl ⟨by assumption, rfl⟩, .inr (allSc_ok _ rfl), ?_⟩
    | refine E.callR tt h_HoldI rfl rfl ⟨_, _, _, rfl, by omega, by omega, by assumption, .inr ⟨by assumption, .inr ⟨by assumption, .inr ⟨by assumption, rfl⟩⟩⟩, .inr (allSc_ok _ rfl), ?_⟩
    | refine E.callR tt h_HoldI rfl rfl ⟨_, _, _, rfl, by omega, by omega, by assumption, .inr ⟨by assumption, .inr ⟨by assumption, .inl ⟨by assumption, rfl⟩⟩⟩, .inr (allSc_ok _ rfl), ?_⟩
    | refine E.callR tt h_HoldI rfl rfl ⟨_, _, _, rfl, by omega, by omega, by assumption, .inr ⟨by assumption, .inl ⟨by assumption, rfl⟩⟩, .inr (allSc_ok _ rfl), ?_⟩
    | refine E.callR tt h_HoldI rfl rfl ⟨_, _, _, rfl, by omega, by omega, by assumption, .inl ⟨by assumption, rfl⟩, .inr (allSc_ok _ rfl), ?_⟩)) <;> (try (conv => whnf)))
  all_goals exact fin_p rfl rfl rfl rfl

end Go.Proofs.Ytbhamhfiiafplaa
namespace Go.Proofs.Ytbhamhfiiafplaa
open Go.ChangeShapes Go.WideShapes Go.ChangeAt Go.RowKit Go.Lo
open Go.ChangeMaps (open_string shut_string)
theorem longestHold_own : ownKnob Try.prog.godebug = none := by kernel_rfl
theorem longestHold_laidOut : laidOutB Try.prog = true := by kernel_rfl
theorem longestHold_rd_Deed : Reads Try.prog 121 4 (fun p => ∃ x : D.Deed, p = x.enc ∧ x.ok) :=
  (reads_struct Try.underlying121 [(1, _), (1, _), (1, _), (1, _)] ⟨rfl, by kernel_rfl, reads_str Try.underlying9, rfl, by kernel_rfl, reads_str Try.underlying9, rfl, by kernel_rfl, reads_int Try.underlying2, rfl, by kernel_rfl, reads_int Try.underlying2, trivial⟩ (by kernel_rfl)).mono fun p h => by
    obtain ⟨_, _, rfl, _, ⟨n0, rfl, h0⟩, _, _, rfl, _, ⟨n1, rfl, h1⟩, _, _, rfl, _, ⟨n2, rfl, h2⟩, _, _, rfl, _, ⟨n3, rfl, h3⟩, rfl⟩ := h
    exact ⟨⟨n0, n1, n2, n3⟩, rfl, by unfold D.Deed.ok; exact ⟨h0, h1, h2, h3⟩⟩
theorem longestHold_lifted (os : Os) (started : os.Started) (H : Type) (enc : TypeId × Value → H) :
    ReturnsInHanded {} Try.checked os 13 .any (Rows.fnExactLongestHoldSpec.pre6 enc Try.prog Try.f13 Rows.fnExactLongestHoldRow.domain false) (Rows.fnExactLongestHoldSpec.post enc Try.prog Try.f13 false true false false) := by
  refine returnsInHanded_of_change (C := Try.checked) longestHold_own started (by kernel_rfl) Try.func13
    (ChangeSpec.witness6 (enc := enc) (C := Try.checked) false ⟨#[], #[.slice none 0 0, .slice none 0 0], []⟩ 8 (by kernel_rfl) (by kernel_rfl) (by kernel_rfl) (by kernel_rfl)) ?_
  intro W base args ds gs before hval0 hW hcnd _
  have hval : ∀ (j : Nat) t v, Try.f13.params[j]? = some t → args[j]? = some v → Value.okWide Try.prog W .any base t v := hval0
  have hW' := hW
  obtain ⟨p, q, hA0, hV, rfl, hfz, hnd⟩ := hW
  have hA : DataW.TrodAll enc Try.prog W 0 (fun _ => true) true Try.f13.params.toList args.toList ds p := hA0
  rw [Try.params13] at hA hval
  obtain ⟨v0, vs0, d0, ds0, p0, q0, hargs, rfl, rfl, h0, r0⟩ := trodAll_cons hA
  obtain ⟨v1, vs1, d1, ds1, p1, q1, rfl, rfl, rfl, h1, r1⟩ := trodAll_cons r0
  obtain ⟨rfl, rfl, rfl⟩ := trodAll_nil r1
  obtain rfl : args = #[v0, v1] := by cases args; simp_all
  obtain ⟨rfl, rfl⟩ := trodVars_none hV
  have lt0 : ∀ x ∈ p0, x.block < W.heap.size := by obtain ⟨m, hm⟩ := h0; exact DataW.trod_lt m _ _ _ hm
  have lt1 : ∀ x ∈ p1, x.block < W.heap.size := by obtain ⟨m, hm⟩ := h1; exact DataW.trod_lt m _ _ _ hm
  obtain ⟨y0, hy0, a0, e0, c0, d0⟩ := (reads_list Try.underlying52 longestHold_rd_Deed (by kernel_rfl) (by decide)).arg h0 (by obtain ⟨a, l, c, rfl⟩ := okWide_slice Try.underlying52 (hval 0 52 v0 rfl rfl); rfl)
  obtain ⟨y1, hy1, a1, e1, c1, d1⟩ := (reads_list Try.underlying23 (reads_I Try.underlying2) (by kernel_rfl) (by decide)).arg h1 (by obtain ⟨a, l, c, rfl⟩ := okWide_slice Try.underlying23 (hval 1 23 v1 rfl rfl); rfl)
  cases e0
  cases e1
  obtain ⟨rs, hro, hrs⟩ := h_lawLongestHold.2 [.view 4 (a0.map D.Deed.enc), .view 1 (a1.map encI)] (fun rs => rs = [.p (.bool true)]) ⟨a0, a1, rfl, ⟨c0, d0⟩, ⟨c1, d1⟩, rfl⟩
  subst hrs
  have hAr : ArgsR W (fun _ => True) [.view 4 (a0.map D.Deed.enc), .view 1 (a1.map encI)] #[v0, v1] := ⟨rfl, fun i m u hm hu => by
    match i, hm, hu with
    | 0, hm, hu => simp at hm hu; subst hm; subst hu; exact hy0.mono fun b hb => ⟨⟨hb, trivial⟩, rfl⟩
    | 1, hm, hu => simp at hm hu; subst hm; subst hu; exact hy1.mono fun b hb => ⟨⟨hb, trivial⟩, rfl⟩⟩
  refine (hro W _ _ hAr).mono fun e W' ⟨v, he, ⟨bl, cp, hr⟩, bel⟩ => ?_
  have hvv := hr.one _ rfl
  simp only [R1] at hvv
  have hvv := VR.of_val (u := .bool true) rfl hvv
  subst hvv
  subst he
  exact ⟨_, rfl, _, _, _, [], _, [], hW', trodAll_mk1 (shut_bool Try.underlying4 _), (trodAll_cons_mk (Below.trod longestHold_laidOut (by kernel_rfl) (of_decide_eq_true (by kernel_rfl)) h0 bel lt0) (trodAll_cons_mk (Below.trod longestHold_laidOut (by kernel_rfl) (of_decide_eq_true (by kernel_rfl)) h1 bel lt1) trodAll_mk0)), rfl, bel.frame _, fun h => by cases h⟩
theorem longestHold_proved : Rows.FnExactLongestHoldSaid :=
  OpenClaim.holds_of_wide 13 Try.f13 rfl rfl rfl rfl rfl rfl rfl ⟨rfl, rfl, rfl, rfl, rfl⟩ rfl rfl rfl rfl rfl (by kernel_rfl) Try.func13 (by kernel_rfl)
    (of_decide_eq_true (by kernel_rfl)) (by unfold Func.isWrapper; first | (rw [if_pos (by decide +kernel)]; kernel_rfl) | (rw [if_neg (by decide +kernel)]; exact ⟨rfl, rfl⟩))
    (fun os started H enc _ => longestHold_lifted os started H enc)
#print axioms longestHold_proved
end Go.Proofs.Ytbhamhfiiafplaa
