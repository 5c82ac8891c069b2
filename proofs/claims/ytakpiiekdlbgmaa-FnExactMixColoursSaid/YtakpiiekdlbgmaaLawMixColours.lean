/- The law FnExactMixColours: contracts of the functions that it reaches, and its own. -/
import Derived.Test.YtakpiiekdlbgmaaArr
import Derived.Test.YtakpiiekdlbgmaaCtg
set_option linter.unusedVariables false
set_option linter.unusedSimpArgs false
set_option maxRecDepth 100000
namespace Go.Lo
-- deps: Arr Ctg
def mixT (xs : List D.Coat) (l : List Int) (k i : Int) : Int := ix l i * ix (ix xs i).Colour k
def mixS (xs : List D.Coat) (l : List Int) (k i : Int) : Int := sumTo (mixT xs l k) i
def tot (l : List Int) (i : Int) : Int := sumTo (fun j => ix l j) i
def partC (l : List Int) (i : Int) : Prop := 0 ≤ ix l i ∧ ix l i ≤ 1000
def MixOk (xs : List D.Coat) (l : List Int) : Prop := (l.length : Int) = xs.length ∧ allTo (partC l) l.length ∧ tot l l.length ≠ 0
theorem mixS_succ (xs : List D.Coat) (l : List Int) (k : Int) {i : Int} (h : 0 ≤ i) : mixS xs l k (i + 1) = mixS xs l k i + mixT xs l k i := sumTo_succ h
theorem tot_succ (l : List Int) {i : Int} (h : 0 ≤ i) : tot l (i + 1) = tot l i + ix l i := sumTo_succ h
theorem tot_bd {l : List Int} {i : Int} (h0 : 0 ≤ i) (h : allTo (partC l) i) : 0 ≤ tot l i ∧ tot l i ≤ 1000 * i := by
  have := sumTo_bd (f := fun j => ix l j) (lo := 0) (hi := 1000) (N := i) (fun j j0 j1 => h j j0 j1) h0 (Int.le_refl _)
  unfold tot; omega
theorem mixT_bd {xs : List D.Coat} {l : List Int} (hB : CoatsOk xs) {i k : Int} (h0 : 0 ≤ i) (h1 : i < xs.length) (hp : partC l i) (k0 : 0 ≤ k) (k1 : k < 3) : 0 ≤ mixT xs l k i ∧ mixT xs l k i ≤ 255000 := by
  have hc := (hB.at h0 h1).2.2.2
  have hck := hc.1 k k0 (by have := hc.2; omega)
  unfold ColC at hck
  unfold partC at hp
  have a1 : 0 ≤ ix l i * ix (ix xs i).Colour k := Int.mul_nonneg hp.1 hck.1
  have a2 : ix l i * ix (ix xs i).Colour k ≤ 1000 * ix (ix xs i).Colour k := Int.mul_le_mul_of_nonneg_right hp.2 hck.1
  unfold mixT; omega
theorem mixS_bd {xs : List D.Coat} {l : List Int} (hB : CoatsOk xs) {i k : Int} (h0 : 0 ≤ i) (h1 : i ≤ xs.length) (hp : allTo (partC l) i) (k0 : 0 ≤ k) (k1 : k < 3) : 0 ≤ mixS xs l k i ∧ mixS xs l k i ≤ 2550000 := by
  have := sumTo_bd (f := mixT xs l k) (lo := 0) (hi := 255000) (N := i) (fun j j0 j1 => mixT_bd hB j0 (by omega) (hp j j0 j1) k0 k1) h0 (Int.le_refl _)
  have hle := hB.le
  unfold mixS; omega
def mixR (xs : List D.Coat) (l : List Int) (g : Int) : Int := rdiv (mixS xs l g xs.length) (tot l l.length)
def mixI (xs : List D.Coat) (l : List Int) (i k : Int) (g : Int) : Int := if g < k then mixS xs l g (i + 1) else mixS xs l g i
def mixD (xs : List D.Coat) (l : List Int) (k : Int) (g : Int) : Int := if g < k then mixR xs l g else mixS xs l g xs.length
theorem cat_fn3 (f : Int → Int) : cat (fun i => [f i]) 3 = fnL f 3 := by
  rw [show (3 : Int) = 0 + 1 + 1 + 1 by omega, cat_succ (by omega), cat_succ (by omega), cat_succ (by omega), cat_zero]
  rfl
theorem fnL_congr {f g : Int → Int} {n : Nat} (h : ∀ i : Int, 0 ≤ i → i < n → f i = g i) : fnL f n = fnL g n := by
  unfold fnL
  apply List.map_congr_left
  intro i hi
  rw [List.mem_range] at hi
  exact h i (by omega) (by omega)
def cMx (ty : Nat) : Ct := fun args K => ∃ (xs : List D.Coat) (l : List Int) (rs : RV), args = [.view 4 (xs.map D.Coat.enc), .view 1 (l.map encI)] ∧ (xs.length : Int) ≤ 1048576 ∧ (∀ x ∈ xs, x.ok) ∧ (l.length : Int) ≤ 1048576 ∧ (∀ x ∈ l, in64 x) ∧
  spec2 (CoatsOk xs) (MixOk xs l) [.p .nil, .p (I 1)] [.p .nil, .p (I 7)] [.fresh ⟨ty, 1, (fnL (mixR xs l) 3).map encI⟩, .p (I 0)] rs ∧ K rs
end Go.Lo
namespace Go.Proofs.Ytakpiiekdlbgmaa
open Go.Lo
attribute [local irreducible] W Wc

theorem h_MxS : Holds Try.prog 44 (cMx 2) := by
  refine E.mk tt Try.func44 rfl Try.ntmps44 rfl (by kernel_rfl) ?_
  rintro _ K ⟨xs, l, rs, rfl, hx, hok, hl, hlk, hs, hK⟩
  have hln : (xs.map D.Coat.enc).length = xs.length := by simp
  have hln2 : (l.map encI).length = l.length := by simp
  rcases hs with ⟨hB, rfl⟩ | ⟨hB, hs⟩
  · refine ⟨Nat.le_of_ble_eq_true rfl, _, hK, ?_⟩
    (repeat' ((conv => whnf); first
    | refine Sd.mk (by first | omega | (unfold in64; omega) | (simp only [fitK, in64]; omega) | (simp only [fitK, in64, chunk, List.length_map, List.length_append, List.length_replicate, List.length_set, List.length_nil, List.length_cons]; omega)) ?_
    | refine Br.yes rfl ?_
    | refine Br.no rfl ?_
    | refine Br.yes (by first | (simp only [ltB_t, ltB_f, eqB_t, eqB_f, pB_t, pB_f, sEq_t, sEq_f, emp_iff, ne_eq, List.length_map, Bool.not_eq_true, Bool.not_eq_false, Bool.not_eq_eq_eq_not, Bool.not_true, Bool.not_false]; done) | (simp only [ltB_t, ltB_f, eqB_t, eqB_f, pB_t, pB_f, sEq_t, sEq_f, emp_iff, ne_eq, List.length_map, Bool.not_eq_true, Bool.not_eq_false, Bool.not_eq_eq_eq_not, Bool.not_true, Bool.not_false]; omega) | (simp only [ltB_t, ltB_f, eqB_t, eqB_f, pB_t, pB_f, sEq_t, sEq_f, emp_iff, ne_eq, List.length_map, Bool.not_eq_true, Bool.not_eq_false, Bool.not_eq_eq_eq_not, Bool.not_true, Bool.not_false]; assumption)) ?_
    | refine Br.no (by first | (simp only [ltB_t, ltB_f, eqB_t, eqB_f, pB_t, pB_f, sEq_t, sEq_f, emp_iff, ne_eq, List.length_map, Bool.not_eq_true, Bool.not_eq_false, Bool.not_eq_eq_eq_not, Bool.not_true, Bool.not_false]; done) | (simp only [ltB_t, ltB_f, eqB_t, eqB_f, pB_t, pB_f, sEq_t, sEq_f, emp_iff, ne_eq, List.length_map, Bool.not_eq_true, Bool.not_eq_false, Bool.not_eq_eq_eq_not, Bool.not_true, Bool.not_false]; omega) | (simp only [ltB_t, ltB_f, eqB_t, eqB_f, pB_t, pB_f, sEq_t, sEq_f, emp_iff, ne_eq, List.length_map, Bool.not_eq_true, Bool.not_eq_false, Bool.not_eq_eq_eq_not, Bool.not_true, Bool.not_false]; assumption)) ?_
    | (refine Br.mk ?_ ?_ <;> intro h <;> (try simp only [ltB_t, ltB_f, eqB_t, eqB_f, pB_t, pB_f, sEq_t, sEq_f, emp_iff, ne_eq, List.length_map, Bool.not_eq_true, Bool.not_eq_false, Bool.not_eq_eq_eq_not, Bool.not_true, Bool.not_false] at h))
    | refine Ixv.mk (by omega) (ixE (by omega) (by omega)) ?_
    | refine Elt.mk rfl ?_
    | refine Elt.mk (by assumption) ?_
    | refine Elt.mk (ixE (by omega) (by omega)) ?_
    | refine E.call tt h_l00In rfl rfl ⟨_, _, _, rfl, _, _, rfl, rfl, ?_⟩
    | refine E.call tt h_okSCoat rfl rfl ⟨_, rfl, by omega, by assumption, _, _, rfl, rfl, ?_⟩
    | refine E.call tt h_l01Div rfl rfl ⟨_, _, rfl, by omega, by omega, by omega, by omega, _, _, rfl, rfl, ?_⟩
    | refine E.regionQ tt (id := 20) mixed (by decide +kernel) ?_)) <;> (try (conv => whnf))
    all_goals (exact fin_p rfl rfl rfl rfl)
  · have hle := hB.le
    refine ⟨Nat.le_of_ble_eq_true rfl, _, hK, ?_⟩
    (repeat' ((conv => whnf); first
    | refine Sd.mk (by first | omega | (unfold in64; omega) | (simp only [fitK, in64]; omega) | (simp only [fitK, in64, chunk, List.length_map, List.length_append, List.length_replicate, List.length_set, List.length_nil, List.length_cons]; omega)) ?_
    | refine Br.yes rfl ?_
    | refine Br.no rfl ?_
    | refine Br.yes (by first | (simp only [ltB_t, ltB_f, eqB_t, eqB_f, pB_t, pB_f, sEq_t, sEq_f, emp_iff, ne_eq, List.length_map, Bool.not_eq_true, Bool.not_eq_false, Bool.not_eq_eq_eq_not, Bool.not_true, Bool.not_false]; done) | (simp only [ltB_t, ltB_f, eqB_t, eqB_f, pB_t, pB_f, sEq_t, sEq_f, emp_iff, ne_eq, List.length_map, Bool.not_eq_true, Bool.not_eq_false, Bool.not_eq_eq_eq_not, Bool.not_true, Bool.not_false]; omega) | (simp only [ltB_t, ltB_f, eqB_t, eqB_f, pB_t, pB_f, sEq_t, sEq_f, emp_iff, ne_eq, List.length_map, Bool.not_eq_true, Bool.not_eq_false, Bool.not_eq_eq_eq_not, Bool.not_true, Bool.not_false]; assumption)) ?_
    | refine Br.no (by first | (simp only [ltB_t, ltB_f, eqB_t, eqB_f, pB_t, pB_f, sEq_t, sEq_f, emp_iff, ne_eq, List.length_map, Bool.not_eq_true, Bool.not_eq_false, Bool.not_eq_eq_eq_not, Bool.not_true, Bool.not_false]; done) | (simp only [ltB_t, ltB_f, eqB_t, eqB_f, pB_t, pB_f, sEq_t, sEq_f, emp_iff, ne_eq, List.length_map, Bool.not_eq_true, Bool.not_eq_false, Bool.not_eq_eq_eq_not, Bool.not_true, Bool.not_false]; omega) | (simp only [ltB_t, ltB_f, eqB_t, eqB_f, pB_t, pB_f, sEq_t, sEq_f, emp_iff, ne_eq, List.length_map, Bool.not_eq_true, Bool.not_eq_false, Bool.not_eq_eq_eq_not, Bool.not_true, Bool.not_false]; assumption)) ?_
    | (refine Br.mk ?_ ?_ <;> intro h <;> (try simp only [ltB_t, ltB_f, eqB_t, eqB_f, pB_t, pB_f, sEq_t, sEq_f, emp_iff, ne_eq, List.length_map, Bool.not_eq_true, Bool.not_eq_false, Bool.not_eq_eq_eq_not, Bool.not_true, Bool.not_false] at h))
    | refine Ixv.mk (by omega) (ixE (by omega) (by omega)) ?_
    | refine Elt.mk rfl ?_
    | refine Elt.mk (by assumption) ?_
    | refine Elt.mk (ixE (by omega) (by omega)) ?_
    | refine E.call tt h_l00In rfl rfl ⟨_, _, _, rfl, _, _, rfl, rfl, ?_⟩
    | refine E.call tt h_okSCoat rfl rfl ⟨_, rfl, by omega, by assumption, _, _, rfl, rfl, ?_⟩
    | refine E.call tt h_l01Div rfl rfl ⟨_, _, rfl, by omega, by omega, by omega, by omega, _, _, rfl, rfl, ?_⟩
    | refine E.regionQ tt (id := 20) mixed (by decide +kernel) ?_)) <;> (try (conv => whnf))
    refine E.loop tt (fun i : Int => (0 ≤ i ∧ i ≤ l.length) ∧ allTo (partC l) i) (fun i => ⟨75, 1, [(0, .p (.view 4 (xs.map D.Coat.enc))), (1, .p (.view 1 (l.map encI))), (6, .p (I (tot l i))), (7, .p (I i))], [], Frag.nil⟩) (fun i => (l.length - i).toNat) 0 ⟨⟨by omega, by omega⟩, allTo_zero _⟩ ⟨rfl, ⟨rfl, rfl, rfl, rfl, trivial⟩, trivial, rfl, rfl, fun _ _ h => h⟩ ?_
    rintro i ⟨⟨hi0, hi1⟩, hp⟩
    have htb := tot_bd hi0 hp
    rcases Int.lt_or_le i l.length with hlt | hge
    · have hts := tot_succ l hi0
      have hil : in64 (ix l i) := hlk _ (ix_mem hi0 hlt)
      by_cases hc : partC l i
      · have hc' := hc
        unfold partC at hc'
        (repeat' ((conv => whnf); first
    | refine Sd.mk (by first | omega | (unfold in64; omega) | (simp only [fitK, in64]; omega) | (simp only [fitK, in64, chunk, List.length_map, List.length_append, List.length_replicate, List.length_set, List.length_nil, List.length_cons]; omega)) ?_
    | refine Br.yes rfl ?_
    | refine Br.no rfl ?_
    | refine Br.yes (by first | (simp only [ltB_t, ltB_f, eqB_t, eqB_f, pB_t, pB_f, sEq_t, sEq_f, emp_iff, ne_eq, List.length_map, Bool.not_eq_true, Bool.not_eq_false, Bool.not_eq_eq_eq_not, Bool.not_true, Bool.not_false]; done) | (simp only [ltB_t, ltB_f, eqB_t, eqB_f, pB_t, pB_f, sEq_t, sEq_f, emp_iff, ne_eq, List.length_map, Bool.not_eq_true, Bool.not_eq_false, Bool.not_eq_eq_eq_not, Bool.not_true, Bool.not_false]; omega) | (simp only [ltB_t, ltB_f, eqB_t, eqB_f, pB_t, pB_f, sEq_t, sEq_f, emp_iff, ne_eq, List.length_map, Bool.not_eq_true, Bool.not_eq_false, Bool.not_eq_eq_eq_not, Bool.not_true, Bool.not_false]; assumption)) ?_
    | refine Br.no (by first | (simp only [ltB_t, ltB_f, eqB_t, eqB_f, pB_t, pB_f, sEq_t, sEq_f, emp_iff, ne_eq, List.length_map, Bool.not_eq_true, Bool.not_eq_false, Bool.not_eq_eq_eq_not, Bool.not_true, Bool.not_false]; done) | (simp only [ltB_t, ltB_f, eqB_t, eqB_f, pB_t, pB_f, sEq_t, sEq_f, emp_iff, ne_eq, List.length_map, Bool.not_eq_true, Bool.not_eq_false, Bool.not_eq_eq_eq_not, Bool.not_true, Bool.not_false]; omega) | (simp only [ltB_t, ltB_f, eqB_t, eqB_f, pB_t, pB_f, sEq_t, sEq_f, emp_iff, ne_eq, List.length_map, Bool.not_eq_true, Bool.not_eq_false, Bool.not_eq_eq_eq_not, Bool.not_true, Bool.not_false]; assumption)) ?_
    | (refine Br.mk ?_ ?_ <;> intro h <;> (try simp only [ltB_t, ltB_f, eqB_t, eqB_f, pB_t, pB_f, sEq_t, sEq_f, emp_iff, ne_eq, List.length_map, Bool.not_eq_true, Bool.not_eq_false, Bool.not_eq_eq_eq_not, Bool.not_true, Bool.not_false] at h))
    | refine Ixv.mk (by omega) (ixE (by omega) (by omega)) ?_
    | refine Elt.mk rfl ?_
    | refine Elt.mk (by assumption) ?_
    | refine Elt.mk (ixE (by omega) (by omega)) ?_
    | refine E.call tt h_l00In rfl rfl ⟨_, _, _, rfl, _, _, rfl, rfl, ?_⟩
    | refine E.call tt h_okSCoat rfl rfl ⟨_, rfl, by omega, by assumption, _, _, rfl, rfl, ?_⟩
    | refine E.call tt h_l01Div rfl rfl ⟨_, _, rfl, by omega, by omega, by omega, by omega, _, _, rfl, rfl, ?_⟩
    | refine E.regionQ tt (id := 20) mixed (by decide +kernel) ?_)) <;> (try (conv => whnf))
        all_goals (refine ⟨i + 1, ⟨⟨by omega, by omega⟩, allTo_succ hp hc⟩, by dsimp only; omega, ⟨rfl, ⟨rfl, rfl, pI (by rw [hts]), rfl, trivial⟩, trivial, rfl, rfl, fun _ _ h => h⟩⟩)
      · have hc' := hc
        unfold partC at hc'
        rcases hs with ⟨hR, rfl⟩ | ⟨hR, rfl⟩
        · (repeat' ((conv => whnf); first
    | refine Sd.mk (by first | omega | (unfold in64; omega) | (simp only [fitK, in64]; omega) | (simp only [fitK, in64, chunk, List.length_map, List.length_append, List.length_replicate, List.length_set, List.length_nil, List.length_cons]; omega)) ?_
    | refine Br.yes rfl ?_
    | refine Br.no rfl ?_
    | refine Br.yes (by first | (simp only [ltB_t, ltB_f, eqB_t, eqB_f, pB_t, pB_f, sEq_t, sEq_f, emp_iff, ne_eq, List.length_map, Bool.not_eq_true, Bool.not_eq_false, Bool.not_eq_eq_eq_not, Bool.not_true, Bool.not_false]; done) | (simp only [ltB_t, ltB_f, eqB_t, eqB_f, pB_t, pB_f, sEq_t, sEq_f, emp_iff, ne_eq, List.length_map, Bool.not_eq_true, Bool.not_eq_false, Bool.not_eq_eq_eq_not, Bool.not_true, Bool.not_false]; omega) | (simp only [ltB_t, ltB_f, eqB_t, eqB_f, pB_t, pB_f, sEq_t, sEq_f, emp_iff, ne_eq, List.length_map, Bool.not_eq_true, Bool.not_eq_false, Bool.not_eq_eq_eq_not, Bool.not_true, Bool.not_false]; assumption)) ?_
    | refine Br.no (by first | (simp only [ltB_t, ltB_f, eqB_t, eqB_f, pB_t, pB_f, sEq_t, sEq_f, emp_iff, ne_eq, List.length_map, Bool.not_eq_true, Bool.not_eq_false, Bool.not_eq_eq_eq_not, Bool.not_true, Bool.not_false]; done) | (simp only [ltB_t, ltB_f, eqB_t, eqB_f, pB_t, pB_f, sEq_t, sEq_f, emp_iff, ne_eq, List.length_map, Bool.not_eq_true, Bool.not_eq_false, Bool.not_eq_eq_eq_not, Bool.not_true, Bool.not_false]; omega) | (simp only [ltB_t, ltB_f, eqB_t, eqB_f, pB_t, pB_f, sEq_t, sEq_f, emp_iff, ne_eq, List.length_map, Bool.not_eq_true, Bool.not_eq_false, Bool.not_eq_eq_eq_not, Bool.not_true, Bool.not_false]; assumption)) ?_
    | (refine Br.mk ?_ ?_ <;> intro h <;> (try simp only [ltB_t, ltB_f, eqB_t, eqB_f, pB_t, pB_f, sEq_t, sEq_f, emp_iff, ne_eq, List.length_map, Bool.not_eq_true, Bool.not_eq_false, Bool.not_eq_eq_eq_not, Bool.not_true, Bool.not_false] at h))
    | refine Ixv.mk (by omega) (ixE (by omega) (by omega)) ?_
    | refine Elt.mk rfl ?_
    | refine Elt.mk (by assumption) ?_
    | refine Elt.mk (ixE (by omega) (by omega)) ?_
    | refine E.call tt h_l00In rfl rfl ⟨_, _, _, rfl, _, _, rfl, rfl, ?_⟩
    | refine E.call tt h_okSCoat rfl rfl ⟨_, rfl, by omega, by assumption, _, _, rfl, rfl, ?_⟩
    | refine E.call tt h_l01Div rfl rfl ⟨_, _, rfl, by omega, by omega, by omega, by omega, _, _, rfl, rfl, ?_⟩
    | refine E.regionQ tt (id := 20) mixed (by decide +kernel) ?_)) <;> (try (conv => whnf))
          all_goals first
            | (exfalso; omega)
            | (exact fin_p rfl rfl rfl rfl)
        · exact absurd (hR.2.1 i hi0 hlt) hc
    · have hie : i = l.length := by omega
      subst hie
      rcases hs with ⟨hR, rfl⟩ | ⟨hR, rfl⟩
      · have hR' : ¬ ((l.length : Int) = xs.length ∧ tot l l.length ≠ 0) := fun h => hR ⟨h.1, hp, h.2⟩
        (repeat' ((conv => whnf); first
    | refine Sd.mk (by first | omega | (unfold in64; omega) | (simp only [fitK, in64]; omega) | (simp only [fitK, in64, chunk, List.length_map, List.length_append, List.length_replicate, List.length_set, List.length_nil, List.length_cons]; omega)) ?_
    | refine Br.yes rfl ?_
    | refine Br.no rfl ?_
    | refine Br.yes (by first | (simp only [ltB_t, ltB_f, eqB_t, eqB_f, pB_t, pB_f, sEq_t, sEq_f, emp_iff, ne_eq, List.length_map, Bool.not_eq_true, Bool.not_eq_false, Bool.not_eq_eq_eq_not, Bool.not_true, Bool.not_false]; done) | (simp only [ltB_t, ltB_f, eqB_t, eqB_f, pB_t, pB_f, sEq_t, sEq_f, emp_iff, ne_eq, List.length_map, Bool.not_eq_true, Bool.not_eq_false, Bool.not_eq_eq_eq_not, Bool.not_true, Bool.not_false]; omega) | (simp only [ltB_t, ltB_f, eqB_t, eqB_f, pB_t, pB_f, sEq_t, sEq_f, emp_iff, ne_eq, List.length_map, Bool.not_eq_true, Bool.not_eq_false, Bool.not_eq_eq_eq_not, Bool.not_true, Bool.not_false]; assumption)) ?_
    | refine Br.no (by first | (simp only [ltB_t, ltB_f, eqB_t, eqB_f, pB_t, pB_f, sEq_t, sEq_f, emp_iff, ne_eq, List.length_map, Bool.not_eq_true, Bool.not_eq_false, Bool.not_eq_eq_eq_not, Bool.not_true, Bool.not_false]; done) | (simp only [ltB_t, ltB_f, eqB_t, eqB_f, pB_t, pB_f, sEq_t, sEq_f, emp_iff, ne_eq, List.length_map, Bool.not_eq_true, Bool.not_eq_false, Bool.not_eq_eq_eq_not, Bool.not_true, Bool.not_false]; omega) | (simp only [ltB_t, ltB_f, eqB_t, eqB_f, pB_t, pB_f, sEq_t, sEq_f, emp_iff, ne_eq, List.length_map, Bool.not_eq_true, Bool.not_eq_false, Bool.not_eq_eq_eq_not, Bool.not_true, Bool.not_false]; assumption)) ?_
    | (refine Br.mk ?_ ?_ <;> intro h <;> (try simp only [ltB_t, ltB_f, eqB_t, eqB_f, pB_t, pB_f, sEq_t, sEq_f, emp_iff, ne_eq, List.length_map, Bool.not_eq_true, Bool.not_eq_false, Bool.not_eq_eq_eq_not, Bool.not_true, Bool.not_false] at h))
    | refine Ixv.mk (by omega) (ixE (by omega) (by omega)) ?_
    | refine Elt.mk rfl ?_
    | refine Elt.mk (by assumption) ?_
    | refine Elt.mk (ixE (by omega) (by omega)) ?_
    | refine E.call tt h_l00In rfl rfl ⟨_, _, _, rfl, _, _, rfl, rfl, ?_⟩
    | refine E.call tt h_okSCoat rfl rfl ⟨_, rfl, by omega, by assumption, _, _, rfl, rfl, ?_⟩
    | refine E.call tt h_l01Div rfl rfl ⟨_, _, rfl, by omega, by omega, by omega, by omega, _, _, rfl, rfl, ?_⟩
    | refine E.regionQ tt (id := 20) mixed (by decide +kernel) ?_)) <;> (try (conv => whnf))
        all_goals first
          | (exfalso; omega)
          | (exact fin_p rfl rfl rfl rfl)
      · have hR' := hR.1
        have hR2 := hR.2.2
        (repeat' ((conv => whnf); first
    | refine Sd.mk (by first | omega | (unfold in64; omega) | (simp only [fitK, in64]; omega) | (simp only [fitK, in64, chunk, List.length_map, List.length_append, List.length_replicate, List.length_set, List.length_nil, List.length_cons]; omega)) ?_
    | refine Br.yes rfl ?_
    | refine Br.no rfl ?_
    | refine Br.yes (by first | (simp only [ltB_t, ltB_f, eqB_t, eqB_f, pB_t, pB_f, sEq_t, sEq_f, emp_iff, ne_eq, List.length_map, Bool.not_eq_true, Bool.not_eq_false, Bool.not_eq_eq_eq_not, Bool.not_true, Bool.not_false]; done) | (simp only [ltB_t, ltB_f, eqB_t, eqB_f, pB_t, pB_f, sEq_t, sEq_f, emp_iff, ne_eq, List.length_map, Bool.not_eq_true, Bool.not_eq_false, Bool.not_eq_eq_eq_not, Bool.not_true, Bool.not_false]; omega) | (simp only [ltB_t, ltB_f, eqB_t, eqB_f, pB_t, pB_f, sEq_t, sEq_f, emp_iff, ne_eq, List.length_map, Bool.not_eq_true, Bool.not_eq_false, Bool.not_eq_eq_eq_not, Bool.not_true, Bool.not_false]; assumption)) ?_
    | refine Br.no (by first | (simp only [ltB_t, ltB_f, eqB_t, eqB_f, pB_t, pB_f, sEq_t, sEq_f, emp_iff, ne_eq, List.length_map, Bool.not_eq_true, Bool.not_eq_false, Bool.not_eq_eq_eq_not, Bool.not_true, Bool.not_false]; done) | (simp only [ltB_t, ltB_f, eqB_t, eqB_f, pB_t, pB_f, sEq_t, sEq_f, emp_iff, ne_eq, List.length_map, Bool.not_eq_true, Bool.not_eq_false, Bool.not_eq_eq_eq_not, Bool.not_true, Bool.not_false]; omega) | (simp only [ltB_t, ltB_f, eqB_t, eqB_f, pB_t, pB_f, sEq_t, sEq_f, emp_iff, ne_eq, List.length_map, Bool.not_eq_true, Bool.not_eq_false, Bool.not_eq_eq_eq_not, Bool.not_true, Bool.not_false]; assumption)) ?_
    | (refine Br.mk ?_ ?_ <;> intro h <;> (try simp only [ltB_t, ltB_f, eqB_t, eqB_f, pB_t, pB_f, sEq_t, sEq_f, emp_iff, ne_eq, List.length_map, Bool.not_eq_true, Bool.not_eq_false, Bool.not_eq_eq_eq_not, Bool.not_true, Bool.not_false] at h))
    | refine Ixv.mk (by omega) (ixE (by omega) (by omega)) ?_
    | refine Elt.mk rfl ?_
    | refine Elt.mk (by assumption) ?_
    | refine Elt.mk (ixE (by omega) (by omega)) ?_
    | refine E.call tt h_l00In rfl rfl ⟨_, _, _, rfl, _, _, rfl, rfl, ?_⟩
    | refine E.call tt h_okSCoat rfl rfl ⟨_, rfl, by omega, by assumption, _, _, rfl, rfl, ?_⟩
    | refine E.call tt h_l01Div rfl rfl ⟨_, _, rfl, by omega, by omega, by omega, by omega, _, _, rfl, rfl, ?_⟩
    | refine E.regionQ tt (id := 20) mixed (by decide +kernel) ?_)) <;> (try (conv => whnf))
        all_goals try (exfalso; omega)
        refine E.loop tt (fun k : Int => 0 ≤ k ∧ k ≤ 3) (fun k => ⟨75, 2, [(0, .p (.view 4 (xs.map D.Coat.enc))), (1, .p (.view 1 (l.map encI))), (6, .p (I (tot l l.length))), (8, .own 1), (9, .p (I k))], [(1, ⟨2, 1, (cat (fun g => [mixR xs l g]) k).map encI⟩)], Frag.nil⟩) (fun k => (3 - k).toNat) 0 ⟨by omega, by omega⟩ ⟨rfl, ⟨rfl, rfl, rfl, rfl, rfl, trivial⟩, ⟨rfl, trivial⟩, rfl, rfl, fun _ _ h => h⟩ ?_
        rintro k ⟨hk0, hk1⟩
        have hcl := cat_one (g := fun g => mixR xs l g) hk0
        rcases Int.lt_or_le k 3 with hklt | hkge
        · (repeat' ((conv => whnf); first
    | refine Sd.mk (by first | omega | (unfold in64; omega) | (simp only [fitK, in64]; omega) | (simp only [fitK, in64, chunk, List.length_map, List.length_append, List.length_replicate, List.length_set, List.length_nil, List.length_cons]; omega)) ?_
    | refine Br.yes rfl ?_
    | refine Br.no rfl ?_
    | refine Br.yes (by first | (simp only [ltB_t, ltB_f, eqB_t, eqB_f, pB_t, pB_f, sEq_t, sEq_f, emp_iff, ne_eq, List.length_map, Bool.not_eq_true, Bool.not_eq_false, Bool.not_eq_eq_eq_not, Bool.not_true, Bool.not_false]; done) | (simp only [ltB_t, ltB_f, eqB_t, eqB_f, pB_t, pB_f, sEq_t, sEq_f, emp_iff, ne_eq, List.length_map, Bool.not_eq_true, Bool.not_eq_false, Bool.not_eq_eq_eq_not, Bool.not_true, Bool.not_false]; omega) | (simp only [ltB_t, ltB_f, eqB_t, eqB_f, pB_t, pB_f, sEq_t, sEq_f, emp_iff, ne_eq, List.length_map, Bool.not_eq_true, Bool.not_eq_false, Bool.not_eq_eq_eq_not, Bool.not_true, Bool.not_false]; assumption)) ?_
    | refine Br.no (by first | (simp only [ltB_t, ltB_f, eqB_t, eqB_f, pB_t, pB_f, sEq_t, sEq_f, emp_iff, ne_eq, List.length_map, Bool.not_eq_true, Bool.not_eq_false, Bool.not_eq_eq_eq_not, Bool.not_true, Bool.not_false]; done) | (simp only [ltB_t, ltB_f, eqB_t, eqB_f, pB_t, pB_f, sEq_t, sEq_f, emp_iff, ne_eq, List.length_map, Bool.not_eq_true, Bool.not_eq_false, Bool.not_eq_eq_eq_not, Bool.not_true, Bool.not_false]; omega) | (simp only [ltB_t, ltB_f, eqB_t, eqB_f, pB_t, pB_f, sEq_t, sEq_f, emp_iff, ne_eq, List.length_map, Bool.not_eq_true, Bool.not_eq_false, Bool.not_eq_eq_eq_not, Bool.not_true, Bool.not_false]; assumption)) ?_
    | (refine Br.mk ?_ ?_ <;> intro h <;> (try simp only [ltB_t, ltB_f, eqB_t, eqB_f, pB_t, pB_f, sEq_t, sEq_f, emp_iff, ne_eq, List.length_map, Bool.not_eq_true, Bool.not_eq_false, Bool.not_eq_eq_eq_not, Bool.not_true, Bool.not_false] at h))
    | refine Ixv.mk (by omega) (ixE (by omega) (by omega)) ?_
    | refine Elt.mk rfl ?_
    | refine Elt.mk (by assumption) ?_
    | refine Elt.mk (ixE (by omega) (by omega)) ?_
    | refine E.call tt h_l00In rfl rfl ⟨_, _, _, rfl, _, _, rfl, rfl, ?_⟩
    | refine E.call tt h_okSCoat rfl rfl ⟨_, rfl, by omega, by assumption, _, _, rfl, rfl, ?_⟩
    | refine E.call tt h_l01Div rfl rfl ⟨_, _, rfl, by omega, by omega, by omega, by omega, _, _, rfl, rfl, ?_⟩
    | refine E.regionQ tt (id := 20) mixed (by decide +kernel) ?_)) <;> (try (conv => whnf))
          refine E.loop tt (fun j : Int => 0 ≤ j ∧ j ≤ xs.length) (fun j => ⟨75, 2, [(0, .p (.view 4 (xs.map D.Coat.enc))), (1, .p (.view 1 (l.map encI))), (6, .p (I (tot l l.length))), (8, .own 1), (9, .p (I k)), (10, .p (I (mixS xs l k j))), (11, .p (I j))], [(1, ⟨2, 1, (cat (fun g => [mixR xs l g]) k).map encI⟩)], Frag.nil⟩) (fun j => (xs.length - j).toNat) 0 ⟨by omega, by omega⟩ ⟨rfl, ⟨rfl, rfl, rfl, rfl, rfl, rfl, rfl, trivial⟩, ⟨rfl, trivial⟩, rfl, rfl, fun _ _ h => h⟩ ?_
          rintro j ⟨hj0, hj1⟩
          have hmb := mixS_bd hB hj0 hj1 (allTo_le hp (by omega)) hk0 hklt
          rcases Int.lt_or_le j xs.length with hjlt | hjge
          · have hms := mixS_succ xs l k hj0
            have hmt := mixT_bd hB hj0 hjlt (hp j hj0 (by omega)) hk0 hklt
            have hcj := (hB.at hj0 hjlt).2.2.2
            have hcl3 : ((ix xs j).Colour.length : Int) = 3 := hcj.2
            have hln3 : ((ix xs j).Colour.map encI).length = (ix xs j).Colour.length := by simp
            have hmc : ix (ix xs j).Colour k * ix l j = mixT xs l k j := Int.mul_comm _ _
            (repeat' ((conv => whnf); first
    | refine Sd.mk (by rw [hmc]; unfold in64; omega) ?_
    | refine Sd.mk (by first | omega | (unfold in64; omega) | (simp only [fitK, in64]; omega) | (simp only [fitK, in64, chunk, List.length_map, List.length_append, List.length_replicate, List.length_set, List.length_nil, List.length_cons]; omega)) ?_
    | refine Br.yes rfl ?_
    | refine Br.no rfl ?_
    | refine Br.yes (by first | (simp only [ltB_t, ltB_f, eqB_t, eqB_f, pB_t, pB_f, sEq_t, sEq_f, emp_iff, ne_eq, List.length_map, Bool.not_eq_true, Bool.not_eq_false, Bool.not_eq_eq_eq_not, Bool.not_true, Bool.not_false]; done) | (simp only [ltB_t, ltB_f, eqB_t, eqB_f, pB_t, pB_f, sEq_t, sEq_f, emp_iff, ne_eq, List.length_map, Bool.not_eq_true, Bool.not_eq_false, Bool.not_eq_eq_eq_not, Bool.not_true, Bool.not_false]; omega) | (simp only [ltB_t, ltB_f, eqB_t, eqB_f, pB_t, pB_f, sEq_t, sEq_f, emp_iff, ne_eq, List.length_map, Bool.not_eq_true, Bool.not_eq_false, Bool.not_eq_eq_eq_not, Bool.not_true, Bool.not_false]; assumption)) ?_
    | refine Br.no (by first | (simp only [ltB_t, ltB_f, eqB_t, eqB_f, pB_t, pB_f, sEq_t, sEq_f, emp_iff, ne_eq, List.length_map, Bool.not_eq_true, Bool.not_eq_false, Bool.not_eq_eq_eq_not, Bool.not_true, Bool.not_false]; done) | (simp only [ltB_t, ltB_f, eqB_t, eqB_f, pB_t, pB_f, sEq_t, sEq_f, emp_iff, ne_eq, List.length_map, Bool.not_eq_true, Bool.not_eq_false, Bool.not_eq_eq_eq_not, Bool.not_true, Bool.not_false]; omega) | (simp only [ltB_t, ltB_f, eqB_t, eqB_f, pB_t, pB_f, sEq_t, sEq_f, emp_iff, ne_eq, List.length_map, Bool.not_eq_true, Bool.not_eq_false, Bool.not_eq_eq_eq_not, Bool.not_true, Bool.not_false]; assumption)) ?_
    | (refine Br.mk ?_ ?_ <;> intro h <;> (try simp only [ltB_t, ltB_f, eqB_t, eqB_f, pB_t, pB_f, sEq_t, sEq_f, emp_iff, ne_eq, List.length_map, Bool.not_eq_true, Bool.not_eq_false, Bool.not_eq_eq_eq_not, Bool.not_true, Bool.not_false] at h))
    | refine Ixv.mk (by omega) (ixE (by omega) (by omega)) ?_
    | refine Elt.mk rfl ?_
    | refine Elt.mk (by assumption) ?_
    | refine Elt.mk (ixE (by omega) (by omega)) ?_
    | refine E.call tt h_l00In rfl rfl ⟨_, _, _, rfl, _, _, rfl, rfl, ?_⟩
    | refine E.call tt h_okSCoat rfl rfl ⟨_, rfl, by omega, by assumption, _, _, rfl, rfl, ?_⟩
    | refine E.call tt h_l01Div rfl rfl ⟨_, _, rfl, by omega, by omega, by omega, by omega, _, _, rfl, rfl, ?_⟩
    | refine E.regionQ tt (id := 20) mixed (by decide +kernel) ?_)) <;> (try (conv => whnf))
            all_goals (refine ⟨j + 1, ⟨by omega, by omega⟩, by dsimp only; omega, ⟨rfl, ⟨rfl, rfl, rfl, rfl, rfl, pI (by rw [hms, hmc]), rfl, trivial⟩, ⟨rfl, trivial⟩, rfl, rfl, fun _ _ h => h⟩⟩)
          · have hje : j = xs.length := by omega
            subst hje
            (repeat' ((conv => whnf); first
    | refine Sd.mk (by first | omega | (unfold in64; omega) | (simp only [fitK, in64]; omega) | (simp only [fitK, in64, chunk, List.length_map, List.length_append, List.length_replicate, List.length_set, List.length_nil, List.length_cons]; omega)) ?_
    | refine Br.yes rfl ?_
    | refine Br.no rfl ?_
    | refine Br.yes (by first | (simp only [ltB_t, ltB_f, eqB_t, eqB_f, pB_t, pB_f, sEq_t, sEq_f, emp_iff, ne_eq, List.length_map, Bool.not_eq_true, Bool.not_eq_false, Bool.not_eq_eq_eq_not, Bool.not_true, Bool.not_false]; done) | (simp only [ltB_t, ltB_f, eqB_t, eqB_f, pB_t, pB_f, sEq_t, sEq_f, emp_iff, ne_eq, List.length_map, Bool.not_eq_true, Bool.not_eq_false, Bool.not_eq_eq_eq_not, Bool.not_true, Bool.not_false]; omega) | (simp only [ltB_t, ltB_f, eqB_t, eqB_f, pB_t, pB_f, sEq_t, sEq_f, emp_iff, ne_eq, List.length_map, Bool.not_eq_true, Bool.not_eq_false, Bool.not_eq_eq_eq_not, Bool.not_true, Bool.not_false]; assumption)) ?_
    | refine Br.no (by first | (simp only [ltB_t, ltB_f, eqB_t, eqB_f, pB_t, pB_f, sEq_t, sEq_f, emp_iff, ne_eq, List.length_map, Bool.not_eq_true, Bool.not_eq_false, Bool.not_eq_eq_eq_not, Bool.not_true, Bool.not_false]; done) | (simp only [ltB_t, ltB_f, eqB_t, eqB_f, pB_t, pB_f, sEq_t, sEq_f, emp_iff, ne_eq, List.length_map, Bool.not_eq_true, Bool.not_eq_false, Bool.not_eq_eq_eq_not, Bool.not_true, Bool.not_false]; omega) | (simp only [ltB_t, ltB_f, eqB_t, eqB_f, pB_t, pB_f, sEq_t, sEq_f, emp_iff, ne_eq, List.length_map, Bool.not_eq_true, Bool.not_eq_false, Bool.not_eq_eq_eq_not, Bool.not_true, Bool.not_false]; assumption)) ?_
    | (refine Br.mk ?_ ?_ <;> intro h <;> (try simp only [ltB_t, ltB_f, eqB_t, eqB_f, pB_t, pB_f, sEq_t, sEq_f, emp_iff, ne_eq, List.length_map, Bool.not_eq_true, Bool.not_eq_false, Bool.not_eq_eq_eq_not, Bool.not_true, Bool.not_false] at h))
    | refine Ixv.mk (by omega) (ixE (by omega) (by omega)) ?_
    | refine Elt.mk rfl ?_
    | refine Elt.mk (by assumption) ?_
    | refine Elt.mk (ixE (by omega) (by omega)) ?_
    | refine E.call tt h_l00In rfl rfl ⟨_, _, _, rfl, _, _, rfl, rfl, ?_⟩
    | refine E.call tt h_okSCoat rfl rfl ⟨_, rfl, by omega, by assumption, _, _, rfl, rfl, ?_⟩
    | refine E.call tt h_l01Div rfl rfl ⟨_, _, rfl, by omega, by omega, by omega, by omega, _, _, rfl, rfl, ?_⟩
    | refine E.regionQ tt (id := 20) mixed (by decide +kernel) ?_)) <;> (try (conv => whnf))
            all_goals (refine ⟨k + 1, ⟨by omega, by omega⟩, by dsimp only; omega, ⟨rfl, ⟨rfl, rfl, rfl, rfl, rfl, trivial⟩, ⟨congrArg some (rowEq (by rw [cat_succ hk0, List.map_append]; rfl)), trivial⟩, rfl, rfl, fun _ _ h => h⟩⟩)
        · have hke : k = 3 := by omega
          (repeat' ((conv => whnf); first
    | refine Sd.mk (by first | omega | (unfold in64; omega) | (simp only [fitK, in64]; omega) | (simp only [fitK, in64, chunk, List.length_map, List.length_append, List.length_replicate, List.length_set, List.length_nil, List.length_cons]; omega)) ?_
    | refine Br.yes rfl ?_
    | refine Br.no rfl ?_
    | refine Br.yes (by first | (simp only [ltB_t, ltB_f, eqB_t, eqB_f, pB_t, pB_f, sEq_t, sEq_f, emp_iff, ne_eq, List.length_map, Bool.not_eq_true, Bool.not_eq_false, Bool.not_eq_eq_eq_not, Bool.not_true, Bool.not_false]; done) | (simp only [ltB_t, ltB_f, eqB_t, eqB_f, pB_t, pB_f, sEq_t, sEq_f, emp_iff, ne_eq, List.length_map, Bool.not_eq_true, Bool.not_eq_false, Bool.not_eq_eq_eq_not, Bool.not_true, Bool.not_false]; omega) | (simp only [ltB_t, ltB_f, eqB_t, eqB_f, pB_t, pB_f, sEq_t, sEq_f, emp_iff, ne_eq, List.length_map, Bool.not_eq_true, Bool.not_eq_false, Bool.not_eq_eq_eq_not, Bool.not_true, Bool.not_false]; assumption)) ?_
    | refine Br.no (by first | (simp only [ltB_t, ltB_f, eqB_t, eqB_f, pB_t, pB_f, sEq_t, sEq_f, emp_iff, ne_eq, List.length_map, Bool.not_eq_true, Bool.not_eq_false, Bool.not_eq_eq_eq_not, Bool.not_true, Bool.not_false]; done) | (simp only [ltB_t, ltB_f, eqB_t, eqB_f, pB_t, pB_f, sEq_t, sEq_f, emp_iff, ne_eq, List.length_map, Bool.not_eq_true, Bool.not_eq_false, Bool.not_eq_eq_eq_not, Bool.not_true, Bool.not_false]; omega) | (simp only [ltB_t, ltB_f, eqB_t, eqB_f, pB_t, pB_f, sEq_t, sEq_f, emp_iff, ne_eq, List.length_map, Bool.not_eq_true, Bool.not_eq_false, Bool.not_eq_eq_eq_not, Bool.not_true, Bool.not_false]; assumption)) ?_
    | (refine Br.mk ?_ ?_ <;> intro h <;> (try simp only [ltB_t, ltB_f, eqB_t, eqB_f, pB_t, pB_f, sEq_t, sEq_f, emp_iff, ne_eq, List.length_map, Bool.not_eq_true, Bool.not_eq_false, Bool.not_eq_eq_eq_not, Bool.not_true, Bool.not_false] at h))
    | refine Ixv.mk (by omega) (ixE (by omega) (by omega)) ?_
    | refine Elt.mk rfl ?_
    | refine Elt.mk (by assumption) ?_
    | refine Elt.mk (ixE (by omega) (by omega)) ?_
    | refine E.call tt h_l00In rfl rfl ⟨_, _, _, rfl, _, _, rfl, rfl, ?_⟩
    | refine E.call tt h_okSCoat rfl rfl ⟨_, rfl, by omega, by assumption, _, _, rfl, rfl, ?_⟩
    | refine E.call tt h_l01Div rfl rfl ⟨_, _, rfl, by omega, by omega, by omega, by omega, _, _, rfl, rfl, ?_⟩
    | refine E.regionQ tt (id := 20) mixed (by decide +kernel) ?_)) <;> (try (conv => whnf))
          all_goals (refine fin_p rfl ?_ rfl rfl; rw [hke, cat_fn3])




theorem h_MxI : Holds Try.prog 47 (cMx 2) := by
  refine E.mk tt Try.func47 rfl Try.ntmps47 rfl (by kernel_rfl) ?_
  rintro _ K ⟨xs, l, rs, rfl, hx, hok, hl, hlk, hs, hK⟩
  have hln : (xs.map D.Coat.enc).length = xs.length := by simp
  have hln2 : (l.map encI).length = l.length := by simp
  rcases hs with ⟨hB, rfl⟩ | ⟨hB, hs⟩
  · refine ⟨Nat.le_of_ble_eq_true rfl, _, hK, ?_⟩
    (repeat' ((conv => whnf); first
    | refine Sd.mk (by first | omega | (unfold in64; omega) | (simp only [fitK, in64]; omega) | (simp only [fitK, in64, chunk, List.length_map, List.length_append, List.length_replicate, List.length_set, List.length_nil, List.length_cons]; omega)) ?_
    | refine Br.yes rfl ?_
    | refine Br.no rfl ?_
    | refine Br.yes (by first | (simp only [ltB_t, ltB_f, eqB_t, eqB_f, pB_t, pB_f, sEq_t, sEq_f, emp_iff, ne_eq, List.length_map, Bool.not_eq_true, Bool.not_eq_false, Bool.not_eq_eq_eq_not, Bool.not_true, Bool.not_false]; done) | (simp only [ltB_t, ltB_f, eqB_t, eqB_f, pB_t, pB_f, sEq_t, sEq_f, emp_iff, ne_eq, List.length_map, Bool.not_eq_true, Bool.not_eq_false, Bool.not_eq_eq_eq_not, Bool.not_true, Bool.not_false]; omega) | (simp only [ltB_t, ltB_f, eqB_t, eqB_f, pB_t, pB_f, sEq_t, sEq_f, emp_iff, ne_eq, List.length_map, Bool.not_eq_true, Bool.not_eq_false, Bool.not_eq_eq_eq_not, Bool.not_true, Bool.not_false]; assumption)) ?_
    | refine Br.no (by first | (simp only [ltB_t, ltB_f, eqB_t, eqB_f, pB_t, pB_f, sEq_t, sEq_f, emp_iff, ne_eq, List.length_map, Bool.not_eq_true, Bool.not_eq_false, Bool.not_eq_eq_eq_not, Bool.not_true, Bool.not_false]; done) | (simp only [ltB_t, ltB_f, eqB_t, eqB_f, pB_t, pB_f, sEq_t, sEq_f, emp_iff, ne_eq, List.length_map, Bool.not_eq_true, Bool.not_eq_false, Bool.not_eq_eq_eq_not, Bool.not_true, Bool.not_false]; omega) | (simp only [ltB_t, ltB_f, eqB_t, eqB_f, pB_t, pB_f, sEq_t, sEq_f, emp_iff, ne_eq, List.length_map, Bool.not_eq_true, Bool.not_eq_false, Bool.not_eq_eq_eq_not, Bool.not_true, Bool.not_false]; assumption)) ?_
    | (refine Br.mk ?_ ?_ <;> intro h <;> (try simp only [ltB_t, ltB_f, eqB_t, eqB_f, pB_t, pB_f, sEq_t, sEq_f, emp_iff, ne_eq, List.length_map, Bool.not_eq_true, Bool.not_eq_false, Bool.not_eq_eq_eq_not, Bool.not_true, Bool.not_false] at h))
    | refine Ixv.mk (by omega) (ixE (by omega) (by omega)) ?_
    | refine Elt.mk rfl ?_
    | refine Elt.mk (by assumption) ?_
    | refine Elt.mk (ixE (by omega) (by omega)) ?_
    | refine Mk.eq (by omega) (by omega) (by omega) ?_
    | refine Mk.zero (by omega) (by omega) (by omega) ?_
    | refine E.call tt h_within rfl rfl ⟨_, _, _, rfl, _, _, rfl, rfl, ?_⟩
    | refine E.call tt h_okICoat rfl rfl ⟨_, rfl, by omega, by assumption, _, _, rfl, rfl, ?_⟩
    | refine E.call tt h_divRound rfl rfl ⟨_, _, rfl, by omega, by omega, by omega, by omega, _, _, rfl, rfl, ?_⟩)) <;> (try (conv => whnf))
    all_goals (exact fin_p rfl rfl rfl rfl)
  · have hle := hB.le
    refine ⟨Nat.le_of_ble_eq_true rfl, _, hK, ?_⟩
    by_cases hll : (l.length : Int) = xs.length
    · (repeat' ((conv => whnf); first
    | refine Sd.mk (by first | omega | (unfold in64; omega) | (simp only [fitK, in64]; omega) | (simp only [fitK, in64, chunk, List.length_map, List.length_append, List.length_replicate, List.length_set, List.length_nil, List.length_cons]; omega)) ?_
    | refine Br.yes rfl ?_
    | refine Br.no rfl ?_
    | refine Br.yes (by first | (simp only [ltB_t, ltB_f, eqB_t, eqB_f, pB_t, pB_f, sEq_t, sEq_f, emp_iff, ne_eq, List.length_map, Bool.not_eq_true, Bool.not_eq_false, Bool.not_eq_eq_eq_not, Bool.not_true, Bool.not_false]; done) | (simp only [ltB_t, ltB_f, eqB_t, eqB_f, pB_t, pB_f, sEq_t, sEq_f, emp_iff, ne_eq, List.length_map, Bool.not_eq_true, Bool.not_eq_false, Bool.not_eq_eq_eq_not, Bool.not_true, Bool.not_false]; omega) | (simp only [ltB_t, ltB_f, eqB_t, eqB_f, pB_t, pB_f, sEq_t, sEq_f, emp_iff, ne_eq, List.length_map, Bool.not_eq_true, Bool.not_eq_false, Bool.not_eq_eq_eq_not, Bool.not_true, Bool.not_false]; assumption)) ?_
    | refine Br.no (by first | (simp only [ltB_t, ltB_f, eqB_t, eqB_f, pB_t, pB_f, sEq_t, sEq_f, emp_iff, ne_eq, List.length_map, Bool.not_eq_true, Bool.not_eq_false, Bool.not_eq_eq_eq_not, Bool.not_true, Bool.not_false]; done) | (simp only [ltB_t, ltB_f, eqB_t, eqB_f, pB_t, pB_f, sEq_t, sEq_f, emp_iff, ne_eq, List.length_map, Bool.not_eq_true, Bool.not_eq_false, Bool.not_eq_eq_eq_not, Bool.not_true, Bool.not_false]; omega) | (simp only [ltB_t, ltB_f, eqB_t, eqB_f, pB_t, pB_f, sEq_t, sEq_f, emp_iff, ne_eq, List.length_map, Bool.not_eq_true, Bool.not_eq_false, Bool.not_eq_eq_eq_not, Bool.not_true, Bool.not_false]; assumption)) ?_
    | (refine Br.mk ?_ ?_ <;> intro h <;> (try simp only [ltB_t, ltB_f, eqB_t, eqB_f, pB_t, pB_f, sEq_t, sEq_f, emp_iff, ne_eq, List.length_map, Bool.not_eq_true, Bool.not_eq_false, Bool.not_eq_eq_eq_not, Bool.not_true, Bool.not_false] at h))
    | refine Ixv.mk (by omega) (ixE (by omega) (by omega)) ?_
    | refine Elt.mk rfl ?_
    | refine Elt.mk (by assumption) ?_
    | refine Elt.mk (ixE (by omega) (by omega)) ?_
    | refine Mk.eq (by omega) (by omega) (by omega) ?_
    | refine Mk.zero (by omega) (by omega) (by omega) ?_
    | refine E.call tt h_within rfl rfl ⟨_, _, _, rfl, _, _, rfl, rfl, ?_⟩
    | refine E.call tt h_okICoat rfl rfl ⟨_, rfl, by omega, by assumption, _, _, rfl, rfl, ?_⟩
    | refine E.call tt h_divRound rfl rfl ⟨_, _, rfl, by omega, by omega, by omega, by omega, _, _, rfl, rfl, ?_⟩)) <;> (try (conv => whnf))
      refine E.loop tt (fun i : Int => (0 ≤ i ∧ i ≤ l.length) ∧ allTo (partC l) i) (fun i => ⟨75, 2, [(0, .p (.view 4 (xs.map D.Coat.enc))), (6, .p (I (tot l i))), (7, .own 1), (22, .p (.view 1 (l.map encI))), (23, .p (I (l.map encI).length)), (24, .p (I i))], [(1, ⟨2, 1, (fnL (fun g => mixS xs l g i) 3).map encI⟩)], Frag.nil⟩) (fun i => (l.length - i).toNat) 0 ⟨⟨by omega, by omega⟩, allTo_zero _⟩ ⟨rfl, ⟨rfl, rfl, rfl, rfl, rfl, rfl, trivial⟩, ⟨rfl, trivial⟩, rfl, rfl, fun _ _ h => h⟩ ?_
      rintro i ⟨⟨hi0, hi1⟩, hp⟩
      have htb := tot_bd hi0 hp
      rcases Int.lt_or_le i l.length with hlt | hge
      · have hts := tot_succ l hi0
        have hil : in64 (ix l i) := hlk _ (ix_mem hi0 hlt)
        by_cases hc : partC l i
        · have hc' := hc
          unfold partC at hc'
          have hci := (hB.at hi0 (by omega)).2.2.2
          have hcl3 : ((ix xs i).Colour.length : Int) = 3 := hci.2
          have hln3 : ((ix xs i).Colour.map encI).length = (ix xs i).Colour.length := by simp
          (repeat' ((conv => whnf); first
    | refine Sd.mk (by first | omega | (unfold in64; omega) | (simp only [fitK, in64]; omega) | (simp only [fitK, in64, chunk, List.length_map, List.length_append, List.length_replicate, List.length_set, List.length_nil, List.length_cons]; omega)) ?_
    | refine Br.yes rfl ?_
    | refine Br.no rfl ?_
    | refine Br.yes (by first | (simp only [ltB_t, ltB_f, eqB_t, eqB_f, pB_t, pB_f, sEq_t, sEq_f, emp_iff, ne_eq, List.length_map, Bool.not_eq_true, Bool.not_eq_false, Bool.not_eq_eq_eq_not, Bool.not_true, Bool.not_false]; done) | (simp only [ltB_t, ltB_f, eqB_t, eqB_f, pB_t, pB_f, sEq_t, sEq_f, emp_iff, ne_eq, List.length_map, Bool.not_eq_true, Bool.not_eq_false, Bool.not_eq_eq_eq_not, Bool.not_true, Bool.not_false]; omega) | (simp only [ltB_t, ltB_f, eqB_t, eqB_f, pB_t, pB_f, sEq_t, sEq_f, emp_iff, ne_eq, List.length_map, Bool.not_eq_true, Bool.not_eq_false, Bool.not_eq_eq_eq_not, Bool.not_true, Bool.not_false]; assumption)) ?_
    | refine Br.no (by first | (simp only [ltB_t, ltB_f, eqB_t, eqB_f, pB_t, pB_f, sEq_t, sEq_f, emp_iff, ne_eq, List.length_map, Bool.not_eq_true, Bool.not_eq_false, Bool.not_eq_eq_eq_not, Bool.not_true, Bool.not_false]; done) | (simp only [ltB_t, ltB_f, eqB_t, eqB_f, pB_t, pB_f, sEq_t, sEq_f, emp_iff, ne_eq, List.length_map, Bool.not_eq_true, Bool.not_eq_false, Bool.not_eq_eq_eq_not, Bool.not_true, Bool.not_false]; omega) | (simp only [ltB_t, ltB_f, eqB_t, eqB_f, pB_t, pB_f, sEq_t, sEq_f, emp_iff, ne_eq, List.length_map, Bool.not_eq_true, Bool.not_eq_false, Bool.not_eq_eq_eq_not, Bool.not_true, Bool.not_false]; assumption)) ?_
    | (refine Br.mk ?_ ?_ <;> intro h <;> (try simp only [ltB_t, ltB_f, eqB_t, eqB_f, pB_t, pB_f, sEq_t, sEq_f, emp_iff, ne_eq, List.length_map, Bool.not_eq_true, Bool.not_eq_false, Bool.not_eq_eq_eq_not, Bool.not_true, Bool.not_false] at h))
    | refine Ixv.mk (by omega) (ixE (by omega) (by omega)) ?_
    | refine Elt.mk rfl ?_
    | refine Elt.mk (by assumption) ?_
    | refine Elt.mk (ixE (by omega) (by omega)) ?_
    | refine Mk.eq (by omega) (by omega) (by omega) ?_
    | refine Mk.zero (by omega) (by omega) (by omega) ?_
    | refine E.call tt h_within rfl rfl ⟨_, _, _, rfl, _, _, rfl, rfl, ?_⟩
    | refine E.call tt h_okICoat rfl rfl ⟨_, rfl, by omega, by assumption, _, _, rfl, rfl, ?_⟩
    | refine E.call tt h_divRound rfl rfl ⟨_, _, rfl, by omega, by omega, by omega, by omega, _, _, rfl, rfl, ?_⟩)) <;> (try (conv => whnf))
          all_goals try (exfalso; omega)
          refine E.loop tt (fun k : Int => 0 ≤ k ∧ k ≤ 3) (fun k => ⟨75, 2, [(0, .p (.view 4 (xs.map D.Coat.enc))), (6, .p (I (tot l (i + 1)))), (7, .own 1), (9, .p (I (ix l i))), (22, .p (.view 1 (l.map encI))), (23, .p (I (l.map encI).length)), (24, .p (I i)), (39, .p (.view 1 ((ix xs i).Colour.map encI))), (40, .p (I ((ix xs i).Colour.map encI).length)), (41, .p (I k))], [(1, ⟨2, 1, (fnL (mixI xs l i k) 3).map encI⟩)], Frag.nil⟩) (fun k => (3 - k).toNat) 0 ⟨by omega, by omega⟩ ⟨rfl, ⟨rfl, pI (by rw [hts]), rfl, rfl, rfl, rfl, rfl, rfl, rfl, rfl, trivial⟩, ⟨congrArg some (rowEq (by rw [fnL_congr (f := mixI xs l i 0) (g := fun g => mixS xs l g i) (fun g g0 g1 => if_neg (by omega))])), trivial⟩, rfl, rfl, fun _ _ h => h⟩ ?_
          rintro k ⟨hk0, hk1⟩
          rcases Int.lt_or_le k 3 with hklt | hkge
          · have hmb := mixS_bd hB hi0 (by omega) hp hk0 hklt
            have hms := mixS_succ xs l k hi0
            have hmt := mixT_bd hB hi0 (by omega) hc hk0 hklt
            have hmc : ix l i * ix (ix xs i).Colour k = mixT xs l k i := rfl
            have hg := fnL_get (f := mixI xs l i k) (n := 3) hk0 hklt
            have hgv : mixI xs l i k k = mixS xs l k i := if_neg (by omega)
            rw [hgv] at hg
            have hfl : ((fnL (mixI xs l i k) 3).map encI).length = 3 := fnL_enc _ _
            have hse := fnL_set (f := mixI xs l i k) (f' := mixI xs l i (k + 1)) (n := 3) (g := k) (v := mixS xs l k (i + 1)) hk0 hklt (if_pos (by omega)) (fun g hgk => by unfold mixI; by_cases h : g < k; rw [if_pos h, if_pos (by omega)]; rw [if_neg h, if_neg (by omega)])
            (repeat' ((conv => whnf); first
    | refine Elt.mk hg ?_
    | refine Sd.mk (by rw [hmc]; unfold in64; omega) ?_
    | refine Sd.mk (by first | omega | (unfold in64; omega) | (simp only [fitK, in64]; omega) | (simp only [fitK, in64, chunk, List.length_map, List.length_append, List.length_replicate, List.length_set, List.length_nil, List.length_cons]; omega)) ?_
    | refine Br.yes rfl ?_
    | refine Br.no rfl ?_
    | refine Br.yes (by first | (simp only [ltB_t, ltB_f, eqB_t, eqB_f, pB_t, pB_f, sEq_t, sEq_f, emp_iff, ne_eq, List.length_map, Bool.not_eq_true, Bool.not_eq_false, Bool.not_eq_eq_eq_not, Bool.not_true, Bool.not_false]; done) | (simp only [ltB_t, ltB_f, eqB_t, eqB_f, pB_t, pB_f, sEq_t, sEq_f, emp_iff, ne_eq, List.length_map, Bool.not_eq_true, Bool.not_eq_false, Bool.not_eq_eq_eq_not, Bool.not_true, Bool.not_false]; omega) | (simp only [ltB_t, ltB_f, eqB_t, eqB_f, pB_t, pB_f, sEq_t, sEq_f, emp_iff, ne_eq, List.length_map, Bool.not_eq_true, Bool.not_eq_false, Bool.not_eq_eq_eq_not, Bool.not_true, Bool.not_false]; assumption)) ?_
    | refine Br.no (by first | (simp only [ltB_t, ltB_f, eqB_t, eqB_f, pB_t, pB_f, sEq_t, sEq_f, emp_iff, ne_eq, List.length_map, Bool.not_eq_true, Bool.not_eq_false, Bool.not_eq_eq_eq_not, Bool.not_true, Bool.not_false]; done) | (simp only [ltB_t, ltB_f, eqB_t, eqB_f, pB_t, pB_f, sEq_t, sEq_f, emp_iff, ne_eq, List.length_map, Bool.not_eq_true, Bool.not_eq_false, Bool.not_eq_eq_eq_not, Bool.not_true, Bool.not_false]; omega) | (simp only [ltB_t, ltB_f, eqB_t, eqB_f, pB_t, pB_f, sEq_t, sEq_f, emp_iff, ne_eq, List.length_map, Bool.not_eq_true, Bool.not_eq_false, Bool.not_eq_eq_eq_not, Bool.not_true, Bool.not_false]; assumption)) ?_
    | (refine Br.mk ?_ ?_ <;> intro h <;> (try simp only [ltB_t, ltB_f, eqB_t, eqB_f, pB_t, pB_f, sEq_t, sEq_f, emp_iff, ne_eq, List.length_map, Bool.not_eq_true, Bool.not_eq_false, Bool.not_eq_eq_eq_not, Bool.not_true, Bool.not_false] at h))
    | refine Ixv.mk (by omega) (ixE (by omega) (by omega)) ?_
    | refine Elt.mk rfl ?_
    | refine Elt.mk (by assumption) ?_
    | refine Elt.mk (ixE (by omega) (by omega)) ?_
    | refine Mk.eq (by omega) (by omega) (by omega) ?_
    | refine Mk.zero (by omega) (by omega) (by omega) ?_
    | refine E.call tt h_within rfl rfl ⟨_, _, _, rfl, _, _, rfl, rfl, ?_⟩
    | refine E.call tt h_okICoat rfl rfl ⟨_, rfl, by omega, by assumption, _, _, rfl, rfl, ?_⟩
    | refine E.call tt h_divRound rfl rfl ⟨_, _, rfl, by omega, by omega, by omega, by omega, _, _, rfl, rfl, ?_⟩)) <;> (try (conv => whnf))
            all_goals (refine ⟨k + 1, ⟨by omega, by omega⟩, by dsimp only; omega, ⟨rfl, ⟨rfl, rfl, rfl, rfl, rfl, rfl, rfl, rfl, rfl, rfl, trivial⟩, ⟨congrArg some (rowEq (by rw [← hse, hms]; rfl)), trivial⟩, rfl, rfl, fun _ _ h => h⟩⟩)
          · have hke : k = 3 := by omega
            subst hke
            (repeat' ((conv => whnf); first
    | refine Sd.mk (by first | omega | (unfold in64; omega) | (simp only [fitK, in64]; omega) | (simp only [fitK, in64, chunk, List.length_map, List.length_append, List.length_replicate, List.length_set, List.length_nil, List.length_cons]; omega)) ?_
    | refine Br.yes rfl ?_
    | refine Br.no rfl ?_
    | refine Br.yes (by first | (simp only [ltB_t, ltB_f, eqB_t, eqB_f, pB_t, pB_f, sEq_t, sEq_f, emp_iff, ne_eq, List.length_map, Bool.not_eq_true, Bool.not_eq_false, Bool.not_eq_eq_eq_not, Bool.not_true, Bool.not_false]; done) | (simp only [ltB_t, ltB_f, eqB_t, eqB_f, pB_t, pB_f, sEq_t, sEq_f, emp_iff, ne_eq, List.length_map, Bool.not_eq_true, Bool.not_eq_false, Bool.not_eq_eq_eq_not, Bool.not_true, Bool.not_false]; omega) | (simp only [ltB_t, ltB_f, eqB_t, eqB_f, pB_t, pB_f, sEq_t, sEq_f, emp_iff, ne_eq, List.length_map, Bool.not_eq_true, Bool.not_eq_false, Bool.not_eq_eq_eq_not, Bool.not_true, Bool.not_false]; assumption)) ?_
    | refine Br.no (by first | (simp only [ltB_t, ltB_f, eqB_t, eqB_f, pB_t, pB_f, sEq_t, sEq_f, emp_iff, ne_eq, List.length_map, Bool.not_eq_true, Bool.not_eq_false, Bool.not_eq_eq_eq_not, Bool.not_true, Bool.not_false]; done) | (simp only [ltB_t, ltB_f, eqB_t, eqB_f, pB_t, pB_f, sEq_t, sEq_f, emp_iff, ne_eq, List.length_map, Bool.not_eq_true, Bool.not_eq_false, Bool.not_eq_eq_eq_not, Bool.not_true, Bool.not_false]; omega) | (simp only [ltB_t, ltB_f, eqB_t, eqB_f, pB_t, pB_f, sEq_t, sEq_f, emp_iff, ne_eq, List.length_map, Bool.not_eq_true, Bool.not_eq_false, Bool.not_eq_eq_eq_not, Bool.not_true, Bool.not_false]; assumption)) ?_
    | (refine Br.mk ?_ ?_ <;> intro h <;> (try simp only [ltB_t, ltB_f, eqB_t, eqB_f, pB_t, pB_f, sEq_t, sEq_f, emp_iff, ne_eq, List.length_map, Bool.not_eq_true, Bool.not_eq_false, Bool.not_eq_eq_eq_not, Bool.not_true, Bool.not_false] at h))
    | refine Ixv.mk (by omega) (ixE (by omega) (by omega)) ?_
    | refine Elt.mk rfl ?_
    | refine Elt.mk (by assumption) ?_
    | refine Elt.mk (ixE (by omega) (by omega)) ?_
    | refine Mk.eq (by omega) (by omega) (by omega) ?_
    | refine Mk.zero (by omega) (by omega) (by omega) ?_
    | refine E.call tt h_within rfl rfl ⟨_, _, _, rfl, _, _, rfl, rfl, ?_⟩
    | refine E.call tt h_okICoat rfl rfl ⟨_, rfl, by omega, by assumption, _, _, rfl, rfl, ?_⟩
    | refine E.call tt h_divRound rfl rfl ⟨_, _, rfl, by omega, by omega, by omega, by omega, _, _, rfl, rfl, ?_⟩)) <;> (try (conv => whnf))
            all_goals (refine ⟨i + 1, ⟨⟨by omega, by omega⟩, allTo_succ hp hc⟩, by dsimp only; omega, ⟨rfl, ⟨rfl, rfl, rfl, rfl, rfl, rfl, trivial⟩, ⟨congrArg some (rowEq (by rw [fnL_congr (f := mixI xs l i 3) (g := fun g => mixS xs l g (i + 1)) (fun g g0 g1 => if_pos (by omega))])), trivial⟩, rfl, rfl, fun _ _ h => h⟩⟩)
        · have hc' := hc
          unfold partC at hc'
          rcases hs with ⟨hR, rfl⟩ | ⟨hR, rfl⟩
          · (repeat' ((conv => whnf); first
    | refine Sd.mk (by first | omega | (unfold in64; omega) | (simp only [fitK, in64]; omega) | (simp only [fitK, in64, chunk, List.length_map, List.length_append, List.length_replicate, List.length_set, List.length_nil, List.length_cons]; omega)) ?_
    | refine Br.yes rfl ?_
    | refine Br.no rfl ?_
    | refine Br.yes (by first | (simp only [ltB_t, ltB_f, eqB_t, eqB_f, pB_t, pB_f, sEq_t, sEq_f, emp_iff, ne_eq, List.length_map, Bool.not_eq_true, Bool.not_eq_false, Bool.not_eq_eq_eq_not, Bool.not_true, Bool.not_false]; done) | (simp only [ltB_t, ltB_f, eqB_t, eqB_f, pB_t, pB_f, sEq_t, sEq_f, emp_iff, ne_eq, List.length_map, Bool.not_eq_true, Bool.not_eq_false, Bool.not_eq_eq_eq_not, Bool.not_true, Bool.not_false]; omega) | (simp only [ltB_t, ltB_f, eqB_t, eqB_f, pB_t, pB_f, sEq_t, sEq_f, emp_iff, ne_eq, List.length_map, Bool.not_eq_true, Bool.not_eq_false, Bool.not_eq_eq_eq_not, Bool.not_true, Bool.not_false]; assumption)) ?_
    | refine Br.no (by first | (simp only [ltB_t, ltB_f, eqB_t, eqB_f, pB_t, pB_f, sEq_t, sEq_f, emp_iff, ne_eq, List.length_map, Bool.not_eq_true, Bool.not_eq_false, Bool.not_eq_eq_eq_not, Bool.not_true, Bool.not_false]; done) | (simp only [ltB_t, ltB_f, eqB_t, eqB_f, pB_t, pB_f, sEq_t, sEq_f, emp_iff, ne_eq, List.length_map, Bool.not_eq_true, Bool.not_eq_false, Bool.not_eq_eq_eq_not, Bool.not_true, Bool.not_false]; omega) | (simp only [ltB_t, ltB_f, eqB_t, eqB_f, pB_t, pB_f, sEq_t, sEq_f, emp_iff, ne_eq, List.length_map, Bool.not_eq_true, Bool.not_eq_false, Bool.not_eq_eq_eq_not, Bool.not_true, Bool.not_false]; assumption)) ?_
    | (refine Br.mk ?_ ?_ <;> intro h <;> (try simp only [ltB_t, ltB_f, eqB_t, eqB_f, pB_t, pB_f, sEq_t, sEq_f, emp_iff, ne_eq, List.length_map, Bool.not_eq_true, Bool.not_eq_false, Bool.not_eq_eq_eq_not, Bool.not_true, Bool.not_false] at h))
    | refine Ixv.mk (by omega) (ixE (by omega) (by omega)) ?_
    | refine Elt.mk rfl ?_
    | refine Elt.mk (by assumption) ?_
    | refine Elt.mk (ixE (by omega) (by omega)) ?_
    | refine Mk.eq (by omega) (by omega) (by omega) ?_
    | refine Mk.zero (by omega) (by omega) (by omega) ?_
    | refine E.call tt h_within rfl rfl ⟨_, _, _, rfl, _, _, rfl, rfl, ?_⟩
    | refine E.call tt h_okICoat rfl rfl ⟨_, rfl, by omega, by assumption, _, _, rfl, rfl, ?_⟩
    | refine E.call tt h_divRound rfl rfl ⟨_, _, rfl, by omega, by omega, by omega, by omega, _, _, rfl, rfl, ?_⟩)) <;> (try (conv => whnf))
            all_goals first
              | (exfalso; omega)
              | (exact fin_p rfl rfl rfl rfl)
          · exact absurd (hR.2.1 i hi0 hlt) hc
      · have hie : i = l.length := by omega
        subst hie
        rcases hs with ⟨hR, rfl⟩ | ⟨hR, rfl⟩
        · have hR' : ¬ ((l.length : Int) = xs.length ∧ tot l l.length ≠ 0) := fun h => hR ⟨h.1, hp, h.2⟩
          (repeat' ((conv => whnf); first
    | refine Sd.mk (by first | omega | (unfold in64; omega) | (simp only [fitK, in64]; omega) | (simp only [fitK, in64, chunk, List.length_map, List.length_append, List.length_replicate, List.length_set, List.length_nil, List.length_cons]; omega)) ?_
    | refine Br.yes rfl ?_
    | refine Br.no rfl ?_
    | refine Br.yes (by first | (simp only [ltB_t, ltB_f, eqB_t, eqB_f, pB_t, pB_f, sEq_t, sEq_f, emp_iff, ne_eq, List.length_map, Bool.not_eq_true, Bool.not_eq_false, Bool.not_eq_eq_eq_not, Bool.not_true, Bool.not_false]; done) | (simp only [ltB_t, ltB_f, eqB_t, eqB_f, pB_t, pB_f, sEq_t, sEq_f, emp_iff, ne_eq, List.length_map, Bool.not_eq_true, Bool.not_eq_false, Bool.not_eq_eq_eq_not, Bool.not_true, Bool.not_false]; omega) | (simp only [ltB_t, ltB_f, eqB_t, eqB_f, pB_t, pB_f, sEq_t, sEq_f, emp_iff, ne_eq, List.length_map, Bool.not_eq_true, Bool.not_eq_false, Bool.not_eq_eq_eq_not, Bool.not_true, Bool.not_false]; assumption)) ?_
    | refine Br.no (by first | (simp only [ltB_t, ltB_f, eqB_t, eqB_f, pB_t, pB_f, sEq_t, sEq_f, emp_iff, ne_eq, List.length_map, Bool.not_eq_true, Bool.not_eq_false, Bool.not_eq_eq_eq_not, Bool.not_true, Bool.not_false]; done) | (simp only [ltB_t, ltB_f, eqB_t, eqB_f, pB_t, pB_f, sEq_t, sEq_f, emp_iff, ne_eq, List.length_map, Bool.not_eq_true, Bool.not_eq_false, Bool.not_eq_eq_eq_not, Bool.not_true, Bool.not_false]; omega) | (simp only [ltB_t, ltB_f, eqB_t, eqB_f, pB_t, pB_f, sEq_t, sEq_f, emp_iff, ne_eq, List.length_map, Bool.not_eq_true, Bool.not_eq_false, Bool.not_eq_eq_eq_not, Bool.not_true, Bool.not_false]; assumption)) ?_
    | (refine Br.mk ?_ ?_ <;> intro h <;> (try simp only [ltB_t, ltB_f, eqB_t, eqB_f, pB_t, pB_f, sEq_t, sEq_f, emp_iff, ne_eq, List.length_map, Bool.not_eq_true, Bool.not_eq_false, Bool.not_eq_eq_eq_not, Bool.not_true, Bool.not_false] at h))
    | refine Ixv.mk (by omega) (ixE (by omega) (by omega)) ?_
    | refine Elt.mk rfl ?_
    | refine Elt.mk (by assumption) ?_
    | refine Elt.mk (ixE (by omega) (by omega)) ?_
    | refine Mk.eq (by omega) (by omega) (by omega) ?_
    | refine Mk.zero (by omega) (by omega) (by omega) ?_
    | refine E.call tt h_within rfl rfl ⟨_, _, _, rfl, _, _, rfl, rfl, ?_⟩
    | refine E.call tt h_okICoat rfl rfl ⟨_, rfl, by omega, by assumption, _, _, rfl, rfl, ?_⟩
    | refine E.call tt h_divRound rfl rfl ⟨_, _, rfl, by omega, by omega, by omega, by omega, _, _, rfl, rfl, ?_⟩)) <;> (try (conv => whnf))
          all_goals first
            | (exfalso; omega)
            | (exact fin_p rfl rfl rfl rfl)
        · have hR2 := hR.2.2
          have hfl0 : ((fnL (fun g => mixS xs l g l.length) 3).map encI).length = 3 := fnL_enc _ _
          (repeat' ((conv => whnf); first
    | refine Sd.mk (by first | omega | (unfold in64; omega) | (simp only [fitK, in64]; omega) | (simp only [fitK, in64, chunk, List.length_map, List.length_append, List.length_replicate, List.length_set, List.length_nil, List.length_cons]; omega)) ?_
    | refine Br.yes rfl ?_
    | refine Br.no rfl ?_
    | refine Br.yes (by first | (simp only [ltB_t, ltB_f, eqB_t, eqB_f, pB_t, pB_f, sEq_t, sEq_f, emp_iff, ne_eq, List.length_map, Bool.not_eq_true, Bool.not_eq_false, Bool.not_eq_eq_eq_not, Bool.not_true, Bool.not_false]; done) | (simp only [ltB_t, ltB_f, eqB_t, eqB_f, pB_t, pB_f, sEq_t, sEq_f, emp_iff, ne_eq, List.length_map, Bool.not_eq_true, Bool.not_eq_false, Bool.not_eq_eq_eq_not, Bool.not_true, Bool.not_false]; omega) | (simp only [ltB_t, ltB_f, eqB_t, eqB_f, pB_t, pB_f, sEq_t, sEq_f, emp_iff, ne_eq, List.length_map, Bool.not_eq_true, Bool.not_eq_false, Bool.not_eq_eq_eq_not, Bool.not_true, Bool.not_false]; assumption)) ?_
    | refine Br.no (by first | (simp only [ltB_t, ltB_f, eqB_t, eqB_f, pB_t, pB_f, sEq_t, sEq_f, emp_iff, ne_eq, List.length_map, Bool.not_eq_true, Bool.not_eq_false, Bool.not_eq_eq_eq_not, Bool.not_true, Bool.not_false]; done) | (simp only [ltB_t, ltB_f, eqB_t, eqB_f, pB_t, pB_f, sEq_t, sEq_f, emp_iff, ne_eq, List.length_map, Bool.not_eq_true, Bool.not_eq_false, Bool.not_eq_eq_eq_not, Bool.not_true, Bool.not_false]; omega) | (simp only [ltB_t, ltB_f, eqB_t, eqB_f, pB_t, pB_f, sEq_t, sEq_f, emp_iff, ne_eq, List.length_map, Bool.not_eq_true, Bool.not_eq_false, Bool.not_eq_eq_eq_not, Bool.not_true, Bool.not_false]; assumption)) ?_
    | (refine Br.mk ?_ ?_ <;> intro h <;> (try simp only [ltB_t, ltB_f, eqB_t, eqB_f, pB_t, pB_f, sEq_t, sEq_f, emp_iff, ne_eq, List.length_map, Bool.not_eq_true, Bool.not_eq_false, Bool.not_eq_eq_eq_not, Bool.not_true, Bool.not_false] at h))
    | refine Ixv.mk (by omega) (ixE (by omega) (by omega)) ?_
    | refine Elt.mk rfl ?_
    | refine Elt.mk (by assumption) ?_
    | refine Elt.mk (ixE (by omega) (by omega)) ?_
    | refine Mk.eq (by omega) (by omega) (by omega) ?_
    | refine Mk.zero (by omega) (by omega) (by omega) ?_
    | refine E.call tt h_within rfl rfl ⟨_, _, _, rfl, _, _, rfl, rfl, ?_⟩
    | refine E.call tt h_okICoat rfl rfl ⟨_, rfl, by omega, by assumption, _, _, rfl, rfl, ?_⟩
    | refine E.call tt h_divRound rfl rfl ⟨_, _, rfl, by omega, by omega, by omega, by omega, _, _, rfl, rfl, ?_⟩)) <;> (try (conv => whnf))
          all_goals try (exfalso; omega)
          refine E.loop tt (fun k : Int => 0 ≤ k ∧ k ≤ 3) (fun k => ⟨75, 2, [(6, .p (I (tot l l.length))), (7, .own 1), (60, .p (I 3)), (61, .p (I k))], [(1, ⟨2, 1, (fnL (mixD xs l k) 3).map encI⟩)], Frag.nil⟩) (fun k => (3 - k).toNat) 0 ⟨by omega, by omega⟩ ⟨rfl, ⟨rfl, rfl, pI (by omega), rfl, trivial⟩, ⟨congrArg some (rowEq (by rw [fnL_congr (f := mixD xs l 0) (g := fun g => mixS xs l g l.length) (fun g g0 g1 => by unfold mixD; rw [if_neg (by omega), hll])])), trivial⟩, rfl, rfl, fun _ _ h => h⟩ ?_
          rintro k ⟨hk0, hk1⟩
          have hfl : ((fnL (mixD xs l k) 3).map encI).length = 3 := fnL_enc _ _
          rcases Int.lt_or_le k 3 with hklt | hkge
          · have hmb := mixS_bd hB (i := xs.length) (by omega) (by omega) (by rw [← hll]; exact hp) hk0 hklt
            have hg := fnL_get (f := mixD xs l k) (n := 3) hk0 hklt
            have hgv : mixD xs l k k = mixS xs l k xs.length := if_neg (by omega)
            rw [hgv] at hg
            have hse := fnL_set (f := mixD xs l k) (f' := mixD xs l (k + 1)) (n := 3) (g := k) (v := mixR xs l k) hk0 hklt (if_pos (by omega)) (fun g hgk => by unfold mixD; by_cases h : g < k; rw [if_pos h, if_pos (by omega)]; rw [if_neg h, if_neg (by omega)])
            (repeat' ((conv => whnf); first
    | refine Elt.mk hg ?_
    | refine Sd.mk (by first | omega | (unfold in64; omega) | (simp only [fitK, in64]; omega) | (simp only [fitK, in64, chunk, List.length_map, List.length_append, List.length_replicate, List.length_set, List.length_nil, List.length_cons]; omega)) ?_
    | refine Br.yes rfl ?_
    | refine Br.no rfl ?_
    | refine Br.yes (by first | (simp only [ltB_t, ltB_f, eqB_t, eqB_f, pB_t, pB_f, sEq_t, sEq_f, emp_iff, ne_eq, List.length_map, Bool.not_eq_true, Bool.not_eq_false, Bool.not_eq_eq_eq_not, Bool.not_true, Bool.not_false]; done) | (simp only [ltB_t, ltB_f, eqB_t, eqB_f, pB_t, pB_f, sEq_t, sEq_f, emp_iff, ne_eq, List.length_map, Bool.not_eq_true, Bool.not_eq_false, Bool.not_eq_eq_eq_not, Bool.not_true, Bool.not_false]; omega) | (simp only [ltB_t, ltB_f, eqB_t, eqB_f, pB_t, pB_f, sEq_t, sEq_f, emp_iff, ne_eq, List.length_map, Bool.not_eq_true, Bool.not_eq_false, Bool.not_eq_eq_eq_not, Bool.not_true, Bool.not_false]; assumption)) ?_
    | refine Br.no (by first | (simp only [ltB_t, ltB_f, eqB_t, eqB_f, pB_t, pB_f, sEq_t, sEq_f, emp_iff, ne_eq, List.length_map, Bool.not_eq_true, Bool.not_eq_false, Bool.not_eq_eq_eq_not, Bool.not_true, Bool.not_false]; done) | (simp only [ltB_t, ltB_f, eqB_t, eqB_f, pB_t, pB_f, sEq_t, sEq_f, emp_iff, ne_eq, List.length_map, Bool.not_eq_true, Bool.not_eq_false, Bool.not_eq_eq_eq_not, Bool.not_true, Bool.not_false]; omega) | (simp only [ltB_t, ltB_f, eqB_t, eqB_f, pB_t, pB_f, sEq_t, sEq_f, emp_iff, ne_eq, List.length_map, Bool.not_eq_true, Bool.not_eq_false, Bool.not_eq_eq_eq_not, Bool.not_true, Bool.not_false]; assumption)) ?_
    | (refine Br.mk ?_ ?_ <;> intro h <;> (try simp only [ltB_t, ltB_f, eqB_t, eqB_f, pB_t, pB_f, sEq_t, sEq_f, emp_iff, ne_eq, List.length_map, Bool.not_eq_true, Bool.not_eq_false, Bool.not_eq_eq_eq_not, Bool.not_true, Bool.not_false] at h))
    | refine Ixv.mk (by omega) (ixE (by omega) (by omega)) ?_
    | refine Elt.mk rfl ?_
    | refine Elt.mk (by assumption) ?_
    | refine Elt.mk (ixE (by omega) (by omega)) ?_
    | refine Mk.eq (by omega) (by omega) (by omega) ?_
    | refine Mk.zero (by omega) (by omega) (by omega) ?_
    | refine E.call tt h_within rfl rfl ⟨_, _, _, rfl, _, _, rfl, rfl, ?_⟩
    | refine E.call tt h_okICoat rfl rfl ⟨_, rfl, by omega, by assumption, _, _, rfl, rfl, ?_⟩
    | refine E.call tt h_divRound rfl rfl ⟨_, _, rfl, by omega, by omega, by omega, by omega, _, _, rfl, rfl, ?_⟩)) <;> (try (conv => whnf))
            all_goals (refine ⟨k + 1, ⟨by omega, by omega⟩, by dsimp only; omega, ⟨rfl, ⟨rfl, rfl, rfl, rfl, trivial⟩, ⟨congrArg some (rowEq (by rw [← hse]; rfl)), trivial⟩, rfl, rfl, fun _ _ h => h⟩⟩)
          · have hke : k = 3 := by omega
            (repeat' ((conv => whnf); first
    | refine Sd.mk (by first | omega | (unfold in64; omega) | (simp only [fitK, in64]; omega) | (simp only [fitK, in64, chunk, List.length_map, List.length_append, List.length_replicate, List.length_set, List.length_nil, List.length_cons]; omega)) ?_
    | refine Br.yes rfl ?_
    | refine Br.no rfl ?_
    | refine Br.yes (by first | (simp only [ltB_t, ltB_f, eqB_t, eqB_f, pB_t, pB_f, sEq_t, sEq_f, emp_iff, ne_eq, List.length_map, Bool.not_eq_true, Bool.not_eq_false, Bool.not_eq_eq_eq_not, Bool.not_true, Bool.not_false]; done) | (simp only [ltB_t, ltB_f, eqB_t, eqB_f, pB_t, pB_f, sEq_t, sEq_f, emp_iff, ne_eq, List.length_map, Bool.not_eq_true, Bool.not_eq_false, Bool.not_eq_eq_eq_not, Bool.not_true, Bool.not_false]; omega) | (simp only [ltB_t, ltB_f, eqB_t, eqB_f, pB_t, pB_f, sEq_t, sEq_f, emp_iff, ne_eq, List.length_map, Bool.not_eq_true, Bool.not_eq_false, Bool.not_eq_eq_eq_not, Bool.not_true, Bool.not_false]; assumption)) ?_
    | refine Br.no (by first | (simp only [ltB_t, ltB_f, eqB_t, eqB_f, pB_t, pB_f, sEq_t, sEq_f, emp_iff, ne_eq, List.length_map, Bool.not_eq_true, Bool.not_eq_false, Bool.not_eq_eq_eq_not, Bool.not_true, Bool.not_false]; done) | (simp only [ltB_t, ltB_f, eqB_t, eqB_f, pB_t, pB_f, sEq_t, sEq_f, emp_iff, ne_eq, List.length_map, Bool.not_eq_true, Bool.not_eq_false, Bool.not_eq_eq_eq_not, Bool.not_true, Bool.not_false]; omega) | (simp only [ltB_t, ltB_f, eqB_t, eqB_f, pB_t, pB_f, sEq_t, sEq_f, emp_iff, ne_eq, List.length_map, Bool.not_eq_true, Bool.not_eq_false, Bool.not_eq_eq_eq_not, Bool.not_true, Bool.not_false]; assumption)) ?_
    | (refine Br.mk ?_ ?_ <;> intro h <;> (try simp only [ltB_t, ltB_f, eqB_t, eqB_f, pB_t, pB_f, sEq_t, sEq_f, emp_iff, ne_eq, List.length_map, Bool.not_eq_true, Bool.not_eq_false, Bool.not_eq_eq_eq_not, Bool.not_true, Bool.not_false] at h))
    | refine Ixv.mk (by omega) (ixE (by omega) (by omega)) ?_
    | refine Elt.mk rfl ?_
    | refine Elt.mk (by assumption) ?_
    | refine Elt.mk (ixE (by omega) (by omega)) ?_
    | refine Mk.eq (by omega) (by omega) (by omega) ?_
    | refine Mk.zero (by omega) (by omega) (by omega) ?_
    | refine E.call tt h_within rfl rfl ⟨_, _, _, rfl, _, _, rfl, rfl, ?_⟩
    | refine E.call tt h_okICoat rfl rfl ⟨_, rfl, by omega, by assumption, _, _, rfl, rfl, ?_⟩
    | refine E.call tt h_divRound rfl rfl ⟨_, _, rfl, by omega, by omega, by omega, by omega, _, _, rfl, rfl, ?_⟩)) <;> (try (conv => whnf))
            all_goals (refine fin_p rfl ?_ rfl rfl; rw [hke, fnL_congr (f := mixD xs l 3) (g := mixR xs l) (fun g g0 g1 => if_pos (by omega))])
    · rcases hs with ⟨hR, rfl⟩ | ⟨hR, rfl⟩
      · (repeat' ((conv => whnf); first
    | refine Sd.mk (by first | omega | (unfold in64; omega) | (simp only [fitK, in64]; omega) | (simp only [fitK, in64, chunk, List.length_map, List.length_append, List.length_replicate, List.length_set, List.length_nil, List.length_cons]; omega)) ?_
    | refine Br.yes rfl ?_
    | refine Br.no rfl ?_
    | refine Br.yes (by first | (simp only [ltB_t, ltB_f, eqB_t, eqB_f, pB_t, pB_f, sEq_t, sEq_f, emp_iff, ne_eq, List.length_map, Bool.not_eq_true, Bool.not_eq_false, Bool.not_eq_eq_eq_not, Bool.not_true, Bool.not_false]; done) | (simp only [ltB_t, ltB_f, eqB_t, eqB_f, pB_t, pB_f, sEq_t, sEq_f, emp_iff, ne_eq, List.length_map, Bool.not_eq_true, Bool.not_eq_false, Bool.not_eq_eq_eq_not, Bool.not_true, Bool.not_false]; omega) | (simp only [ltB_t, ltB_f, eqB_t, eqB_f, pB_t, pB_f, sEq_t, sEq_f, emp_iff, ne_eq, List.length_map, Bool.not_eq_true, Bool.not_eq_false, Bool.not_eq_eq_eq_not, Bool.not_true, Bool.not_false]; assumption)) ?_
    | refine Br.no (by first | (simp only [ltB_t, ltB_f, eqB_t, eqB_f, pB_t, pB_f, sEq_t, sEq_f, emp_iff, ne_eq, List.length_map, Bool.not_eq_true, Bool.not_eq_false, Bool.not_eq_eq_eq_not, Bool.not_true, Bool.not_false]; done) | (simp only [ltB_t, ltB_f, eqB_t, eqB_f, pB_t, pB_f, sEq_t, sEq_f, emp_iff, ne_eq, List.length_map, Bool.not_eq_true, Bool.not_eq_false, Bool.not_eq_eq_eq_not, Bool.not_true, Bool.not_false]; omega) | (simp only [ltB_t, ltB_f, eqB_t, eqB_f, pB_t, pB_f, sEq_t, sEq_f, emp_iff, ne_eq, List.length_map, Bool.not_eq_true, Bool.not_eq_false, Bool.not_eq_eq_eq_not, Bool.not_true, Bool.not_false]; assumption)) ?_
    | (refine Br.mk ?_ ?_ <;> intro h <;> (try simp only [ltB_t, ltB_f, eqB_t, eqB_f, pB_t, pB_f, sEq_t, sEq_f, emp_iff, ne_eq, List.length_map, Bool.not_eq_true, Bool.not_eq_false, Bool.not_eq_eq_eq_not, Bool.not_true, Bool.not_false] at h))
    | refine Ixv.mk (by omega) (ixE (by omega) (by omega)) ?_
    | refine Elt.mk rfl ?_
    | refine Elt.mk (by assumption) ?_
    | refine Elt.mk (ixE (by omega) (by omega)) ?_
    | refine Mk.eq (by omega) (by omega) (by omega) ?_
    | refine Mk.zero (by omega) (by omega) (by omega) ?_
    | refine E.call tt h_within rfl rfl ⟨_, _, _, rfl, _, _, rfl, rfl, ?_⟩
    | refine E.call tt h_okICoat rfl rfl ⟨_, rfl, by omega, by assumption, _, _, rfl, rfl, ?_⟩
    | refine E.call tt h_divRound rfl rfl ⟨_, _, rfl, by omega, by omega, by omega, by omega, _, _, rfl, rfl, ?_⟩)) <;> (try (conv => whnf))
        all_goals (exact fin_p rfl rfl rfl rfl)
      · exact absurd hR.1 hll




set_option maxHeartbeats 4000000 in
theorem h_lawMixColours : Holds Try.prog 8 (fun args K => ∃ (a0 : List D.Coat) (a1 : List Int), args = [.view 4 (a0.map D.Coat.enc), .view 1 (a1.map encI)] ∧ ((a0.length : Int) ≤ 9223372036854775807 ∧ (∀ x ∈ a0, x.ok)) ∧ ((a1.length : Int) ≤ 9223372036854775807 ∧ (∀ x ∈ a1, in64 x)) ∧ K [.p (.bool true)]) := by
  refine E.mk tt Try.func8 rfl Try.ntmps8 rfl (by kernel_rfl) ?_
  rintro _ K ⟨xs, l, rfl, ⟨hx, hok⟩, ⟨hl, hlk⟩, hK⟩
  refine ⟨Nat.le_of_ble_eq_true rfl, _, hK, ?_⟩
  rcases cases2 (CoatsOk xs) (MixOk xs l) with hB | ⟨hB, hR⟩ | ⟨hB, hR⟩
  · (repeat' ((conv => whnf); first
    | refine E.call tt h_szCoatS2 rfl rfl ⟨_, _, rfl, by omega, by assumption, by omega, by omega, fun rc hrc hrc2 hrc3 => ⟨_, _, rfl, rfl, ?_⟩⟩
    | refine E.callY tt (d := 34) h_toCoatsG rfl rfl rfl ⟨rfl, xs, rfl, by omega, (hrc2 (by omega)).2, fun ds X' hD => ?_⟩
    | refine E.callRD tt (d := 40) (args := [.view 4 (xs.map D.Coat.enc), .view 1 (l.map encI)]) h_MxI ⟨Deep.ownE (r := ⟨139, 4, stE xs ds⟩) rfl rfl (stE_rf hD), Deep.rd rfl, trivial⟩ rfl ⟨xs, l, _, rfl, by omega, by assumption, by omega, by assumption, .inl ⟨hB, rfl⟩, allSc_ok _ rfl, ?_⟩
    | refine E.callD tt (args := [.view 4 (xs.map D.Coat.enc), .view 4 (xs.map D.Coat.enc)]) h_eqCoatS ⟨Deep.ownE (r := ⟨139, 4, stE xs ds⟩) rfl rfl (stE_rf hD), Deep.rd rfl, trivial⟩ rfl ⟨_, _, rfl, by omega, (hrc2 (by omega)).2, _, _, rfl, rfl, ?_⟩
    | refine Sd.mk (by first | omega | (unfold in64; omega) | (simp only [fitK, in64]; omega) | (simp only [fitK, in64, chunk, List.length_map, List.length_append, List.length_replicate, List.length_set, List.length_nil, List.length_cons]; omega)) ?_
    | refine Br.yes rfl ?_
    | refine Br.no rfl ?_
    | refine Br.yes (by first | (simp only [ltB_t, ltB_f, eqB_t, eqB_f, pB_t, pB_f, sEq_t, sEq_f, emp_iff, ne_eq, List.length_map, Bool.not_eq_true, Bool.not_eq_false, Bool.not_eq_eq_eq_not, Bool.not_true, Bool.not_false]; done) | (simp only [ltB_t, ltB_f, eqB_t, eqB_f, pB_t, pB_f, sEq_t, sEq_f, emp_iff, ne_eq, List.length_map, Bool.not_eq_true, Bool.not_eq_false, Bool.not_eq_eq_eq_not, Bool.not_true, Bool.not_false]; omega) | (simp only [ltB_t, ltB_f, eqB_t, eqB_f, pB_t, pB_f, sEq_t, sEq_f, emp_iff, ne_eq, List.length_map, Bool.not_eq_true, Bool.not_eq_false, Bool.not_eq_eq_eq_not, Bool.not_true, Bool.not_false]; assumption)) ?_
    | refine Br.no (by first | (simp only [ltB_t, ltB_f, eqB_t, eqB_f, pB_t, pB_f, sEq_t, sEq_f, emp_iff, ne_eq, List.length_map, Bool.not_eq_true, Bool.not_eq_false, Bool.not_eq_eq_eq_not, Bool.not_true, Bool.not_false]; done) | (simp only [ltB_t, ltB_f, eqB_t, eqB_f, pB_t, pB_f, sEq_t, sEq_f, emp_iff, ne_eq, List.length_map, Bool.not_eq_true, Bool.not_eq_false, Bool.not_eq_eq_eq_not, Bool.not_true, Bool.not_false]; omega) | (simp only [ltB_t, ltB_f, eqB_t, eqB_f, pB_t, pB_f, sEq_t, sEq_f, emp_iff, ne_eq, List.length_map, Bool.not_eq_true, Bool.not_eq_false, Bool.not_eq_eq_eq_not, Bool.not_true, Bool.not_false]; assumption)) ?_
    | (refine Br.mk ?_ ?_ <;> intro h <;> (try simp only [ltB_t, ltB_f, eqB_t, eqB_f, pB_t, pB_f, sEq_t, sEq_f, emp_iff, ne_eq, List.length_map, Bool.not_eq_true, Bool.not_eq_false, Bool.not_eq_eq_eq_not, Bool.not_true, Bool.not_false] at h))
    | refine Elt.mk rfl ?_
    | refine Elt.mk (by assumption) ?_
    | refine Elt.mk (ixE (by omega) (by omega)) ?_
    | refine E.callYS tt h_markCoatsG rfl rfl rfl rfl rfl rfl ⟨xs, ds, _, rfl, rfl, hD, by omega, hrc3 (by omega), by omega, by omega, fun r' X2 k' hdom hk0 hk1 r2 e1 e2 e3 => ?_⟩
    | (refine E.call tt h_szCoatS rfl rfl ⟨_, _, rfl, by omega, by assumption, by omega, by omega, fun rc hrc hrc2 => ⟨_, _, rfl, rfl, ?_⟩⟩)
    | refine E.callR tt h_MxS rfl rfl ⟨_, _, _, rfl, by omega, by assumption, by omega, by assumption, .inr ⟨by assumption, .inr ⟨by assumption, rfl⟩⟩, .inr (rv2 (sc_map encI_sc) rfl), ?_⟩
    | refine E.callR tt h_MxS rfl rfl ⟨_, _, _, rfl, by omega, by assumption, by omega, by assumption, .inr ⟨by assumption, .inl ⟨by assumption, rfl⟩⟩, .inr (allSc_ok _ rfl), ?_⟩
    | refine E.callR tt h_MxS rfl rfl ⟨_, _, _, rfl, by omega, by assumption, by omega, by assumption, .inl ⟨by assumption, rfl⟩, .inr (allSc_ok _ rfl), ?_⟩
    | refine E.callR tt h_toCoatS rfl rfl ⟨_, rfl, by omega, by first | assumption | exact (hrc2 (by omega)).2, .inl rfl, ?_⟩
    | refine E.callR tt h_toInt64S rfl rfl ⟨_, rfl, by omega, .inl rfl, ?_⟩
    | refine E.callR tt h_MxI rfl rfl ⟨_, _, _, rfl, by omega, by assumption, by omega, by assumption, .inr ⟨by assumption, .inr ⟨by assumption, rfl⟩⟩, .inr (rv2 (sc_map encI_sc) rfl), ?_⟩
    | refine E.callR tt h_MxI rfl rfl ⟨_, _, _, rfl, by omega, by assumption, by omega, by assumption, .inr ⟨by assumption, .inl ⟨by assumption, rfl⟩⟩, .inr (allSc_ok _ rfl), ?_⟩
    | refine E.callR tt h_MxI rfl rfl ⟨_, _, _, rfl, by omega, by assumption, by omega, by assumption, .inl ⟨by assumption, rfl⟩, .inr (allSc_ok _ rfl), ?_⟩
    | refine E.call tt h_eqInt64S rfl rfl ⟨_, _, rfl, by omega, _, _, rfl, rfl, ?_⟩
    | refine E.call tt (h_eqInt64S.nilV [1, 1]) rfl rfl ⟨[], [], rfl, by decide, _, _, rfl, rfl, ?_⟩
    | refine E.call tt h_eqCoatS rfl rfl ⟨_, _, rfl, by omega, by first | assumption | exact (hrc2 (by omega)).2, _, _, rfl, rfl, ?_⟩
    | refine E.callM tt h_markInt64S rfl rfl rfl rfl rfl rfl ⟨_, _, rfl, rfl, by omega, by omega, by omega, rfl, _, rfl, by simp [mkl_length], ?_⟩
    | refine E.call tt (h_markInt64SN.nilV [1]) rfl rfl ⟨_, rfl, by unfold in64; omega, _, _, rfl, rfl, ?_⟩
    | refine E.call tt h_heldInt64S rfl rfl ⟨_, _, rfl, by omega, by omega, by omega, _, _, rfl, rfl, ?_⟩
    | refine E.call tt (h_heldInt64S.nilV [1]) rfl rfl ⟨0, _, rfl, by decide, by omega, by omega, _, _, rfl, rfl, ?_⟩)) <;> (try (conv => whnf))
    all_goals exact fin_p rfl rfl rfl rfl
  · (repeat' ((conv => whnf); first
    | refine E.call tt h_szCoatS2 rfl rfl ⟨_, _, rfl, by omega, by assumption, by omega, by omega, fun rc hrc hrc2 hrc3 => ⟨_, _, rfl, rfl, ?_⟩⟩
    | refine E.callY tt (d := 34) h_toCoatsG rfl rfl rfl ⟨rfl, xs, rfl, by omega, (hrc2 (by omega)).2, fun ds X' hD => ?_⟩
    | refine E.callRD tt (d := 40) (args := [.view 4 (xs.map D.Coat.enc), .view 1 (l.map encI)]) h_MxI ⟨Deep.ownE (r := ⟨139, 4, stE xs ds⟩) rfl rfl (stE_rf hD), Deep.rd rfl, trivial⟩ rfl ⟨xs, l, _, rfl, by omega, by assumption, by omega, by assumption, .inr ⟨hB, .inl ⟨hR, rfl⟩⟩, allSc_ok _ rfl, ?_⟩
    | refine E.callD tt (args := [.view 4 (xs.map D.Coat.enc), .view 4 (xs.map D.Coat.enc)]) h_eqCoatS ⟨Deep.ownE (r := ⟨139, 4, stE xs ds⟩) rfl rfl (stE_rf hD), Deep.rd rfl, trivial⟩ rfl ⟨_, _, rfl, by omega, (hrc2 (by omega)).2, _, _, rfl, rfl, ?_⟩
    | refine Sd.mk (by first | omega | (unfold in64; omega) | (simp only [fitK, in64]; omega) | (simp only [fitK, in64, chunk, List.length_map, List.length_append, List.length_replicate, List.length_set, List.length_nil, List.length_cons]; omega)) ?_
    | refine Br.yes rfl ?_
    | refine Br.no rfl ?_
    | refine Br.yes (by first | (simp only [ltB_t, ltB_f, eqB_t, eqB_f, pB_t, pB_f, sEq_t, sEq_f, emp_iff, ne_eq, List.length_map, Bool.not_eq_true, Bool.not_eq_false, Bool.not_eq_eq_eq_not, Bool.not_true, Bool.not_false]; done) | (simp only [ltB_t, ltB_f, eqB_t, eqB_f, pB_t, pB_f, sEq_t, sEq_f, emp_iff, ne_eq, List.length_map, Bool.not_eq_true, Bool.not_eq_false, Bool.not_eq_eq_eq_not, Bool.not_true, Bool.not_false]; omega) | (simp only [ltB_t, ltB_f, eqB_t, eqB_f, pB_t, pB_f, sEq_t, sEq_f, emp_iff, ne_eq, List.length_map, Bool.not_eq_true, Bool.not_eq_false, Bool.not_eq_eq_eq_not, Bool.not_true, Bool.not_false]; assumption)) ?_
    | refine Br.no (by first | (simp only [ltB_t, ltB_f, eqB_t, eqB_f, pB_t, pB_f, sEq_t, sEq_f, emp_iff, ne_eq, List.length_map, Bool.not_eq_true, Bool.not_eq_false, Bool.not_eq_eq_eq_not, Bool.not_true, Bool.not_false]; done) | (simp only [ltB_t, ltB_f, eqB_t, eqB_f, pB_t, pB_f, sEq_t, sEq_f, emp_iff, ne_eq, List.length_map, Bool.not_eq_true, Bool.not_eq_false, Bool.not_eq_eq_eq_not, Bool.not_true, Bool.not_false]; omega) | (simp only [ltB_t, ltB_f, eqB_t, eqB_f, pB_t, pB_f, sEq_t, sEq_f, emp_iff, ne_eq, List.length_map, Bool.not_eq_true, Bool.not_eq_false, Bool.not_eq_eq_eq_not, Bool.not_true, Bool.not_false]; assumption)) ?_
    | (refine Br.mk ?_ ?_ <;> intro h <;> (try simp only [ltB_t, ltB_f, eqB_t, eqB_f, pB_t, pB_f, sEq_t, sEq_f, emp_iff, ne_eq, List.length_map, Bool.not_eq_true, Bool.not_eq_false, Bool.not_eq_eq_eq_not, Bool.not_true, Bool.not_false] at h))
    | refine Elt.mk rfl ?_
    | refine Elt.mk (by assumption) ?_
    | refine Elt.mk (ixE (by omega) (by omega)) ?_
    | refine E.callYS tt h_markCoatsG rfl rfl rfl rfl rfl rfl ⟨xs, ds, _, rfl, rfl, hD, by omega, hrc3 (by omega), by omega, by omega, fun r' X2 k' hdom hk0 hk1 r2 e1 e2 e3 => ?_⟩
    | (refine E.call tt h_szCoatS rfl rfl ⟨_, _, rfl, by omega, by assumption, by omega, by omega, fun rc hrc hrc2 => ⟨_, _, rfl, rfl, ?_⟩⟩)
    | refine E.callR tt h_MxS rfl rfl ⟨_, _, _, rfl, by omega, by assumption, by omega, by assumption, .inr ⟨by assumption, .inr ⟨by assumption, rfl⟩⟩, .inr (rv2 (sc_map encI_sc) rfl), ?_⟩
    | refine E.callR tt h_MxS rfl rfl ⟨_, _, _, rfl, by omega, by assumption, by omega, by assumption, .inr ⟨by assumption, .inl ⟨by assumption, rfl⟩⟩, .inr (allSc_ok _ rfl), ?_⟩
    | refine E.callR tt h_MxS rfl rfl ⟨_, _, _, rfl, by omega, by assumption, by omega, by assumption, .inl ⟨by assumption, rfl⟩, .inr (allSc_ok _ rfl), ?_⟩
    | refine E.callR tt h_toCoatS rfl rfl ⟨_, rfl, by omega, by first | assumption | exact (hrc2 (by omega)).2, .inl rfl, ?_⟩
    | refine E.callR tt h_toInt64S rfl rfl ⟨_, rfl, by omega, .inl rfl, ?_⟩
    | refine E.callR tt h_MxI rfl rfl ⟨_, _, _, rfl, by omega, by assumption, by omega, by assumption, .inr ⟨by assumption, .inr ⟨by assumption, rfl⟩⟩, .inr (rv2 (sc_map encI_sc) rfl), ?_⟩
    | refine E.callR tt h_MxI rfl rfl ⟨_, _, _, rfl, by omega, by assumption, by omega, by assumption, .inr ⟨by assumption, .inl ⟨by assumption, rfl⟩⟩, .inr (allSc_ok _ rfl), ?_⟩
    | refine E.callR tt h_MxI rfl rfl ⟨_, _, _, rfl, by omega, by assumption, by omega, by assumption, .inl ⟨by assumption, rfl⟩, .inr (allSc_ok _ rfl), ?_⟩
    | refine E.call tt h_eqInt64S rfl rfl ⟨_, _, rfl, by omega, _, _, rfl, rfl, ?_⟩
    | refine E.call tt (h_eqInt64S.nilV [1, 1]) rfl rfl ⟨[], [], rfl, by decide, _, _, rfl, rfl, ?_⟩
    | refine E.call tt h_eqCoatS rfl rfl ⟨_, _, rfl, by omega, by first | assumption | exact (hrc2 (by omega)).2, _, _, rfl, rfl, ?_⟩
    | refine E.callM tt h_markInt64S rfl rfl rfl rfl rfl rfl ⟨_, _, rfl, rfl, by omega, by omega, by omega, rfl, _, rfl, by simp [mkl_length], ?_⟩
    | refine E.call tt (h_markInt64SN.nilV [1]) rfl rfl ⟨_, rfl, by unfold in64; omega, _, _, rfl, rfl, ?_⟩
    | refine E.call tt h_heldInt64S rfl rfl ⟨_, _, rfl, by omega, by omega, by omega, _, _, rfl, rfl, ?_⟩
    | refine E.call tt (h_heldInt64S.nilV [1]) rfl rfl ⟨0, _, rfl, by decide, by omega, by omega, _, _, rfl, rfl, ?_⟩)) <;> (try (conv => whnf))
    all_goals exact fin_p rfl rfl rfl rfl
  · have hfl := fnL_length (mixR xs l) 3
    (repeat' ((conv => whnf); first
    | refine E.call tt h_szCoatS2 rfl rfl ⟨_, _, rfl, by omega, by assumption, by omega, by omega, fun rc hrc hrc2 hrc3 => ⟨_, _, rfl, rfl, ?_⟩⟩
    | refine E.callY tt (d := 34) h_toCoatsG rfl rfl rfl ⟨rfl, xs, rfl, by omega, (hrc2 (by omega)).2, fun ds X' hD => ?_⟩
    | refine E.callRD tt (d := 40) (args := [.view 4 (xs.map D.Coat.enc), .view 1 (l.map encI)]) h_MxI ⟨Deep.ownE (r := ⟨139, 4, stE xs ds⟩) rfl rfl (stE_rf hD), Deep.rd rfl, trivial⟩ rfl ⟨xs, l, _, rfl, by omega, by assumption, by omega, by assumption, .inr ⟨hB, .inr ⟨hR, rfl⟩⟩, rv2 (sc_map encI_sc) rfl, ?_⟩
    | refine E.callD tt (args := [.view 4 (xs.map D.Coat.enc), .view 4 (xs.map D.Coat.enc)]) h_eqCoatS ⟨Deep.ownE (r := ⟨139, 4, stE xs ds⟩) rfl rfl (stE_rf hD), Deep.rd rfl, trivial⟩ rfl ⟨_, _, rfl, by omega, (hrc2 (by omega)).2, _, _, rfl, rfl, ?_⟩
    | refine Sd.mk (by first | omega | (unfold in64; omega) | (simp only [fitK, in64]; omega) | (simp only [fitK, in64, chunk, List.length_map, List.length_append, List.length_replicate, List.length_set, List.length_nil, List.length_cons]; omega)) ?_
    | refine Br.yes rfl ?_
    | refine Br.no rfl ?_
    | refine Br.yes (by first | (simp only [ltB_t, ltB_f, eqB_t, eqB_f, pB_t, pB_f, sEq_t, sEq_f, emp_iff, ne_eq, List.length_map, Bool.not_eq_true, Bool.not_eq_false, Bool.not_eq_eq_eq_not, Bool.not_true, Bool.not_false]; done) | (simp only [ltB_t, ltB_f, eqB_t, eqB_f, pB_t, pB_f, sEq_t, sEq_f, emp_iff, ne_eq, List.length_map, Bool.not_eq_true, Bool.not_eq_false, Bool.not_eq_eq_eq_not, Bool.not_true, Bool.not_false]; omega) | (simp only [ltB_t, ltB_f, eqB_t, eqB_f, pB_t, pB_f, sEq_t, sEq_f, emp_iff, ne_eq, List.length_map, Bool.not_eq_true, Bool.not_eq_false, Bool.not_eq_eq_eq_not, Bool.not_true, Bool.not_false]; assumption)) ?_
    | refine Br.no (by first | (simp only [ltB_t, ltB_f, eqB_t, eqB_f, pB_t, pB_f, sEq_t, sEq_f, emp_iff, ne_eq, List.length_map, Bool.not_eq_true, Bool.not_eq_false, Bool.not_eq_eq_eq_not, Bool.not_true, Bool.not_false]; done) | (simp only [ltB_t, ltB_f, eqB_t, eqB_f, pB_t, pB_f, sEq_t, sEq_f, emp_iff, ne_eq, List.length_map, Bool.not_eq_true, Bool.not_eq_false, Bool.not_eq_eq_eq_not, Bool.not_true, Bool.not_false]; omega) | (simp only [ltB_t, ltB_f, eqB_t, eqB_f, pB_t, pB_f, sEq_t, sEq_f, emp_iff, ne_eq, List.length_map, Bool.not_eq_true, Bool.not_eq_false, Bool.not_eq_eq_eq_not, Bool.not_true, Bool.not_false]; assumption)) ?_
    | (refine Br.mk ?_ ?_ <;> intro h <;> (try simp only [ltB_t, ltB_f, eqB_t, eqB_f, pB_t, pB_f, sEq_t, sEq_f, emp_iff, ne_eq, List.length_map, Bool.not_eq_true, Bool.not_eq_false, Bool.not_eq_eq_eq_not, Bool.not_true, Bool.not_false] at h))
    | refine Elt.mk rfl ?_
    | refine Elt.mk (by assumption) ?_
    | refine Elt.mk (ixE (by omega) (by omega)) ?_
    | refine E.callYS tt h_markCoatsG rfl rfl rfl rfl rfl rfl ⟨xs, ds, _, rfl, rfl, hD, by omega, hrc3 (by omega), by omega, by omega, fun r' X2 k' hdom hk0 hk1 r2 e1 e2 e3 => ?_⟩
    | (refine E.call tt h_szCoatS rfl rfl ⟨_, _, rfl, by omega, by assumption, by omega, by omega, fun rc hrc hrc2 => ⟨_, _, rfl, rfl, ?_⟩⟩)
    | refine E.callR tt h_MxS rfl rfl ⟨_, _, _, rfl, by omega, by assumption, by omega, by assumption, .inr ⟨by assumption, .inr ⟨by assumption, rfl⟩⟩, .inr (rv2 (sc_map encI_sc) rfl), ?_⟩
    | refine E.callR tt h_MxS rfl rfl ⟨_, _, _, rfl, by omega, by assumption, by omega, by assumption, .inr ⟨by assumption, .inl ⟨by assumption, rfl⟩⟩, .inr (allSc_ok _ rfl), ?_⟩
    | refine E.callR tt h_MxS rfl rfl ⟨_, _, _, rfl, by omega, by assumption, by omega, by assumption, .inl ⟨by assumption, rfl⟩, .inr (allSc_ok _ rfl), ?_⟩
    | refine E.callR tt h_toCoatS rfl rfl ⟨_, rfl, by omega, by first | assumption | exact (hrc2 (by omega)).2, .inl rfl, ?_⟩
    | refine E.callR tt h_toInt64S rfl rfl ⟨_, rfl, by omega, .inl rfl, ?_⟩
    | refine E.callR tt h_MxI rfl rfl ⟨_, _, _, rfl, by omega, by assumption, by omega, by assumption, .inr ⟨by assumption, .inr ⟨by assumption, rfl⟩⟩, .inr (rv2 (sc_map encI_sc) rfl), ?_⟩
    | refine E.callR tt h_MxI rfl rfl ⟨_, _, _, rfl, by omega, by assumption, by omega, by assumption, .inr ⟨by assumption, .inl ⟨by assumption, rfl⟩⟩, .inr (allSc_ok _ rfl), ?_⟩
    | refine E.callR tt h_MxI rfl rfl ⟨_, _, _, rfl, by omega, by assumption, by omega, by assumption, .inl ⟨by assumption, rfl⟩, .inr (allSc_ok _ rfl), ?_⟩
    | refine E.call tt h_eqInt64S rfl rfl ⟨_, _, rfl, by omega, _, _, rfl, rfl, ?_⟩
    | refine E.call tt (h_eqInt64S.nilV [1, 1]) rfl rfl ⟨[], [], rfl, by decide, _, _, rfl, rfl, ?_⟩
    | refine E.call tt h_eqCoatS rfl rfl ⟨_, _, rfl, by omega, by first | assumption | exact (hrc2 (by omega)).2, _, _, rfl, rfl, ?_⟩
    | refine E.callM tt h_markInt64S rfl rfl rfl rfl rfl rfl ⟨_, _, rfl, rfl, by omega, by omega, by omega, rfl, _, rfl, by simp [mkl_length], ?_⟩
    | refine E.call tt (h_markInt64SN.nilV [1]) rfl rfl ⟨_, rfl, by unfold in64; omega, _, _, rfl, rfl, ?_⟩
    | refine E.call tt h_heldInt64S rfl rfl ⟨_, _, rfl, by omega, by omega, by omega, _, _, rfl, rfl, ?_⟩
    | refine E.call tt (h_heldInt64S.nilV [1]) rfl rfl ⟨0, _, rfl, by decide, by omega, by omega, _, _, rfl, rfl, ?_⟩)) <;> (try (conv => whnf))
    all_goals exact fin_p rfl rfl rfl rfl

end Go.Proofs.Ytakpiiekdlbgmaa
