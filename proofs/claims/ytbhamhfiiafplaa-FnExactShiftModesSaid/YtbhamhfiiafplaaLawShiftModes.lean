/- Proved: the law FnExactShiftModes answers true for every input and leaves its arguments as they were (Rows.FnExactShiftModesSaid); no conditions. -/
import Derived.Test.YtbhamhfiiafplaaTyMode
import Derived.Test.YtbhamhfiiafplaaAr
import Derived.Test.YtbhamhfiiafplaaRows
import Derived.WalkKit
import Derived.ProofKit
import Derived.OpenShut
import Derived.ShutString
import Derived.ChangeOld
import Derived.Below
set_option linter.unusedVariables false
set_option linter.unusedSimpArgs false
set_option maxRecDepth 100000
namespace Go.Lo
-- deps: TyMode Ar
def shM (s : Int) (x : D.Mode) : D.Mode := ⟨x.Id, rdiv (x.Tone * s) 1000, x.Loss⟩
theorem shM_bd {s : Int} {x : D.Mode} (h : ModeOk x) (h0 : 1 ≤ s) (h1 : s ≤ 3000) : 0 ≤ x.Tone * s ∧ x.Tone * s ≤ 300000000 ∧ 0 ≤ rdiv (x.Tone * s) 1000 ∧ rdiv (x.Tone * s) 1000 ≤ 300000 := by
  unfold ModeOk at h
  have hm := mul_bd (a := x.Tone) (b := s) (A := 100000) (B := 3000) (by omega) (by omega) (by omega) (by omega)
  exact ⟨by omega, by omega, rdiv_nonneg (by omega) (by omega), rdiv_le (by omega) (by omega) (by omega)⟩
theorem shM_ok {s : Int} {xs : List D.Mode} (h : ModesOk xs) (hok : ∀ x ∈ xs, x.ok) (h0 : 1 ≤ s) (h1 : s ≤ 3000) : ∀ x ∈ xs.map (shM s), x.ok := fun x hx => by
  obtain ⟨y, hy, rfl⟩ := List.mem_map.1 hx
  have hb := shM_bd (h.mem y hy) h0 h1
  have ho := hok y hy
  unfold D.Mode.ok at ho ⊢
  exact ⟨ho.1, by unfold in64 shM; dsimp only; omega, ho.2.2⟩
def cSh (ty : Nat) : Ct := fun args K => ∃ (xs : List D.Mode) (s : Int) (rs : RV), args = [.view 3 (xs.map D.Mode.enc), I s] ∧ (xs.length : Int) ≤ 1048576 ∧ (∀ x ∈ xs, x.ok) ∧
  spec3 (ModesOk xs) (1 ≤ s ∧ s ≤ 3000) (ModesOk (xs.map (shM s))) [.p .nil, .p (I 1)] [.p .nil, .p (I 2)] [.p .nil, .p (I 6)] [.fresh ⟨ty, 3, (xs.map (shM s)).map D.Mode.enc⟩, .p (I 0)] rs ∧ K rs
end Go.Lo
namespace Go.Proofs.Ytbhamhfiiafplaa
open Go.Lo
attribute [local irreducible] W Wc

theorem h_ShS : Holds Try.prog 71 (cSh 173) := by
  refine E.mk tt Try.func71 rfl Try.ntmps71 rfl (by kernel_rfl) ?_
  rintro _ K ⟨xs, s, rs, rfl, hl, hok, ⟨hB, rfl⟩ | ⟨hB, ⟨hR, rfl⟩ | ⟨hR, hrs⟩⟩, hK⟩
  · refine ⟨Nat.le_of_ble_eq_true rfl, _, hK, ?_⟩
    (repeat' ((conv => whnf); first
    | refine Sd.mk (by first | omega | (unfold in64; omega) | (simp only [fitK, in64]; omega) | (simp only [fitK, in64, chunk, List.length_map, List.length_append, List.length_replicate, List.length_set, List.length_nil, List.length_cons]; omega)) ?_
    | refine Br.yes rfl ?_
    | refine Br.no rfl ?_
    | refine Br.yes (by first | (simp only [ltB_t, ltB_f, eqB_t, eqB_f, pB_t, pB_f, sEq_t, sEq_f, emp_iff, ne_eq, List.length_map, Bool.not_eq_true, Bool.not_eq_false, Bool.not_eq_eq_eq_not, Bool.not_true, Bool.not_false]; done) | (simp only [ltB_t, ltB_f, eqB_t, eqB_f, pB_t, pB_f, sEq_t, sEq_f, emp_iff, ne_eq, List.length_map, Bool.not_eq_true, Bool.not_eq_false, Bool.not_eq_eq_eq_not, Bool.not_true, Bool.not_false]; omega) | (simp only [ltB_t, ltB_f, eqB_t, eqB_f, pB_t, pB_f, sEq_t, sEq_f, emp_iff, ne_eq, List.length_map, Bool.not_eq_true, Bool.not_eq_false, Bool.not_eq_eq_eq_not, Bool.not_true, Bool.not_false]; assumption)) ?_
    | refine Br.no (by first | (simp only [ltB_t, ltB_f, eqB_t, eqB_f, pB_t, pB_f, sEq_t, sEq_f, emp_iff, ne_eq, List.length_map, Bool.not_eq_true, Bool.not_eq_false, Bool.not_eq_eq_eq_not, Bool.not_true, Bool.not_false]; done) | (simp only [ltB_t, ltB_f, eqB_t, eqB_f, pB_t, pB_f, sEq_t, sEq_f, emp_iff, ne_eq, List.length_map, Bool.not_eq_true, Bool.not_eq_false, Bool.not_eq_eq_eq_not, Bool.not_true, Bool.not_false]; omega) | (simp only [ltB_t, ltB_f, eqB_t, eqB_f, pB_t, pB_f, sEq_t, sEq_f, emp_iff, ne_eq, List.length_map, Bool.not_eq_true, Bool.not_eq_false, Bool.not_eq_eq_eq_not, Bool.not_true, Bool.not_false]; assumption)) ?_
    | (refine Br.mk ?_ ?_ <;> intro h <;> (try simp only [ltB_t, ltB_f, eqB_t, eqB_f, pB_t, pB_f, sEq_t, sEq_f, emp_iff, ne_eq, List.length_map, Bool.not_eq_true, Bool.not_eq_false, Bool.not_eq_eq_eq_not, Bool.not_true, Bool.not_false] at h))
    | refine Ixv.mk (by omega) (ixE (by omega) (by omega)) ?_
    | refine Elt.mk rfl ?_
    | refine Elt.mk (by assumption) ?_
    | refine Elt.mk (ixE (by omega) (by omega)) ?_
    | refine E.call tt h_l00In rfl rfl ⟨_, _, _, rfl, _, _, rfl, rfl, ?_⟩
    | refine E.call tt h_l01Div rfl rfl ⟨_, _, rfl, by omega, by omega, by omega, by omega, _, _, rfl, rfl, ?_⟩
    | refine E.call tt h_okMode rfl rfl ⟨_, rfl, by first | omega | (simp only [List.length_map]; omega), by assumption, _, _, rfl, rfl, ?_⟩)) <;> (try (conv => whnf))
    all_goals (exact fin_p rfl rfl rfl rfl)
  · refine ⟨Nat.le_of_ble_eq_true rfl, _, hK, ?_⟩
    (repeat' ((conv => whnf); first
    | refine Sd.mk (by first | omega | (unfold in64; omega) | (simp only [fitK, in64]; omega) | (simp only [fitK, in64, chunk, List.length_map, List.length_append, List.length_replicate, List.length_set, List.length_nil, List.length_cons]; omega)) ?_
    | refine Br.yes rfl ?_
    | refine Br.no rfl ?_
    | refine Br.yes (by first | (simp only [ltB_t, ltB_f, eqB_t, eqB_f, pB_t, pB_f, sEq_t, sEq_f, emp_iff, ne_eq, List.length_map, Bool.not_eq_true, Bool.not_eq_false, Bool.not_eq_eq_eq_not, Bool.not_true, Bool.not_false]; done) | (simp only [ltB_t, ltB_f, eqB_t, eqB_f, pB_t, pB_f, sEq_t, sEq_f, emp_iff, ne_eq, List.length_map, Bool.not_eq_true, Bool.not_eq_false, Bool.not_eq_eq_eq_not, Bool.not_true, Bool.not_false]; omega) | (simp only [ltB_t, ltB_f, eqB_t, eqB_f, pB_t, pB_f, sEq_t, sEq_f, emp_iff, ne_eq, List.length_map, Bool.not_eq_true, Bool.not_eq_false, Bool.not_eq_eq_eq_not, Bool.not_true, Bool.not_false]; assumption)) ?_
    | refine Br.no (by first | (simp only [ltB_t, ltB_f, eqB_t, eqB_f, pB_t, pB_f, sEq_t, sEq_f, emp_iff, ne_eq, List.length_map, Bool.not_eq_true, Bool.not_eq_false, Bool.not_eq_eq_eq_not, Bool.not_true, Bool.not_false]; done) | (simp only [ltB_t, ltB_f, eqB_t, eqB_f, pB_t, pB_f, sEq_t, sEq_f, emp_iff, ne_eq, List.length_map, Bool.not_eq_true, Bool.not_eq_false, Bool.not_eq_eq_eq_not, Bool.not_true, Bool.not_false]; omega) | (simp only [ltB_t, ltB_f, eqB_t, eqB_f, pB_t, pB_f, sEq_t, sEq_f, emp_iff, ne_eq, List.length_map, Bool.not_eq_true, Bool.not_eq_false, Bool.not_eq_eq_eq_not, Bool.not_true, Bool.not_false]; assumption)) ?_
    | (refine Br.mk ?_ ?_ <;> intro h <;> (try simp only [ltB_t, ltB_f, eqB_t, eqB_f, pB_t, pB_f, sEq_t, sEq_f, emp_iff, ne_eq, List.length_map, Bool.not_eq_true, Bool.not_eq_false, Bool.not_eq_eq_eq_not, Bool.not_true, Bool.not_false] at h))
    | refine Ixv.mk (by omega) (ixE (by omega) (by omega)) ?_
    | refine Elt.mk rfl ?_
    | refine Elt.mk (by assumption) ?_
    | refine Elt.mk (ixE (by omega) (by omega)) ?_
    | refine E.call tt h_l00In rfl rfl ⟨_, _, _, rfl, _, _, rfl, rfl, ?_⟩
    | refine E.call tt h_l01Div rfl rfl ⟨_, _, rfl, by omega, by omega, by omega, by omega, _, _, rfl, rfl, ?_⟩
    | refine E.call tt h_okMode rfl rfl ⟨_, rfl, by first | omega | (simp only [List.length_map]; omega), by assumption, _, _, rfl, rfl, ?_⟩)) <;> (try (conv => whnf))
    all_goals (exact fin_p rfl rfl rfl rfl)
  · have hln : (xs.map D.Mode.enc).length = xs.length := by simp
    have hle := hB.le
    have hok2 := shM_ok hB hok hR.1 hR.2
    have hl2 : (xs.map (shM s)).length = xs.length := by simp
    refine ⟨Nat.le_of_ble_eq_true rfl, _, hK, ?_⟩
    (repeat' ((conv => whnf); first
    | refine Sd.mk (by first | omega | (unfold in64; omega) | (simp only [fitK, in64]; omega) | (simp only [fitK, in64, chunk, List.length_map, List.length_append, List.length_replicate, List.length_set, List.length_nil, List.length_cons]; omega)) ?_
    | refine Br.yes rfl ?_
    | refine Br.no rfl ?_
    | refine Br.yes (by first | (simp only [ltB_t, ltB_f, eqB_t, eqB_f, pB_t, pB_f, sEq_t, sEq_f, emp_iff, ne_eq, List.length_map, Bool.not_eq_true, Bool.not_eq_false, Bool.not_eq_eq_eq_not, Bool.not_true, Bool.not_false]; done) | (simp only [ltB_t, ltB_f, eqB_t, eqB_f, pB_t, pB_f, sEq_t, sEq_f, emp_iff, ne_eq, List.length_map, Bool.not_eq_true, Bool.not_eq_false, Bool.not_eq_eq_eq_not, Bool.not_true, Bool.not_false]; omega) | (simp only [ltB_t, ltB_f, eqB_t, eqB_f, pB_t, pB_f, sEq_t, sEq_f, emp_iff, ne_eq, List.length_map, Bool.not_eq_true, Bool.not_eq_false, Bool.not_eq_eq_eq_not, Bool.not_true, Bool.not_false]; assumption)) ?_
    | refine Br.no (by first | (simp only [ltB_t, ltB_f, eqB_t, eqB_f, pB_t, pB_f, sEq_t, sEq_f, emp_iff, ne_eq, List.length_map, Bool.not_eq_true, Bool.not_eq_false, Bool.not_eq_eq_eq_not, Bool.not_true, Bool.not_false]; done) | (simp only [ltB_t, ltB_f, eqB_t, eqB_f, pB_t, pB_f, sEq_t, sEq_f, emp_iff, ne_eq, List.length_map, Bool.not_eq_true, Bool.not_eq_false, Bool.not_eq_eq_eq_not, Bool.not_true, Bool.not_false]; omega) | (simp only [ltB_t, ltB_f, eqB_t, eqB_f, pB_t, pB_f, sEq_t, sEq_f, emp_iff, ne_eq, List.length_map, Bool.not_eq_true, Bool.not_eq_false, Bool.not_eq_eq_eq_not, Bool.not_true, Bool.not_false]; assumption)) ?_
    | (refine Br.mk ?_ ?_ <;> intro h <;> (try simp only [ltB_t, ltB_f, eqB_t, eqB_f, pB_t, pB_f, sEq_t, sEq_f, emp_iff, ne_eq, List.length_map, Bool.not_eq_true, Bool.not_eq_false, Bool.not_eq_eq_eq_not, Bool.not_true, Bool.not_false] at h))
    | refine Ixv.mk (by omega) (ixE (by omega) (by omega)) ?_
    | refine Elt.mk rfl ?_
    | refine Elt.mk (by assumption) ?_
    | refine Elt.mk (ixE (by omega) (by omega)) ?_
    | refine E.call tt h_l00In rfl rfl ⟨_, _, _, rfl, _, _, rfl, rfl, ?_⟩
    | refine E.call tt h_l01Div rfl rfl ⟨_, _, rfl, by omega, by omega, by omega, by omega, _, _, rfl, rfl, ?_⟩
    | refine E.call tt h_okMode rfl rfl ⟨_, rfl, by first | omega | (simp only [List.length_map]; omega), by assumption, _, _, rfl, rfl, ?_⟩)) <;> (try (conv => whnf))
    refine E.loop tt (fun i : Int => 0 ≤ i ∧ i ≤ xs.length) (fun i => ⟨39, 2, [(1, .p (I s)), (6, .own 1), (7, .p (I i))], [(1, ⟨173, 3, (mpx (shM s) xs i).map D.Mode.enc⟩)]⟩) (fun i => (xs.length - i).toNat) 0 ⟨by omega, by omega⟩ ⟨rfl, ⟨rfl, rfl, rfl, trivial⟩, ⟨congrArg some (rowEq (by rw [mpx_zero] <;> rfl)), trivial⟩, rfl, rfl⟩ ?_
    rintro i ⟨hi0, hi1⟩
    have hul2 := mpx_length (shM s) xs hi1 hi0
    have hul : ((mpx (shM s) xs i).map D.Mode.enc).length = xs.length := by rw [List.length_map, hul2]
    rcases Int.lt_or_le i xs.length with hlt | hge
    · have hg := mpx_get (f := shM s) (enc := D.Mode.enc) hi0 hlt
      have hse := mpx_set (f := shM s) (enc := D.Mode.enc) hi0 hlt
      have hb := shM_bd (hB.at hi0 hlt) hR.1 hR.2
      (repeat' ((conv => whnf); first
    | refine Sd.mk (by first | omega | (unfold in64; omega) | (simp only [fitK, in64]; omega) | (simp only [fitK, in64, chunk, List.length_map, List.length_append, List.length_replicate, List.length_set, List.length_nil, List.length_cons]; omega)) ?_
    | refine Br.yes rfl ?_
    | refine Br.no rfl ?_
    | refine Br.yes (by first | (simp only [ltB_t, ltB_f, eqB_t, eqB_f, pB_t, pB_f, sEq_t, sEq_f, emp_iff, ne_eq, List.length_map, Bool.not_eq_true, Bool.not_eq_false, Bool.not_eq_eq_eq_not, Bool.not_true, Bool.not_false]; done) | (simp only [ltB_t, ltB_f, eqB_t, eqB_f, pB_t, pB_f, sEq_t, sEq_f, emp_iff, ne_eq, List.length_map, Bool.not_eq_true, Bool.not_eq_false, Bool.not_eq_eq_eq_not, Bool.not_true, Bool.not_false]; omega) | (simp only [ltB_t, ltB_f, eqB_t, eqB_f, pB_t, pB_f, sEq_t, sEq_f, emp_iff, ne_eq, List.length_map, Bool.not_eq_true, Bool.not_eq_false, Bool.not_eq_eq_eq_not, Bool.not_true, Bool.not_false]; assumption)) ?_
    | refine Br.no (by first | (simp only [ltB_t, ltB_f, eqB_t, eqB_f, pB_t, pB_f, sEq_t, sEq_f, emp_iff, ne_eq, List.length_map, Bool.not_eq_true, Bool.not_eq_false, Bool.not_eq_eq_eq_not, Bool.not_true, Bool.not_false]; done) | (simp only [ltB_t, ltB_f, eqB_t, eqB_f, pB_t, pB_f, sEq_t, sEq_f, emp_iff, ne_eq, List.length_map, Bool.not_eq_true, Bool.not_eq_false, Bool.not_eq_eq_eq_not, Bool.not_true, Bool.not_false]; omega) | (simp only [ltB_t, ltB_f, eqB_t, eqB_f, pB_t, pB_f, sEq_t, sEq_f, emp_iff, ne_eq, List.length_map, Bool.not_eq_true, Bool.not_eq_false, Bool.not_eq_eq_eq_not, Bool.not_true, Bool.not_false]; assumption)) ?_
    | (refine Br.mk ?_ ?_ <;> intro h <;> (try simp only [ltB_t, ltB_f, eqB_t, eqB_f, pB_t, pB_f, sEq_t, sEq_f, emp_iff, ne_eq, List.length_map, Bool.not_eq_true, Bool.not_eq_false, Bool.not_eq_eq_eq_not, Bool.not_true, Bool.not_false] at h))
    | refine Ixv.mk (by omega) (ixE (by omega) (by omega)) ?_
    | refine Elt.mk rfl ?_
    | refine Elt.mk (by assumption) ?_
    | refine Elt.mk (ixE (by omega) (by omega)) ?_
    | refine E.call tt h_l00In rfl rfl ⟨_, _, _, rfl, _, _, rfl, rfl, ?_⟩
    | refine E.call tt h_l01Div rfl rfl ⟨_, _, rfl, by omega, by omega, by omega, by omega, _, _, rfl, rfl, ?_⟩
    | refine E.call tt h_okMode rfl rfl ⟨_, rfl, by first | omega | (simp only [List.length_map]; omega), by assumption, _, _, rfl, rfl, ?_⟩)) <;> (try (conv => whnf))
      all_goals (refine ⟨i + 1, ⟨by omega, by omega⟩, by dsimp only; omega, ⟨rfl, ⟨rfl, rfl, rfl, trivial⟩, ⟨congrArg some (rowEq hse), trivial⟩, rfl, rfl⟩⟩)
    · have hie : i = xs.length := by omega
      subst hie
      rw [mpx_full]
      rcases hrs with ⟨h, rfl⟩ | ⟨h, rfl⟩
      · (repeat' ((conv => whnf); first
    | refine Sd.mk (by first | omega | (unfold in64; omega) | (simp only [fitK, in64]; omega) | (simp only [fitK, in64, chunk, List.length_map, List.length_append, List.length_replicate, List.length_set, List.length_nil, List.length_cons]; omega)) ?_
    | refine Br.yes rfl ?_
    | refine Br.no rfl ?_
    | refine Br.yes (by first | (simp only [ltB_t, ltB_f, eqB_t, eqB_f, pB_t, pB_f, sEq_t, sEq_f, emp_iff, ne_eq, List.length_map, Bool.not_eq_true, Bool.not_eq_false, Bool.not_eq_eq_eq_not, Bool.not_true, Bool.not_false]; done) | (simp only [ltB_t, ltB_f, eqB_t, eqB_f, pB_t, pB_f, sEq_t, sEq_f, emp_iff, ne_eq, List.length_map, Bool.not_eq_true, Bool.not_eq_false, Bool.not_eq_eq_eq_not, Bool.not_true, Bool.not_false]; omega) | (simp only [ltB_t, ltB_f, eqB_t, eqB_f, pB_t, pB_f, sEq_t, sEq_f, emp_iff, ne_eq, List.length_map, Bool.not_eq_true, Bool.not_eq_false, Bool.not_eq_eq_eq_not, Bool.not_true, Bool.not_false]; assumption)) ?_
    | refine Br.no (by first | (simp only [ltB_t, ltB_f, eqB_t, eqB_f, pB_t, pB_f, sEq_t, sEq_f, emp_iff, ne_eq, List.length_map, Bool.not_eq_true, Bool.not_eq_false, Bool.not_eq_eq_eq_not, Bool.not_true, Bool.not_false]; done) | (simp only [ltB_t, ltB_f, eqB_t, eqB_f, pB_t, pB_f, sEq_t, sEq_f, emp_iff, ne_eq, List.length_map, Bool.not_eq_true, Bool.not_eq_false, Bool.not_eq_eq_eq_not, Bool.not_true, Bool.not_false]; omega) | (simp only [ltB_t, ltB_f, eqB_t, eqB_f, pB_t, pB_f, sEq_t, sEq_f, emp_iff, ne_eq, List.length_map, Bool.not_eq_true, Bool.not_eq_false, Bool.not_eq_eq_eq_not, Bool.not_true, Bool.not_false]; assumption)) ?_
    | (refine Br.mk ?_ ?_ <;> intro h <;> (try simp only [ltB_t, ltB_f, eqB_t, eqB_f, pB_t, pB_f, sEq_t, sEq_f, emp_iff, ne_eq, List.length_map, Bool.not_eq_true, Bool.not_eq_false, Bool.not_eq_eq_eq_not, Bool.not_true, Bool.not_false] at h))
    | refine Ixv.mk (by omega) (ixE (by omega) (by omega)) ?_
    | refine Elt.mk rfl ?_
    | refine Elt.mk (by assumption) ?_
    | refine Elt.mk (ixE (by omega) (by omega)) ?_
    | refine E.call tt h_l00In rfl rfl ⟨_, _, _, rfl, _, _, rfl, rfl, ?_⟩
    | refine E.call tt h_l01Div rfl rfl ⟨_, _, rfl, by omega, by omega, by omega, by omega, _, _, rfl, rfl, ?_⟩
    | refine E.call tt h_okMode rfl rfl ⟨_, rfl, by first | omega | (simp only [List.length_map]; omega), by assumption, _, _, rfl, rfl, ?_⟩)) <;> (try (conv => whnf))
        all_goals (exact fin_p rfl rfl rfl rfl)
      · (repeat' ((conv => whnf); first
    | refine Sd.mk (by first | omega | (unfold in64; omega) | (simp only [fitK, in64]; omega) | (simp only [fitK, in64, chunk, List.length_map, List.length_append, List.length_replicate, List.length_set, List.length_nil, List.length_cons]; omega)) ?_
    | refine Br.yes rfl ?_
    | refine Br.no rfl ?_
    | refine Br.yes (by first | (simp only [ltB_t, ltB_f, eqB_t, eqB_f, pB_t, pB_f, sEq_t, sEq_f, emp_iff, ne_eq, List.length_map, Bool.not_eq_true, Bool.not_eq_false, Bool.not_eq_eq_eq_not, Bool.not_true, Bool.not_false]; done) | (simp only [ltB_t, ltB_f, eqB_t, eqB_f, pB_t, pB_f, sEq_t, sEq_f, emp_iff, ne_eq, List.length_map, Bool.not_eq_true, Bool.not_eq_false, Bool.not_eq_eq_eq_not, Bool.not_true, Bool.not_false]; omega) | (simp only [ltB_t, ltB_f, eqB_t, eqB_f, pB_t, pB_f, sEq_t, sEq_f, emp_iff, ne_eq, List.length_map, Bool.not_eq_true, Bool.not_eq_false, Bool.not_eq_eq_eq_not, Bool.not_true, Bool.not_false]; assumption)) ?_
    | refine Br.no (by first | (simp only [ltB_t, ltB_f, eqB_t, eqB_f, pB_t, pB_f, sEq_t, sEq_f, emp_iff, ne_eq, List.length_map, Bool.not_eq_true, Bool.not_eq_false, Bool.not_eq_eq_eq_not, Bool.not_true, Bool.not_false]; done) | (simp only [ltB_t, ltB_f, eqB_t, eqB_f, pB_t, pB_f, sEq_t, sEq_f, emp_iff, ne_eq, List.length_map, Bool.not_eq_true, Bool.not_eq_false, Bool.not_eq_eq_eq_not, Bool.not_true, Bool.not_false]; omega) | (simp only [ltB_t, ltB_f, eqB_t, eqB_f, pB_t, pB_f, sEq_t, sEq_f, emp_iff, ne_eq, List.length_map, Bool.not_eq_true, Bool.not_eq_false, Bool.not_eq_eq_eq_not, Bool.not_true, Bool.not_false]; assumption)) ?_
    | (refine Br.mk ?_ ?_ <;> intro h <;> (try simp only [ltB_t, ltB_f, eqB_t, eqB_f, pB_t, pB_f, sEq_t, sEq_f, emp_iff, ne_eq, List.length_map, Bool.not_eq_true, Bool.not_eq_false, Bool.not_eq_eq_eq_not, Bool.not_true, Bool.not_false] at h))
    | refine Ixv.mk (by omega) (ixE (by omega) (by omega)) ?_
    | refine Elt.mk rfl ?_
    | refine Elt.mk (by assumption) ?_
    | refine Elt.mk (ixE (by omega) (by omega)) ?_
    | refine E.call tt h_l00In rfl rfl ⟨_, _, _, rfl, _, _, rfl, rfl, ?_⟩
    | refine E.call tt h_l01Div rfl rfl ⟨_, _, rfl, by omega, by omega, by omega, by omega, _, _, rfl, rfl, ?_⟩
    | refine E.call tt h_okMode rfl rfl ⟨_, rfl, by first | omega | (simp only [List.length_map]; omega), by assumption, _, _, rfl, rfl, ?_⟩)) <;> (try (conv => whnf))
        all_goals (exact fin_p rfl rfl rfl rfl)





theorem h_ShI : Holds Try.prog 73 (cSh 173) := by
  refine E.mk tt Try.func73 rfl Try.ntmps73 rfl (by kernel_rfl) ?_
  rintro _ K ⟨xs, s, rs, rfl, hl, hok, ⟨hB, rfl⟩ | ⟨hB, ⟨hR, rfl⟩ | ⟨hR, hrs⟩⟩, hK⟩
  · refine ⟨Nat.le_of_ble_eq_true rfl, _, hK, ?_⟩
    (repeat' ((conv => whnf); first
    | refine Sd.mk (by first | omega | (unfold in64; omega) | (simp only [fitK, in64]; omega) | (simp only [fitK, in64, chunk, List.length_map, List.length_append, List.length_replicate, List.length_set, List.length_nil, List.length_cons]; omega)) ?_
    | refine Br.yes rfl ?_
    | refine Br.no rfl ?_
    | refine Br.yes (by first | (simp only [ltB_t, ltB_f, eqB_t, eqB_f, pB_t, pB_f, sEq_t, sEq_f, emp_iff, ne_eq, List.length_map, Bool.not_eq_true, Bool.not_eq_false, Bool.not_eq_eq_eq_not, Bool.not_true, Bool.not_false]; done) | (simp only [ltB_t, ltB_f, eqB_t, eqB_f, pB_t, pB_f, sEq_t, sEq_f, emp_iff, ne_eq, List.length_map, Bool.not_eq_true, Bool.not_eq_false, Bool.not_eq_eq_eq_not, Bool.not_true, Bool.not_false]; omega) | (simp only [ltB_t, ltB_f, eqB_t, eqB_f, pB_t, pB_f, sEq_t, sEq_f, emp_iff, ne_eq, List.length_map, Bool.not_eq_true, Bool.not_eq_false, Bool.not_eq_eq_eq_not, Bool.not_true, Bool.not_false]; assumption)) ?_
    | refine Br.no (by first | (simp only [ltB_t, ltB_f, eqB_t, eqB_f, pB_t, pB_f, sEq_t, sEq_f, emp_iff, ne_eq, List.length_map, Bool.not_eq_true, Bool.not_eq_false, Bool.not_eq_eq_eq_not, Bool.not_true, Bool.not_false]; done) | (simp only [ltB_t, ltB_f, eqB_t, eqB_f, pB_t, pB_f, sEq_t, sEq_f, emp_iff, ne_eq, List.length_map, Bool.not_eq_true, Bool.not_eq_false, Bool.not_eq_eq_eq_not, Bool.not_true, Bool.not_false]; omega) | (simp only [ltB_t, ltB_f, eqB_t, eqB_f, pB_t, pB_f, sEq_t, sEq_f, emp_iff, ne_eq, List.length_map, Bool.not_eq_true, Bool.not_eq_false, Bool.not_eq_eq_eq_not, Bool.not_true, Bool.not_false]; assumption)) ?_
    | (refine Br.mk ?_ ?_ <;> intro h <;> (try simp only [ltB_t, ltB_f, eqB_t, eqB_f, pB_t, pB_f, sEq_t, sEq_f, emp_iff, ne_eq, List.length_map, Bool.not_eq_true, Bool.not_eq_false, Bool.not_eq_eq_eq_not, Bool.not_true, Bool.not_false] at h))
    | refine Ixv.mk (by omega) (ixE (by omega) (by omega)) ?_
    | refine Elt.mk rfl ?_
    | refine Elt.mk (by assumption) ?_
    | refine Elt.mk (ixE (by omega) (by omega)) ?_
    | refine E.call tt h_within rfl rfl ⟨_, _, _, rfl, _, _, rfl, rfl, ?_⟩
    | refine E.call tt h_divRound rfl rfl ⟨_, _, rfl, by omega, by omega, by omega, by omega, _, _, rfl, rfl, ?_⟩
    | refine E.call tt h_listMode rfl rfl ⟨_, rfl, by first | omega | (simp only [List.length_map]; omega), by assumption, _, _, rfl, rfl, ?_⟩
    | refine E.callR tt h_cloneMode rfl rfl ⟨_, rfl, by first | omega | (simp only [List.length_map, List.length_take]; omega), .inl rfl, ?_⟩)) <;> (try (conv => whnf))
    all_goals (exact fin_p rfl rfl rfl rfl)
  · refine ⟨Nat.le_of_ble_eq_true rfl, _, hK, ?_⟩
    (repeat' ((conv => whnf); first
    | refine Sd.mk (by first | omega | (unfold in64; omega) | (simp only [fitK, in64]; omega) | (simp only [fitK, in64, chunk, List.length_map, List.length_append, List.length_replicate, List.length_set, List.length_nil, List.length_cons]; omega)) ?_
    | refine Br.yes rfl ?_
    | refine Br.no rfl ?_
    | refine Br.yes (by first | (simp only [ltB_t, ltB_f, eqB_t, eqB_f, pB_t, pB_f, sEq_t, sEq_f, emp_iff, ne_eq, List.length_map, Bool.not_eq_true, Bool.not_eq_false, Bool.not_eq_eq_eq_not, Bool.not_true, Bool.not_false]; done) | (simp only [ltB_t, ltB_f, eqB_t, eqB_f, pB_t, pB_f, sEq_t, sEq_f, emp_iff, ne_eq, List.length_map, Bool.not_eq_true, Bool.not_eq_false, Bool.not_eq_eq_eq_not, Bool.not_true, Bool.not_false]; omega) | (simp only [ltB_t, ltB_f, eqB_t, eqB_f, pB_t, pB_f, sEq_t, sEq_f, emp_iff, ne_eq, List.length_map, Bool.not_eq_true, Bool.not_eq_false, Bool.not_eq_eq_eq_not, Bool.not_true, Bool.not_false]; assumption)) ?_
    | refine Br.no (by first | (simp only [ltB_t, ltB_f, eqB_t, eqB_f, pB_t, pB_f, sEq_t, sEq_f, emp_iff, ne_eq, List.length_map, Bool.not_eq_true, Bool.not_eq_false, Bool.not_eq_eq_eq_not, Bool.not_true, Bool.not_false]; done) | (simp only [ltB_t, ltB_f, eqB_t, eqB_f, pB_t, pB_f, sEq_t, sEq_f, emp_iff, ne_eq, List.length_map, Bool.not_eq_true, Bool.not_eq_false, Bool.not_eq_eq_eq_not, Bool.not_true, Bool.not_false]; omega) | (simp only [ltB_t, ltB_f, eqB_t, eqB_f, pB_t, pB_f, sEq_t, sEq_f, emp_iff, ne_eq, List.length_map, Bool.not_eq_true, Bool.not_eq_false, Bool.not_eq_eq_eq_not, Bool.not_true, Bool.not_false]; assumption)) ?_
    | (refine Br.mk ?_ ?_ <;> intro h <;> (try simp only [ltB_t, ltB_f, eqB_t, eqB_f, pB_t, pB_f, sEq_t, sEq_f, emp_iff, ne_eq, List.length_map, Bool.not_eq_true, Bool.not_eq_false, Bool.not_eq_eq_eq_not, Bool.not_true, Bool.not_false] at h))
    | refine Ixv.mk (by omega) (ixE (by omega) (by omega)) ?_
    | refine Elt.mk rfl ?_
    | refine Elt.mk (by assumption) ?_
    | refine Elt.mk (ixE (by omega) (by omega)) ?_
    | refine E.call tt h_within rfl rfl ⟨_, _, _, rfl, _, _, rfl, rfl, ?_⟩
    | refine E.call tt h_divRound rfl rfl ⟨_, _, rfl, by omega, by omega, by omega, by omega, _, _, rfl, rfl, ?_⟩
    | refine E.call tt h_listMode rfl rfl ⟨_, rfl, by first | omega | (simp only [List.length_map]; omega), by assumption, _, _, rfl, rfl, ?_⟩
    | refine E.callR tt h_cloneMode rfl rfl ⟨_, rfl, by first | omega | (simp only [List.length_map, List.length_take]; omega), .inl rfl, ?_⟩)) <;> (try (conv => whnf))
    all_goals (exact fin_p rfl rfl rfl rfl)
  · have hln : (xs.map D.Mode.enc).length = xs.length := by simp
    have hle := hB.le
    have hok2 := shM_ok hB hok hR.1 hR.2
    have hl2 : (xs.map (shM s)).length = xs.length := by simp
    refine ⟨Nat.le_of_ble_eq_true rfl, _, hK, ?_⟩
    (repeat' ((conv => whnf); first
    | refine Sd.mk (by first | omega | (unfold in64; omega) | (simp only [fitK, in64]; omega) | (simp only [fitK, in64, chunk, List.length_map, List.length_append, List.length_replicate, List.length_set, List.length_nil, List.length_cons]; omega)) ?_
    | refine Br.yes rfl ?_
    | refine Br.no rfl ?_
    | refine Br.yes (by first | (simp only [ltB_t, ltB_f, eqB_t, eqB_f, pB_t, pB_f, sEq_t, sEq_f, emp_iff, ne_eq, List.length_map, Bool.not_eq_true, Bool.not_eq_false, Bool.not_eq_eq_eq_not, Bool.not_true, Bool.not_false]; done) | (simp only [ltB_t, ltB_f, eqB_t, eqB_f, pB_t, pB_f, sEq_t, sEq_f, emp_iff, ne_eq, List.length_map, Bool.not_eq_true, Bool.not_eq_false, Bool.not_eq_eq_eq_not, Bool.not_true, Bool.not_false]; omega) | (simp only [ltB_t, ltB_f, eqB_t, eqB_f, pB_t, pB_f, sEq_t, sEq_f, emp_iff, ne_eq, List.length_map, Bool.not_eq_true, Bool.not_eq_false, Bool.not_eq_eq_eq_not, Bool.not_true, Bool.not_false]; assumption)) ?_
    | refine Br.no (by first | (simp only [ltB_t, ltB_f, eqB_t, eqB_f, pB_t, pB_f, sEq_t, sEq_f, emp_iff, ne_eq, List.length_map, Bool.not_eq_true, Bool.not_eq_false, Bool.not_eq_eq_eq_not, Bool.not_true, Bool.not_false]; done) | (simp only [ltB_t, ltB_f, eqB_t, eqB_f, pB_t, pB_f, sEq_t, sEq_f, emp_iff, ne_eq, List.length_map, Bool.not_eq_true, Bool.not_eq_false, Bool.not_eq_eq_eq_not, Bool.not_true, Bool.not_false]; omega) | (simp only [ltB_t, ltB_f, eqB_t, eqB_f, pB_t, pB_f, sEq_t, sEq_f, emp_iff, ne_eq, List.length_map, Bool.not_eq_true, Bool.not_eq_false, Bool.not_eq_eq_eq_not, Bool.not_true, Bool.not_false]; assumption)) ?_
    | (refine Br.mk ?_ ?_ <;> intro h <;> (try simp only [ltB_t, ltB_f, eqB_t, eqB_f, pB_t, pB_f, sEq_t, sEq_f, emp_iff, ne_eq, List.length_map, Bool.not_eq_true, Bool.not_eq_false, Bool.not_eq_eq_eq_not, Bool.not_true, Bool.not_false] at h))
    | refine Ixv.mk (by omega) (ixE (by omega) (by omega)) ?_
    | refine Elt.mk rfl ?_
    | refine Elt.mk (by assumption) ?_
    | refine Elt.mk (ixE (by omega) (by omega)) ?_
    | refine E.call tt h_within rfl rfl ⟨_, _, _, rfl, _, _, rfl, rfl, ?_⟩
    | refine E.call tt h_divRound rfl rfl ⟨_, _, rfl, by omega, by omega, by omega, by omega, _, _, rfl, rfl, ?_⟩
    | refine E.call tt h_listMode rfl rfl ⟨_, rfl, by first | omega | (simp only [List.length_map]; omega), by assumption, _, _, rfl, rfl, ?_⟩
    | refine E.callR tt h_cloneMode rfl rfl ⟨_, rfl, by first | omega | (simp only [List.length_map, List.length_take]; omega), .inl rfl, ?_⟩)) <;> (try (conv => whnf))
    refine E.loop tt (fun i : Int => 0 ≤ i ∧ i ≤ xs.length) (fun i => ⟨38, 2, [(1, .p (I s)), (6, .own 1), (17, .p (I (xs.map D.Mode.enc).length)), (18, .p (I i))], [(1, ⟨173, 3, (mpx (shM s) xs i).map D.Mode.enc⟩)]⟩) (fun i => (xs.length - i).toNat) 0 ⟨by omega, by omega⟩ ⟨rfl, ⟨rfl, rfl, rfl, rfl, trivial⟩, ⟨congrArg some (rowEq (by rw [mpx_zero] <;> rfl)), trivial⟩, rfl, rfl⟩ ?_
    rintro i ⟨hi0, hi1⟩
    have hul2 := mpx_length (shM s) xs hi1 hi0
    have hul : ((mpx (shM s) xs i).map D.Mode.enc).length = xs.length := by rw [List.length_map, hul2]
    rcases Int.lt_or_le i xs.length with hlt | hge
    · have hg := mpx_get (f := shM s) (enc := D.Mode.enc) hi0 hlt
      have hse := mpx_set (f := shM s) (enc := D.Mode.enc) hi0 hlt
      have hb := shM_bd (hB.at hi0 hlt) hR.1 hR.2
      (repeat' ((conv => whnf); first
    | refine Sd.mk (by first | omega | (unfold in64; omega) | (simp only [fitK, in64]; omega) | (simp only [fitK, in64, chunk, List.length_map, List.length_append, List.length_replicate, List.length_set, List.length_nil, List.length_cons]; omega)) ?_
    | refine Br.yes rfl ?_
    | refine Br.no rfl ?_
    | refine Br.yes (by first | (simp only [ltB_t, ltB_f, eqB_t, eqB_f, pB_t, pB_f, sEq_t, sEq_f, emp_iff, ne_eq, List.length_map, Bool.not_eq_true, Bool.not_eq_false, Bool.not_eq_eq_eq_not, Bool.not_true, Bool.not_false]; done) | (simp only [ltB_t, ltB_f, eqB_t, eqB_f, pB_t, pB_f, sEq_t, sEq_f, emp_iff, ne_eq, List.length_map, Bool.not_eq_true, Bool.not_eq_false, Bool.not_eq_eq_eq_not, Bool.not_true, Bool.not_false]; omega) | (simp only [ltB_t, ltB_f, eqB_t, eqB_f, pB_t, pB_f, sEq_t, sEq_f, emp_iff, ne_eq, List.length_map, Bool.not_eq_true, Bool.not_eq_false, Bool.not_eq_eq_eq_not, Bool.not_true, Bool.not_false]; assumption)) ?_
    | refine Br.no (by first | (simp only [ltB_t, ltB_f, eqB_t, eqB_f, pB_t, pB_f, sEq_t, sEq_f, emp_iff, ne_eq, List.length_map, Bool.not_eq_true, Bool.not_eq_false, Bool.not_eq_eq_eq_not, Bool.not_true, Bool.not_false]; done) | (simp only [ltB_t, ltB_f, eqB_t, eqB_f, pB_t, pB_f, sEq_t, sEq_f, emp_iff, ne_eq, List.length_map, Bool.not_eq_true, Bool.not_eq_false, Bool.not_eq_eq_eq_not, Bool.not_true, Bool.not_false]; omega) | (simp only [ltB_t, ltB_f, eqB_t, eqB_f, pB_t, pB_f, sEq_t, sEq_f, emp_iff, ne_eq, List.length_map, Bool.not_eq_true, Bool.not_eq_false, Bool.not_eq_eq_eq_not, Bool.not_true, Bool.not_false]; assumption)) ?_
    | (refine Br.mk ?_ ?_ <;> intro h <;> (try simp only [ltB_t, ltB_f, eqB_t, eqB_f, pB_t, pB_f, sEq_t, sEq_f, emp_iff, ne_eq, List.length_map, Bool.not_eq_true, Bool.not_eq_false, Bool.not_eq_eq_eq_not, Bool.not_true, Bool.not_false] at h))
    | refine Ixv.mk (by omega) (ixE (by omega) (by omega)) ?_
    | refine Elt.mk rfl ?_
    | refine Elt.mk (by assumption) ?_
    | refine Elt.mk (ixE (by omega) (by omega)) ?_
    | refine E.call tt h_within rfl rfl ⟨_, _, _, rfl, _, _, rfl, rfl, ?_⟩
    | refine E.call tt h_divRound rfl rfl ⟨_, _, rfl, by omega, by omega, by omega, by omega, _, _, rfl, rfl, ?_⟩
    | refine E.call tt h_listMode rfl rfl ⟨_, rfl, by first | omega | (simp only [List.length_map]; omega), by assumption, _, _, rfl, rfl, ?_⟩
    | refine E.callR tt h_cloneMode rfl rfl ⟨_, rfl, by first | omega | (simp only [List.length_map, List.length_take]; omega), .inl rfl, ?_⟩)) <;> (try (conv => whnf))
      all_goals (refine ⟨i + 1, ⟨by omega, by omega⟩, by dsimp only; omega, ⟨rfl, ⟨rfl, rfl, rfl, rfl, trivial⟩, ⟨congrArg some (rowEq hse), trivial⟩, rfl, rfl⟩⟩)
    · have hie : i = xs.length := by omega
      subst hie
      rw [mpx_full]
      rcases hrs with ⟨h, rfl⟩ | ⟨h, rfl⟩
      · (repeat' ((conv => whnf); first
    | refine Sd.mk (by first | omega | (unfold in64; omega) | (simp only [fitK, in64]; omega) | (simp only [fitK, in64, chunk, List.length_map, List.length_append, List.length_replicate, List.length_set, List.length_nil, List.length_cons]; omega)) ?_
    | refine Br.yes rfl ?_
    | refine Br.no rfl ?_
    | refine Br.yes (by first | (simp only [ltB_t, ltB_f, eqB_t, eqB_f, pB_t, pB_f, sEq_t, sEq_f, emp_iff, ne_eq, List.length_map, Bool.not_eq_true, Bool.not_eq_false, Bool.not_eq_eq_eq_not, Bool.not_true, Bool.not_false]; done) | (simp only [ltB_t, ltB_f, eqB_t, eqB_f, pB_t, pB_f, sEq_t, sEq_f, emp_iff, ne_eq, List.length_map, Bool.not_eq_true, Bool.not_eq_false, Bool.not_eq_eq_eq_not, Bool.not_true, Bool.not_false]; omega) | (simp only [ltB_t, ltB_f, eqB_t, eqB_f, pB_t, pB_f, sEq_t, sEq_f, emp_iff, ne_eq, List.length_map, Bool.not_eq_true, Bool.not_eq_false, Bool.not_eq_eq_eq_not, Bool.not_true, Bool.not_false]; assumption)) ?_
    | refine Br.no (by first | (simp only [ltB_t, ltB_f, eqB_t, eqB_f, pB_t, pB_f, sEq_t, sEq_f, emp_iff, ne_eq, List.length_map, Bool.not_eq_true, Bool.not_eq_false, Bool.not_eq_eq_eq_not, Bool.not_true, Bool.not_false]; done) | (simp only [ltB_t, ltB_f, eqB_t, eqB_f, pB_t, pB_f, sEq_t, sEq_f, emp_iff, ne_eq, List.length_map, Bool.not_eq_true, Bool.not_eq_false, Bool.not_eq_eq_eq_not, Bool.not_true, Bool.not_false]; omega) | (simp only [ltB_t, ltB_f, eqB_t, eqB_f, pB_t, pB_f, sEq_t, sEq_f, emp_iff, ne_eq, List.length_map, Bool.not_eq_true, Bool.not_eq_false, Bool.not_eq_eq_eq_not, Bool.not_true, Bool.not_false]; assumption)) ?_
    | (refine Br.mk ?_ ?_ <;> intro h <;> (try simp only [ltB_t, ltB_f, eqB_t, eqB_f, pB_t, pB_f, sEq_t, sEq_f, emp_iff, ne_eq, List.length_map, Bool.not_eq_true, Bool.not_eq_false, Bool.not_eq_eq_eq_not, Bool.not_true, Bool.not_false] at h))
    | refine Ixv.mk (by omega) (ixE (by omega) (by omega)) ?_
    | refine Elt.mk rfl ?_
    | refine Elt.mk (by assumption) ?_
    | refine Elt.mk (ixE (by omega) (by omega)) ?_
    | refine E.call tt h_within rfl rfl ⟨_, _, _, rfl, _, _, rfl, rfl, ?_⟩
    | refine E.call tt h_divRound rfl rfl ⟨_, _, rfl, by omega, by omega, by omega, by omega, _, _, rfl, rfl, ?_⟩
    | refine E.call tt h_listMode rfl rfl ⟨_, rfl, by first | omega | (simp only [List.length_map]; omega), by assumption, _, _, rfl, rfl, ?_⟩
    | refine E.callR tt h_cloneMode rfl rfl ⟨_, rfl, by first | omega | (simp only [List.length_map, List.length_take]; omega), .inl rfl, ?_⟩)) <;> (try (conv => whnf))
        all_goals (exact fin_p rfl rfl rfl rfl)
      · (repeat' ((conv => whnf); first
    | refine Sd.mk (by first | omega | (unfold in64; omega) | (simp only [fitK, in64]; omega) | (simp only [fitK, in64, chunk, List.length_map, List.length_append, List.length_replicate, List.length_set, List.length_nil, List.length_cons]; omega)) ?_
    | refine Br.yes rfl ?_
    | refine Br.no rfl ?_
    | refine Br.yes (by first | (simp only [ltB_t, ltB_f, eqB_t, eqB_f, pB_t, pB_f, sEq_t, sEq_f, emp_iff, ne_eq, List.length_map, Bool.not_eq_true, Bool.not_eq_false, Bool.not_eq_eq_eq_not, Bool.not_true, Bool.not_false]; done) | (simp only [ltB_t, ltB_f, eqB_t, eqB_f, pB_t, pB_f, sEq_t, sEq_f, emp_iff, ne_eq, List.length_map, Bool.not_eq_true, Bool.not_eq_false, Bool.not_eq_eq_eq_not, Bool.not_true, Bool.not_false]; omega) | (simp only [ltB_t, ltB_f, eqB_t, eqB_f, pB_t, pB_f, sEq_t, sEq_f, emp_iff, ne_eq, List.length_map, Bool.not_eq_true, Bool.not_eq_false, Bool.not_eq_eq_eq_not, Bool.not_true, Bool.not_false]; assumption)) ?_
    | refine Br.no (by first | (simp only [ltB_t, ltB_f, eqB_t, eqB_f, pB_t, pB_f, sEq_t, sEq_f, emp_iff, ne_eq, List.length_map, Bool.not_eq_true, Bool.not_eq_false, Bool.not_eq_eq_eq_not, Bool.not_true, Bool.not_false]; done) | (simp only [ltB_t, ltB_f, eqB_t, eqB_f, pB_t, pB_f, sEq_t, sEq_f, emp_iff, ne_eq, List.length_map, Bool.not_eq_true, Bool.not_eq_false, Bool.not_eq_eq_eq_not, Bool.not_true, Bool.not_false]; omega) | (simp only [ltB_t, ltB_f, eqB_t, eqB_f, pB_t, pB_f, sEq_t, sEq_f, emp_iff, ne_eq, List.length_map, Bool.not_eq_true, Bool.not_eq_false, Bool.not_eq_eq_eq_not, Bool.not_true, Bool.not_false]; assumption)) ?_
    | (refine Br.mk ?_ ?_ <;> intro h <;> (try simp only [ltB_t, ltB_f, eqB_t, eqB_f, pB_t, pB_f, sEq_t, sEq_f, emp_iff, ne_eq, List.length_map, Bool.not_eq_true, Bool.not_eq_false, Bool.not_eq_eq_eq_not, Bool.not_true, Bool.not_false] at h))
    | refine Ixv.mk (by omega) (ixE (by omega) (by omega)) ?_
    | refine Elt.mk rfl ?_
    | refine Elt.mk (by assumption) ?_
    | refine Elt.mk (ixE (by omega) (by omega)) ?_
    | refine E.call tt h_within rfl rfl ⟨_, _, _, rfl, _, _, rfl, rfl, ?_⟩
    | refine E.call tt h_divRound rfl rfl ⟨_, _, rfl, by omega, by omega, by omega, by omega, _, _, rfl, rfl, ?_⟩
    | refine E.call tt h_listMode rfl rfl ⟨_, rfl, by first | omega | (simp only [List.length_map]; omega), by assumption, _, _, rfl, rfl, ?_⟩
    | refine E.callR tt h_cloneMode rfl rfl ⟨_, rfl, by first | omega | (simp only [List.length_map, List.length_take]; omega), .inl rfl, ?_⟩)) <;> (try (conv => whnf))
        all_goals (exact fin_p rfl rfl rfl rfl)





set_option maxHeartbeats 4000000 in
theorem h_lawShiftModes : Holds Try.prog 14 (fun args K => ∃ (a0 : List D.Mode) (a1 : Int), args = [.view 3 (a0.map D.Mode.enc), I a1] ∧ ((a0.length : Int) ≤ 9223372036854775807 ∧ (∀ x ∈ a0, x.ok)) ∧ (in64 a1) ∧ K [.p (.bool true)]) := by
  refine E.mk tt Try.func14 rfl Try.ntmps14 rfl (by kernel_rfl) ?_
  rintro _ K ⟨xs, s, rfl, ⟨hl, hok⟩, hs, hK⟩
  have hl2 : (xs.map (shM s)).length = xs.length := by simp
  refine ⟨Nat.le_of_ble_eq_true rfl, _, hK, ?_⟩
  rcases cases3 (ModesOk xs) (1 ≤ s ∧ s ≤ 3000) (ModesOk (xs.map (shM s))) with hB | ⟨hB, hR⟩ | ⟨hB, hR, hT⟩ | ⟨hB, hR, hT⟩
  all_goals (try have hle := hB.le)
  all_goals ((repeat' ((conv => whnf); first
    | refine Sd.mk (by first | omega | (unfold in64; omega) | (simp only [fitK, in64]; omega) | (simp only [fitK, in64, chunk, List.length_map, List.length_append, List.length_replicate, List.length_set, List.length_nil, List.length_cons]; omega)) ?_
    | refine Br.yes rfl ?_
    | refine Br.no rfl ?_
    | refine Br.yes (by first | (simp only [ltB_t, ltB_f, eqB_t, eqB_f, pB_t, pB_f, sEq_t, sEq_f, emp_iff, ne_eq, List.length_map, Bool.not_eq_true, Bool.not_eq_false, Bool.not_eq_eq_eq_not, Bool.not_true, Bool.not_false]; done) | (simp only [ltB_t, ltB_f, eqB_t, eqB_f, pB_t, pB_f, sEq_t, sEq_f, emp_iff, ne_eq, List.length_map, Bool.not_eq_true, Bool.not_eq_false, Bool.not_eq_eq_eq_not, Bool.not_true, Bool.not_false]; omega) | (simp only [ltB_t, ltB_f, eqB_t, eqB_f, pB_t, pB_f, sEq_t, sEq_f, emp_iff, ne_eq, List.length_map, Bool.not_eq_true, Bool.not_eq_false, Bool.not_eq_eq_eq_not, Bool.not_true, Bool.not_false]; assumption)) ?_
    | refine Br.no (by first | (simp only [ltB_t, ltB_f, eqB_t, eqB_f, pB_t, pB_f, sEq_t, sEq_f, emp_iff, ne_eq, List.length_map, Bool.not_eq_true, Bool.not_eq_false, Bool.not_eq_eq_eq_not, Bool.not_true, Bool.not_false]; done) | (simp only [ltB_t, ltB_f, eqB_t, eqB_f, pB_t, pB_f, sEq_t, sEq_f, emp_iff, ne_eq, List.length_map, Bool.not_eq_true, Bool.not_eq_false, Bool.not_eq_eq_eq_not, Bool.not_true, Bool.not_false]; omega) | (simp only [ltB_t, ltB_f, eqB_t, eqB_f, pB_t, pB_f, sEq_t, sEq_f, emp_iff, ne_eq, List.length_map, Bool.not_eq_true, Bool.not_eq_false, Bool.not_eq_eq_eq_not, Bool.not_true, Bool.not_false]; assumption)) ?_
    | (refine Br.mk ?_ ?_ <;> intro h <;> (try simp only [ltB_t, ltB_f, eqB_t, eqB_f, pB_t, pB_f, sEq_t, sEq_f, emp_iff, ne_eq, List.length_map, Bool.not_eq_true, Bool.not_eq_false, Bool.not_eq_eq_eq_not, Bool.not_true, Bool.not_false] at h))
    | refine Elt.mk rfl ?_
    | refine Elt.mk (by assumption) ?_
    | refine Elt.mk (ixE (by omega) (by omega)) ?_
    | (refine E.call tt h_szModeS rfl rfl ⟨_, _, rfl, by omega, by assumption, by omega, by omega, fun rz hrz hrz2 => ⟨_, _, rfl, rfl, ?_⟩⟩)
    | refine E.callR tt h_ShS rfl rfl ⟨_, _, _, rfl, by omega, by assumption, .inr ⟨by assumption, .inr ⟨by assumption, .inr ⟨by assumption, rfl⟩⟩⟩, .inr (rv2 (sc_map D.Mode.enc_sc) rfl), ?_⟩
    | refine E.callR tt h_ShS rfl rfl ⟨_, _, _, rfl, by omega, by assumption, .inr ⟨by assumption, .inr ⟨by assumption, .inl ⟨by assumption, rfl⟩⟩⟩, .inr (allSc_ok _ rfl), ?_⟩
    | refine E.callR tt h_ShS rfl rfl ⟨_, _, _, rfl, by omega, by assumption, .inr ⟨by assumption, .inl ⟨by assumption, rfl⟩⟩, .inr (allSc_ok _ rfl), ?_⟩
    | refine E.callR tt h_ShS rfl rfl ⟨_, _, _, rfl, by omega, by assumption, .inl ⟨by assumption, rfl⟩, .inr (allSc_ok _ rfl), ?_⟩
    | refine E.callR tt h_toModeS rfl rfl ⟨_, rfl, by omega, .inl rfl, ?_⟩
    | refine E.callR tt h_ShI rfl rfl ⟨_, _, _, rfl, by omega, by assumption, .inr ⟨by assumption, .inr ⟨by assumption, .inr ⟨by assumption, rfl⟩⟩⟩, .inr (rv2 (sc_map D.Mode.enc_sc) rfl), ?_⟩
    | refine E.callR tt h_ShI rfl rfl ⟨_, _, _, rfl, by omega, by assumption, .inr ⟨by assumption, .inr ⟨by assumption, .inl ⟨by assumption, rfl⟩⟩⟩, .inr (allSc_ok _ rfl), ?_⟩
    | refine E.callR tt h_ShI rfl rfl ⟨_, _, _, rfl, by omega, by assumption, .inr ⟨by assumption, .inl ⟨by assumption, rfl⟩⟩, .inr (allSc_ok _ rfl), ?_⟩
    | refine E.callR tt h_ShI rfl rfl ⟨_, _, _, rfl, by omega, by assumption, .inl ⟨by assumption, rfl⟩, .inr (allSc_ok _ rfl), ?_⟩
    | refine E.call tt h_eqModeS rfl rfl ⟨_, _, rfl, by omega, _, _, rfl, rfl, ?_⟩
    | refine E.call tt (h_eqModeS.nilV [3, 3]) rfl rfl ⟨[], [], rfl, by decide, _, _, rfl, rfl, ?_⟩
    | refine E.callM tt h_markModeS rfl rfl rfl rfl rfl rfl ⟨_, _, rfl, rfl, by omega, by omega, by omega, rfl, _, rfl, by simp [mkl_length], ?_⟩
    | refine E.call tt (h_markModeSN.nilV [3]) rfl rfl ⟨_, rfl, by unfold in64; omega, _, _, rfl, rfl, ?_⟩
    | refine E.call tt h_heldModeS rfl rfl ⟨_, _, rfl, by omega, by omega, by omega, _, _, rfl, rfl, ?_⟩
    | refine E.call tt (h_heldModeS.nilV [3]) rfl rfl ⟨0, _, rfl, by decide, by omega, by omega, _, _, rfl, rfl, ?_⟩)) <;> (try (conv => whnf)))
  all_goals exact fin_p rfl rfl rfl rfl

end Go.Proofs.Ytbhamhfiiafplaa
namespace Go.Proofs.Ytbhamhfiiafplaa
open Go.ChangeShapes Go.WideShapes Go.ChangeAt Go.RowKit Go.Lo
open Go.ChangeMaps (open_string shut_string)
theorem shiftModes_own : ownKnob Try.prog.godebug = none := by kernel_rfl
theorem shiftModes_laidOut : laidOutB Try.prog = true := by kernel_rfl
theorem shiftModes_rd_Mode : Reads Try.prog 171 3 (fun p => ∃ x : D.Mode, p = x.enc ∧ x.ok) :=
  (reads_struct Try.underlying171 [(1, _), (1, _), (1, _)] ⟨rfl, by kernel_rfl, reads_str Try.underlying9, rfl, by kernel_rfl, reads_int Try.underlying2, rfl, by kernel_rfl, reads_int Try.underlying2, trivial⟩ (by kernel_rfl)).mono fun p h => by
    obtain ⟨_, _, rfl, _, ⟨n0, rfl, h0⟩, _, _, rfl, _, ⟨n1, rfl, h1⟩, _, _, rfl, _, ⟨n2, rfl, h2⟩, rfl⟩ := h
    exact ⟨⟨n0, n1, n2⟩, rfl, by unfold D.Mode.ok; exact ⟨h0, h1, h2⟩⟩
theorem shiftModes_lifted (os : Os) (started : os.Started) (H : Type) (enc : TypeId × Value → H) :
    ReturnsInHanded {} Try.checked os 14 .any (Rows.fnExactShiftModesSpec.pre6 enc Try.prog Try.f14 Rows.fnExactShiftModesRow.domain false) (Rows.fnExactShiftModesSpec.post enc Try.prog Try.f14 false true false false) := by
  refine returnsInHanded_of_change (C := Try.checked) shiftModes_own started (by kernel_rfl) Try.func14
    (ChangeSpec.witness6 (enc := enc) (C := Try.checked) false ⟨#[], #[.slice none 0 0, .int .i64 0], []⟩ 8 (by kernel_rfl) (by kernel_rfl) (by kernel_rfl) (by kernel_rfl)) ?_
  intro W base args ds gs before hval0 hW hcnd _
  have hval : ∀ (j : Nat) t v, Try.f14.params[j]? = some t → args[j]? = some v → Value.okWide Try.prog W .any base t v := hval0
  have hW' := hW
  obtain ⟨p, q, hA0, hV, rfl, hfz, hnd⟩ := hW
  have hA : DataW.TrodAll enc Try.prog W 0 (fun _ => true) true Try.f14.params.toList args.toList ds p := hA0
  rw [Try.params14] at hA hval
  obtain ⟨v0, vs0, d0, ds0, p0, q0, hargs, rfl, rfl, h0, r0⟩ := trodAll_cons hA
  obtain ⟨v1, vs1, d1, ds1, p1, q1, rfl, rfl, rfl, h1, r1⟩ := trodAll_cons r0
  obtain ⟨rfl, rfl, rfl⟩ := trodAll_nil r1
  obtain rfl : args = #[v0, v1] := by cases args; simp_all
  obtain ⟨rfl, rfl⟩ := trodVars_none hV
  have lt0 : ∀ x ∈ p0, x.block < W.heap.size := by obtain ⟨m, hm⟩ := h0; exact DataW.trod_lt m _ _ _ hm
  have lt1 : ∀ x ∈ p1, x.block < W.heap.size := by obtain ⟨m, hm⟩ := h1; exact DataW.trod_lt m _ _ _ hm
  obtain ⟨y0, hy0, a0, e0, c0, d0⟩ := (reads_list Try.underlying97 shiftModes_rd_Mode (by kernel_rfl) (by decide)).arg h0 (by obtain ⟨a, l, c, rfl⟩ := okWide_slice Try.underlying97 (hval 0 97 v0 rfl rfl); rfl)
  obtain ⟨y1, hy1, a1, e1, c1⟩ := (reads_int Try.underlying2).arg h1 (by obtain ⟨x, rfl, _⟩ := open_int Try.underlying2 (hval 1 2 v1 rfl rfl) h1; rfl)
  cases e0
  cases e1
  obtain ⟨rs, hro, hrs⟩ := h_lawShiftModes.2 [.view 3 (a0.map D.Mode.enc), I a1] (fun rs => rs = [.p (.bool true)]) ⟨a0, a1, rfl, ⟨c0, d0⟩, c1, rfl⟩
  subst hrs
  have hAr : ArgsR W (fun _ => True) [.view 3 (a0.map D.Mode.enc), I a1] #[v0, v1] := ⟨rfl, fun i m u hm hu => by
    match i, hm, hu with
    | 0, hm, hu => simp at hm hu; subst hm; subst hu; exact hy0.mono fun b hb => ⟨⟨hb, trivial⟩, rfl⟩
    | 1, hm, hu => simp at hm hu; subst hm; subst hu; exact hy1.mono fun b hb => ⟨⟨hb, trivial⟩, rfl⟩⟩
  refine (hro W _ _ hAr).mono fun e W' ⟨v, he, ⟨bl, cp, hr⟩, bel⟩ => ?_
  have hvv := hr.one _ rfl
  simp only [R1] at hvv
  have hvv := VR.of_val (u := .bool true) rfl hvv
  subst hvv
  subst he
  exact ⟨_, rfl, _, _, _, [], _, [], hW', trodAll_mk1 (shut_bool Try.underlying4 _), (trodAll_cons_mk (Below.trod shiftModes_laidOut (by kernel_rfl) (of_decide_eq_true (by kernel_rfl)) h0 bel lt0) (trodAll_cons_mk (Below.trod shiftModes_laidOut (by kernel_rfl) (of_decide_eq_true (by kernel_rfl)) h1 bel lt1) trodAll_mk0)), rfl, bel.frame _, fun h => by cases h⟩
theorem shiftModes_proved : Rows.FnExactShiftModesSaid :=
  OpenClaim.holds_of_wide 14 Try.f14 rfl rfl rfl rfl rfl rfl rfl ⟨rfl, rfl, rfl, rfl, rfl⟩ rfl rfl rfl rfl rfl (by kernel_rfl) Try.func14 (by kernel_rfl)
    (of_decide_eq_true (by kernel_rfl)) (by unfold Func.isWrapper; first | (rw [if_pos (by decide +kernel)]; kernel_rfl) | (rw [if_neg (by decide +kernel)]; exact ⟨rfl, rfl⟩))
    (fun os started H enc _ => shiftModes_lifted os started H enc)
#print axioms shiftModes_proved
end Go.Proofs.Ytbhamhfiiafplaa
