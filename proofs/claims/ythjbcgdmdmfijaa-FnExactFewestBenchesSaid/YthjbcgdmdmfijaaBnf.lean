/- Contracts (Bnf). -/
import Derived.Test.YthjbcgdmdmfijaaBne
set_option linter.unusedVariables false
set_option linter.unusedSimpArgs false
set_option maxRecDepth 100000
namespace Go.Lo
-- deps: Bne
def mrQ (ty : Nat) (xs : List D.Work) (pv : Value) (nd bud : Int) (fl : Bool) : Row := ⟨ty, 5, [[.view 4 (xs.map D.Work.enc), .raw pv, I nd, I bud, .bool fl]]⟩
def cPlS (ty e e2 d : Nat) : YCt := fun me args X K => ∃ (xs : List D.Work) (bud : Int) (pv : Value) (ds : List Dn) (s : Ps) (a : Int), me = .pt (mrQ ty xs pv s.nodes bud false) ∧ args = [I a] ∧ PlX e e2 X pv ds s.plan ∧ WorksOk xs ∧ (0 ≤ a ∧ a + d = xs.length) ∧ psOk bud s.plan.length s ∧ s.plan.length ≤ 6 ∧ bud ≤ 20000 ∧ s.found = false ∧ s.full = false ∧
  ∀ X' ds' pl', rawE ds' = rawE ds → PlX e e2 X' pv ds' pl' → ((psR xs bud d a s).full = false → pl' = (psR xs bud d a s).plan) → K (some (mrQ ty xs pv (psR xs bud d a s).nodes bud (psR xs bud d a s).full)) X' [.p (.bool (psR xs bud d a s).found)]
theorem PlX.shape {e e2 : Nat} {X X' : Frag} {pv pv' : Value} {ds ds' : List Dn} {pl pl' : List (List Int)} (h : PlX e e2 X pv ds pl) (h' : PlX e e2 X' pv' ds' pl') (hr : rawE ds' = rawE ds) (hl : ∀ r ∈ pl, r.length = 40) : pl'.length = pl.length ∧ ∀ r ∈ pl', r.length = 40 := by
  have hlen : ds'.length = ds.length := by have := congrArg List.length hr; simpa [rawE] using this
  refine ⟨by rw [← h.rows.ls, ← h'.rows.ls]; simp [hlen], fun r hm => ?_⟩
  rw [← h'.rows.ls] at hm
  obtain ⟨dd, hd, rfl⟩ := List.mem_map.1 hm
  obtain ⟨j, hj, rfl⟩ := List.mem_iff_getElem.1 hd
  have e1 := hdr_eq hr hj (by omega)
  unfold Dn.hdr at e1
  simp only [Value.slice.injEq] at e1
  rw [e1.2.1]
  exact hl _ (by rw [← h.rows.ls]; exact List.mem_map.2 ⟨_, List.getElem_mem (by omega), rfl⟩)
theorem FV.openAt {e b n c : Nat} {X : Frag} {els : List (List PV)} (h : FV e X (.slice (some ⟨b, 0, none⟩) n c) els) (h0 : 0 < els.length) : n = els.length ∧ ∃ C, X b = some (.cells C e (0, 0)) ∧ RowC C c ⟨e, 1, els⟩ := by
  obtain ⟨b', c', C, hv, hx, hC⟩ := h.open h0
  cases hv
  exact ⟨rfl, C, hx, hC⟩
/-- The state of the spec's search: it goes as the model does, or its budget is spent and the model has ended. -/
def Qi (R : Ps) (bud : Int) (N : Nat) (m s : Ps) : Prop := (s.full = false ∧ s.found = false ∧ s = m ∧ psOk bud N s) ∨ (s.full = true ∧ ∃ p, R = ⟨s.nodes, p, false, true⟩)
theorem sI_zero (xs : List D.Work) (bud : Int) (d : Nat) (a b : Int) (s : Ps) : sI xs bud d a b s 0 = s := it_zero _ _
end Go.Lo
namespace Go.Proofs.Ythjbcgdmdmfijaa
open Go.Lo
attribute [local irreducible] W Wc



theorem h_ps0 : YHolds Try.prog 116 (cPlS 160 2 24 0) := by
  refine E.mkY tt Try.func116 rfl Try.ntmps116 rfl (by kernel_rfl) ?_
  rintro _ _ X K ⟨xs, bud, pv, ds, ⟨nd, plan, fo, fl⟩, a, rfl, rfl, hP, hB, ⟨ha, had⟩, hs, hpl, hbud, hfo, hfl, hK⟩
  dsimp only at hfo hfl
  subst hfo hfl
  have hln : (xs.map D.Work.enc).length = xs.length := by simp
  have hle := hB.le
  refine ⟨Nat.le_of_ble_eq_true rfl, ?_⟩
  (repeat' ((conv => whnf); first
    | refine Sd.mk (by first | omega | (unfold in64; omega) | (simp only [fitK, in64]; omega) | (simp only [fitK, in64, chunk, List.length_map, List.length_append, List.length_replicate, List.length_set, List.length_nil, List.length_cons]; omega)) ?_
    | refine Br.yes rfl ?_
    | refine Br.no rfl ?_
    | refine Br.yes (by first | (simp only [ltB_t, ltB_f, eqB_t, eqB_f, pB_t, pB_f, sEq_t, sEq_f, emp_iff, ne_eq, List.length_map, Bool.not_eq_true, Bool.not_eq_false, Bool.not_eq_eq_eq_not, Bool.not_true, Bool.not_false]; done) | (simp only [ltB_t, ltB_f, eqB_t, eqB_f, pB_t, pB_f, sEq_t, sEq_f, emp_iff, ne_eq, List.length_map, Bool.not_eq_true, Bool.not_eq_false, Bool.not_eq_eq_eq_not, Bool.not_true, Bool.not_false]; omega) | (simp only [ltB_t, ltB_f, eqB_t, eqB_f, pB_t, pB_f, sEq_t, sEq_f, emp_iff, ne_eq, List.length_map, Bool.not_eq_true, Bool.not_eq_false, Bool.not_eq_eq_eq_not, Bool.not_true, Bool.not_false]; assumption)) ?_
    | refine Br.no (by first | (simp only [ltB_t, ltB_f, eqB_t, eqB_f, pB_t, pB_f, sEq_t, sEq_f, emp_iff, ne_eq, List.length_map, Bool.not_eq_true, Bool.not_eq_false, Bool.not_eq_eq_eq_not, Bool.not_true, Bool.not_false]; done) | (simp only [ltB_t, ltB_f, eqB_t, eqB_f, pB_t, pB_f, sEq_t, sEq_f, emp_iff, ne_eq, List.length_map, Bool.not_eq_true, Bool.not_eq_false, Bool.not_eq_eq_eq_not, Bool.not_true, Bool.not_false]; omega) | (simp only [ltB_t, ltB_f, eqB_t, eqB_f, pB_t, pB_f, sEq_t, sEq_f, emp_iff, ne_eq, List.length_map, Bool.not_eq_true, Bool.not_eq_false, Bool.not_eq_eq_eq_not, Bool.not_true, Bool.not_false]; assumption)) ?_
    | (refine Br.mk ?_ ?_ <;> intro h <;> (try simp only [ltB_t, ltB_f, eqB_t, eqB_f, pB_t, pB_f, sEq_t, sEq_f, emp_iff, ne_eq, List.length_map, Bool.not_eq_true, Bool.not_eq_false, Bool.not_eq_eq_eq_not, Bool.not_true, Bool.not_false] at h))
    | refine Ixv.mk (by omega) (ixE (by omega) (by omega)) ?_
    | refine Elt.mk rfl ?_
    | refine Elt.mk (by assumption) ?_
    | refine Elt.mk (ixE (by omega) (by omega)) ?_
    | (fail "callY")
    | refine E.regionQ tt (id := 8) mixed (by decide +kernel) ?_
    | refine E.regionQ tt (id := 10) mixed (by decide +kernel) ?_
    | refine E.regionQ tt (id := 11) mixed (by decide +kernel) ?_
    | refine E.regionT tt (id := 16) 14 mixed (by decide +kernel) ?_
    | refine E.regionFY tt (id := 16) [0, 1, 2, 4, 7, 8, 9, 10, 12, 13] 5 (.nd [(3, .nd [(5, .nd [(6, .nd [(11, .nd [(14, .nd [])])]), (11, .nd [(6, .nd [(14, .nd [])])])]), (11, .nd [(5, .nd [(6, .nd [(14, .nd [])])])])]), (11, .nd [(3, .nd [(5, .nd [(6, .nd [(14, .nd [])])])])])]) mixed (by decide +kernel) ?_
    | refine Bo.mk ?_ ?_
    | refine E.regionT tt (id := 19) 12 mixed (by decide +kernel) ?_
    | refine E.regionFY tt (id := 19) [0, 1, 2, 4, 7, 8, 9, 10] 5 (.nd [(3, .nd [(5, .nd [(6, .nd [(11, .nd [(12, .nd [])])]), (11, .nd [(6, .nd [(12, .nd [])])])]), (11, .nd [(5, .nd [(6, .nd [(12, .nd [])])])])]), (11, .nd [(3, .nd [(5, .nd [(6, .nd [(12, .nd [])])])])])]) mixed (by decide +kernel) ?_
    | refine Bo.mk ?_ ?_)) <;> (try (conv => whnf))
  all_goals first
    | (exfalso; omega)
    | exact ⟨_, ⟨rfl, rfl, rfl⟩, allSc_ok _ rfl, (fun r h => by cases h; exact ⟨_, rfl, rfl, rfl⟩), rfl, hK _ _ _ rfl hP (fun _ => rfl)⟩
theorem h_plS : ∀ d, YHolds Try.prog 116 (cPlS 160 2 24 d)
  | 0 => h_ps0
  | d + 1 => by
    have ih := h_plS d
    refine E.mkY tt Try.func116 rfl Try.ntmps116 rfl (by kernel_rfl) ?_
    rintro _ _ X K ⟨xs, bud, pv, ds, s0, a, rfl, rfl, hP, hB, ⟨ha, had⟩, hs, hpl, hbud, hfo, hfl, hK⟩
    have hln : (xs.map D.Work.enc).length = xs.length := by simp
    have hle := hB.le
    have hw := hB.at (i := a) ha (by omega)
    unfold WorkOk at hw
    have hx0 : (xs.map D.Work.enc)[(a : Int).toNat]? = some (ix xs a).enc := ixE (by omega) (by omega)
    refine ⟨Nat.le_of_ble_eq_true rfl, ?_⟩
    (repeat' ((conv => whnf); first
    | refine Ixv.mk (by omega) hx0 ?_
    | refine Sd.mk (by first | omega | (unfold in64; omega) | (simp only [fitK, in64]; omega) | (simp only [fitK, in64, chunk, List.length_map, List.length_append, List.length_replicate, List.length_set, List.length_nil, List.length_cons]; omega)) ?_
    | refine Br.yes rfl ?_
    | refine Br.no rfl ?_
    | refine Br.yes (by first | (simp only [ltB_t, ltB_f, eqB_t, eqB_f, pB_t, pB_f, sEq_t, sEq_f, emp_iff, ne_eq, List.length_map, Bool.not_eq_true, Bool.not_eq_false, Bool.not_eq_eq_eq_not, Bool.not_true, Bool.not_false]; done) | (simp only [ltB_t, ltB_f, eqB_t, eqB_f, pB_t, pB_f, sEq_t, sEq_f, emp_iff, ne_eq, List.length_map, Bool.not_eq_true, Bool.not_eq_false, Bool.not_eq_eq_eq_not, Bool.not_true, Bool.not_false]; omega) | (simp only [ltB_t, ltB_f, eqB_t, eqB_f, pB_t, pB_f, sEq_t, sEq_f, emp_iff, ne_eq, List.length_map, Bool.not_eq_true, Bool.not_eq_false, Bool.not_eq_eq_eq_not, Bool.not_true, Bool.not_false]; assumption)) ?_
    | refine Br.no (by first | (simp only [ltB_t, ltB_f, eqB_t, eqB_f, pB_t, pB_f, sEq_t, sEq_f, emp_iff, ne_eq, List.length_map, Bool.not_eq_true, Bool.not_eq_false, Bool.not_eq_eq_eq_not, Bool.not_true, Bool.not_false]; done) | (simp only [ltB_t, ltB_f, eqB_t, eqB_f, pB_t, pB_f, sEq_t, sEq_f, emp_iff, ne_eq, List.length_map, Bool.not_eq_true, Bool.not_eq_false, Bool.not_eq_eq_eq_not, Bool.not_true, Bool.not_false]; omega) | (simp only [ltB_t, ltB_f, eqB_t, eqB_f, pB_t, pB_f, sEq_t, sEq_f, emp_iff, ne_eq, List.length_map, Bool.not_eq_true, Bool.not_eq_false, Bool.not_eq_eq_eq_not, Bool.not_true, Bool.not_false]; assumption)) ?_
    | (refine Br.mk ?_ ?_ <;> intro h <;> (try simp only [ltB_t, ltB_f, eqB_t, eqB_f, pB_t, pB_f, sEq_t, sEq_f, emp_iff, ne_eq, List.length_map, Bool.not_eq_true, Bool.not_eq_false, Bool.not_eq_eq_eq_not, Bool.not_true, Bool.not_false] at h))
    | refine Ixv.mk (by omega) (ixE (by omega) (by omega)) ?_
    | refine Elt.mk rfl ?_
    | refine Elt.mk (by assumption) ?_
    | refine Elt.mk (ixE (by omega) (by omega)) ?_
    | (fail "callY")
    | refine E.regionQ tt (id := 8) mixed (by decide +kernel) ?_
    | refine E.regionQ tt (id := 10) mixed (by decide +kernel) ?_
    | refine E.regionQ tt (id := 11) mixed (by decide +kernel) ?_
    | refine E.regionT tt (id := 16) 14 mixed (by decide +kernel) ?_
    | refine E.regionFY tt (id := 16) [0, 1, 2, 4, 7, 8, 9, 10, 12, 13] 5 (.nd [(3, .nd [(5, .nd [(6, .nd [(11, .nd [(14, .nd [])])]), (11, .nd [(6, .nd [(14, .nd [])])])]), (11, .nd [(5, .nd [(6, .nd [(14, .nd [])])])])]), (11, .nd [(3, .nd [(5, .nd [(6, .nd [(14, .nd [])])])])])]) mixed (by decide +kernel) ?_
    | refine Bo.mk ?_ ?_
    | refine E.regionT tt (id := 19) 12 mixed (by decide +kernel) ?_
    | refine E.regionFY tt (id := 19) [0, 1, 2, 4, 7, 8, 9, 10] 5 (.nd [(3, .nd [(5, .nd [(6, .nd [(11, .nd [(12, .nd [])])]), (11, .nd [(6, .nd [(12, .nd [])])])]), (11, .nd [(5, .nd [(6, .nd [(12, .nd [])])])])]), (11, .nd [(3, .nd [(5, .nd [(6, .nd [(12, .nd [])])])])])]) mixed (by decide +kernel) ?_
    | refine Bo.mk ?_ ?_)) <;> (try (conv => whnf))
    all_goals try (exfalso; omega)
    refine E.loop tt (fun q : Int × Ps × List Dn × Frag => (0 ≤ q.1 ∧ q.1 ≤ s0.plan.length) ∧ PlX 2 24 q.2.2.2 pv q.2.2.1 q.2.1.plan ∧ rawE q.2.2.1 = rawE ds ∧ Qi (psR xs bud (d + 1) a s0) bud s0.plan.length (sB xs bud d a s0 q.1) q.2.1) (fun q => ⟨117, 1, [(0, .loc 0 0 0), (1, .p (I a)), (5, .p (.ref (ix xs a).enc)), (6, .p (I q.1))], [(0, mrQ 160 xs pv q.2.1.nodes bud q.2.1.full)], q.2.2.2⟩) (fun q => (s0.plan.length - q.1).toNat) (0, s0, ds, X) ⟨⟨by dsimp only; omega, by dsimp only; omega⟩, hP, rfl, .inl ⟨hfl, hfo, (sB_zero _ _ _ _ _).symm, hs⟩⟩ ⟨rfl, ⟨rfl, rfl, rfl, rfl, trivial⟩, ⟨(congrArg (fun f => some (mrQ 160 xs pv s0.nodes bud f)) hfl.symm), trivial⟩, rfl, rfl, fun _ _ h => h⟩ ?_
    rintro q ⟨⟨hb0, hb1⟩, qP, qr, qi⟩
    have hsh := hP.shape qP qr hs.2.2
    have hqr : (rawE q.2.2.1).length = s0.plan.length := by rw [qP.rows.len, hsh.1]
    rcases Int.lt_or_le q.1 s0.plan.length with hlt | hge
    · obtain ⟨pb, pc, pC, rfl, hpx, hpC⟩ := qP.top.open (by rw [hqr]; omega)
      have hsu : sB xs bud d a s0 (q.1 + 1) = psB (psR xs bud d (a + 1)) bud (a + 1) (ix xs a) (sB xs bud d a s0 q.1) q.1 := it_succ hb0
      (repeat' ((conv => whnf); first
    | refine Sd.mk (by first | omega | (unfold in64; omega) | (simp only [fitK, in64]; omega) | (simp only [fitK, in64, chunk, List.length_map, List.length_append, List.length_replicate, List.length_set, List.length_nil, List.length_cons]; omega)) ?_
    | refine Br.yes rfl ?_
    | refine Br.no rfl ?_
    | refine Br.yes (by first | (simp only [ltB_t, ltB_f, eqB_t, eqB_f, pB_t, pB_f, sEq_t, sEq_f, emp_iff, ne_eq, List.length_map, Bool.not_eq_true, Bool.not_eq_false, Bool.not_eq_eq_eq_not, Bool.not_true, Bool.not_false]; done) | (simp only [ltB_t, ltB_f, eqB_t, eqB_f, pB_t, pB_f, sEq_t, sEq_f, emp_iff, ne_eq, List.length_map, Bool.not_eq_true, Bool.not_eq_false, Bool.not_eq_eq_eq_not, Bool.not_true, Bool.not_false]; omega) | (simp only [ltB_t, ltB_f, eqB_t, eqB_f, pB_t, pB_f, sEq_t, sEq_f, emp_iff, ne_eq, List.length_map, Bool.not_eq_true, Bool.not_eq_false, Bool.not_eq_eq_eq_not, Bool.not_true, Bool.not_false]; assumption)) ?_
    | refine Br.no (by first | (simp only [ltB_t, ltB_f, eqB_t, eqB_f, pB_t, pB_f, sEq_t, sEq_f, emp_iff, ne_eq, List.length_map, Bool.not_eq_true, Bool.not_eq_false, Bool.not_eq_eq_eq_not, Bool.not_true, Bool.not_false]; done) | (simp only [ltB_t, ltB_f, eqB_t, eqB_f, pB_t, pB_f, sEq_t, sEq_f, emp_iff, ne_eq, List.length_map, Bool.not_eq_true, Bool.not_eq_false, Bool.not_eq_eq_eq_not, Bool.not_true, Bool.not_false]; omega) | (simp only [ltB_t, ltB_f, eqB_t, eqB_f, pB_t, pB_f, sEq_t, sEq_f, emp_iff, ne_eq, List.length_map, Bool.not_eq_true, Bool.not_eq_false, Bool.not_eq_eq_eq_not, Bool.not_true, Bool.not_false]; assumption)) ?_
    | (refine Br.mk ?_ ?_ <;> intro h <;> (try simp only [ltB_t, ltB_f, eqB_t, eqB_f, pB_t, pB_f, sEq_t, sEq_f, emp_iff, ne_eq, List.length_map, Bool.not_eq_true, Bool.not_eq_false, Bool.not_eq_eq_eq_not, Bool.not_true, Bool.not_false] at h))
    | refine Ixv.mk (by omega) (ixE (by omega) (by omega)) ?_
    | refine Elt.mk rfl ?_
    | refine Elt.mk (by assumption) ?_
    | refine Elt.mk (ixE (by omega) (by omega)) ?_
    | refine E.read tt (rd_lenF tt rfl rfl rfl rfl qP.top) rfl ?_
    | (fail "callY")
    | refine E.regionQ tt (id := 8) mixed (by decide +kernel) ?_
    | refine E.regionQ tt (id := 10) mixed (by decide +kernel) ?_
    | refine E.regionQ tt (id := 11) mixed (by decide +kernel) ?_
    | refine E.regionT tt (id := 16) 14 mixed (by decide +kernel) ?_
    | refine E.regionFY tt (id := 16) [0, 1, 2, 4, 7, 8, 9, 10, 12, 13] 5 (.nd [(3, .nd [(5, .nd [(6, .nd [(11, .nd [(14, .nd [])])]), (11, .nd [(6, .nd [(14, .nd [])])])]), (11, .nd [(5, .nd [(6, .nd [(14, .nd [])])])])]), (11, .nd [(3, .nd [(5, .nd [(6, .nd [(14, .nd [])])])])])]) mixed (by decide +kernel) ?_
    | refine Bo.mk ?_ ?_
    | refine E.regionT tt (id := 19) 12 mixed (by decide +kernel) ?_
    | refine E.regionFY tt (id := 19) [0, 1, 2, 4, 7, 8, 9, 10] 5 (.nd [(3, .nd [(5, .nd [(6, .nd [(11, .nd [(12, .nd [])])]), (11, .nd [(6, .nd [(12, .nd [])])])]), (11, .nd [(5, .nd [(6, .nd [(12, .nd [])])])])]), (11, .nd [(3, .nd [(5, .nd [(6, .nd [(12, .nd [])])])])])]) mixed (by decide +kernel) ?_
    | refine Bo.mk ?_ ?_)) <;> (try (conv => whnf))
      all_goals try (exfalso; omega)
      refine E.loop tt (fun r : Int × Ps × List Dn × Frag => (0 ≤ r.1 ∧ r.1 ≤ (ix xs a).Last - (ix xs a).Days - (ix xs a).First + 2) ∧ PlX 2 24 r.2.2.2 (.slice (some ⟨pb, 0, none⟩) (rawE q.2.2.1).length pc) r.2.2.1 r.2.1.plan ∧ rawE r.2.2.1 = rawE ds ∧ Qi (psR xs bud (d + 1) a s0) bud s0.plan.length (sI xs bud d a q.1 (sB xs bud d a s0 q.1) r.1) r.2.1) (fun r => ⟨117, 1, [(0, .loc 0 0 0), (1, .p (I a)), (5, .p (.ref (ix xs a).enc)), (6, .p (I q.1)), (7, .p (I ((ix xs a).First + r.1)))], [(0, mrQ 160 xs (.slice (some ⟨pb, 0, none⟩) (rawE q.2.2.1).length pc) r.2.1.nodes bud r.2.1.full)], r.2.2.2⟩) (fun r => ((ix xs a).Last - (ix xs a).Days - (ix xs a).First + 2 - r.1).toNat) (0, q.2.1, q.2.2.1, q.2.2.2) ⟨⟨by dsimp only; omega, by dsimp only; omega⟩, qP, qr, by rw [sI_zero]; exact qi⟩ ⟨rfl, ⟨rfl, rfl, rfl, rfl, pI (by omega), trivial⟩, ⟨rfl, trivial⟩, rfl, rfl, fun _ _ h => h⟩ ?_
      rintro r ⟨⟨hj0, hj1⟩, rP, rr, ri⟩
      have hrsh := hP.shape rP rr hs.2.2
      rcases Int.lt_or_le r.1 ((ix xs a).Last - (ix xs a).Days - (ix xs a).First + 2) with hjlt | hjge
      · have hrl : r.2.2.1.length = s0.plan.length := by have h1 := congrArg List.length rP.rows.ls; rw [List.length_map, hrsh.1] at h1; exact h1
        have hbr : q.1.toNat < r.2.2.1.length := by omega
        have hrow := rP.row hb0 hbr
        have hix := rP.ixl hb0 hbr
        obtain ⟨gx, gN⟩ := rP.rows.inx _ (List.getElem_mem hbr)
        have h40 : (ix r.2.1.plan q.1).length = 40 := hrsh.2 _ (ix_mem hb0 (by rw [hrsh.1]; exact hlt))
        have hl40 : (r.2.2.1[q.1.toNat]).l.length = 40 := by rw [← hix]; exact h40
        obtain ⟨hpe, C1, hpx1, hpC1⟩ := rP.top.openAt (by rw [rP.rows.len, hrsh.1]; omega)
        have hgk : (rawE r.2.2.1)[q.1.toNat]? = some [.raw (r.2.2.1[q.1.toNat]).hdr] := by unfold rawE; rw [List.getElem?_map, List.getElem?_eq_getElem hbr]; rfl
        obtain ⟨w, hw1, hw2⟩ := hpC1.cell hgk
        have hw3 : w = (r.2.2.1[q.1.toNat]).hdr := (Option.some.inj hw2).symm
        subst hw3
        have hsj : sI xs bud d a q.1 (sB xs bud d a s0 q.1) (r.1 + 1) = psStep (psR xs bud d (a + 1)) bud (a + 1) (ix xs a).Days q.1 (sI xs bud d a q.1 (sB xs bud d a s0 q.1) r.1) ((ix xs a).First + r.1) := it_succ hj0
        have hstop := psR_stop (xs := xs) (bud := bud) (d := d) (a := a) (s0 := s0) (q := q.1) (j := r.1 + 1) (by omega) hb0 hlt (by omega) (by omega)
        generalize r.2.1 = s2 at *
        obtain ⟨n2, p2, f2, u2⟩ := s2
        dsimp only at h40 hix rP hrow
        by_cases hfr : frC (ix p2 q.1) ((ix xs a).First + r.1) (ix xs a).Days
        · cases u2 with
          | true =>
            rcases ri with ⟨e1, _⟩ | ⟨_, pp, hR⟩
            · cases e1
            · rw [hR] at hK
              by_cases hnb : n2 = bud
              · (repeat' ((conv => whnf); first
    | refine Sd.mk (by first | omega | (unfold in64; omega) | (simp only [fitK, in64]; omega) | (simp only [fitK, in64, chunk, List.length_map, List.length_append, List.length_replicate, List.length_set, List.length_nil, List.length_cons]; omega)) ?_
    | refine Br.yes rfl ?_
    | refine Br.no rfl ?_
    | refine Br.yes (by first | (simp only [ltB_t, ltB_f, eqB_t, eqB_f, pB_t, pB_f, sEq_t, sEq_f, emp_iff, ne_eq, List.length_map, Bool.not_eq_true, Bool.not_eq_false, Bool.not_eq_eq_eq_not, Bool.not_true, Bool.not_false]; done) | (simp only [ltB_t, ltB_f, eqB_t, eqB_f, pB_t, pB_f, sEq_t, sEq_f, emp_iff, ne_eq, List.length_map, Bool.not_eq_true, Bool.not_eq_false, Bool.not_eq_eq_eq_not, Bool.not_true, Bool.not_false]; omega) | (simp only [ltB_t, ltB_f, eqB_t, eqB_f, pB_t, pB_f, sEq_t, sEq_f, emp_iff, ne_eq, List.length_map, Bool.not_eq_true, Bool.not_eq_false, Bool.not_eq_eq_eq_not, Bool.not_true, Bool.not_false]; assumption)) ?_
    | refine Br.no (by first | (simp only [ltB_t, ltB_f, eqB_t, eqB_f, pB_t, pB_f, sEq_t, sEq_f, emp_iff, ne_eq, List.length_map, Bool.not_eq_true, Bool.not_eq_false, Bool.not_eq_eq_eq_not, Bool.not_true, Bool.not_false]; done) | (simp only [ltB_t, ltB_f, eqB_t, eqB_f, pB_t, pB_f, sEq_t, sEq_f, emp_iff, ne_eq, List.length_map, Bool.not_eq_true, Bool.not_eq_false, Bool.not_eq_eq_eq_not, Bool.not_true, Bool.not_false]; omega) | (simp only [ltB_t, ltB_f, eqB_t, eqB_f, pB_t, pB_f, sEq_t, sEq_f, emp_iff, ne_eq, List.length_map, Bool.not_eq_true, Bool.not_eq_false, Bool.not_eq_eq_eq_not, Bool.not_true, Bool.not_false]; assumption)) ?_
    | (refine Br.mk ?_ ?_ <;> intro h <;> (try simp only [ltB_t, ltB_f, eqB_t, eqB_f, pB_t, pB_f, sEq_t, sEq_f, emp_iff, ne_eq, List.length_map, Bool.not_eq_true, Bool.not_eq_false, Bool.not_eq_eq_eq_not, Bool.not_true, Bool.not_false] at h))
    | refine Ixv.mk (by omega) (ixE (by omega) (by omega)) ?_
    | refine Elt.mk rfl ?_
    | refine Elt.mk (by assumption) ?_
    | refine Elt.mk (ixE (by omega) (by omega)) ?_
    | refine E.read tt (rd_idxR1 tt (b := pb) (c := pc) rfl rfl rfl rfl rfl (by omega) (by omega)) rfl ?_
    | refine E.read tt (rd_loadR tt (m := .raw (r.2.2.1[q.1.toNat]).hdr) rfl rfl rfl hpx1 hw1 rfl) rfl ?_
    | (fail "callY")
    | refine E.regionQ tt (id := 8) mixed (by decide +kernel) ?_
    | refine E.regionQ tt (id := 10) mixed (by decide +kernel) ?_
    | refine E.regionQ tt (id := 11) mixed (by decide +kernel) ?_
    | refine E.regionT tt (id := 16) 14 mixed (by decide +kernel) ?_
    | refine E.regionFY tt (id := 16) [0, 1, 2, 4, 7, 8, 9, 10, 12, 13] 5 (.nd [(3, .nd [(5, .nd [(6, .nd [(11, .nd [(14, .nd [])])]), (11, .nd [(6, .nd [(14, .nd [])])])]), (11, .nd [(5, .nd [(6, .nd [(14, .nd [])])])])]), (11, .nd [(3, .nd [(5, .nd [(6, .nd [(14, .nd [])])])])])]) mixed (by decide +kernel) ?_
    | refine Bo.mk ?_ ?_
    | refine E.regionT tt (id := 19) 12 mixed (by decide +kernel) ?_
    | refine E.regionFY tt (id := 19) [0, 1, 2, 4, 7, 8, 9, 10] 5 (.nd [(3, .nd [(5, .nd [(6, .nd [(11, .nd [(12, .nd [])])]), (11, .nd [(6, .nd [(12, .nd [])])])]), (11, .nd [(5, .nd [(6, .nd [(12, .nd [])])])])]), (11, .nd [(3, .nd [(5, .nd [(6, .nd [(12, .nd [])])])])])]) mixed (by decide +kernel) ?_
    | refine Bo.mk ?_ ?_)) <;> (try (conv => whnf))
                all_goals try (exfalso; omega)
                refine E.callD tt (args := [.view 1 ((ix p2 q.1).map encI), I ((ix xs a).First + r.1), I (ix xs a).Days]) h_freeS ⟨Deep.fv rfl hrow, Deep.rd rfl, Deep.rd rfl, trivial⟩ rfl ⟨_, _, _, _, rfl, h40, by omega, by omega, .inl ⟨hfr, rfl⟩, _, _, rfl, rfl, ?_⟩
                (repeat' ((conv => whnf); first
    | refine Sd.mk (by first | omega | (unfold in64; omega) | (simp only [fitK, in64]; omega) | (simp only [fitK, in64, chunk, List.length_map, List.length_append, List.length_replicate, List.length_set, List.length_nil, List.length_cons]; omega)) ?_
    | refine Br.yes rfl ?_
    | refine Br.no rfl ?_
    | refine Br.yes (by first | (simp only [ltB_t, ltB_f, eqB_t, eqB_f, pB_t, pB_f, sEq_t, sEq_f, emp_iff, ne_eq, List.length_map, Bool.not_eq_true, Bool.not_eq_false, Bool.not_eq_eq_eq_not, Bool.not_true, Bool.not_false]; done) | (simp only [ltB_t, ltB_f, eqB_t, eqB_f, pB_t, pB_f, sEq_t, sEq_f, emp_iff, ne_eq, List.length_map, Bool.not_eq_true, Bool.not_eq_false, Bool.not_eq_eq_eq_not, Bool.not_true, Bool.not_false]; omega) | (simp only [ltB_t, ltB_f, eqB_t, eqB_f, pB_t, pB_f, sEq_t, sEq_f, emp_iff, ne_eq, List.length_map, Bool.not_eq_true, Bool.not_eq_false, Bool.not_eq_eq_eq_not, Bool.not_true, Bool.not_false]; assumption)) ?_
    | refine Br.no (by first | (simp only [ltB_t, ltB_f, eqB_t, eqB_f, pB_t, pB_f, sEq_t, sEq_f, emp_iff, ne_eq, List.length_map, Bool.not_eq_true, Bool.not_eq_false, Bool.not_eq_eq_eq_not, Bool.not_true, Bool.not_false]; done) | (simp only [ltB_t, ltB_f, eqB_t, eqB_f, pB_t, pB_f, sEq_t, sEq_f, emp_iff, ne_eq, List.length_map, Bool.not_eq_true, Bool.not_eq_false, Bool.not_eq_eq_eq_not, Bool.not_true, Bool.not_false]; omega) | (simp only [ltB_t, ltB_f, eqB_t, eqB_f, pB_t, pB_f, sEq_t, sEq_f, emp_iff, ne_eq, List.length_map, Bool.not_eq_true, Bool.not_eq_false, Bool.not_eq_eq_eq_not, Bool.not_true, Bool.not_false]; assumption)) ?_
    | (refine Br.mk ?_ ?_ <;> intro h <;> (try simp only [ltB_t, ltB_f, eqB_t, eqB_f, pB_t, pB_f, sEq_t, sEq_f, emp_iff, ne_eq, List.length_map, Bool.not_eq_true, Bool.not_eq_false, Bool.not_eq_eq_eq_not, Bool.not_true, Bool.not_false] at h))
    | refine Ixv.mk (by omega) (ixE (by omega) (by omega)) ?_
    | refine Elt.mk rfl ?_
    | refine Elt.mk (by assumption) ?_
    | refine Elt.mk (ixE (by omega) (by omega)) ?_
    | (fail "callY")
    | refine E.regionQ tt (id := 8) mixed (by decide +kernel) ?_
    | refine E.regionQ tt (id := 10) mixed (by decide +kernel) ?_
    | refine E.regionQ tt (id := 11) mixed (by decide +kernel) ?_
    | refine E.regionT tt (id := 16) 14 mixed (by decide +kernel) ?_
    | refine E.regionFY tt (id := 16) [0, 1, 2, 4, 7, 8, 9, 10, 12, 13] 5 (.nd [(3, .nd [(5, .nd [(6, .nd [(11, .nd [(14, .nd [])])]), (11, .nd [(6, .nd [(14, .nd [])])])]), (11, .nd [(5, .nd [(6, .nd [(14, .nd [])])])])]), (11, .nd [(3, .nd [(5, .nd [(6, .nd [(14, .nd [])])])])])]) mixed (by decide +kernel) ?_
    | refine Bo.mk ?_ ?_
    | refine E.regionT tt (id := 19) 12 mixed (by decide +kernel) ?_
    | refine E.regionFY tt (id := 19) [0, 1, 2, 4, 7, 8, 9, 10] 5 (.nd [(3, .nd [(5, .nd [(6, .nd [(11, .nd [(12, .nd [])])]), (11, .nd [(6, .nd [(12, .nd [])])])]), (11, .nd [(5, .nd [(6, .nd [(12, .nd [])])])])]), (11, .nd [(3, .nd [(5, .nd [(6, .nd [(12, .nd [])])])])])]) mixed (by decide +kernel) ?_
    | refine Bo.mk ?_ ?_)) <;> (try (conv => whnf))
                all_goals first
                  | (exfalso; omega)
                  | exact ⟨_, ⟨rfl, rfl, rfl⟩, allSc_ok _ rfl, (fun r h => by cases h; exact ⟨_, rfl, rfl, rfl⟩), rfl, hK _ _ _ rr rP (fun h => by cases h)⟩
              · (repeat' ((conv => whnf); first
    | refine Sd.mk (by first | omega | (unfold in64; omega) | (simp only [fitK, in64]; omega) | (simp only [fitK, in64, chunk, List.length_map, List.length_append, List.length_replicate, List.length_set, List.length_nil, List.length_cons]; omega)) ?_
    | refine Br.yes rfl ?_
    | refine Br.no rfl ?_
    | refine Br.yes (by first | (simp only [ltB_t, ltB_f, eqB_t, eqB_f, pB_t, pB_f, sEq_t, sEq_f, emp_iff, ne_eq, List.length_map, Bool.not_eq_true, Bool.not_eq_false, Bool.not_eq_eq_eq_not, Bool.not_true, Bool.not_false]; done) | (simp only [ltB_t, ltB_f, eqB_t, eqB_f, pB_t, pB_f, sEq_t, sEq_f, emp_iff, ne_eq, List.length_map, Bool.not_eq_true, Bool.not_eq_false, Bool.not_eq_eq_eq_not, Bool.not_true, Bool.not_false]; omega) | (simp only [ltB_t, ltB_f, eqB_t, eqB_f, pB_t, pB_f, sEq_t, sEq_f, emp_iff, ne_eq, List.length_map, Bool.not_eq_true, Bool.not_eq_false, Bool.not_eq_eq_eq_not, Bool.not_true, Bool.not_false]; assumption)) ?_
    | refine Br.no (by first | (simp only [ltB_t, ltB_f, eqB_t, eqB_f, pB_t, pB_f, sEq_t, sEq_f, emp_iff, ne_eq, List.length_map, Bool.not_eq_true, Bool.not_eq_false, Bool.not_eq_eq_eq_not, Bool.not_true, Bool.not_false]; done) | (simp only [ltB_t, ltB_f, eqB_t, eqB_f, pB_t, pB_f, sEq_t, sEq_f, emp_iff, ne_eq, List.length_map, Bool.not_eq_true, Bool.not_eq_false, Bool.not_eq_eq_eq_not, Bool.not_true, Bool.not_false]; omega) | (simp only [ltB_t, ltB_f, eqB_t, eqB_f, pB_t, pB_f, sEq_t, sEq_f, emp_iff, ne_eq, List.length_map, Bool.not_eq_true, Bool.not_eq_false, Bool.not_eq_eq_eq_not, Bool.not_true, Bool.not_false]; assumption)) ?_
    | (refine Br.mk ?_ ?_ <;> intro h <;> (try simp only [ltB_t, ltB_f, eqB_t, eqB_f, pB_t, pB_f, sEq_t, sEq_f, emp_iff, ne_eq, List.length_map, Bool.not_eq_true, Bool.not_eq_false, Bool.not_eq_eq_eq_not, Bool.not_true, Bool.not_false] at h))
    | refine Ixv.mk (by omega) (ixE (by omega) (by omega)) ?_
    | refine Elt.mk rfl ?_
    | refine Elt.mk (by assumption) ?_
    | refine Elt.mk (ixE (by omega) (by omega)) ?_
    | refine E.read tt (rd_idxR1 tt (b := pb) (c := pc) rfl rfl rfl rfl rfl (by omega) (by omega)) rfl ?_
    | refine E.read tt (rd_loadR tt (m := .raw (r.2.2.1[q.1.toNat]).hdr) rfl rfl rfl hpx1 hw1 rfl) rfl ?_
    | (fail "callY")
    | refine E.regionQ tt (id := 8) mixed (by decide +kernel) ?_
    | refine E.regionQ tt (id := 10) mixed (by decide +kernel) ?_
    | refine E.regionQ tt (id := 11) mixed (by decide +kernel) ?_
    | refine E.regionT tt (id := 16) 14 mixed (by decide +kernel) ?_
    | refine E.regionFY tt (id := 16) [0, 1, 2, 4, 7, 8, 9, 10, 12, 13] 5 (.nd [(3, .nd [(5, .nd [(6, .nd [(11, .nd [(14, .nd [])])]), (11, .nd [(6, .nd [(14, .nd [])])])]), (11, .nd [(5, .nd [(6, .nd [(14, .nd [])])])])]), (11, .nd [(3, .nd [(5, .nd [(6, .nd [(14, .nd [])])])])])]) mixed (by decide +kernel) ?_
    | refine Bo.mk ?_ ?_
    | refine E.regionT tt (id := 19) 12 mixed (by decide +kernel) ?_
    | refine E.regionFY tt (id := 19) [0, 1, 2, 4, 7, 8, 9, 10] 5 (.nd [(3, .nd [(5, .nd [(6, .nd [(11, .nd [(12, .nd [])])]), (11, .nd [(6, .nd [(12, .nd [])])])]), (11, .nd [(5, .nd [(6, .nd [(12, .nd [])])])])]), (11, .nd [(3, .nd [(5, .nd [(6, .nd [(12, .nd [])])])])])]) mixed (by decide +kernel) ?_
    | refine Bo.mk ?_ ?_)) <;> (try (conv => whnf))
                all_goals try (exfalso; omega)
                refine E.callD tt (args := [.view 1 ((ix p2 q.1).map encI), I ((ix xs a).First + r.1), I (ix xs a).Days]) h_freeS ⟨Deep.fv rfl hrow, Deep.rd rfl, Deep.rd rfl, trivial⟩ rfl ⟨_, _, _, _, rfl, h40, by omega, by omega, .inl ⟨hfr, rfl⟩, _, _, rfl, rfl, ?_⟩
                (repeat' ((conv => whnf); first
    | refine Sd.mk (by first | omega | (unfold in64; omega) | (simp only [fitK, in64]; omega) | (simp only [fitK, in64, chunk, List.length_map, List.length_append, List.length_replicate, List.length_set, List.length_nil, List.length_cons]; omega)) ?_
    | refine Br.yes rfl ?_
    | refine Br.no rfl ?_
    | refine Br.yes (by first | (simp only [ltB_t, ltB_f, eqB_t, eqB_f, pB_t, pB_f, sEq_t, sEq_f, emp_iff, ne_eq, List.length_map, Bool.not_eq_true, Bool.not_eq_false, Bool.not_eq_eq_eq_not, Bool.not_true, Bool.not_false]; done) | (simp only [ltB_t, ltB_f, eqB_t, eqB_f, pB_t, pB_f, sEq_t, sEq_f, emp_iff, ne_eq, List.length_map, Bool.not_eq_true, Bool.not_eq_false, Bool.not_eq_eq_eq_not, Bool.not_true, Bool.not_false]; omega) | (simp only [ltB_t, ltB_f, eqB_t, eqB_f, pB_t, pB_f, sEq_t, sEq_f, emp_iff, ne_eq, List.length_map, Bool.not_eq_true, Bool.not_eq_false, Bool.not_eq_eq_eq_not, Bool.not_true, Bool.not_false]; assumption)) ?_
    | refine Br.no (by first | (simp only [ltB_t, ltB_f, eqB_t, eqB_f, pB_t, pB_f, sEq_t, sEq_f, emp_iff, ne_eq, List.length_map, Bool.not_eq_true, Bool.not_eq_false, Bool.not_eq_eq_eq_not, Bool.not_true, Bool.not_false]; done) | (simp only [ltB_t, ltB_f, eqB_t, eqB_f, pB_t, pB_f, sEq_t, sEq_f, emp_iff, ne_eq, List.length_map, Bool.not_eq_true, Bool.not_eq_false, Bool.not_eq_eq_eq_not, Bool.not_true, Bool.not_false]; omega) | (simp only [ltB_t, ltB_f, eqB_t, eqB_f, pB_t, pB_f, sEq_t, sEq_f, emp_iff, ne_eq, List.length_map, Bool.not_eq_true, Bool.not_eq_false, Bool.not_eq_eq_eq_not, Bool.not_true, Bool.not_false]; assumption)) ?_
    | (refine Br.mk ?_ ?_ <;> intro h <;> (try simp only [ltB_t, ltB_f, eqB_t, eqB_f, pB_t, pB_f, sEq_t, sEq_f, emp_iff, ne_eq, List.length_map, Bool.not_eq_true, Bool.not_eq_false, Bool.not_eq_eq_eq_not, Bool.not_true, Bool.not_false] at h))
    | refine Ixv.mk (by omega) (ixE (by omega) (by omega)) ?_
    | refine Elt.mk rfl ?_
    | refine Elt.mk (by assumption) ?_
    | refine Elt.mk (ixE (by omega) (by omega)) ?_
    | (fail "callY")
    | refine E.regionQ tt (id := 8) mixed (by decide +kernel) ?_
    | refine E.regionQ tt (id := 10) mixed (by decide +kernel) ?_
    | refine E.regionQ tt (id := 11) mixed (by decide +kernel) ?_
    | refine E.regionT tt (id := 16) 14 mixed (by decide +kernel) ?_
    | refine E.regionFY tt (id := 16) [0, 1, 2, 4, 7, 8, 9, 10, 12, 13] 5 (.nd [(3, .nd [(5, .nd [(6, .nd [(11, .nd [(14, .nd [])])]), (11, .nd [(6, .nd [(14, .nd [])])])]), (11, .nd [(5, .nd [(6, .nd [(14, .nd [])])])])]), (11, .nd [(3, .nd [(5, .nd [(6, .nd [(14, .nd [])])])])])]) mixed (by decide +kernel) ?_
    | refine Bo.mk ?_ ?_
    | refine E.regionT tt (id := 19) 12 mixed (by decide +kernel) ?_
    | refine E.regionFY tt (id := 19) [0, 1, 2, 4, 7, 8, 9, 10] 5 (.nd [(3, .nd [(5, .nd [(6, .nd [(11, .nd [(12, .nd [])])]), (11, .nd [(6, .nd [(12, .nd [])])])]), (11, .nd [(5, .nd [(6, .nd [(12, .nd [])])])])]), (11, .nd [(3, .nd [(5, .nd [(6, .nd [(12, .nd [])])])])])]) mixed (by decide +kernel) ?_
    | refine Bo.mk ?_ ?_)) <;> (try (conv => whnf))
                all_goals first
                  | (exfalso; omega)
                  | exact ⟨_, ⟨rfl, rfl, rfl⟩, allSc_ok _ rfl, (fun r h => by cases h; exact ⟨_, rfl, rfl, rfl⟩), rfl, hK _ _ _ rr rP (fun h => by cases h)⟩
          | false =>
            rcases ri with ⟨_, e2, e3, hok⟩ | ⟨e1, _⟩
            · dsimp only at e2
              subst e2
              rw [← e3] at hsj
              by_cases hnb : n2 = bud
              · have hst := psStep_full (rc := psR xs bud d (a + 1)) (bud := bud) (w := a + 1) (s := ⟨n2, p2, false, false⟩) rfl rfl hfr hnb
                rw [hst] at hsj
                rw [hsj] at hstop
                rw [hstop (.inr rfl)] at hK
                (repeat' ((conv => whnf); first
    | refine Sd.mk (by first | omega | (unfold in64; omega) | (simp only [fitK, in64]; omega) | (simp only [fitK, in64, chunk, List.length_map, List.length_append, List.length_replicate, List.length_set, List.length_nil, List.length_cons]; omega)) ?_
    | refine Br.yes rfl ?_
    | refine Br.no rfl ?_
    | refine Br.yes (by first | (simp only [ltB_t, ltB_f, eqB_t, eqB_f, pB_t, pB_f, sEq_t, sEq_f, emp_iff, ne_eq, List.length_map, Bool.not_eq_true, Bool.not_eq_false, Bool.not_eq_eq_eq_not, Bool.not_true, Bool.not_false]; done) | (simp only [ltB_t, ltB_f, eqB_t, eqB_f, pB_t, pB_f, sEq_t, sEq_f, emp_iff, ne_eq, List.length_map, Bool.not_eq_true, Bool.not_eq_false, Bool.not_eq_eq_eq_not, Bool.not_true, Bool.not_false]; omega) | (simp only [ltB_t, ltB_f, eqB_t, eqB_f, pB_t, pB_f, sEq_t, sEq_f, emp_iff, ne_eq, List.length_map, Bool.not_eq_true, Bool.not_eq_false, Bool.not_eq_eq_eq_not, Bool.not_true, Bool.not_false]; assumption)) ?_
    | refine Br.no (by first | (simp only [ltB_t, ltB_f, eqB_t, eqB_f, pB_t, pB_f, sEq_t, sEq_f, emp_iff, ne_eq, List.length_map, Bool.not_eq_true, Bool.not_eq_false, Bool.not_eq_eq_eq_not, Bool.not_true, Bool.not_false]; done) | (simp only [ltB_t, ltB_f, eqB_t, eqB_f, pB_t, pB_f, sEq_t, sEq_f, emp_iff, ne_eq, List.length_map, Bool.not_eq_true, Bool.not_eq_false, Bool.not_eq_eq_eq_not, Bool.not_true, Bool.not_false]; omega) | (simp only [ltB_t, ltB_f, eqB_t, eqB_f, pB_t, pB_f, sEq_t, sEq_f, emp_iff, ne_eq, List.length_map, Bool.not_eq_true, Bool.not_eq_false, Bool.not_eq_eq_eq_not, Bool.not_true, Bool.not_false]; assumption)) ?_
    | (refine Br.mk ?_ ?_ <;> intro h <;> (try simp only [ltB_t, ltB_f, eqB_t, eqB_f, pB_t, pB_f, sEq_t, sEq_f, emp_iff, ne_eq, List.length_map, Bool.not_eq_true, Bool.not_eq_false, Bool.not_eq_eq_eq_not, Bool.not_true, Bool.not_false] at h))
    | refine Ixv.mk (by omega) (ixE (by omega) (by omega)) ?_
    | refine Elt.mk rfl ?_
    | refine Elt.mk (by assumption) ?_
    | refine Elt.mk (ixE (by omega) (by omega)) ?_
    | refine E.read tt (rd_idxR1 tt (b := pb) (c := pc) rfl rfl rfl rfl rfl (by omega) (by omega)) rfl ?_
    | refine E.read tt (rd_loadR tt (m := .raw (r.2.2.1[q.1.toNat]).hdr) rfl rfl rfl hpx1 hw1 rfl) rfl ?_
    | (fail "callY")
    | refine E.regionQ tt (id := 8) mixed (by decide +kernel) ?_
    | refine E.regionQ tt (id := 10) mixed (by decide +kernel) ?_
    | refine E.regionQ tt (id := 11) mixed (by decide +kernel) ?_
    | refine E.regionT tt (id := 16) 14 mixed (by decide +kernel) ?_
    | refine E.regionFY tt (id := 16) [0, 1, 2, 4, 7, 8, 9, 10, 12, 13] 5 (.nd [(3, .nd [(5, .nd [(6, .nd [(11, .nd [(14, .nd [])])]), (11, .nd [(6, .nd [(14, .nd [])])])]), (11, .nd [(5, .nd [(6, .nd [(14, .nd [])])])])]), (11, .nd [(3, .nd [(5, .nd [(6, .nd [(14, .nd [])])])])])]) mixed (by decide +kernel) ?_
    | refine Bo.mk ?_ ?_
    | refine E.regionT tt (id := 19) 12 mixed (by decide +kernel) ?_
    | refine E.regionFY tt (id := 19) [0, 1, 2, 4, 7, 8, 9, 10] 5 (.nd [(3, .nd [(5, .nd [(6, .nd [(11, .nd [(12, .nd [])])]), (11, .nd [(6, .nd [(12, .nd [])])])]), (11, .nd [(5, .nd [(6, .nd [(12, .nd [])])])])]), (11, .nd [(3, .nd [(5, .nd [(6, .nd [(12, .nd [])])])])])]) mixed (by decide +kernel) ?_
    | refine Bo.mk ?_ ?_)) <;> (try (conv => whnf))
                all_goals try (exfalso; omega)
                refine E.callD tt (args := [.view 1 ((ix p2 q.1).map encI), I ((ix xs a).First + r.1), I (ix xs a).Days]) h_freeS ⟨Deep.fv rfl hrow, Deep.rd rfl, Deep.rd rfl, trivial⟩ rfl ⟨_, _, _, _, rfl, h40, by omega, by omega, .inl ⟨hfr, rfl⟩, _, _, rfl, rfl, ?_⟩
                (repeat' ((conv => whnf); first
    | refine Sd.mk (by first | omega | (unfold in64; omega) | (simp only [fitK, in64]; omega) | (simp only [fitK, in64, chunk, List.length_map, List.length_append, List.length_replicate, List.length_set, List.length_nil, List.length_cons]; omega)) ?_
    | refine Br.yes rfl ?_
    | refine Br.no rfl ?_
    | refine Br.yes (by first | (simp only [ltB_t, ltB_f, eqB_t, eqB_f, pB_t, pB_f, sEq_t, sEq_f, emp_iff, ne_eq, List.length_map, Bool.not_eq_true, Bool.not_eq_false, Bool.not_eq_eq_eq_not, Bool.not_true, Bool.not_false]; done) | (simp only [ltB_t, ltB_f, eqB_t, eqB_f, pB_t, pB_f, sEq_t, sEq_f, emp_iff, ne_eq, List.length_map, Bool.not_eq_true, Bool.not_eq_false, Bool.not_eq_eq_eq_not, Bool.not_true, Bool.not_false]; omega) | (simp only [ltB_t, ltB_f, eqB_t, eqB_f, pB_t, pB_f, sEq_t, sEq_f, emp_iff, ne_eq, List.length_map, Bool.not_eq_true, Bool.not_eq_false, Bool.not_eq_eq_eq_not, Bool.not_true, Bool.not_false]; assumption)) ?_
    | refine Br.no (by first | (simp only [ltB_t, ltB_f, eqB_t, eqB_f, pB_t, pB_f, sEq_t, sEq_f, emp_iff, ne_eq, List.length_map, Bool.not_eq_true, Bool.not_eq_false, Bool.not_eq_eq_eq_not, Bool.not_true, Bool.not_false]; done) | (simp only [ltB_t, ltB_f, eqB_t, eqB_f, pB_t, pB_f, sEq_t, sEq_f, emp_iff, ne_eq, List.length_map, Bool.not_eq_true, Bool.not_eq_false, Bool.not_eq_eq_eq_not, Bool.not_true, Bool.not_false]; omega) | (simp only [ltB_t, ltB_f, eqB_t, eqB_f, pB_t, pB_f, sEq_t, sEq_f, emp_iff, ne_eq, List.length_map, Bool.not_eq_true, Bool.not_eq_false, Bool.not_eq_eq_eq_not, Bool.not_true, Bool.not_false]; assumption)) ?_
    | (refine Br.mk ?_ ?_ <;> intro h <;> (try simp only [ltB_t, ltB_f, eqB_t, eqB_f, pB_t, pB_f, sEq_t, sEq_f, emp_iff, ne_eq, List.length_map, Bool.not_eq_true, Bool.not_eq_false, Bool.not_eq_eq_eq_not, Bool.not_true, Bool.not_false] at h))
    | refine Ixv.mk (by omega) (ixE (by omega) (by omega)) ?_
    | refine Elt.mk rfl ?_
    | refine Elt.mk (by assumption) ?_
    | refine Elt.mk (ixE (by omega) (by omega)) ?_
    | (fail "callY")
    | refine E.regionQ tt (id := 8) mixed (by decide +kernel) ?_
    | refine E.regionQ tt (id := 10) mixed (by decide +kernel) ?_
    | refine E.regionQ tt (id := 11) mixed (by decide +kernel) ?_
    | refine E.regionT tt (id := 16) 14 mixed (by decide +kernel) ?_
    | refine E.regionFY tt (id := 16) [0, 1, 2, 4, 7, 8, 9, 10, 12, 13] 5 (.nd [(3, .nd [(5, .nd [(6, .nd [(11, .nd [(14, .nd [])])]), (11, .nd [(6, .nd [(14, .nd [])])])]), (11, .nd [(5, .nd [(6, .nd [(14, .nd [])])])])]), (11, .nd [(3, .nd [(5, .nd [(6, .nd [(14, .nd [])])])])])]) mixed (by decide +kernel) ?_
    | refine Bo.mk ?_ ?_
    | refine E.regionT tt (id := 19) 12 mixed (by decide +kernel) ?_
    | refine E.regionFY tt (id := 19) [0, 1, 2, 4, 7, 8, 9, 10] 5 (.nd [(3, .nd [(5, .nd [(6, .nd [(11, .nd [(12, .nd [])])]), (11, .nd [(6, .nd [(12, .nd [])])])]), (11, .nd [(5, .nd [(6, .nd [(12, .nd [])])])])]), (11, .nd [(3, .nd [(5, .nd [(6, .nd [(12, .nd [])])])])])]) mixed (by decide +kernel) ?_
    | refine Bo.mk ?_ ?_)) <;> (try (conv => whnf))
                all_goals first
                  | (exfalso; omega)
                  | exact ⟨_, ⟨rfl, rfl, rfl⟩, allSc_ok _ rfl, (fun r h => by cases h; exact ⟨_, rfl, rfl, rfl⟩), rfl, hK _ _ _ rr rP (fun h => by cases h)⟩
              · have hn0 : 0 ≤ n2 := hok.1.1
                have hn2 : n2 < bud := by have := hok.1; dsimp only at this; omega
                have hst := psStep_go (rc := psR xs bud d (a + 1)) (bud := bud) (w := a + 1) (s := ⟨n2, p2, false, false⟩) rfl rfl hfr hnb hix
                have hpt := ptL_len (r.2.2.1[q.1.toNat]).l ((ix xs a).First + r.1) (a + 1) (n := (ix xs a).Days) (by omega)
                have hok2 : psOk bud s0.plan.length ⟨n2 + 1, p2.set q.1.toNat (ptL (r.2.2.1[q.1.toNat]).l ((ix xs a).First + r.1) (ix xs a).Days (a + 1)), false, false⟩ :=
                  ⟨⟨by have := hok.1; dsimp only at this ⊢; omega, by dsimp only; omega⟩, by simpa using hok.2.1, rows_set hok.2.2 (by rw [hpt]; exact hl40) _⟩
                have hok3 := psR_ok hB d (a + 1) _ (by omega) (by omega) hok2
                rw [hst] at hsj
                rw [hsj] at hstop
                (repeat' ((conv => whnf); first
    | refine Sd.mk (by first | omega | (unfold in64; omega) | (simp only [fitK, in64]; omega) | (simp only [fitK, in64, chunk, List.length_map, List.length_append, List.length_replicate, List.length_set, List.length_nil, List.length_cons]; omega)) ?_
    | refine Br.yes rfl ?_
    | refine Br.no rfl ?_
    | refine Br.yes (by first | (simp only [ltB_t, ltB_f, eqB_t, eqB_f, pB_t, pB_f, sEq_t, sEq_f, emp_iff, ne_eq, List.length_map, Bool.not_eq_true, Bool.not_eq_false, Bool.not_eq_eq_eq_not, Bool.not_true, Bool.not_false]; done) | (simp only [ltB_t, ltB_f, eqB_t, eqB_f, pB_t, pB_f, sEq_t, sEq_f, emp_iff, ne_eq, List.length_map, Bool.not_eq_true, Bool.not_eq_false, Bool.not_eq_eq_eq_not, Bool.not_true, Bool.not_false]; omega) | (simp only [ltB_t, ltB_f, eqB_t, eqB_f, pB_t, pB_f, sEq_t, sEq_f, emp_iff, ne_eq, List.length_map, Bool.not_eq_true, Bool.not_eq_false, Bool.not_eq_eq_eq_not, Bool.not_true, Bool.not_false]; assumption)) ?_
    | refine Br.no (by first | (simp only [ltB_t, ltB_f, eqB_t, eqB_f, pB_t, pB_f, sEq_t, sEq_f, emp_iff, ne_eq, List.length_map, Bool.not_eq_true, Bool.not_eq_false, Bool.not_eq_eq_eq_not, Bool.not_true, Bool.not_false]; done) | (simp only [ltB_t, ltB_f, eqB_t, eqB_f, pB_t, pB_f, sEq_t, sEq_f, emp_iff, ne_eq, List.length_map, Bool.not_eq_true, Bool.not_eq_false, Bool.not_eq_eq_eq_not, Bool.not_true, Bool.not_false]; omega) | (simp only [ltB_t, ltB_f, eqB_t, eqB_f, pB_t, pB_f, sEq_t, sEq_f, emp_iff, ne_eq, List.length_map, Bool.not_eq_true, Bool.not_eq_false, Bool.not_eq_eq_eq_not, Bool.not_true, Bool.not_false]; assumption)) ?_
    | (refine Br.mk ?_ ?_ <;> intro h <;> (try simp only [ltB_t, ltB_f, eqB_t, eqB_f, pB_t, pB_f, sEq_t, sEq_f, emp_iff, ne_eq, List.length_map, Bool.not_eq_true, Bool.not_eq_false, Bool.not_eq_eq_eq_not, Bool.not_true, Bool.not_false] at h))
    | refine Ixv.mk (by omega) (ixE (by omega) (by omega)) ?_
    | refine Elt.mk rfl ?_
    | refine Elt.mk (by assumption) ?_
    | refine Elt.mk (ixE (by omega) (by omega)) ?_
    | refine E.read tt (rd_idxR1 tt (b := pb) (c := pc) rfl rfl rfl rfl rfl (by omega) (by omega)) rfl ?_
    | refine E.read tt (rd_loadR tt (m := .raw (r.2.2.1[q.1.toNat]).hdr) rfl rfl rfl hpx1 hw1 rfl) rfl ?_
    | (fail "callY")
    | refine E.regionQ tt (id := 8) mixed (by decide +kernel) ?_
    | refine E.regionQ tt (id := 10) mixed (by decide +kernel) ?_
    | refine E.regionQ tt (id := 11) mixed (by decide +kernel) ?_
    | refine E.regionT tt (id := 16) 14 mixed (by decide +kernel) ?_
    | refine E.regionFY tt (id := 16) [0, 1, 2, 4, 7, 8, 9, 10, 12, 13] 5 (.nd [(3, .nd [(5, .nd [(6, .nd [(11, .nd [(14, .nd [])])]), (11, .nd [(6, .nd [(14, .nd [])])])]), (11, .nd [(5, .nd [(6, .nd [(14, .nd [])])])])]), (11, .nd [(3, .nd [(5, .nd [(6, .nd [(14, .nd [])])])])])]) mixed (by decide +kernel) ?_
    | refine Bo.mk ?_ ?_
    | refine E.regionT tt (id := 19) 12 mixed (by decide +kernel) ?_
    | refine E.regionFY tt (id := 19) [0, 1, 2, 4, 7, 8, 9, 10] 5 (.nd [(3, .nd [(5, .nd [(6, .nd [(11, .nd [(12, .nd [])])]), (11, .nd [(6, .nd [(12, .nd [])])])]), (11, .nd [(5, .nd [(6, .nd [(12, .nd [])])])])]), (11, .nd [(3, .nd [(5, .nd [(6, .nd [(12, .nd [])])])])])]) mixed (by decide +kernel) ?_
    | refine Bo.mk ?_ ?_)) <;> (try (conv => whnf))
                all_goals try (exfalso; omega)
                refine E.callD tt (args := [.view 1 ((ix p2 q.1).map encI), I ((ix xs a).First + r.1), I (ix xs a).Days]) h_freeS ⟨Deep.fv rfl hrow, Deep.rd rfl, Deep.rd rfl, trivial⟩ rfl ⟨_, _, _, _, rfl, h40, by omega, by omega, .inl ⟨hfr, rfl⟩, _, _, rfl, rfl, ?_⟩
                (repeat' ((conv => whnf); first
    | refine Sd.mk (by first | omega | (unfold in64; omega) | (simp only [fitK, in64]; omega) | (simp only [fitK, in64, chunk, List.length_map, List.length_append, List.length_replicate, List.length_set, List.length_nil, List.length_cons]; omega)) ?_
    | refine Br.yes rfl ?_
    | refine Br.no rfl ?_
    | refine Br.yes (by first | (simp only [ltB_t, ltB_f, eqB_t, eqB_f, pB_t, pB_f, sEq_t, sEq_f, emp_iff, ne_eq, List.length_map, Bool.not_eq_true, Bool.not_eq_false, Bool.not_eq_eq_eq_not, Bool.not_true, Bool.not_false]; done) | (simp only [ltB_t, ltB_f, eqB_t, eqB_f, pB_t, pB_f, sEq_t, sEq_f, emp_iff, ne_eq, List.length_map, Bool.not_eq_true, Bool.not_eq_false, Bool.not_eq_eq_eq_not, Bool.not_true, Bool.not_false]; omega) | (simp only [ltB_t, ltB_f, eqB_t, eqB_f, pB_t, pB_f, sEq_t, sEq_f, emp_iff, ne_eq, List.length_map, Bool.not_eq_true, Bool.not_eq_false, Bool.not_eq_eq_eq_not, Bool.not_true, Bool.not_false]; assumption)) ?_
    | refine Br.no (by first | (simp only [ltB_t, ltB_f, eqB_t, eqB_f, pB_t, pB_f, sEq_t, sEq_f, emp_iff, ne_eq, List.length_map, Bool.not_eq_true, Bool.not_eq_false, Bool.not_eq_eq_eq_not, Bool.not_true, Bool.not_false]; done) | (simp only [ltB_t, ltB_f, eqB_t, eqB_f, pB_t, pB_f, sEq_t, sEq_f, emp_iff, ne_eq, List.length_map, Bool.not_eq_true, Bool.not_eq_false, Bool.not_eq_eq_eq_not, Bool.not_true, Bool.not_false]; omega) | (simp only [ltB_t, ltB_f, eqB_t, eqB_f, pB_t, pB_f, sEq_t, sEq_f, emp_iff, ne_eq, List.length_map, Bool.not_eq_true, Bool.not_eq_false, Bool.not_eq_eq_eq_not, Bool.not_true, Bool.not_false]; assumption)) ?_
    | (refine Br.mk ?_ ?_ <;> intro h <;> (try simp only [ltB_t, ltB_f, eqB_t, eqB_f, pB_t, pB_f, sEq_t, sEq_f, emp_iff, ne_eq, List.length_map, Bool.not_eq_true, Bool.not_eq_false, Bool.not_eq_eq_eq_not, Bool.not_true, Bool.not_false] at h))
    | refine Ixv.mk (by omega) (ixE (by omega) (by omega)) ?_
    | refine Elt.mk rfl ?_
    | refine Elt.mk (by assumption) ?_
    | refine Elt.mk (ixE (by omega) (by omega)) ?_
    | refine E.read tt (rd_idxR1 tt (b := pb) (c := pc) rfl rfl rfl rfl rfl (by omega) (by omega)) rfl ?_
    | refine E.read tt (rd_loadR tt (m := .raw (r.2.2.1[q.1.toNat]).hdr) rfl rfl rfl hpx1 hw1 rfl) rfl ?_
    | (fail "callY")
    | refine E.regionQ tt (id := 8) mixed (by decide +kernel) ?_
    | refine E.regionQ tt (id := 10) mixed (by decide +kernel) ?_
    | refine E.regionQ tt (id := 11) mixed (by decide +kernel) ?_
    | refine E.regionT tt (id := 16) 14 mixed (by decide +kernel) ?_
    | refine E.regionFY tt (id := 16) [0, 1, 2, 4, 7, 8, 9, 10, 12, 13] 5 (.nd [(3, .nd [(5, .nd [(6, .nd [(11, .nd [(14, .nd [])])]), (11, .nd [(6, .nd [(14, .nd [])])])]), (11, .nd [(5, .nd [(6, .nd [(14, .nd [])])])])]), (11, .nd [(3, .nd [(5, .nd [(6, .nd [(14, .nd [])])])])])]) mixed (by decide +kernel) ?_
    | refine Bo.mk ?_ ?_
    | refine E.regionT tt (id := 19) 12 mixed (by decide +kernel) ?_
    | refine E.regionFY tt (id := 19) [0, 1, 2, 4, 7, 8, 9, 10] 5 (.nd [(3, .nd [(5, .nd [(6, .nd [(11, .nd [(12, .nd [])])]), (11, .nd [(6, .nd [(12, .nd [])])])]), (11, .nd [(5, .nd [(6, .nd [(12, .nd [])])])])]), (11, .nd [(3, .nd [(5, .nd [(6, .nd [(12, .nd [])])])])])]) mixed (by decide +kernel) ?_
    | refine Bo.mk ?_ ?_)) <;> (try (conv => whnf))
                all_goals try (exfalso; omega)
                refine E.callY tt h_putS rfl rfl rfl ⟨rfl, (r.2.2.1[q.1.toNat]).b, (r.2.2.1[q.1.toNat]).c, (r.2.2.1[q.1.toNat]).l, (r.2.2.1[q.1.toNat]).C, (ix xs a).First + r.1, (ix xs a).Days, a + 1, rfl, gx, gN, hl40, by omega, by omega, hfr.1, fun C2 hC2 => ?_⟩
                obtain ⟨P1, e1⟩ := rP.put hbr hpt hC2
                (repeat' ((conv => whnf); first
    | refine Sd.mk (by first | omega | (unfold in64; omega) | (simp only [fitK, in64]; omega) | (simp only [fitK, in64, chunk, List.length_map, List.length_append, List.length_replicate, List.length_set, List.length_nil, List.length_cons]; omega)) ?_
    | refine Br.yes rfl ?_
    | refine Br.no rfl ?_
    | refine Br.yes (by first | (simp only [ltB_t, ltB_f, eqB_t, eqB_f, pB_t, pB_f, sEq_t, sEq_f, emp_iff, ne_eq, List.length_map, Bool.not_eq_true, Bool.not_eq_false, Bool.not_eq_eq_eq_not, Bool.not_true, Bool.not_false]; done) | (simp only [ltB_t, ltB_f, eqB_t, eqB_f, pB_t, pB_f, sEq_t, sEq_f, emp_iff, ne_eq, List.length_map, Bool.not_eq_true, Bool.not_eq_false, Bool.not_eq_eq_eq_not, Bool.not_true, Bool.not_false]; omega) | (simp only [ltB_t, ltB_f, eqB_t, eqB_f, pB_t, pB_f, sEq_t, sEq_f, emp_iff, ne_eq, List.length_map, Bool.not_eq_true, Bool.not_eq_false, Bool.not_eq_eq_eq_not, Bool.not_true, Bool.not_false]; assumption)) ?_
    | refine Br.no (by first | (simp only [ltB_t, ltB_f, eqB_t, eqB_f, pB_t, pB_f, sEq_t, sEq_f, emp_iff, ne_eq, List.length_map, Bool.not_eq_true, Bool.not_eq_false, Bool.not_eq_eq_eq_not, Bool.not_true, Bool.not_false]; done) | (simp only [ltB_t, ltB_f, eqB_t, eqB_f, pB_t, pB_f, sEq_t, sEq_f, emp_iff, ne_eq, List.length_map, Bool.not_eq_true, Bool.not_eq_false, Bool.not_eq_eq_eq_not, Bool.not_true, Bool.not_false]; omega) | (simp only [ltB_t, ltB_f, eqB_t, eqB_f, pB_t, pB_f, sEq_t, sEq_f, emp_iff, ne_eq, List.length_map, Bool.not_eq_true, Bool.not_eq_false, Bool.not_eq_eq_eq_not, Bool.not_true, Bool.not_false]; assumption)) ?_
    | (refine Br.mk ?_ ?_ <;> intro h <;> (try simp only [ltB_t, ltB_f, eqB_t, eqB_f, pB_t, pB_f, sEq_t, sEq_f, emp_iff, ne_eq, List.length_map, Bool.not_eq_true, Bool.not_eq_false, Bool.not_eq_eq_eq_not, Bool.not_true, Bool.not_false] at h))
    | refine Ixv.mk (by omega) (ixE (by omega) (by omega)) ?_
    | refine Elt.mk rfl ?_
    | refine Elt.mk (by assumption) ?_
    | refine Elt.mk (ixE (by omega) (by omega)) ?_
    | (fail "callY")
    | refine E.regionQ tt (id := 8) mixed (by decide +kernel) ?_
    | refine E.regionQ tt (id := 10) mixed (by decide +kernel) ?_
    | refine E.regionQ tt (id := 11) mixed (by decide +kernel) ?_
    | refine E.regionT tt (id := 16) 14 mixed (by decide +kernel) ?_
    | refine E.regionFY tt (id := 16) [0, 1, 2, 4, 7, 8, 9, 10, 12, 13] 5 (.nd [(3, .nd [(5, .nd [(6, .nd [(11, .nd [(14, .nd [])])]), (11, .nd [(6, .nd [(14, .nd [])])])]), (11, .nd [(5, .nd [(6, .nd [(14, .nd [])])])])]), (11, .nd [(3, .nd [(5, .nd [(6, .nd [(14, .nd [])])])])])]) mixed (by decide +kernel) ?_
    | refine Bo.mk ?_ ?_
    | refine E.regionT tt (id := 19) 12 mixed (by decide +kernel) ?_
    | refine E.regionFY tt (id := 19) [0, 1, 2, 4, 7, 8, 9, 10] 5 (.nd [(3, .nd [(5, .nd [(6, .nd [(11, .nd [(12, .nd [])])]), (11, .nd [(6, .nd [(12, .nd [])])])]), (11, .nd [(5, .nd [(6, .nd [(12, .nd [])])])])]), (11, .nd [(3, .nd [(5, .nd [(6, .nd [(12, .nd [])])])])])]) mixed (by decide +kernel) ?_
    | refine Bo.mk ?_ ?_)) <;> (try (conv => whnf))
                refine E.callYP tt ih rfl rfl rfl rfl rfl rfl ⟨xs, bud, .slice (some ⟨pb, 0, none⟩) (rawE q.2.2.1).length pc, _, ⟨n2 + 1, p2.set q.1.toNat (ptL (r.2.2.1[q.1.toNat]).l ((ix xs a).First + r.1) (ix xs a).Days (a + 1)), false, false⟩, a + 1, rfl, rfl, P1, hB, ⟨by omega, by omega⟩, by rw [hok2.2.1]; exact hok2, by rw [hok2.2.1]; exact hpl, hbud, rfl, rfl, fun X3 ds3 pl3 e3 P3 h3 r' e _ _ => ?_⟩
                cases e
                have e4 : rawE ds3 = rawE ds := e3.trans (e1.trans rr)
                generalize psR xs bud d (a + 1) ⟨n2 + 1, p2.set q.1.toNat (ptL (r.2.2.1[q.1.toNat]).l ((ix xs a).First + r.1) (ix xs a).Days (a + 1)), false, false⟩ = s3 at *
                obtain ⟨n3, p3, f3, u3⟩ := s3
                dsimp only at h3
                cases f3 with
                | true =>
                  rw [psK_stop (.inl rfl)] at hstop
                  rw [hstop (.inl rfl)] at hK
                  (repeat' ((conv => whnf); first
    | refine Sd.mk (by first | omega | (unfold in64; omega) | (simp only [fitK, in64]; omega) | (simp only [fitK, in64, chunk, List.length_map, List.length_append, List.length_replicate, List.length_set, List.length_nil, List.length_cons]; omega)) ?_
    | refine Br.yes rfl ?_
    | refine Br.no rfl ?_
    | refine Br.yes (by first | (simp only [ltB_t, ltB_f, eqB_t, eqB_f, pB_t, pB_f, sEq_t, sEq_f, emp_iff, ne_eq, List.length_map, Bool.not_eq_true, Bool.not_eq_false, Bool.not_eq_eq_eq_not, Bool.not_true, Bool.not_false]; done) | (simp only [ltB_t, ltB_f, eqB_t, eqB_f, pB_t, pB_f, sEq_t, sEq_f, emp_iff, ne_eq, List.length_map, Bool.not_eq_true, Bool.not_eq_false, Bool.not_eq_eq_eq_not, Bool.not_true, Bool.not_false]; omega) | (simp only [ltB_t, ltB_f, eqB_t, eqB_f, pB_t, pB_f, sEq_t, sEq_f, emp_iff, ne_eq, List.length_map, Bool.not_eq_true, Bool.not_eq_false, Bool.not_eq_eq_eq_not, Bool.not_true, Bool.not_false]; assumption)) ?_
    | refine Br.no (by first | (simp only [ltB_t, ltB_f, eqB_t, eqB_f, pB_t, pB_f, sEq_t, sEq_f, emp_iff, ne_eq, List.length_map, Bool.not_eq_true, Bool.not_eq_false, Bool.not_eq_eq_eq_not, Bool.not_true, Bool.not_false]; done) | (simp only [ltB_t, ltB_f, eqB_t, eqB_f, pB_t, pB_f, sEq_t, sEq_f, emp_iff, ne_eq, List.length_map, Bool.not_eq_true, Bool.not_eq_false, Bool.not_eq_eq_eq_not, Bool.not_true, Bool.not_false]; omega) | (simp only [ltB_t, ltB_f, eqB_t, eqB_f, pB_t, pB_f, sEq_t, sEq_f, emp_iff, ne_eq, List.length_map, Bool.not_eq_true, Bool.not_eq_false, Bool.not_eq_eq_eq_not, Bool.not_true, Bool.not_false]; assumption)) ?_
    | (refine Br.mk ?_ ?_ <;> intro h <;> (try simp only [ltB_t, ltB_f, eqB_t, eqB_f, pB_t, pB_f, sEq_t, sEq_f, emp_iff, ne_eq, List.length_map, Bool.not_eq_true, Bool.not_eq_false, Bool.not_eq_eq_eq_not, Bool.not_true, Bool.not_false] at h))
    | refine Ixv.mk (by omega) (ixE (by omega) (by omega)) ?_
    | refine Elt.mk rfl ?_
    | refine Elt.mk (by assumption) ?_
    | refine Elt.mk (ixE (by omega) (by omega)) ?_
    | (fail "callY")
    | refine E.regionQ tt (id := 8) mixed (by decide +kernel) ?_
    | refine E.regionQ tt (id := 10) mixed (by decide +kernel) ?_
    | refine E.regionQ tt (id := 11) mixed (by decide +kernel) ?_
    | refine E.regionT tt (id := 16) 14 mixed (by decide +kernel) ?_
    | refine E.regionFY tt (id := 16) [0, 1, 2, 4, 7, 8, 9, 10, 12, 13] 5 (.nd [(3, .nd [(5, .nd [(6, .nd [(11, .nd [(14, .nd [])])]), (11, .nd [(6, .nd [(14, .nd [])])])]), (11, .nd [(5, .nd [(6, .nd [(14, .nd [])])])])]), (11, .nd [(3, .nd [(5, .nd [(6, .nd [(14, .nd [])])])])])]) mixed (by decide +kernel) ?_
    | refine Bo.mk ?_ ?_
    | refine E.regionT tt (id := 19) 12 mixed (by decide +kernel) ?_
    | refine E.regionFY tt (id := 19) [0, 1, 2, 4, 7, 8, 9, 10] 5 (.nd [(3, .nd [(5, .nd [(6, .nd [(11, .nd [(12, .nd [])])]), (11, .nd [(6, .nd [(12, .nd [])])])]), (11, .nd [(5, .nd [(6, .nd [(12, .nd [])])])])]), (11, .nd [(3, .nd [(5, .nd [(6, .nd [(12, .nd [])])])])])]) mixed (by decide +kernel) ?_
    | refine Bo.mk ?_ ?_)) <;> (try (conv => whnf))
                  all_goals (exact ⟨_, ⟨rfl, rfl, rfl⟩, allSc_ok _ rfl, (fun r h => by cases h; exact ⟨_, rfl, rfl, rfl⟩), rfl, hK _ _ _ e4 P3 h3⟩)
                | false =>
                  have h3sh := hP.shape P3 e4 hs.2.2
                  have hrl3 : ds3.length = s0.plan.length := by have h1 := congrArg List.length P3.rows.ls; rw [List.length_map, h3sh.1] at h1; exact h1
                  have hb3 : q.1.toNat < ds3.length := by omega
                  have hix3 := P3.ixl hb0 hb3
                  obtain ⟨gx3, gN3⟩ := P3.rows.inx _ (List.getElem_mem hb3)
                  have hl3 : (ds3[q.1.toNat]).l.length = 40 := by rw [← hix3]; exact h3sh.2 _ (ix_mem hb0 (by rw [h3sh.1]; exact hlt))
                  have hpt3 := ptL_len (ds3[q.1.toNat]).l ((ix xs a).First + r.1) 0 (n := (ix xs a).Days) (by omega)
                  obtain ⟨hpe3, C3, hpx3, hpC3⟩ := P3.top.openAt (by rw [P3.rows.len, h3sh.1]; omega)
                  have hgk3 : (rawE ds3)[q.1.toNat]? = some [.raw (ds3[q.1.toNat]).hdr] := by unfold rawE; rw [List.getElem?_map, List.getElem?_eq_getElem hb3]; rfl
                  obtain ⟨w3, hw31, hw32⟩ := hpC3.cell hgk3
                  have hw33 : w3 = (ds3[q.1.toNat]).hdr := (Option.some.inj hw32).symm
                  subst hw33
                  have hqi : Qi (psR xs bud (d + 1) a s0) bud s0.plan.length (sI xs bud d a q.1 (sB xs bud d a s0 q.1) (r.1 + 1)) ⟨n3, pl3.set q.1.toNat (ptL (ds3[q.1.toNat]).l ((ix xs a).First + r.1) (ix xs a).Days 0), false, u3⟩ := by
                    cases u3 with
                    | true =>
                      rw [psK_stop (.inr rfl)] at hstop
                      exact .inr ⟨rfl, p3, hstop (.inr rfl)⟩
                    | false =>
                      have hp3 := h3 rfl
                      subst hp3
                      rw [psK_go, hix3] at hsj
                      exact .inl ⟨rfl, rfl, hsj.symm, hok3.1, by simpa using hok3.2.1, rows_set hok3.2.2 (by rw [hpt3]; exact hl3) _⟩
                  (repeat' ((conv => whnf); first
    | refine Sd.mk (by first | omega | (unfold in64; omega) | (simp only [fitK, in64]; omega) | (simp only [fitK, in64, chunk, List.length_map, List.length_append, List.length_replicate, List.length_set, List.length_nil, List.length_cons]; omega)) ?_
    | refine Br.yes rfl ?_
    | refine Br.no rfl ?_
    | refine Br.yes (by first | (simp only [ltB_t, ltB_f, eqB_t, eqB_f, pB_t, pB_f, sEq_t, sEq_f, emp_iff, ne_eq, List.length_map, Bool.not_eq_true, Bool.not_eq_false, Bool.not_eq_eq_eq_not, Bool.not_true, Bool.not_false]; done) | (simp only [ltB_t, ltB_f, eqB_t, eqB_f, pB_t, pB_f, sEq_t, sEq_f, emp_iff, ne_eq, List.length_map, Bool.not_eq_true, Bool.not_eq_false, Bool.not_eq_eq_eq_not, Bool.not_true, Bool.not_false]; omega) | (simp only [ltB_t, ltB_f, eqB_t, eqB_f, pB_t, pB_f, sEq_t, sEq_f, emp_iff, ne_eq, List.length_map, Bool.not_eq_true, Bool.not_eq_false, Bool.not_eq_eq_eq_not, Bool.not_true, Bool.not_false]; assumption)) ?_
    | refine Br.no (by first | (simp only [ltB_t, ltB_f, eqB_t, eqB_f, pB_t, pB_f, sEq_t, sEq_f, emp_iff, ne_eq, List.length_map, Bool.not_eq_true, Bool.not_eq_false, Bool.not_eq_eq_eq_not, Bool.not_true, Bool.not_false]; done) | (simp only [ltB_t, ltB_f, eqB_t, eqB_f, pB_t, pB_f, sEq_t, sEq_f, emp_iff, ne_eq, List.length_map, Bool.not_eq_true, Bool.not_eq_false, Bool.not_eq_eq_eq_not, Bool.not_true, Bool.not_false]; omega) | (simp only [ltB_t, ltB_f, eqB_t, eqB_f, pB_t, pB_f, sEq_t, sEq_f, emp_iff, ne_eq, List.length_map, Bool.not_eq_true, Bool.not_eq_false, Bool.not_eq_eq_eq_not, Bool.not_true, Bool.not_false]; assumption)) ?_
    | (refine Br.mk ?_ ?_ <;> intro h <;> (try simp only [ltB_t, ltB_f, eqB_t, eqB_f, pB_t, pB_f, sEq_t, sEq_f, emp_iff, ne_eq, List.length_map, Bool.not_eq_true, Bool.not_eq_false, Bool.not_eq_eq_eq_not, Bool.not_true, Bool.not_false] at h))
    | refine Ixv.mk (by omega) (ixE (by omega) (by omega)) ?_
    | refine Elt.mk rfl ?_
    | refine Elt.mk (by assumption) ?_
    | refine Elt.mk (ixE (by omega) (by omega)) ?_
    | refine E.read tt (rd_idxR1 tt (b := pb) (c := pc) rfl rfl rfl rfl rfl (by omega) (by omega)) rfl ?_
    | refine E.read tt (rd_loadR tt (m := .raw (ds3[q.1.toNat]).hdr) rfl rfl rfl hpx3 hw31 rfl) rfl ?_
    | (fail "callY")
    | refine E.regionQ tt (id := 8) mixed (by decide +kernel) ?_
    | refine E.regionQ tt (id := 10) mixed (by decide +kernel) ?_
    | refine E.regionQ tt (id := 11) mixed (by decide +kernel) ?_
    | refine E.regionT tt (id := 16) 14 mixed (by decide +kernel) ?_
    | refine E.regionFY tt (id := 16) [0, 1, 2, 4, 7, 8, 9, 10, 12, 13] 5 (.nd [(3, .nd [(5, .nd [(6, .nd [(11, .nd [(14, .nd [])])]), (11, .nd [(6, .nd [(14, .nd [])])])]), (11, .nd [(5, .nd [(6, .nd [(14, .nd [])])])])]), (11, .nd [(3, .nd [(5, .nd [(6, .nd [(14, .nd [])])])])])]) mixed (by decide +kernel) ?_
    | refine Bo.mk ?_ ?_
    | refine E.regionT tt (id := 19) 12 mixed (by decide +kernel) ?_
    | refine E.regionFY tt (id := 19) [0, 1, 2, 4, 7, 8, 9, 10] 5 (.nd [(3, .nd [(5, .nd [(6, .nd [(11, .nd [(12, .nd [])])]), (11, .nd [(6, .nd [(12, .nd [])])])]), (11, .nd [(5, .nd [(6, .nd [(12, .nd [])])])])]), (11, .nd [(3, .nd [(5, .nd [(6, .nd [(12, .nd [])])])])])]) mixed (by decide +kernel) ?_
    | refine Bo.mk ?_ ?_)) <;> (try (conv => whnf))
                  all_goals try (exfalso; omega)
                  refine E.callY tt h_putS rfl rfl rfl ⟨rfl, (ds3[q.1.toNat]).b, (ds3[q.1.toNat]).c, (ds3[q.1.toNat]).l, (ds3[q.1.toNat]).C, (ix xs a).First + r.1, (ix xs a).Days, 0, rfl, gx3, gN3, hl3, by omega, by omega, hfr.1, fun C4 hC4 => ?_⟩
                  obtain ⟨P4, e5⟩ := P3.put hb3 hpt3 hC4
                  (repeat' ((conv => whnf); first
    | refine Sd.mk (by first | omega | (unfold in64; omega) | (simp only [fitK, in64]; omega) | (simp only [fitK, in64, chunk, List.length_map, List.length_append, List.length_replicate, List.length_set, List.length_nil, List.length_cons]; omega)) ?_
    | refine Br.yes rfl ?_
    | refine Br.no rfl ?_
    | refine Br.yes (by first | (simp only [ltB_t, ltB_f, eqB_t, eqB_f, pB_t, pB_f, sEq_t, sEq_f, emp_iff, ne_eq, List.length_map, Bool.not_eq_true, Bool.not_eq_false, Bool.not_eq_eq_eq_not, Bool.not_true, Bool.not_false]; done) | (simp only [ltB_t, ltB_f, eqB_t, eqB_f, pB_t, pB_f, sEq_t, sEq_f, emp_iff, ne_eq, List.length_map, Bool.not_eq_true, Bool.not_eq_false, Bool.not_eq_eq_eq_not, Bool.not_true, Bool.not_false]; omega) | (simp only [ltB_t, ltB_f, eqB_t, eqB_f, pB_t, pB_f, sEq_t, sEq_f, emp_iff, ne_eq, List.length_map, Bool.not_eq_true, Bool.not_eq_false, Bool.not_eq_eq_eq_not, Bool.not_true, Bool.not_false]; assumption)) ?_
    | refine Br.no (by first | (simp only [ltB_t, ltB_f, eqB_t, eqB_f, pB_t, pB_f, sEq_t, sEq_f, emp_iff, ne_eq, List.length_map, Bool.not_eq_true, Bool.not_eq_false, Bool.not_eq_eq_eq_not, Bool.not_true, Bool.not_false]; done) | (simp only [ltB_t, ltB_f, eqB_t, eqB_f, pB_t, pB_f, sEq_t, sEq_f, emp_iff, ne_eq, List.length_map, Bool.not_eq_true, Bool.not_eq_false, Bool.not_eq_eq_eq_not, Bool.not_true, Bool.not_false]; omega) | (simp only [ltB_t, ltB_f, eqB_t, eqB_f, pB_t, pB_f, sEq_t, sEq_f, emp_iff, ne_eq, List.length_map, Bool.not_eq_true, Bool.not_eq_false, Bool.not_eq_eq_eq_not, Bool.not_true, Bool.not_false]; assumption)) ?_
    | (refine Br.mk ?_ ?_ <;> intro h <;> (try simp only [ltB_t, ltB_f, eqB_t, eqB_f, pB_t, pB_f, sEq_t, sEq_f, emp_iff, ne_eq, List.length_map, Bool.not_eq_true, Bool.not_eq_false, Bool.not_eq_eq_eq_not, Bool.not_true, Bool.not_false] at h))
    | refine Ixv.mk (by omega) (ixE (by omega) (by omega)) ?_
    | refine Elt.mk rfl ?_
    | refine Elt.mk (by assumption) ?_
    | refine Elt.mk (ixE (by omega) (by omega)) ?_
    | (fail "callY")
    | refine E.regionQ tt (id := 8) mixed (by decide +kernel) ?_
    | refine E.regionQ tt (id := 10) mixed (by decide +kernel) ?_
    | refine E.regionQ tt (id := 11) mixed (by decide +kernel) ?_
    | refine E.regionT tt (id := 16) 14 mixed (by decide +kernel) ?_
    | refine E.regionFY tt (id := 16) [0, 1, 2, 4, 7, 8, 9, 10, 12, 13] 5 (.nd [(3, .nd [(5, .nd [(6, .nd [(11, .nd [(14, .nd [])])]), (11, .nd [(6, .nd [(14, .nd [])])])]), (11, .nd [(5, .nd [(6, .nd [(14, .nd [])])])])]), (11, .nd [(3, .nd [(5, .nd [(6, .nd [(14, .nd [])])])])])]) mixed (by decide +kernel) ?_
    | refine Bo.mk ?_ ?_
    | refine E.regionT tt (id := 19) 12 mixed (by decide +kernel) ?_
    | refine E.regionFY tt (id := 19) [0, 1, 2, 4, 7, 8, 9, 10] 5 (.nd [(3, .nd [(5, .nd [(6, .nd [(11, .nd [(12, .nd [])])]), (11, .nd [(6, .nd [(12, .nd [])])])]), (11, .nd [(5, .nd [(6, .nd [(12, .nd [])])])])]), (11, .nd [(3, .nd [(5, .nd [(6, .nd [(12, .nd [])])])])])]) mixed (by decide +kernel) ?_
    | refine Bo.mk ?_ ?_)) <;> (try (conv => whnf))
                  all_goals (refine ⟨(r.1 + 1, ⟨n3, pl3.set q.1.toNat (ptL (ds3[q.1.toNat]).l ((ix xs a).First + r.1) (ix xs a).Days 0), false, u3⟩, ds3.set q.1.toNat ⟨(ds3[q.1.toNat]).b, (ds3[q.1.toNat]).c, C4, ptL (ds3[q.1.toNat]).l ((ix xs a).First + r.1) (ix xs a).Days 0⟩, X3.upd (ds3[q.1.toNat]).b (.cells C4 2 (0, 0))), ⟨⟨by dsimp only; omega, by dsimp only; omega⟩, P4, e5.trans e4, hqi⟩, by dsimp only; omega, ⟨rfl, ⟨rfl, rfl, rfl, rfl, pI (by omega), trivial⟩, ⟨rfl, trivial⟩, rfl, rfl, fun _ _ h => h⟩⟩)
            · cases e1
        · have hqi : Qi (psR xs bud (d + 1) a s0) bud s0.plan.length (sI xs bud d a q.1 (sB xs bud d a s0 q.1) (r.1 + 1)) ⟨n2, p2, f2, u2⟩ := by
            rcases ri with ⟨e1, e2, e3, hok⟩ | h
            · refine .inl ⟨e1, e2, ?_, hok⟩
              rw [hsj, ← e3]; exact (psStep_no hfr).symm
            · exact .inr h
          (repeat' ((conv => whnf); first
    | refine Sd.mk (by first | omega | (unfold in64; omega) | (simp only [fitK, in64]; omega) | (simp only [fitK, in64, chunk, List.length_map, List.length_append, List.length_replicate, List.length_set, List.length_nil, List.length_cons]; omega)) ?_
    | refine Br.yes rfl ?_
    | refine Br.no rfl ?_
    | refine Br.yes (by first | (simp only [ltB_t, ltB_f, eqB_t, eqB_f, pB_t, pB_f, sEq_t, sEq_f, emp_iff, ne_eq, List.length_map, Bool.not_eq_true, Bool.not_eq_false, Bool.not_eq_eq_eq_not, Bool.not_true, Bool.not_false]; done) | (simp only [ltB_t, ltB_f, eqB_t, eqB_f, pB_t, pB_f, sEq_t, sEq_f, emp_iff, ne_eq, List.length_map, Bool.not_eq_true, Bool.not_eq_false, Bool.not_eq_eq_eq_not, Bool.not_true, Bool.not_false]; omega) | (simp only [ltB_t, ltB_f, eqB_t, eqB_f, pB_t, pB_f, sEq_t, sEq_f, emp_iff, ne_eq, List.length_map, Bool.not_eq_true, Bool.not_eq_false, Bool.not_eq_eq_eq_not, Bool.not_true, Bool.not_false]; assumption)) ?_
    | refine Br.no (by first | (simp only [ltB_t, ltB_f, eqB_t, eqB_f, pB_t, pB_f, sEq_t, sEq_f, emp_iff, ne_eq, List.length_map, Bool.not_eq_true, Bool.not_eq_false, Bool.not_eq_eq_eq_not, Bool.not_true, Bool.not_false]; done) | (simp only [ltB_t, ltB_f, eqB_t, eqB_f, pB_t, pB_f, sEq_t, sEq_f, emp_iff, ne_eq, List.length_map, Bool.not_eq_true, Bool.not_eq_false, Bool.not_eq_eq_eq_not, Bool.not_true, Bool.not_false]; omega) | (simp only [ltB_t, ltB_f, eqB_t, eqB_f, pB_t, pB_f, sEq_t, sEq_f, emp_iff, ne_eq, List.length_map, Bool.not_eq_true, Bool.not_eq_false, Bool.not_eq_eq_eq_not, Bool.not_true, Bool.not_false]; assumption)) ?_
    | (refine Br.mk ?_ ?_ <;> intro h <;> (try simp only [ltB_t, ltB_f, eqB_t, eqB_f, pB_t, pB_f, sEq_t, sEq_f, emp_iff, ne_eq, List.length_map, Bool.not_eq_true, Bool.not_eq_false, Bool.not_eq_eq_eq_not, Bool.not_true, Bool.not_false] at h))
    | refine Ixv.mk (by omega) (ixE (by omega) (by omega)) ?_
    | refine Elt.mk rfl ?_
    | refine Elt.mk (by assumption) ?_
    | refine Elt.mk (ixE (by omega) (by omega)) ?_
    | refine E.read tt (rd_idxR1 tt (b := pb) (c := pc) rfl rfl rfl rfl rfl (by omega) (by omega)) rfl ?_
    | refine E.read tt (rd_loadR tt (m := .raw (r.2.2.1[q.1.toNat]).hdr) rfl rfl rfl hpx1 hw1 rfl) rfl ?_
    | (fail "callY")
    | refine E.regionQ tt (id := 8) mixed (by decide +kernel) ?_
    | refine E.regionQ tt (id := 10) mixed (by decide +kernel) ?_
    | refine E.regionQ tt (id := 11) mixed (by decide +kernel) ?_
    | refine E.regionT tt (id := 16) 14 mixed (by decide +kernel) ?_
    | refine E.regionFY tt (id := 16) [0, 1, 2, 4, 7, 8, 9, 10, 12, 13] 5 (.nd [(3, .nd [(5, .nd [(6, .nd [(11, .nd [(14, .nd [])])]), (11, .nd [(6, .nd [(14, .nd [])])])]), (11, .nd [(5, .nd [(6, .nd [(14, .nd [])])])])]), (11, .nd [(3, .nd [(5, .nd [(6, .nd [(14, .nd [])])])])])]) mixed (by decide +kernel) ?_
    | refine Bo.mk ?_ ?_
    | refine E.regionT tt (id := 19) 12 mixed (by decide +kernel) ?_
    | refine E.regionFY tt (id := 19) [0, 1, 2, 4, 7, 8, 9, 10] 5 (.nd [(3, .nd [(5, .nd [(6, .nd [(11, .nd [(12, .nd [])])]), (11, .nd [(6, .nd [(12, .nd [])])])]), (11, .nd [(5, .nd [(6, .nd [(12, .nd [])])])])]), (11, .nd [(3, .nd [(5, .nd [(6, .nd [(12, .nd [])])])])])]) mixed (by decide +kernel) ?_
    | refine Bo.mk ?_ ?_)) <;> (try (conv => whnf))
          all_goals try (exfalso; omega)
          refine E.callD tt (args := [.view 1 ((ix p2 q.1).map encI), I ((ix xs a).First + r.1), I (ix xs a).Days]) h_freeS ⟨Deep.fv rfl hrow, Deep.rd rfl, Deep.rd rfl, trivial⟩ rfl ⟨_, _, _, _, rfl, h40, by omega, by omega, .inr ⟨hfr, rfl⟩, _, _, rfl, rfl, ?_⟩
          (repeat' ((conv => whnf); first
    | refine Sd.mk (by first | omega | (unfold in64; omega) | (simp only [fitK, in64]; omega) | (simp only [fitK, in64, chunk, List.length_map, List.length_append, List.length_replicate, List.length_set, List.length_nil, List.length_cons]; omega)) ?_
    | refine Br.yes rfl ?_
    | refine Br.no rfl ?_
    | refine Br.yes (by first | (simp only [ltB_t, ltB_f, eqB_t, eqB_f, pB_t, pB_f, sEq_t, sEq_f, emp_iff, ne_eq, List.length_map, Bool.not_eq_true, Bool.not_eq_false, Bool.not_eq_eq_eq_not, Bool.not_true, Bool.not_false]; done) | (simp only [ltB_t, ltB_f, eqB_t, eqB_f, pB_t, pB_f, sEq_t, sEq_f, emp_iff, ne_eq, List.length_map, Bool.not_eq_true, Bool.not_eq_false, Bool.not_eq_eq_eq_not, Bool.not_true, Bool.not_false]; omega) | (simp only [ltB_t, ltB_f, eqB_t, eqB_f, pB_t, pB_f, sEq_t, sEq_f, emp_iff, ne_eq, List.length_map, Bool.not_eq_true, Bool.not_eq_false, Bool.not_eq_eq_eq_not, Bool.not_true, Bool.not_false]; assumption)) ?_
    | refine Br.no (by first | (simp only [ltB_t, ltB_f, eqB_t, eqB_f, pB_t, pB_f, sEq_t, sEq_f, emp_iff, ne_eq, List.length_map, Bool.not_eq_true, Bool.not_eq_false, Bool.not_eq_eq_eq_not, Bool.not_true, Bool.not_false]; done) | (simp only [ltB_t, ltB_f, eqB_t, eqB_f, pB_t, pB_f, sEq_t, sEq_f, emp_iff, ne_eq, List.length_map, Bool.not_eq_true, Bool.not_eq_false, Bool.not_eq_eq_eq_not, Bool.not_true, Bool.not_false]; omega) | (simp only [ltB_t, ltB_f, eqB_t, eqB_f, pB_t, pB_f, sEq_t, sEq_f, emp_iff, ne_eq, List.length_map, Bool.not_eq_true, Bool.not_eq_false, Bool.not_eq_eq_eq_not, Bool.not_true, Bool.not_false]; assumption)) ?_
    | (refine Br.mk ?_ ?_ <;> intro h <;> (try simp only [ltB_t, ltB_f, eqB_t, eqB_f, pB_t, pB_f, sEq_t, sEq_f, emp_iff, ne_eq, List.length_map, Bool.not_eq_true, Bool.not_eq_false, Bool.not_eq_eq_eq_not, Bool.not_true, Bool.not_false] at h))
    | refine Ixv.mk (by omega) (ixE (by omega) (by omega)) ?_
    | refine Elt.mk rfl ?_
    | refine Elt.mk (by assumption) ?_
    | refine Elt.mk (ixE (by omega) (by omega)) ?_
    | (fail "callY")
    | refine E.regionQ tt (id := 8) mixed (by decide +kernel) ?_
    | refine E.regionQ tt (id := 10) mixed (by decide +kernel) ?_
    | refine E.regionQ tt (id := 11) mixed (by decide +kernel) ?_
    | refine E.regionT tt (id := 16) 14 mixed (by decide +kernel) ?_
    | refine E.regionFY tt (id := 16) [0, 1, 2, 4, 7, 8, 9, 10, 12, 13] 5 (.nd [(3, .nd [(5, .nd [(6, .nd [(11, .nd [(14, .nd [])])]), (11, .nd [(6, .nd [(14, .nd [])])])]), (11, .nd [(5, .nd [(6, .nd [(14, .nd [])])])])]), (11, .nd [(3, .nd [(5, .nd [(6, .nd [(14, .nd [])])])])])]) mixed (by decide +kernel) ?_
    | refine Bo.mk ?_ ?_
    | refine E.regionT tt (id := 19) 12 mixed (by decide +kernel) ?_
    | refine E.regionFY tt (id := 19) [0, 1, 2, 4, 7, 8, 9, 10] 5 (.nd [(3, .nd [(5, .nd [(6, .nd [(11, .nd [(12, .nd [])])]), (11, .nd [(6, .nd [(12, .nd [])])])]), (11, .nd [(5, .nd [(6, .nd [(12, .nd [])])])])]), (11, .nd [(3, .nd [(5, .nd [(6, .nd [(12, .nd [])])])])])]) mixed (by decide +kernel) ?_
    | refine Bo.mk ?_ ?_)) <;> (try (conv => whnf))
          all_goals (refine ⟨(r.1 + 1, ⟨n2, p2, f2, u2⟩, r.2.2.1, r.2.2.2), ⟨⟨by dsimp only; omega, by dsimp only; omega⟩, rP, rr, hqi⟩, by dsimp only; omega, ⟨rfl, ⟨rfl, rfl, rfl, rfl, pI (by omega), trivial⟩, ⟨rfl, trivial⟩, rfl, rfl, fun _ _ h => h⟩⟩)
      · have hje : r.1 = (ix xs a).Last - (ix xs a).Days - (ix xs a).First + 2 := by omega
        have he2 : sB xs bud d a s0 (q.1 + 1) = sI xs bud d a q.1 (sB xs bud d a s0 q.1) r.1 := by rw [hsu, hje]; rfl
        rw [← he2] at ri
        (repeat' ((conv => whnf); first
    | refine Sd.mk (by first | omega | (unfold in64; omega) | (simp only [fitK, in64]; omega) | (simp only [fitK, in64, chunk, List.length_map, List.length_append, List.length_replicate, List.length_set, List.length_nil, List.length_cons]; omega)) ?_
    | refine Br.yes rfl ?_
    | refine Br.no rfl ?_
    | refine Br.yes (by first | (simp only [ltB_t, ltB_f, eqB_t, eqB_f, pB_t, pB_f, sEq_t, sEq_f, emp_iff, ne_eq, List.length_map, Bool.not_eq_true, Bool.not_eq_false, Bool.not_eq_eq_eq_not, Bool.not_true, Bool.not_false]; done) | (simp only [ltB_t, ltB_f, eqB_t, eqB_f, pB_t, pB_f, sEq_t, sEq_f, emp_iff, ne_eq, List.length_map, Bool.not_eq_true, Bool.not_eq_false, Bool.not_eq_eq_eq_not, Bool.not_true, Bool.not_false]; omega) | (simp only [ltB_t, ltB_f, eqB_t, eqB_f, pB_t, pB_f, sEq_t, sEq_f, emp_iff, ne_eq, List.length_map, Bool.not_eq_true, Bool.not_eq_false, Bool.not_eq_eq_eq_not, Bool.not_true, Bool.not_false]; assumption)) ?_
    | refine Br.no (by first | (simp only [ltB_t, ltB_f, eqB_t, eqB_f, pB_t, pB_f, sEq_t, sEq_f, emp_iff, ne_eq, List.length_map, Bool.not_eq_true, Bool.not_eq_false, Bool.not_eq_eq_eq_not, Bool.not_true, Bool.not_false]; done) | (simp only [ltB_t, ltB_f, eqB_t, eqB_f, pB_t, pB_f, sEq_t, sEq_f, emp_iff, ne_eq, List.length_map, Bool.not_eq_true, Bool.not_eq_false, Bool.not_eq_eq_eq_not, Bool.not_true, Bool.not_false]; omega) | (simp only [ltB_t, ltB_f, eqB_t, eqB_f, pB_t, pB_f, sEq_t, sEq_f, emp_iff, ne_eq, List.length_map, Bool.not_eq_true, Bool.not_eq_false, Bool.not_eq_eq_eq_not, Bool.not_true, Bool.not_false]; assumption)) ?_
    | (refine Br.mk ?_ ?_ <;> intro h <;> (try simp only [ltB_t, ltB_f, eqB_t, eqB_f, pB_t, pB_f, sEq_t, sEq_f, emp_iff, ne_eq, List.length_map, Bool.not_eq_true, Bool.not_eq_false, Bool.not_eq_eq_eq_not, Bool.not_true, Bool.not_false] at h))
    | refine Ixv.mk (by omega) (ixE (by omega) (by omega)) ?_
    | refine Elt.mk rfl ?_
    | refine Elt.mk (by assumption) ?_
    | refine Elt.mk (ixE (by omega) (by omega)) ?_
    | (fail "callY")
    | refine E.regionQ tt (id := 8) mixed (by decide +kernel) ?_
    | refine E.regionQ tt (id := 10) mixed (by decide +kernel) ?_
    | refine E.regionQ tt (id := 11) mixed (by decide +kernel) ?_
    | refine E.regionT tt (id := 16) 14 mixed (by decide +kernel) ?_
    | refine E.regionFY tt (id := 16) [0, 1, 2, 4, 7, 8, 9, 10, 12, 13] 5 (.nd [(3, .nd [(5, .nd [(6, .nd [(11, .nd [(14, .nd [])])]), (11, .nd [(6, .nd [(14, .nd [])])])]), (11, .nd [(5, .nd [(6, .nd [(14, .nd [])])])])]), (11, .nd [(3, .nd [(5, .nd [(6, .nd [(14, .nd [])])])])])]) mixed (by decide +kernel) ?_
    | refine Bo.mk ?_ ?_
    | refine E.regionT tt (id := 19) 12 mixed (by decide +kernel) ?_
    | refine E.regionFY tt (id := 19) [0, 1, 2, 4, 7, 8, 9, 10] 5 (.nd [(3, .nd [(5, .nd [(6, .nd [(11, .nd [(12, .nd [])])]), (11, .nd [(6, .nd [(12, .nd [])])])]), (11, .nd [(5, .nd [(6, .nd [(12, .nd [])])])])]), (11, .nd [(3, .nd [(5, .nd [(6, .nd [(12, .nd [])])])])])]) mixed (by decide +kernel) ?_
    | refine Bo.mk ?_ ?_)) <;> (try (conv => whnf))
        all_goals first
          | (exfalso; omega)
          | (refine ⟨(q.1 + 1, r.2.1, r.2.2.1, r.2.2.2), ⟨⟨by dsimp only; omega, by dsimp only; omega⟩, rP, rr, ri⟩, by dsimp only; omega, ⟨rfl, ⟨rfl, rfl, rfl, rfl, trivial⟩, ⟨rfl, trivial⟩, rfl, rfl, fun _ _ h => h⟩⟩; done)
    · have hbe : q.1 = s0.plan.length := by omega
      have he : psR xs bud (d + 1) a s0 = sB xs bud d a s0 q.1 := by rw [hbe]; rfl
      generalize q.2.1 = s1 at *
      obtain ⟨n1, p1, f1, u1⟩ := s1
      cases u1 with
      | true =>
        rcases qi with ⟨e1, _⟩ | ⟨_, pp, hR⟩
        · cases e1
        · rw [hR] at hK
          (repeat' ((conv => whnf); first
    | refine Sd.mk (by first | omega | (unfold in64; omega) | (simp only [fitK, in64]; omega) | (simp only [fitK, in64, chunk, List.length_map, List.length_append, List.length_replicate, List.length_set, List.length_nil, List.length_cons]; omega)) ?_
    | refine Br.yes rfl ?_
    | refine Br.no rfl ?_
    | refine Br.yes (by first | (simp only [ltB_t, ltB_f, eqB_t, eqB_f, pB_t, pB_f, sEq_t, sEq_f, emp_iff, ne_eq, List.length_map, Bool.not_eq_true, Bool.not_eq_false, Bool.not_eq_eq_eq_not, Bool.not_true, Bool.not_false]; done) | (simp only [ltB_t, ltB_f, eqB_t, eqB_f, pB_t, pB_f, sEq_t, sEq_f, emp_iff, ne_eq, List.length_map, Bool.not_eq_true, Bool.not_eq_false, Bool.not_eq_eq_eq_not, Bool.not_true, Bool.not_false]; omega) | (simp only [ltB_t, ltB_f, eqB_t, eqB_f, pB_t, pB_f, sEq_t, sEq_f, emp_iff, ne_eq, List.length_map, Bool.not_eq_true, Bool.not_eq_false, Bool.not_eq_eq_eq_not, Bool.not_true, Bool.not_false]; assumption)) ?_
    | refine Br.no (by first | (simp only [ltB_t, ltB_f, eqB_t, eqB_f, pB_t, pB_f, sEq_t, sEq_f, emp_iff, ne_eq, List.length_map, Bool.not_eq_true, Bool.not_eq_false, Bool.not_eq_eq_eq_not, Bool.not_true, Bool.not_false]; done) | (simp only [ltB_t, ltB_f, eqB_t, eqB_f, pB_t, pB_f, sEq_t, sEq_f, emp_iff, ne_eq, List.length_map, Bool.not_eq_true, Bool.not_eq_false, Bool.not_eq_eq_eq_not, Bool.not_true, Bool.not_false]; omega) | (simp only [ltB_t, ltB_f, eqB_t, eqB_f, pB_t, pB_f, sEq_t, sEq_f, emp_iff, ne_eq, List.length_map, Bool.not_eq_true, Bool.not_eq_false, Bool.not_eq_eq_eq_not, Bool.not_true, Bool.not_false]; assumption)) ?_
    | (refine Br.mk ?_ ?_ <;> intro h <;> (try simp only [ltB_t, ltB_f, eqB_t, eqB_f, pB_t, pB_f, sEq_t, sEq_f, emp_iff, ne_eq, List.length_map, Bool.not_eq_true, Bool.not_eq_false, Bool.not_eq_eq_eq_not, Bool.not_true, Bool.not_false] at h))
    | refine Ixv.mk (by omega) (ixE (by omega) (by omega)) ?_
    | refine Elt.mk rfl ?_
    | refine Elt.mk (by assumption) ?_
    | refine Elt.mk (ixE (by omega) (by omega)) ?_
    | refine E.read tt (rd_lenF tt rfl rfl rfl rfl qP.top) rfl ?_
    | (fail "callY")
    | refine E.regionQ tt (id := 8) mixed (by decide +kernel) ?_
    | refine E.regionQ tt (id := 10) mixed (by decide +kernel) ?_
    | refine E.regionQ tt (id := 11) mixed (by decide +kernel) ?_
    | refine E.regionT tt (id := 16) 14 mixed (by decide +kernel) ?_
    | refine E.regionFY tt (id := 16) [0, 1, 2, 4, 7, 8, 9, 10, 12, 13] 5 (.nd [(3, .nd [(5, .nd [(6, .nd [(11, .nd [(14, .nd [])])]), (11, .nd [(6, .nd [(14, .nd [])])])]), (11, .nd [(5, .nd [(6, .nd [(14, .nd [])])])])]), (11, .nd [(3, .nd [(5, .nd [(6, .nd [(14, .nd [])])])])])]) mixed (by decide +kernel) ?_
    | refine Bo.mk ?_ ?_
    | refine E.regionT tt (id := 19) 12 mixed (by decide +kernel) ?_
    | refine E.regionFY tt (id := 19) [0, 1, 2, 4, 7, 8, 9, 10] 5 (.nd [(3, .nd [(5, .nd [(6, .nd [(11, .nd [(12, .nd [])])]), (11, .nd [(6, .nd [(12, .nd [])])])]), (11, .nd [(5, .nd [(6, .nd [(12, .nd [])])])])]), (11, .nd [(3, .nd [(5, .nd [(6, .nd [(12, .nd [])])])])])]) mixed (by decide +kernel) ?_
    | refine Bo.mk ?_ ?_)) <;> (try (conv => whnf))
          all_goals first
            | (exfalso; omega)
            | exact ⟨_, ⟨rfl, rfl, rfl⟩, allSc_ok _ rfl, (fun r h => by cases h; exact ⟨_, rfl, rfl, rfl⟩), rfl, hK _ _ _ qr qP (fun h => by cases h)⟩
      | false =>
        rcases qi with ⟨_, e2, e3, hok⟩ | ⟨e1, _⟩
        · dsimp only at e2
          subst e2
          rw [he, ← e3] at hK
          (repeat' ((conv => whnf); first
    | refine Sd.mk (by first | omega | (unfold in64; omega) | (simp only [fitK, in64]; omega) | (simp only [fitK, in64, chunk, List.length_map, List.length_append, List.length_replicate, List.length_set, List.length_nil, List.length_cons]; omega)) ?_
    | refine Br.yes rfl ?_
    | refine Br.no rfl ?_
    | refine Br.yes (by first | (simp only [ltB_t, ltB_f, eqB_t, eqB_f, pB_t, pB_f, sEq_t, sEq_f, emp_iff, ne_eq, List.length_map, Bool.not_eq_true, Bool.not_eq_false, Bool.not_eq_eq_eq_not, Bool.not_true, Bool.not_false]; done) | (simp only [ltB_t, ltB_f, eqB_t, eqB_f, pB_t, pB_f, sEq_t, sEq_f, emp_iff, ne_eq, List.length_map, Bool.not_eq_true, Bool.not_eq_false, Bool.not_eq_eq_eq_not, Bool.not_true, Bool.not_false]; omega) | (simp only [ltB_t, ltB_f, eqB_t, eqB_f, pB_t, pB_f, sEq_t, sEq_f, emp_iff, ne_eq, List.length_map, Bool.not_eq_true, Bool.not_eq_false, Bool.not_eq_eq_eq_not, Bool.not_true, Bool.not_false]; assumption)) ?_
    | refine Br.no (by first | (simp only [ltB_t, ltB_f, eqB_t, eqB_f, pB_t, pB_f, sEq_t, sEq_f, emp_iff, ne_eq, List.length_map, Bool.not_eq_true, Bool.not_eq_false, Bool.not_eq_eq_eq_not, Bool.not_true, Bool.not_false]; done) | (simp only [ltB_t, ltB_f, eqB_t, eqB_f, pB_t, pB_f, sEq_t, sEq_f, emp_iff, ne_eq, List.length_map, Bool.not_eq_true, Bool.not_eq_false, Bool.not_eq_eq_eq_not, Bool.not_true, Bool.not_false]; omega) | (simp only [ltB_t, ltB_f, eqB_t, eqB_f, pB_t, pB_f, sEq_t, sEq_f, emp_iff, ne_eq, List.length_map, Bool.not_eq_true, Bool.not_eq_false, Bool.not_eq_eq_eq_not, Bool.not_true, Bool.not_false]; assumption)) ?_
    | (refine Br.mk ?_ ?_ <;> intro h <;> (try simp only [ltB_t, ltB_f, eqB_t, eqB_f, pB_t, pB_f, sEq_t, sEq_f, emp_iff, ne_eq, List.length_map, Bool.not_eq_true, Bool.not_eq_false, Bool.not_eq_eq_eq_not, Bool.not_true, Bool.not_false] at h))
    | refine Ixv.mk (by omega) (ixE (by omega) (by omega)) ?_
    | refine Elt.mk rfl ?_
    | refine Elt.mk (by assumption) ?_
    | refine Elt.mk (ixE (by omega) (by omega)) ?_
    | refine E.read tt (rd_lenF tt rfl rfl rfl rfl qP.top) rfl ?_
    | (fail "callY")
    | refine E.regionQ tt (id := 8) mixed (by decide +kernel) ?_
    | refine E.regionQ tt (id := 10) mixed (by decide +kernel) ?_
    | refine E.regionQ tt (id := 11) mixed (by decide +kernel) ?_
    | refine E.regionT tt (id := 16) 14 mixed (by decide +kernel) ?_
    | refine E.regionFY tt (id := 16) [0, 1, 2, 4, 7, 8, 9, 10, 12, 13] 5 (.nd [(3, .nd [(5, .nd [(6, .nd [(11, .nd [(14, .nd [])])]), (11, .nd [(6, .nd [(14, .nd [])])])]), (11, .nd [(5, .nd [(6, .nd [(14, .nd [])])])])]), (11, .nd [(3, .nd [(5, .nd [(6, .nd [(14, .nd [])])])])])]) mixed (by decide +kernel) ?_
    | refine Bo.mk ?_ ?_
    | refine E.regionT tt (id := 19) 12 mixed (by decide +kernel) ?_
    | refine E.regionFY tt (id := 19) [0, 1, 2, 4, 7, 8, 9, 10] 5 (.nd [(3, .nd [(5, .nd [(6, .nd [(11, .nd [(12, .nd [])])]), (11, .nd [(6, .nd [(12, .nd [])])])]), (11, .nd [(5, .nd [(6, .nd [(12, .nd [])])])])]), (11, .nd [(3, .nd [(5, .nd [(6, .nd [(12, .nd [])])])])])]) mixed (by decide +kernel) ?_
    | refine Bo.mk ?_ ?_)) <;> (try (conv => whnf))
          all_goals first
            | (exfalso; omega)
            | exact ⟨_, ⟨rfl, rfl, rfl⟩, allSc_ok _ rfl, (fun r h => by cases h; exact ⟨_, rfl, rfl, rfl⟩), rfl, hK _ _ _ qr qP (fun _ => rfl)⟩
        · cases e1

end Go.Proofs.Ythjbcgdmdmfijaa
