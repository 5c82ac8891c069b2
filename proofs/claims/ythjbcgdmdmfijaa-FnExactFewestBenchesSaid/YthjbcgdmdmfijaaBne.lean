/- Contracts (Bne). -/
import Derived.Test.YthjbcgdmdmfijaaBnd
set_option linter.unusedVariables false
set_option linter.unusedSimpArgs false
set_option maxRecDepth 100000
namespace Go.Lo
-- deps: Bnd
noncomputable def sB (xs : List D.Work) (bud : Int) (d : Nat) (a : Int) (s0 : Ps) (b : Int) : Ps := it (psB (psR xs bud d (a + 1)) bud (a + 1) (ix xs a)) s0 b
noncomputable def sI (xs : List D.Work) (bud : Int) (d : Nat) (a : Int) (b : Int) (s : Ps) (j : Int) : Ps := it (fun s j => psStep (psR xs bud d (a + 1)) bud (a + 1) (ix xs a).Days b s ((ix xs a).First + j)) s j
theorem it_stop {σ : Type} {f : σ → Int → σ} {s : σ} {k n : Int} (h0 : 0 ≤ k) (hk : k ≤ n) (hf : ∀ j, f (it f s k) j = it f s k) : it f s n = it f s k := by
  have key : ∀ m : Nat, it f s (k + m) = it f s k := fun m => by
    induction m with
    | zero => simp
    | succ m ih => rw [show k + ((m + 1 : Nat) : Int) = (k + m) + 1 by omega, it_succ (by omega), ih]; exact hf _
  have := key (n - k).toNat
  rwa [show k + ((n - k).toNat : Int) = n by omega] at this
theorem psR_stop {xs : List D.Work} {bud a q j : Int} {d : Nat} {s0 : Ps} (hx : 0 ≤ (ix xs a).Last - (ix xs a).Days - (ix xs a).First + 2) (q0 : 0 ≤ q) (q1 : q < s0.plan.length) (j0 : 0 ≤ j) (j1 : j ≤ (ix xs a).Last - (ix xs a).Days - (ix xs a).First + 2)
    (h : (sI xs bud d a q (sB xs bud d a s0 q) j).found = true ∨ (sI xs bud d a q (sB xs bud d a s0 q) j).full = true) : psR xs bud (d + 1) a s0 = sI xs bud d a q (sB xs bud d a s0 q) j := by
  have e1 : sB xs bud d a s0 (q + 1) = sI xs bud d a q (sB xs bud d a s0 q) j := by
    unfold sB
    rw [it_succ q0]
    exact it_stop j0 j1 (fun k => psStep_stop h)
  rw [← e1] at h ⊢
  exact it_stop (f := psB (psR xs bud d (a + 1)) bud (a + 1) (ix xs a)) (by omega) (by omega) (fun k => psB_stop hx h)
theorem hdr_eq {ds ds' : List Dn} (h : rawE ds' = rawE ds) {i : Nat} (h1 : i < ds'.length) (h2 : i < ds.length) : (ds'[i]).hdr = (ds[i]).hdr := by
  have e := congrArg (fun l => l[i]?) h
  simp only [rawE, List.getElem?_map, List.getElem?_eq_getElem h1, List.getElem?_eq_getElem h2, Option.map_some, Option.some.injEq, List.cons.injEq, PV.raw.injEq] at e
  exact e.1
theorem PlX.row {e e2 : Nat} {X : Frag} {pv : Value} {ds : List Dn} {plan : List (List Int)} (h : PlX e e2 X pv ds plan) {b : Int} (b0 : 0 ≤ b) (h1 : b.toNat < ds.length) : FV e X (ds[b.toNat]).hdr ((ix plan b).map encN) := by
  obtain ⟨g1, g2⟩ := h.rows.inx _ (List.getElem_mem h1)
  have hl : ix plan b = (ds[b.toNat]).l := by
    have h3 : plan[b.toNat]? = some (ds[b.toNat]).l := by rw [← h.rows.ls, List.getElem?_map, List.getElem?_eq_getElem h1]; rfl
    unfold ix
    simp [h3]
  rw [hl]
  refine .inr ⟨_, _, _, ?_, g1, g2.rowC⟩
  unfold Dn.hdr; simp
open Classical in
noncomputable def psK (b day days : Int) (r : Ps) : Ps := if r.found = true ∨ r.full = true then r else ⟨r.nodes, r.plan.set b.toNat (ptL (ix r.plan b) day days 0), false, false⟩
theorem psK_stop {b day days : Int} {r : Ps} (h : r.found = true ∨ r.full = true) : psK b day days r = r := if_pos h
theorem psK_go {b day days n : Int} {p : List (List Int)} : psK b day days ⟨n, p, false, false⟩ = ⟨n, p.set b.toNat (ptL (ix p b) day days 0), false, false⟩ := if_neg (by simp)
theorem psStep_no {rc : Ps → Ps} {bud w days b day : Int} {s : Ps} (h : ¬ frC (ix s.plan b) day days) : psStep rc bud w days b s day = s := by
  unfold psStep; rw [if_pos (.inr (.inr h))]
theorem psStep_full {rc : Ps → Ps} {bud w days b day : Int} {s : Ps} (h1 : s.found = false) (h2 : s.full = false) (h3 : frC (ix s.plan b) day days) (h4 : s.nodes = bud) : psStep rc bud w days b s day = ⟨s.nodes, s.plan, false, true⟩ := by
  unfold psStep; rw [if_neg (by rw [h1, h2]; simpa using h3), if_pos h4]
theorem psStep_go {rc : Ps → Ps} {bud w days b day : Int} {s : Ps} {l : List Int} (h1 : s.found = false) (h2 : s.full = false) (h3 : frC (ix s.plan b) day days) (h4 : ¬ s.nodes = bud) (hl : ix s.plan b = l) :
    psStep rc bud w days b s day = psK b day days (rc ⟨s.nodes + 1, s.plan.set b.toNat (ptL l day days w), false, false⟩) := by
  subst hl
  unfold psStep; rw [if_neg (by rw [h1, h2]; simpa using h3), if_neg h4]; rfl
theorem PlX.ixl {e e2 : Nat} {X : Frag} {pv : Value} {ds : List Dn} {plan : List (List Int)} (h : PlX e e2 X pv ds plan) {b : Int} (b0 : 0 ≤ b) (h1 : b.toNat < ds.length) : ix plan b = (ds[b.toNat]).l := by
  have h3 : plan[b.toNat]? = some (ds[b.toNat]).l := by rw [← h.rows.ls, List.getElem?_map, List.getElem?_eq_getElem h1]; rfl
  unfold ix
  simp [h3]
theorem sB_zero (xs : List D.Work) (bud : Int) (d : Nat) (a : Int) (s0 : Ps) : sB xs bud d a s0 0 = s0 := it_zero _ _
end Go.Lo
namespace Go.Proofs.Ythjbcgdmdmfijaa
open Go.Lo
attribute [local irreducible] W Wc



theorem h_plI : ∀ d, YHolds Try.prog 118 (cPlI 164 2 24 d)
  | 0 => h_pl0
  | d + 1 => by
    have ih := h_plI d
    refine E.mkY tt Try.func118 rfl Try.ntmps118 rfl (by kernel_rfl) ?_
    rintro _ _ X K ⟨xs, bud, pv, ds, s0, a, rfl, rfl, hP, hB, ⟨ha, had⟩, hs, hpl, hbud, hfo, hfl, hK⟩
    have hln : (xs.map D.Work.enc).length = xs.length := by simp
    have hle := hB.le
    have hdl : ds.length = s0.plan.length := by rw [← hP.rows.ls]; simp
    have hrl : (rawE ds).length = s0.plan.length := hP.rows.len
    have hw := hB.at (i := a) ha (by omega)
    unfold WorkOk at hw
    have hx0 : (xs.map D.Work.enc)[(a : Int).toNat]? = some (ix xs a).enc := ixE (by omega) (by omega)
    refine ⟨Nat.le_of_ble_eq_true rfl, ?_⟩
    (repeat' ((conv => whnf); first
    | refine Ixv.mk (by omega) hx0 ?_
    | refine Sd.mk (by first | omega | (unfold in64; omega) | (simp only [fitK, in64]; omega) | (simp only [fitK, in64, chunk, List.length_map, List.length_append, List.length_replicate, List.length_set, List.length_nil, List.length_cons]; omega)) ?_
    | refine Br.yes rfl ?_
    | refine Br.no rfl ?_
    | refine Br.yes (by first | (simp only [ltB_t, ltB_f, eqB_t, eqB_f, pB_t, pB_f, sEq_t, sEq_f, emp_iff, ne_eq, List.length_map, Bool.not_eq_true, Bool.not_eq_false, Bool.not_eq_eq_eq_not, Bool.not_true, Bool.not_false]; done) | (simp only [ltB_t, ltB_f, eqB_t, eqB_f, pB_t, pB_f, sEq_t, sEq_f, emp_iff, ne_eq, List.length_map, Bool.not_eq_true, Bool.not_eq_false, Bool.not_eq_eq_eq_not, Bool.not_true, Bool.not_false]; omega) | (simp only [ltB_t, ltB_f, eqB_t, eqB_f, pB_t, pB_f, sEq_t, sEq_f, emp_iff, ne_eq, List.length_map, Bool.not_eq_true, Bool.not_eq_false, Bool.not_eq_eq_eq_not, Bool.not_true, Bool.not_false]; assumption)) ?_
    | refine Br.no (by first | (simp only [ltB_t, ltB_f, eqB_t, eqB_f, pB_t, pB_f, sEq_t, sEq_f, emp_iff, ne_eq, List.length_map, Bool.not_eq_true, Bool.not_eq_false, Bool.not_eq_eq_eq_not, Bool.not_true, Bool.not_false]; done) | (simp only [ltB_t, ltB_f, eqB_t, eqB_f, pB_t, pB_f, sEq_t, sEq_f, emp_iff, ne_eq, List.length_map, Bool.not_eq_true, Bool.not_eq_false, Bool.not_eq_eq_eq_not, Bool.not_true, Bool.not_false]; omega) | (simp only [ltB_t, ltB_f, eqB_t, eqB_f, pB_t, pB_f, sEq_t, sEq_f, emp_iff, ne_eq, List.length_map, Bool.not_eq_true, Bool.not_eq_false, Bool.not_eq_eq_eq_not, Bool.not_true, Bool.not_false]; assumption)) ?_
    | (refine Br.mk ?_ ?_ <;> intro h <;> (try simp only [ltB_t, ltB_f, eqB_t, eqB_f, pB_t, pB_f, sEq_t, sEq_f, emp_iff, ne_eq, List.length_map, Bool.not_eq_true, Bool.not_eq_false, Bool.not_eq_eq_eq_not, Bool.not_true, Bool.not_false] at h))
    | refine Ixv.mk (by omega) (ixE (by omega) (by omega)) ?_
    | refine Elt.mk rfl ?_
    | refine Elt.mk (by assumption) ?_
    | refine Elt.mk (ixE (by omega) (by omega)) ?_
    | refine E.read tt (rd_lenF tt rfl rfl rfl rfl hP.top) rfl ?_
    | (fail "callY"))) <;> (try (conv => whnf))
    all_goals try (exfalso; omega)
    refine E.loop tt (fun q : Int × List Dn × Frag => (0 ≤ q.1 ∧ q.1 ≤ s0.plan.length) ∧ ((sB xs bud d a s0 q.1).found = false ∧ (sB xs bud d a s0 q.1).full = false ∧ psOk bud s0.plan.length (sB xs bud d a s0 q.1)) ∧ PlX 2 24 q.2.2 pv q.2.1 (sB xs bud d a s0 q.1).plan ∧ rawE q.2.1 = rawE ds) (fun q => ⟨90, 2, [(0, .loc 0 0 0), (1, .p (I a)), (6, .loc 1 0 0), (27, .p (.raw pv)), (28, .p (I s0.plan.length)), (29, .p (I q.1))], [(0, mrP 164 xs pv (bud - (sB xs bud d a s0 q.1).nodes)), (1, ⟨136, 4, [(ix xs a).enc]⟩)], q.2.2⟩) (fun q => (s0.plan.length - q.1).toNat) (0, ds, X) ⟨⟨by dsimp only; omega, by dsimp only; omega⟩, by rw [sB_zero]; exact ⟨hfo, hfl, hs⟩, by rw [sB_zero]; exact hP, rfl⟩ ⟨rfl, ⟨rfl, rfl, rfl, rfl, pI (by rw [hrl]), rfl, trivial⟩, ⟨(by rw [sB_zero]; rfl), rfl, trivial⟩, rfl, rfl, fun _ _ h => h⟩ ?_
    rintro q ⟨⟨hb0, hb1⟩, ⟨qfo, qfl, qok⟩, qP, qr⟩
    rcases Int.lt_or_le q.1 s0.plan.length with hlt | hge
    · have hql : q.2.1.length = s0.plan.length := by have h1 := congrArg List.length qP.rows.ls; rw [List.length_map, qok.2.1] at h1; exact h1
      have hqr : (rawE q.2.1).length = s0.plan.length := by rw [qP.rows.len, qok.2.1]
      have hbn : q.1.toNat < q.2.1.length := by omega
      have hgk : (rawE q.2.1)[q.1.toNat]? = some [.raw (q.2.1[q.1.toNat]).hdr] := by unfold rawE; rw [List.getElem?_map, List.getElem?_eq_getElem hbn]; rfl
      obtain ⟨pb, pc, pC, rfl, hpx, hpC⟩ := qP.top.open (by rw [hqr]; omega)
      obtain ⟨w, hw1, hw2⟩ := hpC.cell hgk
      have hw3 : w = (q.2.1[q.1.toNat]).hdr := (Option.some.inj hw2).symm
      subst hw3
      have hsu : sB xs bud d a s0 (q.1 + 1) = psB (psR xs bud d (a + 1)) bud (a + 1) (ix xs a) (sB xs bud d a s0 q.1) q.1 := it_succ hb0
      (repeat' ((conv => whnf); first
    | refine Sd.mk (by first | omega | (unfold in64; omega) | (simp only [fitK, in64]; omega) | (simp only [fitK, in64, chunk, List.length_map, List.length_append, List.length_replicate, List.length_set, List.length_nil, List.length_cons]; omega)) ?_
    | refine Br.yes rfl ?_
    | refine Br.no rfl ?_
    | refine Br.yes (by first | (simp only [ltB_t, ltB_f, eqB_t, eqB_f, pB_t, pB_f, sEq_t, sEq_f, emp_iff, ne_eq, List.length_map, Bool.not_eq_true, Bool.not_eq_false, Bool.not_eq_eq_eq_not, Bool.not_true, Bool.not_false]; done) | (simp only [ltB_t, ltB_f, eqB_t, eqB_f, pB_t, pB_f, sEq_t, sEq_f, emp_iff, ne_eq, List.length_map, Bool.not_eq_true, Bool.not_eq_false, Bool.not_eq_eq_eq_not, Bool.not_true, Bool.not_false]; omega) | (simp only [ltB_t, ltB_f, eqB_t, eqB_f, pB_t, pB_f, sEq_t, sEq_f, emp_iff, ne_eq, List.length_map, Bool.not_eq_true, Bool.not_eq_false, Bool.not_eq_eq_eq_not, Bool.not_true, Bool.not_false]; assumption)) ?_
    | refine Br.no (by first | (simp only [ltB_t, ltB_f, eqB_t, eqB_f, pB_t, pB_f, sEq_t, sEq_f, emp_iff, ne_eq, List.length_map, Bool.not_eq_true, Bool.not_eq_false, Bool.not_eq_eq_eq_not, Bool.not_true, Bool.not_false]; done) | (simp only [ltB_t, ltB_f, eqB_t, eqB_f, pB_t, pB_f, sEq_t, sEq_f, emp_iff, ne_eq, List.length_map, Bool.not_eq_true, Bool.not_eq_false, Bool.not_eq_eq_eq_not, Bool.not_true, Bool.not_false]; omega) | (simp only [ltB_t, ltB_f, eqB_t, eqB_f, pB_t, pB_f, sEq_t, sEq_f, emp_iff, ne_eq, List.length_map, Bool.not_eq_true, Bool.not_eq_false, Bool.not_eq_eq_eq_not, Bool.not_true, Bool.not_false]; assumption)) ?_
    | (refine Br.mk ?_ ?_ <;> intro h <;> (try simp only [ltB_t, ltB_f, eqB_t, eqB_f, pB_t, pB_f, sEq_t, sEq_f, emp_iff, ne_eq, List.length_map, Bool.not_eq_true, Bool.not_eq_false, Bool.not_eq_eq_eq_not, Bool.not_true, Bool.not_false] at h))
    | refine Ixv.mk (by omega) (ixE (by omega) (by omega)) ?_
    | refine Elt.mk rfl ?_
    | refine Elt.mk (by assumption) ?_
    | refine Elt.mk (ixE (by omega) (by omega)) ?_
    | refine E.read tt (rd_idxR1 tt (b := pb) (c := pc) rfl rfl rfl rfl rfl (by omega) (by omega)) rfl ?_
    | refine E.read tt (rd_loadR tt (m := .raw (q.2.1[q.1.toNat]).hdr) rfl rfl rfl hpx hw1 rfl) rfl ?_
    | (fail "callY"))) <;> (try (conv => whnf))
      all_goals try (exfalso; omega)
      generalize hs1 : sB xs bud d a s0 q.1 = s1 at *
      refine E.loop tt (fun r : Int × List Dn × Frag => (0 ≤ r.1 ∧ r.1 ≤ (ix xs a).Last - (ix xs a).Days - (ix xs a).First + 2) ∧ ((sI xs bud d a q.1 s1 r.1).found = false ∧ (sI xs bud d a q.1 s1 r.1).full = false ∧ psOk bud s0.plan.length (sI xs bud d a q.1 s1 r.1)) ∧ PlX 2 24 r.2.2 (.slice (some ⟨pb, 0, none⟩) (rawE q.2.1).length pc) r.2.1 (sI xs bud d a q.1 s1 r.1).plan ∧ rawE r.2.1 = rawE ds) (fun r => ⟨90, 2, [(0, .loc 0 0 0), (1, .p (I a)), (6, .loc 1 0 0), (8, .p (.raw (q.2.1[q.1.toNat]).hdr)), (9, .p (I ((ix xs a).First + r.1))), (27, .p (.raw (.slice (some ⟨pb, 0, none⟩) (rawE q.2.1).length pc))), (28, .p (I s0.plan.length)), (29, .p (I q.1))], [(0, mrP 164 xs (.slice (some ⟨pb, 0, none⟩) (rawE q.2.1).length pc) (bud - (sI xs bud d a q.1 s1 r.1).nodes)), (1, ⟨136, 4, [(ix xs a).enc]⟩)], r.2.2⟩) (fun r => ((ix xs a).Last - (ix xs a).Days - (ix xs a).First + 2 - r.1).toNat) (0, q.2.1, q.2.2) ⟨⟨by dsimp only; omega, by dsimp only; omega⟩, ⟨qfo, qfl, qok⟩, qP, qr⟩ ⟨rfl, ⟨rfl, rfl, rfl, rfl, pI (by omega), rfl, rfl, rfl, trivial⟩, ⟨rfl, rfl, trivial⟩, rfl, rfl, fun _ _ h => h⟩ ?_
      rintro r ⟨⟨hj0, hj1⟩, ⟨rfo, rfl', rok⟩, rP, rr⟩
      rcases Int.lt_or_le r.1 ((ix xs a).Last - (ix xs a).Days - (ix xs a).First + 2) with hjlt | hjge
      · have hrl2 : r.2.1.length = s0.plan.length := by have h1 := congrArg List.length rP.rows.ls; rw [List.length_map, rok.2.1] at h1; exact h1
        have hbr : q.1.toNat < r.2.1.length := by omega
        have hH : (r.2.1[q.1.toNat]).hdr = (q.2.1[q.1.toNat]).hdr := hdr_eq (rr.trans qr.symm) hbr hbn
        have hrow := rP.row hb0 hbr
        rw [hH] at hrow
        have hsj : sI xs bud d a q.1 s1 (r.1 + 1) = psStep (psR xs bud d (a + 1)) bud (a + 1) (ix xs a).Days q.1 (sI xs bud d a q.1 s1 r.1) ((ix xs a).First + r.1) := it_succ hj0
        have hstop := psR_stop (xs := xs) (bud := bud) (d := d) (a := a) (s0 := s0) (q := q.1) (j := r.1 + 1) (by omega) hb0 hlt (by omega) (by omega)
        rw [hs1] at hstop
        generalize hs2 : sI xs bud d a q.1 s1 r.1 = s2 at *
        have h40 := rok.row hb0 (by omega)
        by_cases hfr : frC (ix s2.plan q.1) ((ix xs a).First + r.1) (ix xs a).Days
        · by_cases hnb : s2.nodes = bud
          · have hst : psStep (psR xs bud d (a + 1)) bud (a + 1) (ix xs a).Days q.1 s2 ((ix xs a).First + r.1) = ⟨s2.nodes, s2.plan, false, true⟩ := by
              unfold psStep; rw [if_neg (by rw [rfo, rfl']; simpa using hfr), if_pos hnb]
            rw [hst] at hsj
            rw [hsj] at hstop
            rw [hstop (.inr rfl)] at hK
            (repeat' ((conv => whnf); first
    | refine Sd.mk (by first | omega | (unfold in64; omega) | (simp only [fitK, in64]; omega) | (simp only [fitK, in64, chunk, List.length_map, List.length_append, List.length_replicate, List.length_set, List.length_nil, List.length_cons]; omega)) ?_
    | refine Br.yes rfl ?_
    | refine Br.no rfl ?_
    | refine Br.yes (by first | (simp only [ltB_t, ltB_f, eqB_t, eqB_f, pB_t, pB_f, sEq_t, sEq_f, emp_iff, ne_eq, List.length_map, Bool.not_eq_true, Bool.not_eq_false, Bool.not_eq_eq_eq_not, Bool.not_true, Bool.not_false]; done) | (simp only [ltB_t, ltB_f, eqB_t, eqB_f, pB_t, pB_f, sEq_t, sEq_f, emp_iff, ne_eq, List.length_map, Bool.not_eq_true, Bool.not_eq_false, Bool.not_eq_eq_eq_not, Bool.not_true, Bool.not_false]; omega) | (simp only [ltB_t, ltB_f, eqB_t, eqB_f, pB_t, pB_f, sEq_t, sEq_f, emp_iff, ne_eq, List.length_map, Bool.not_eq_true, Bool.not_eq_false, Bool.not_eq_eq_eq_not, Bool.not_true, Bool.not_false]; assumption)) ?_
    | refine Br.no (by first | (simp only [ltB_t, ltB_f, eqB_t, eqB_f, pB_t, pB_f, sEq_t, sEq_f, emp_iff, ne_eq, List.length_map, Bool.not_eq_true, Bool.not_eq_false, Bool.not_eq_eq_eq_not, Bool.not_true, Bool.not_false]; done) | (simp only [ltB_t, ltB_f, eqB_t, eqB_f, pB_t, pB_f, sEq_t, sEq_f, emp_iff, ne_eq, List.length_map, Bool.not_eq_true, Bool.not_eq_false, Bool.not_eq_eq_eq_not, Bool.not_true, Bool.not_false]; omega) | (simp only [ltB_t, ltB_f, eqB_t, eqB_f, pB_t, pB_f, sEq_t, sEq_f, emp_iff, ne_eq, List.length_map, Bool.not_eq_true, Bool.not_eq_false, Bool.not_eq_eq_eq_not, Bool.not_true, Bool.not_false]; assumption)) ?_
    | (refine Br.mk ?_ ?_ <;> intro h <;> (try simp only [ltB_t, ltB_f, eqB_t, eqB_f, pB_t, pB_f, sEq_t, sEq_f, emp_iff, ne_eq, List.length_map, Bool.not_eq_true, Bool.not_eq_false, Bool.not_eq_eq_eq_not, Bool.not_true, Bool.not_false] at h))
    | refine Ixv.mk (by omega) (ixE (by omega) (by omega)) ?_
    | refine Elt.mk rfl ?_
    | refine Elt.mk (by assumption) ?_
    | refine Elt.mk (ixE (by omega) (by omega)) ?_
    | (fail "callY"))) <;> (try (conv => whnf))
            all_goals try (exfalso; omega)
            refine E.callD tt (args := [.view 1 ((ix s2.plan q.1).map encI), I ((ix xs a).First + r.1), I (ix xs a).Days]) h_freeI ⟨Deep.fv rfl hrow, Deep.rd rfl, Deep.rd rfl, trivial⟩ rfl ⟨_, _, _, _, rfl, h40, by omega, by omega, .inl ⟨hfr, rfl⟩, _, _, rfl, rfl, ?_⟩
            (repeat' ((conv => whnf); first
    | refine Sd.mk (by first | omega | (unfold in64; omega) | (simp only [fitK, in64]; omega) | (simp only [fitK, in64, chunk, List.length_map, List.length_append, List.length_replicate, List.length_set, List.length_nil, List.length_cons]; omega)) ?_
    | refine Br.yes rfl ?_
    | refine Br.no rfl ?_
    | refine Br.yes (by first | (simp only [ltB_t, ltB_f, eqB_t, eqB_f, pB_t, pB_f, sEq_t, sEq_f, emp_iff, ne_eq, List.length_map, Bool.not_eq_true, Bool.not_eq_false, Bool.not_eq_eq_eq_not, Bool.not_true, Bool.not_false]; done) | (simp only [ltB_t, ltB_f, eqB_t, eqB_f, pB_t, pB_f, sEq_t, sEq_f, emp_iff, ne_eq, List.length_map, Bool.not_eq_true, Bool.not_eq_false, Bool.not_eq_eq_eq_not, Bool.not_true, Bool.not_false]; omega) | (simp only [ltB_t, ltB_f, eqB_t, eqB_f, pB_t, pB_f, sEq_t, sEq_f, emp_iff, ne_eq, List.length_map, Bool.not_eq_true, Bool.not_eq_false, Bool.not_eq_eq_eq_not, Bool.not_true, Bool.not_false]; assumption)) ?_
    | refine Br.no (by first | (simp only [ltB_t, ltB_f, eqB_t, eqB_f, pB_t, pB_f, sEq_t, sEq_f, emp_iff, ne_eq, List.length_map, Bool.not_eq_true, Bool.not_eq_false, Bool.not_eq_eq_eq_not, Bool.not_true, Bool.not_false]; done) | (simp only [ltB_t, ltB_f, eqB_t, eqB_f, pB_t, pB_f, sEq_t, sEq_f, emp_iff, ne_eq, List.length_map, Bool.not_eq_true, Bool.not_eq_false, Bool.not_eq_eq_eq_not, Bool.not_true, Bool.not_false]; omega) | (simp only [ltB_t, ltB_f, eqB_t, eqB_f, pB_t, pB_f, sEq_t, sEq_f, emp_iff, ne_eq, List.length_map, Bool.not_eq_true, Bool.not_eq_false, Bool.not_eq_eq_eq_not, Bool.not_true, Bool.not_false]; assumption)) ?_
    | (refine Br.mk ?_ ?_ <;> intro h <;> (try simp only [ltB_t, ltB_f, eqB_t, eqB_f, pB_t, pB_f, sEq_t, sEq_f, emp_iff, ne_eq, List.length_map, Bool.not_eq_true, Bool.not_eq_false, Bool.not_eq_eq_eq_not, Bool.not_true, Bool.not_false] at h))
    | refine Ixv.mk (by omega) (ixE (by omega) (by omega)) ?_
    | refine Elt.mk rfl ?_
    | refine Elt.mk (by assumption) ?_
    | refine Elt.mk (ixE (by omega) (by omega)) ?_
    | (fail "callY"))) <;> (try (conv => whnf))
            all_goals first
              | (exfalso; omega)
              | exact ⟨_, ⟨rfl, rfl, rfl⟩, allSc_ok _ rfl, (fun r h => by cases h; exact ⟨_, rfl, rfl, rfl⟩), rfl, hK _ _ _ rr rP (fun h => by cases h)⟩
          · have hn0 : 0 ≤ s2.nodes := rok.1.1
            have hn2 : s2.nodes < bud := by have := rok.1; omega
            have hix := rP.ixl hb0 hbr
            obtain ⟨gx, gN⟩ := rP.rows.inx _ (List.getElem_mem hbr)
            have hst := psStep_go (rc := psR xs bud d (a + 1)) (bud := bud) (w := a + 1) rfo rfl' hfr hnb hix
            have hl40 : (r.2.1[q.1.toNat]).l.length = 40 := by rw [← hix]; exact h40
            have hpt := ptL_len (r.2.1[q.1.toNat]).l ((ix xs a).First + r.1) (a + 1) (n := (ix xs a).Days) (by omega)
            have hok2 : psOk bud s0.plan.length ⟨s2.nodes + 1, s2.plan.set q.1.toNat (ptL (r.2.1[q.1.toNat]).l ((ix xs a).First + r.1) (ix xs a).Days (a + 1)), false, false⟩ :=
              ⟨⟨by have := rok.1; dsimp only; omega, by dsimp only; omega⟩, by simpa using rok.2.1, rows_set rok.2.2 (by rw [hpt]; exact hl40) _⟩
            have hok3 := psR_ok hB d (a + 1) _ (by omega) (by omega) hok2
            rw [hst] at hsj
            rw [hsj] at hstop
            (repeat' ((conv => whnf); first
    | refine Sd.mk (by first | omega | (unfold in64; omega) | (simp only [fitK, in64]; omega) | (simp only [fitK, in64, chunk, List.length_map, List.length_append, List.length_replicate, List.length_set, List.length_nil, List.length_cons]; omega)) ?_
    | refine Br.yes rfl ?_
    | refine Br.no rfl ?_
    | refine Br.yes (by first | (simp only [ltB_t, ltB_f, eqB_t, eqB_f, pB_t, pB_f, sEq_t, sEq_f, emp_iff, ne_eq, List.length_map, Bool.not_eq_true, Bool.not_eq_false, Bool.not_eq_eq_eq_not, Bool.not_true, Bool.not_false]; done) | (simp only [ltB_t, ltB_f, eqB_t, eqB_f, pB_t, pB_f, sEq_t, sEq_f, emp_iff, ne_eq, List.length_map, Bool.not_eq_true, Bool.not_eq_false, Bool.not_eq_eq_eq_not, Bool.not_true, Bool.not_false]; omega) | (simp only [ltB_t, ltB_f, eqB_t, eqB_f, pB_t, pB_f, sEq_t, sEq_f, emp_iff, ne_eq, List.length_map, Bool.not_eq_true, Bool.not_eq_false, Bool.not_eq_eq_eq_not, Bool.not_true, Bool.not_false]; assumption)) ?_
    | refine Br.no (by first | (simp only [ltB_t, ltB_f, eqB_t, eqB_f, pB_t, pB_f, sEq_t, sEq_f, emp_iff, ne_eq, List.length_map, Bool.not_eq_true, Bool.not_eq_false, Bool.not_eq_eq_eq_not, Bool.not_true, Bool.not_false]; done) | (simp only [ltB_t, ltB_f, eqB_t, eqB_f, pB_t, pB_f, sEq_t, sEq_f, emp_iff, ne_eq, List.length_map, Bool.not_eq_true, Bool.not_eq_false, Bool.not_eq_eq_eq_not, Bool.not_true, Bool.not_false]; omega) | (simp only [ltB_t, ltB_f, eqB_t, eqB_f, pB_t, pB_f, sEq_t, sEq_f, emp_iff, ne_eq, List.length_map, Bool.not_eq_true, Bool.not_eq_false, Bool.not_eq_eq_eq_not, Bool.not_true, Bool.not_false]; assumption)) ?_
    | (refine Br.mk ?_ ?_ <;> intro h <;> (try simp only [ltB_t, ltB_f, eqB_t, eqB_f, pB_t, pB_f, sEq_t, sEq_f, emp_iff, ne_eq, List.length_map, Bool.not_eq_true, Bool.not_eq_false, Bool.not_eq_eq_eq_not, Bool.not_true, Bool.not_false] at h))
    | refine Ixv.mk (by omega) (ixE (by omega) (by omega)) ?_
    | refine Elt.mk rfl ?_
    | refine Elt.mk (by assumption) ?_
    | refine Elt.mk (ixE (by omega) (by omega)) ?_
    | (fail "callY"))) <;> (try (conv => whnf))
            all_goals try (exfalso; omega)
            refine E.callD tt (args := [.view 1 ((ix s2.plan q.1).map encI), I ((ix xs a).First + r.1), I (ix xs a).Days]) h_freeI ⟨Deep.fv rfl hrow, Deep.rd rfl, Deep.rd rfl, trivial⟩ rfl ⟨_, _, _, _, rfl, h40, by omega, by omega, .inl ⟨hfr, rfl⟩, _, _, rfl, rfl, ?_⟩
            (repeat' ((conv => whnf); first
    | refine Sd.mk (by first | omega | (unfold in64; omega) | (simp only [fitK, in64]; omega) | (simp only [fitK, in64, chunk, List.length_map, List.length_append, List.length_replicate, List.length_set, List.length_nil, List.length_cons]; omega)) ?_
    | refine Br.yes rfl ?_
    | refine Br.no rfl ?_
    | refine Br.yes (by first | (simp only [ltB_t, ltB_f, eqB_t, eqB_f, pB_t, pB_f, sEq_t, sEq_f, emp_iff, ne_eq, List.length_map, Bool.not_eq_true, Bool.not_eq_false, Bool.not_eq_eq_eq_not, Bool.not_true, Bool.not_false]; done) | (simp only [ltB_t, ltB_f, eqB_t, eqB_f, pB_t, pB_f, sEq_t, sEq_f, emp_iff, ne_eq, List.length_map, Bool.not_eq_true, Bool.not_eq_false, Bool.not_eq_eq_eq_not, Bool.not_true, Bool.not_false]; omega) | (simp only [ltB_t, ltB_f, eqB_t, eqB_f, pB_t, pB_f, sEq_t, sEq_f, emp_iff, ne_eq, List.length_map, Bool.not_eq_true, Bool.not_eq_false, Bool.not_eq_eq_eq_not, Bool.not_true, Bool.not_false]; assumption)) ?_
    | refine Br.no (by first | (simp only [ltB_t, ltB_f, eqB_t, eqB_f, pB_t, pB_f, sEq_t, sEq_f, emp_iff, ne_eq, List.length_map, Bool.not_eq_true, Bool.not_eq_false, Bool.not_eq_eq_eq_not, Bool.not_true, Bool.not_false]; done) | (simp only [ltB_t, ltB_f, eqB_t, eqB_f, pB_t, pB_f, sEq_t, sEq_f, emp_iff, ne_eq, List.length_map, Bool.not_eq_true, Bool.not_eq_false, Bool.not_eq_eq_eq_not, Bool.not_true, Bool.not_false]; omega) | (simp only [ltB_t, ltB_f, eqB_t, eqB_f, pB_t, pB_f, sEq_t, sEq_f, emp_iff, ne_eq, List.length_map, Bool.not_eq_true, Bool.not_eq_false, Bool.not_eq_eq_eq_not, Bool.not_true, Bool.not_false]; assumption)) ?_
    | (refine Br.mk ?_ ?_ <;> intro h <;> (try simp only [ltB_t, ltB_f, eqB_t, eqB_f, pB_t, pB_f, sEq_t, sEq_f, emp_iff, ne_eq, List.length_map, Bool.not_eq_true, Bool.not_eq_false, Bool.not_eq_eq_eq_not, Bool.not_true, Bool.not_false] at h))
    | refine Ixv.mk (by omega) (ixE (by omega) (by omega)) ?_
    | refine Elt.mk rfl ?_
    | refine Elt.mk (by assumption) ?_
    | refine Elt.mk (ixE (by omega) (by omega)) ?_
    | (fail "callY"))) <;> (try (conv => whnf))
            all_goals try (exfalso; omega)
            refine E.callY tt h_putI rfl rfl rfl ⟨rfl, (r.2.1[q.1.toNat]).b, (r.2.1[q.1.toNat]).c, (r.2.1[q.1.toNat]).l, (r.2.1[q.1.toNat]).C, (ix xs a).First + r.1, (ix xs a).Days, a + 1, congrArg (fun h => [PV.raw h, I ((ix xs a).First + r.1), I (ix xs a).Days, I (a + 1)]) hH.symm, gx, gN, hl40, by omega, by omega, hfr.1, fun C1 hC1 => ?_⟩
            obtain ⟨P1, e1⟩ := rP.put hbr hpt hC1
            (repeat' ((conv => whnf); first
    | refine Sd.mk (by first | omega | (unfold in64; omega) | (simp only [fitK, in64]; omega) | (simp only [fitK, in64, chunk, List.length_map, List.length_append, List.length_replicate, List.length_set, List.length_nil, List.length_cons]; omega)) ?_
    | refine Br.yes rfl ?_
    | refine Br.no rfl ?_
    | refine Br.yes (by first | (simp only [ltB_t, ltB_f, eqB_t, eqB_f, pB_t, pB_f, sEq_t, sEq_f, emp_iff, ne_eq, List.length_map, Bool.not_eq_true, Bool.not_eq_false, Bool.not_eq_eq_eq_not, Bool.not_true, Bool.not_false]; done) | (simp only [ltB_t, ltB_f, eqB_t, eqB_f, pB_t, pB_f, sEq_t, sEq_f, emp_iff, ne_eq, List.length_map, Bool.not_eq_true, Bool.not_eq_false, Bool.not_eq_eq_eq_not, Bool.not_true, Bool.not_false]; omega) | (simp only [ltB_t, ltB_f, eqB_t, eqB_f, pB_t, pB_f, sEq_t, sEq_f, emp_iff, ne_eq, List.length_map, Bool.not_eq_true, Bool.not_eq_false, Bool.not_eq_eq_eq_not, Bool.not_true, Bool.not_false]; assumption)) ?_
    | refine Br.no (by first | (simp only [ltB_t, ltB_f, eqB_t, eqB_f, pB_t, pB_f, sEq_t, sEq_f, emp_iff, ne_eq, List.length_map, Bool.not_eq_true, Bool.not_eq_false, Bool.not_eq_eq_eq_not, Bool.not_true, Bool.not_false]; done) | (simp only [ltB_t, ltB_f, eqB_t, eqB_f, pB_t, pB_f, sEq_t, sEq_f, emp_iff, ne_eq, List.length_map, Bool.not_eq_true, Bool.not_eq_false, Bool.not_eq_eq_eq_not, Bool.not_true, Bool.not_false]; omega) | (simp only [ltB_t, ltB_f, eqB_t, eqB_f, pB_t, pB_f, sEq_t, sEq_f, emp_iff, ne_eq, List.length_map, Bool.not_eq_true, Bool.not_eq_false, Bool.not_eq_eq_eq_not, Bool.not_true, Bool.not_false]; assumption)) ?_
    | (refine Br.mk ?_ ?_ <;> intro h <;> (try simp only [ltB_t, ltB_f, eqB_t, eqB_f, pB_t, pB_f, sEq_t, sEq_f, emp_iff, ne_eq, List.length_map, Bool.not_eq_true, Bool.not_eq_false, Bool.not_eq_eq_eq_not, Bool.not_true, Bool.not_false] at h))
    | refine Ixv.mk (by omega) (ixE (by omega) (by omega)) ?_
    | refine Elt.mk rfl ?_
    | refine Elt.mk (by assumption) ?_
    | refine Elt.mk (ixE (by omega) (by omega)) ?_
    | (fail "callY"))) <;> (try (conv => whnf))
            refine E.callYP tt ih rfl rfl rfl rfl rfl rfl ⟨xs, bud, .slice (some ⟨pb, 0, none⟩) (rawE q.2.1).length pc, _, ⟨s2.nodes + 1, s2.plan.set q.1.toNat (ptL (r.2.1[q.1.toNat]).l ((ix xs a).First + r.1) (ix xs a).Days (a + 1)), false, false⟩, a + 1, congrArg (fun z => Me.pt (mrP 164 xs (.slice (some ⟨pb, 0, none⟩) (rawE q.2.1).length pc) z)) (by omega : bud - s2.nodes - 1 = bud - (s2.nodes + 1)), rfl, P1, hB, ⟨by omega, by omega⟩, by rw [hok2.2.1]; exact hok2, by rw [hok2.2.1]; exact hpl, hbud, rfl, rfl, fun X3 ds3 pl3 e3 P3 h3 r' e _ _ => ?_⟩
            cases e
            have e4 : rawE ds3 = rawE ds := e3.trans (e1.trans rr)
            generalize psR xs bud d (a + 1) ⟨s2.nodes + 1, s2.plan.set q.1.toNat (ptL (r.2.1[q.1.toNat]).l ((ix xs a).First + r.1) (ix xs a).Days (a + 1)), false, false⟩ = s3 at *
            obtain ⟨n3, p3, f3, u3⟩ := s3
            dsimp only at h3
            cases f3 with
            | true =>
              rw [psK_stop (.inl rfl)] at hstop
              rw [hstop (.inl rfl)] at hK
              (repeat' ((conv => whnf); first
    | refine Sd.mk (by first | omega | (unfold in64; omega) | (simp only [fitK, in64]; omega) | (simp only [fitK, in64, chunk, List.length_map, List.length_append, List.length_replicate, List.length_set, List.length_nil, List.length_cons]; omega)) ?_
    | refine Br.yes rfl ?_
    | refine Br.no rfl ?_
    | refine Br.yes (by first | (simp only [ltB_t, ltB_f, eqB_t, eqB_f, pB_t, pB_f, sEq_t, sEq_f, emp_iff, ne_eq, List.length_map, Bool.not_eq_true, Bool.not_eq_false, Bool.not_eq_eq_eq_not, Bool.not_true, Bool.not_false]; done) | (simp only [ltB_t, ltB_f, eqB_t, eqB_f, pB_t, pB_f, sEq_t, sEq_f, emp_iff, ne_eq, List.length_map, Bool.not_eq_true, Bool.not_eq_false, Bool.not_eq_eq_eq_not, Bool.not_true, Bool.not_false]; omega) | (simp only [ltB_t, ltB_f, eqB_t, eqB_f, pB_t, pB_f, sEq_t, sEq_f, emp_iff, ne_eq, List.length_map, Bool.not_eq_true, Bool.not_eq_false, Bool.not_eq_eq_eq_not, Bool.not_true, Bool.not_false]; assumption)) ?_
    | refine Br.no (by first | (simp only [ltB_t, ltB_f, eqB_t, eqB_f, pB_t, pB_f, sEq_t, sEq_f, emp_iff, ne_eq, List.length_map, Bool.not_eq_true, Bool.not_eq_false, Bool.not_eq_eq_eq_not, Bool.not_true, Bool.not_false]; done) | (simp only [ltB_t, ltB_f, eqB_t, eqB_f, pB_t, pB_f, sEq_t, sEq_f, emp_iff, ne_eq, List.length_map, Bool.not_eq_true, Bool.not_eq_false, Bool.not_eq_eq_eq_not, Bool.not_true, Bool.not_false]; omega) | (simp only [ltB_t, ltB_f, eqB_t, eqB_f, pB_t, pB_f, sEq_t, sEq_f, emp_iff, ne_eq, List.length_map, Bool.not_eq_true, Bool.not_eq_false, Bool.not_eq_eq_eq_not, Bool.not_true, Bool.not_false]; assumption)) ?_
    | (refine Br.mk ?_ ?_ <;> intro h <;> (try simp only [ltB_t, ltB_f, eqB_t, eqB_f, pB_t, pB_f, sEq_t, sEq_f, emp_iff, ne_eq, List.length_map, Bool.not_eq_true, Bool.not_eq_false, Bool.not_eq_eq_eq_not, Bool.not_true, Bool.not_false] at h))
    | refine Ixv.mk (by omega) (ixE (by omega) (by omega)) ?_
    | refine Elt.mk rfl ?_
    | refine Elt.mk (by assumption) ?_
    | refine Elt.mk (ixE (by omega) (by omega)) ?_
    | (fail "callY"))) <;> (try (conv => whnf))
              all_goals (exact ⟨_, ⟨rfl, rfl, rfl⟩, allSc_ok _ rfl, (fun r h => by cases h; exact ⟨_, rfl, rfl, rfl⟩), rfl, hK _ _ _ e4 P3 h3⟩)
            | false =>
              cases u3 with
              | true =>
                rw [psK_stop (.inr rfl)] at hstop
                rw [hstop (.inr rfl)] at hK
                (repeat' ((conv => whnf); first
    | refine Sd.mk (by first | omega | (unfold in64; omega) | (simp only [fitK, in64]; omega) | (simp only [fitK, in64, chunk, List.length_map, List.length_append, List.length_replicate, List.length_set, List.length_nil, List.length_cons]; omega)) ?_
    | refine Br.yes rfl ?_
    | refine Br.no rfl ?_
    | refine Br.yes (by first | (simp only [ltB_t, ltB_f, eqB_t, eqB_f, pB_t, pB_f, sEq_t, sEq_f, emp_iff, ne_eq, List.length_map, Bool.not_eq_true, Bool.not_eq_false, Bool.not_eq_eq_eq_not, Bool.not_true, Bool.not_false]; done) | (simp only [ltB_t, ltB_f, eqB_t, eqB_f, pB_t, pB_f, sEq_t, sEq_f, emp_iff, ne_eq, List.length_map, Bool.not_eq_true, Bool.not_eq_false, Bool.not_eq_eq_eq_not, Bool.not_true, Bool.not_false]; omega) | (simp only [ltB_t, ltB_f, eqB_t, eqB_f, pB_t, pB_f, sEq_t, sEq_f, emp_iff, ne_eq, List.length_map, Bool.not_eq_true, Bool.not_eq_false, Bool.not_eq_eq_eq_not, Bool.not_true, Bool.not_false]; assumption)) ?_
    | refine Br.no (by first | (simp only [ltB_t, ltB_f, eqB_t, eqB_f, pB_t, pB_f, sEq_t, sEq_f, emp_iff, ne_eq, List.length_map, Bool.not_eq_true, Bool.not_eq_false, Bool.not_eq_eq_eq_not, Bool.not_true, Bool.not_false]; done) | (simp only [ltB_t, ltB_f, eqB_t, eqB_f, pB_t, pB_f, sEq_t, sEq_f, emp_iff, ne_eq, List.length_map, Bool.not_eq_true, Bool.not_eq_false, Bool.not_eq_eq_eq_not, Bool.not_true, Bool.not_false]; omega) | (simp only [ltB_t, ltB_f, eqB_t, eqB_f, pB_t, pB_f, sEq_t, sEq_f, emp_iff, ne_eq, List.length_map, Bool.not_eq_true, Bool.not_eq_false, Bool.not_eq_eq_eq_not, Bool.not_true, Bool.not_false]; assumption)) ?_
    | (refine Br.mk ?_ ?_ <;> intro h <;> (try simp only [ltB_t, ltB_f, eqB_t, eqB_f, pB_t, pB_f, sEq_t, sEq_f, emp_iff, ne_eq, List.length_map, Bool.not_eq_true, Bool.not_eq_false, Bool.not_eq_eq_eq_not, Bool.not_true, Bool.not_false] at h))
    | refine Ixv.mk (by omega) (ixE (by omega) (by omega)) ?_
    | refine Elt.mk rfl ?_
    | refine Elt.mk (by assumption) ?_
    | refine Elt.mk (ixE (by omega) (by omega)) ?_
    | (fail "callY"))) <;> (try (conv => whnf))
                all_goals (exact ⟨_, ⟨rfl, rfl, rfl⟩, allSc_ok _ rfl, (fun r h => by cases h; exact ⟨_, rfl, rfl, rfl⟩), rfl, hK _ _ _ e4 P3 h3⟩)
              | false =>
                have hp3 := h3 rfl
                subst hp3
                rw [psK_go] at hsj
                have hrl3 : ds3.length = s0.plan.length := by have h1 := congrArg List.length P3.rows.ls; rw [List.length_map, hok3.2.1] at h1; exact h1
                have hb3 : q.1.toNat < ds3.length := by omega
                have hH3 : (ds3[q.1.toNat]).hdr = (q.2.1[q.1.toNat]).hdr := hdr_eq (e4.trans qr.symm) hb3 hbn
                have hix3 := P3.ixl hb0 hb3
                obtain ⟨gx3, gN3⟩ := P3.rows.inx _ (List.getElem_mem hb3)
                have hl3 : (ds3[q.1.toNat]).l.length = 40 := by rw [← hix3]; exact hok3.row hb0 (by omega)
                have hpt3 := ptL_len (ds3[q.1.toNat]).l ((ix xs a).First + r.1) 0 (n := (ix xs a).Days) (by omega)
                (repeat' ((conv => whnf); first
    | refine Sd.mk (by first | omega | (unfold in64; omega) | (simp only [fitK, in64]; omega) | (simp only [fitK, in64, chunk, List.length_map, List.length_append, List.length_replicate, List.length_set, List.length_nil, List.length_cons]; omega)) ?_
    | refine Br.yes rfl ?_
    | refine Br.no rfl ?_
    | refine Br.yes (by first | (simp only [ltB_t, ltB_f, eqB_t, eqB_f, pB_t, pB_f, sEq_t, sEq_f, emp_iff, ne_eq, List.length_map, Bool.not_eq_true, Bool.not_eq_false, Bool.not_eq_eq_eq_not, Bool.not_true, Bool.not_false]; done) | (simp only [ltB_t, ltB_f, eqB_t, eqB_f, pB_t, pB_f, sEq_t, sEq_f, emp_iff, ne_eq, List.length_map, Bool.not_eq_true, Bool.not_eq_false, Bool.not_eq_eq_eq_not, Bool.not_true, Bool.not_false]; omega) | (simp only [ltB_t, ltB_f, eqB_t, eqB_f, pB_t, pB_f, sEq_t, sEq_f, emp_iff, ne_eq, List.length_map, Bool.not_eq_true, Bool.not_eq_false, Bool.not_eq_eq_eq_not, Bool.not_true, Bool.not_false]; assumption)) ?_
    | refine Br.no (by first | (simp only [ltB_t, ltB_f, eqB_t, eqB_f, pB_t, pB_f, sEq_t, sEq_f, emp_iff, ne_eq, List.length_map, Bool.not_eq_true, Bool.not_eq_false, Bool.not_eq_eq_eq_not, Bool.not_true, Bool.not_false]; done) | (simp only [ltB_t, ltB_f, eqB_t, eqB_f, pB_t, pB_f, sEq_t, sEq_f, emp_iff, ne_eq, List.length_map, Bool.not_eq_true, Bool.not_eq_false, Bool.not_eq_eq_eq_not, Bool.not_true, Bool.not_false]; omega) | (simp only [ltB_t, ltB_f, eqB_t, eqB_f, pB_t, pB_f, sEq_t, sEq_f, emp_iff, ne_eq, List.length_map, Bool.not_eq_true, Bool.not_eq_false, Bool.not_eq_eq_eq_not, Bool.not_true, Bool.not_false]; assumption)) ?_
    | (refine Br.mk ?_ ?_ <;> intro h <;> (try simp only [ltB_t, ltB_f, eqB_t, eqB_f, pB_t, pB_f, sEq_t, sEq_f, emp_iff, ne_eq, List.length_map, Bool.not_eq_true, Bool.not_eq_false, Bool.not_eq_eq_eq_not, Bool.not_true, Bool.not_false] at h))
    | refine Ixv.mk (by omega) (ixE (by omega) (by omega)) ?_
    | refine Elt.mk rfl ?_
    | refine Elt.mk (by assumption) ?_
    | refine Elt.mk (ixE (by omega) (by omega)) ?_
    | (fail "callY"))) <;> (try (conv => whnf))
                refine E.callY tt h_putI rfl rfl rfl ⟨rfl, (ds3[q.1.toNat]).b, (ds3[q.1.toNat]).c, (ds3[q.1.toNat]).l, (ds3[q.1.toNat]).C, (ix xs a).First + r.1, (ix xs a).Days, 0, congrArg (fun h => [PV.raw h, I ((ix xs a).First + r.1), I (ix xs a).Days, I 0]) hH3.symm, gx3, gN3, hl3, by omega, by omega, hfr.1, fun C4 hC4 => ?_⟩
                obtain ⟨P4, e5⟩ := P3.put hb3 hpt3 hC4
                rw [hix3] at hsj
                have hnd : n3 = (sI xs bud d a q.1 s1 (r.1 + 1)).nodes := by rw [hsj]
                have hok4 : psOk bud s0.plan.length ⟨n3, pl3.set q.1.toNat (ptL (ds3[q.1.toNat]).l ((ix xs a).First + r.1) (ix xs a).Days 0), false, false⟩ := ⟨hok3.1, by simpa using hok3.2.1, rows_set hok3.2.2 (by rw [hpt3]; exact hl3) _⟩
                (repeat' ((conv => whnf); first
    | refine Sd.mk (by first | omega | (unfold in64; omega) | (simp only [fitK, in64]; omega) | (simp only [fitK, in64, chunk, List.length_map, List.length_append, List.length_replicate, List.length_set, List.length_nil, List.length_cons]; omega)) ?_
    | refine Br.yes rfl ?_
    | refine Br.no rfl ?_
    | refine Br.yes (by first | (simp only [ltB_t, ltB_f, eqB_t, eqB_f, pB_t, pB_f, sEq_t, sEq_f, emp_iff, ne_eq, List.length_map, Bool.not_eq_true, Bool.not_eq_false, Bool.not_eq_eq_eq_not, Bool.not_true, Bool.not_false]; done) | (simp only [ltB_t, ltB_f, eqB_t, eqB_f, pB_t, pB_f, sEq_t, sEq_f, emp_iff, ne_eq, List.length_map, Bool.not_eq_true, Bool.not_eq_false, Bool.not_eq_eq_eq_not, Bool.not_true, Bool.not_false]; omega) | (simp only [ltB_t, ltB_f, eqB_t, eqB_f, pB_t, pB_f, sEq_t, sEq_f, emp_iff, ne_eq, List.length_map, Bool.not_eq_true, Bool.not_eq_false, Bool.not_eq_eq_eq_not, Bool.not_true, Bool.not_false]; assumption)) ?_
    | refine Br.no (by first | (simp only [ltB_t, ltB_f, eqB_t, eqB_f, pB_t, pB_f, sEq_t, sEq_f, emp_iff, ne_eq, List.length_map, Bool.not_eq_true, Bool.not_eq_false, Bool.not_eq_eq_eq_not, Bool.not_true, Bool.not_false]; done) | (simp only [ltB_t, ltB_f, eqB_t, eqB_f, pB_t, pB_f, sEq_t, sEq_f, emp_iff, ne_eq, List.length_map, Bool.not_eq_true, Bool.not_eq_false, Bool.not_eq_eq_eq_not, Bool.not_true, Bool.not_false]; omega) | (simp only [ltB_t, ltB_f, eqB_t, eqB_f, pB_t, pB_f, sEq_t, sEq_f, emp_iff, ne_eq, List.length_map, Bool.not_eq_true, Bool.not_eq_false, Bool.not_eq_eq_eq_not, Bool.not_true, Bool.not_false]; assumption)) ?_
    | (refine Br.mk ?_ ?_ <;> intro h <;> (try simp only [ltB_t, ltB_f, eqB_t, eqB_f, pB_t, pB_f, sEq_t, sEq_f, emp_iff, ne_eq, List.length_map, Bool.not_eq_true, Bool.not_eq_false, Bool.not_eq_eq_eq_not, Bool.not_true, Bool.not_false] at h))
    | refine Ixv.mk (by omega) (ixE (by omega) (by omega)) ?_
    | refine Elt.mk rfl ?_
    | refine Elt.mk (by assumption) ?_
    | refine Elt.mk (ixE (by omega) (by omega)) ?_
    | (fail "callY"))) <;> (try (conv => whnf))
                all_goals (refine ⟨(r.1 + 1, ds3.set q.1.toNat ⟨(ds3[q.1.toNat]).b, (ds3[q.1.toNat]).c, C4, ptL (ds3[q.1.toNat]).l ((ix xs a).First + r.1) (ix xs a).Days 0⟩, X3.upd (ds3[q.1.toNat]).b (.cells C4 2 (0, 0))), ⟨⟨by dsimp only; omega, by dsimp only; omega⟩, by dsimp only; rw [hsj]; exact ⟨rfl, rfl, hok4⟩, by dsimp only; rw [hsj]; exact P4, e5.trans e4⟩, by dsimp only; omega, ⟨rfl, ⟨rfl, rfl, rfl, rfl, pI (by omega), rfl, rfl, rfl, trivial⟩, ⟨(congrArg (fun n : Int => some (mrP 164 xs (.slice (some ⟨pb, 0, none⟩) (rawE q.2.1).length pc) (bud - n))) hnd), rfl, trivial⟩, rfl, rfl, fun _ _ h => h⟩⟩)
        · have hst : psStep (psR xs bud d (a + 1)) bud (a + 1) (ix xs a).Days q.1 s2 ((ix xs a).First + r.1) = s2 := by unfold psStep; rw [if_pos (.inr (.inr hfr))]
          rw [hst] at hsj
          (repeat' ((conv => whnf); first
    | refine Sd.mk (by first | omega | (unfold in64; omega) | (simp only [fitK, in64]; omega) | (simp only [fitK, in64, chunk, List.length_map, List.length_append, List.length_replicate, List.length_set, List.length_nil, List.length_cons]; omega)) ?_
    | refine Br.yes rfl ?_
    | refine Br.no rfl ?_
    | refine Br.yes (by first | (simp only [ltB_t, ltB_f, eqB_t, eqB_f, pB_t, pB_f, sEq_t, sEq_f, emp_iff, ne_eq, List.length_map, Bool.not_eq_true, Bool.not_eq_false, Bool.not_eq_eq_eq_not, Bool.not_true, Bool.not_false]; done) | (simp only [ltB_t, ltB_f, eqB_t, eqB_f, pB_t, pB_f, sEq_t, sEq_f, emp_iff, ne_eq, List.length_map, Bool.not_eq_true, Bool.not_eq_false, Bool.not_eq_eq_eq_not, Bool.not_true, Bool.not_false]; omega) | (simp only [ltB_t, ltB_f, eqB_t, eqB_f, pB_t, pB_f, sEq_t, sEq_f, emp_iff, ne_eq, List.length_map, Bool.not_eq_true, Bool.not_eq_false, Bool.not_eq_eq_eq_not, Bool.not_true, Bool.not_false]; assumption)) ?_
    | refine Br.no (by first | (simp only [ltB_t, ltB_f, eqB_t, eqB_f, pB_t, pB_f, sEq_t, sEq_f, emp_iff, ne_eq, List.length_map, Bool.not_eq_true, Bool.not_eq_false, Bool.not_eq_eq_eq_not, Bool.not_true, Bool.not_false]; done) | (simp only [ltB_t, ltB_f, eqB_t, eqB_f, pB_t, pB_f, sEq_t, sEq_f, emp_iff, ne_eq, List.length_map, Bool.not_eq_true, Bool.not_eq_false, Bool.not_eq_eq_eq_not, Bool.not_true, Bool.not_false]; omega) | (simp only [ltB_t, ltB_f, eqB_t, eqB_f, pB_t, pB_f, sEq_t, sEq_f, emp_iff, ne_eq, List.length_map, Bool.not_eq_true, Bool.not_eq_false, Bool.not_eq_eq_eq_not, Bool.not_true, Bool.not_false]; assumption)) ?_
    | (refine Br.mk ?_ ?_ <;> intro h <;> (try simp only [ltB_t, ltB_f, eqB_t, eqB_f, pB_t, pB_f, sEq_t, sEq_f, emp_iff, ne_eq, List.length_map, Bool.not_eq_true, Bool.not_eq_false, Bool.not_eq_eq_eq_not, Bool.not_true, Bool.not_false] at h))
    | refine Ixv.mk (by omega) (ixE (by omega) (by omega)) ?_
    | refine Elt.mk rfl ?_
    | refine Elt.mk (by assumption) ?_
    | refine Elt.mk (ixE (by omega) (by omega)) ?_
    | (fail "callY"))) <;> (try (conv => whnf))
          all_goals try (exfalso; omega)
          refine E.callD tt (args := [.view 1 ((ix s2.plan q.1).map encI), I ((ix xs a).First + r.1), I (ix xs a).Days]) h_freeI ⟨Deep.fv rfl hrow, Deep.rd rfl, Deep.rd rfl, trivial⟩ rfl ⟨_, _, _, _, rfl, h40, by omega, by omega, .inr ⟨hfr, rfl⟩, _, _, rfl, rfl, ?_⟩
          (repeat' ((conv => whnf); first
    | refine Sd.mk (by first | omega | (unfold in64; omega) | (simp only [fitK, in64]; omega) | (simp only [fitK, in64, chunk, List.length_map, List.length_append, List.length_replicate, List.length_set, List.length_nil, List.length_cons]; omega)) ?_
    | refine Br.yes rfl ?_
    | refine Br.no rfl ?_
    | refine Br.yes (by first | (simp only [ltB_t, ltB_f, eqB_t, eqB_f, pB_t, pB_f, sEq_t, sEq_f, emp_iff, ne_eq, List.length_map, Bool.not_eq_true, Bool.not_eq_false, Bool.not_eq_eq_eq_not, Bool.not_true, Bool.not_false]; done) | (simp only [ltB_t, ltB_f, eqB_t, eqB_f, pB_t, pB_f, sEq_t, sEq_f, emp_iff, ne_eq, List.length_map, Bool.not_eq_true, Bool.not_eq_false, Bool.not_eq_eq_eq_not, Bool.not_true, Bool.not_false]; omega) | (simp only [ltB_t, ltB_f, eqB_t, eqB_f, pB_t, pB_f, sEq_t, sEq_f, emp_iff, ne_eq, List.length_map, Bool.not_eq_true, Bool.not_eq_false, Bool.not_eq_eq_eq_not, Bool.not_true, Bool.not_false]; assumption)) ?_
    | refine Br.no (by first | (simp only [ltB_t, ltB_f, eqB_t, eqB_f, pB_t, pB_f, sEq_t, sEq_f, emp_iff, ne_eq, List.length_map, Bool.not_eq_true, Bool.not_eq_false, Bool.not_eq_eq_eq_not, Bool.not_true, Bool.not_false]; done) | (simp only [ltB_t, ltB_f, eqB_t, eqB_f, pB_t, pB_f, sEq_t, sEq_f, emp_iff, ne_eq, List.length_map, Bool.not_eq_true, Bool.not_eq_false, Bool.not_eq_eq_eq_not, Bool.not_true, Bool.not_false]; omega) | (simp only [ltB_t, ltB_f, eqB_t, eqB_f, pB_t, pB_f, sEq_t, sEq_f, emp_iff, ne_eq, List.length_map, Bool.not_eq_true, Bool.not_eq_false, Bool.not_eq_eq_eq_not, Bool.not_true, Bool.not_false]; assumption)) ?_
    | (refine Br.mk ?_ ?_ <;> intro h <;> (try simp only [ltB_t, ltB_f, eqB_t, eqB_f, pB_t, pB_f, sEq_t, sEq_f, emp_iff, ne_eq, List.length_map, Bool.not_eq_true, Bool.not_eq_false, Bool.not_eq_eq_eq_not, Bool.not_true, Bool.not_false] at h))
    | refine Ixv.mk (by omega) (ixE (by omega) (by omega)) ?_
    | refine Elt.mk rfl ?_
    | refine Elt.mk (by assumption) ?_
    | refine Elt.mk (ixE (by omega) (by omega)) ?_
    | (fail "callY"))) <;> (try (conv => whnf))
          all_goals (refine ⟨(r.1 + 1, r.2.1, r.2.2), ⟨⟨by dsimp only; omega, by dsimp only; omega⟩, by dsimp only; rw [hsj]; exact ⟨rfo, rfl', rok⟩, by dsimp only; rw [hsj]; exact rP, rr⟩, by dsimp only; omega, ⟨rfl, ⟨rfl, rfl, rfl, rfl, pI (by omega), rfl, rfl, rfl, trivial⟩, ⟨(congrArg (fun s : Ps => some (mrP 164 xs (.slice (some ⟨pb, 0, none⟩) (rawE q.2.1).length pc) (bud - s.nodes))) hsj.symm), rfl, trivial⟩, rfl, rfl, fun _ _ h => h⟩⟩)
      · have hje : r.1 = (ix xs a).Last - (ix xs a).Days - (ix xs a).First + 2 := by omega
        have he2 : sB xs bud d a s0 (q.1 + 1) = sI xs bud d a q.1 s1 r.1 := by rw [hsu, hje]; rfl
        (repeat' ((conv => whnf); first
    | refine Sd.mk (by first | omega | (unfold in64; omega) | (simp only [fitK, in64]; omega) | (simp only [fitK, in64, chunk, List.length_map, List.length_append, List.length_replicate, List.length_set, List.length_nil, List.length_cons]; omega)) ?_
    | refine Br.yes rfl ?_
    | refine Br.no rfl ?_
    | refine Br.yes (by first | (simp only [ltB_t, ltB_f, eqB_t, eqB_f, pB_t, pB_f, sEq_t, sEq_f, emp_iff, ne_eq, List.length_map, Bool.not_eq_true, Bool.not_eq_false, Bool.not_eq_eq_eq_not, Bool.not_true, Bool.not_false]; done) | (simp only [ltB_t, ltB_f, eqB_t, eqB_f, pB_t, pB_f, sEq_t, sEq_f, emp_iff, ne_eq, List.length_map, Bool.not_eq_true, Bool.not_eq_false, Bool.not_eq_eq_eq_not, Bool.not_true, Bool.not_false]; omega) | (simp only [ltB_t, ltB_f, eqB_t, eqB_f, pB_t, pB_f, sEq_t, sEq_f, emp_iff, ne_eq, List.length_map, Bool.not_eq_true, Bool.not_eq_false, Bool.not_eq_eq_eq_not, Bool.not_true, Bool.not_false]; assumption)) ?_
    | refine Br.no (by first | (simp only [ltB_t, ltB_f, eqB_t, eqB_f, pB_t, pB_f, sEq_t, sEq_f, emp_iff, ne_eq, List.length_map, Bool.not_eq_true, Bool.not_eq_false, Bool.not_eq_eq_eq_not, Bool.not_true, Bool.not_false]; done) | (simp only [ltB_t, ltB_f, eqB_t, eqB_f, pB_t, pB_f, sEq_t, sEq_f, emp_iff, ne_eq, List.length_map, Bool.not_eq_true, Bool.not_eq_false, Bool.not_eq_eq_eq_not, Bool.not_true, Bool.not_false]; omega) | (simp only [ltB_t, ltB_f, eqB_t, eqB_f, pB_t, pB_f, sEq_t, sEq_f, emp_iff, ne_eq, List.length_map, Bool.not_eq_true, Bool.not_eq_false, Bool.not_eq_eq_eq_not, Bool.not_true, Bool.not_false]; assumption)) ?_
    | (refine Br.mk ?_ ?_ <;> intro h <;> (try simp only [ltB_t, ltB_f, eqB_t, eqB_f, pB_t, pB_f, sEq_t, sEq_f, emp_iff, ne_eq, List.length_map, Bool.not_eq_true, Bool.not_eq_false, Bool.not_eq_eq_eq_not, Bool.not_true, Bool.not_false] at h))
    | refine Ixv.mk (by omega) (ixE (by omega) (by omega)) ?_
    | refine Elt.mk rfl ?_
    | refine Elt.mk (by assumption) ?_
    | refine Elt.mk (ixE (by omega) (by omega)) ?_
    | (fail "callY"))) <;> (try (conv => whnf))
        all_goals first
          | (exfalso; omega)
          | (refine ⟨(q.1 + 1, r.2.1, r.2.2), ⟨⟨by dsimp only; omega, by dsimp only; omega⟩, by dsimp only; rw [he2]; exact ⟨rfo, rfl', rok⟩, by dsimp only; rw [he2]; exact rP, rr⟩, by dsimp only; omega, ⟨rfl, ⟨rfl, rfl, rfl, rfl, rfl, rfl, trivial⟩, ⟨(congrArg (fun s : Ps => some (mrP 164 xs (.slice (some ⟨pb, 0, none⟩) (rawE q.2.1).length pc) (bud - s.nodes))) he2.symm), rfl, trivial⟩, rfl, rfl, fun _ _ h => h⟩⟩; done)
    · have hbe : q.1 = s0.plan.length := by omega
      have he : psR xs bud (d + 1) a s0 = sB xs bud d a s0 q.1 := by rw [hbe]; rfl
      rw [he, qfo, qfl] at hK
      (repeat' ((conv => whnf); first
    | refine Sd.mk (by first | omega | (unfold in64; omega) | (simp only [fitK, in64]; omega) | (simp only [fitK, in64, chunk, List.length_map, List.length_append, List.length_replicate, List.length_set, List.length_nil, List.length_cons]; omega)) ?_
    | refine Br.yes rfl ?_
    | refine Br.no rfl ?_
    | refine Br.yes (by first | (simp only [ltB_t, ltB_f, eqB_t, eqB_f, pB_t, pB_f, sEq_t, sEq_f, emp_iff, ne_eq, List.length_map, Bool.not_eq_true, Bool.not_eq_false, Bool.not_eq_eq_eq_not, Bool.not_true, Bool.not_false]; done) | (simp only [ltB_t, ltB_f, eqB_t, eqB_f, pB_t, pB_f, sEq_t, sEq_f, emp_iff, ne_eq, List.length_map, Bool.not_eq_true, Bool.not_eq_false, Bool.not_eq_eq_eq_not, Bool.not_true, Bool.not_false]; omega) | (simp only [ltB_t, ltB_f, eqB_t, eqB_f, pB_t, pB_f, sEq_t, sEq_f, emp_iff, ne_eq, List.length_map, Bool.not_eq_true, Bool.not_eq_false, Bool.not_eq_eq_eq_not, Bool.not_true, Bool.not_false]; assumption)) ?_
    | refine Br.no (by first | (simp only [ltB_t, ltB_f, eqB_t, eqB_f, pB_t, pB_f, sEq_t, sEq_f, emp_iff, ne_eq, List.length_map, Bool.not_eq_true, Bool.not_eq_false, Bool.not_eq_eq_eq_not, Bool.not_true, Bool.not_false]; done) | (simp only [ltB_t, ltB_f, eqB_t, eqB_f, pB_t, pB_f, sEq_t, sEq_f, emp_iff, ne_eq, List.length_map, Bool.not_eq_true, Bool.not_eq_false, Bool.not_eq_eq_eq_not, Bool.not_true, Bool.not_false]; omega) | (simp only [ltB_t, ltB_f, eqB_t, eqB_f, pB_t, pB_f, sEq_t, sEq_f, emp_iff, ne_eq, List.length_map, Bool.not_eq_true, Bool.not_eq_false, Bool.not_eq_eq_eq_not, Bool.not_true, Bool.not_false]; assumption)) ?_
    | (refine Br.mk ?_ ?_ <;> intro h <;> (try simp only [ltB_t, ltB_f, eqB_t, eqB_f, pB_t, pB_f, sEq_t, sEq_f, emp_iff, ne_eq, List.length_map, Bool.not_eq_true, Bool.not_eq_false, Bool.not_eq_eq_eq_not, Bool.not_true, Bool.not_false] at h))
    | refine Ixv.mk (by omega) (ixE (by omega) (by omega)) ?_
    | refine Elt.mk rfl ?_
    | refine Elt.mk (by assumption) ?_
    | refine Elt.mk (ixE (by omega) (by omega)) ?_
    | (fail "callY"))) <;> (try (conv => whnf))
      all_goals first
        | (exfalso; omega)
        | exact ⟨_, ⟨rfl, rfl, rfl⟩, allSc_ok _ rfl, (fun r h => by cases h; exact ⟨_, rfl, rfl, rfl⟩), rfl, hK _ _ _ qr qP (fun _ => rfl)⟩

end Go.Proofs.Ythjbcgdmdmfijaa
