/- Contracts (Bnd). -/
import Derived.Test.YthjbcgdmdmfijaaBnc
import Derived.Test.YthjbcgdmdmfijaaNst
set_option linter.unusedVariables false
set_option linter.unusedSimpArgs false
set_option maxRecDepth 100000
namespace Go.Lo
-- deps: Bnc Nst
/-- The plan as a struct keeps it: a slice whose elements are known rows, none of which is its own block. -/
structure PlX (e e2 : Nat) (X : Frag) (pv : Value) (ds : List Dn) (plan : List (List Int)) : Prop where
  top : FV e2 X pv (rawE ds)
  rows : NeD e ds X plan
  off : ∀ d ∈ ds, blkV pv ≠ some d.b
theorem NeD.set {e : Nat} {ds : List Dn} {X : Frag} {ll : List (List Int)} (h : NeD e ds X ll) {i : Nat} (hi : i < ds.length) {C' : Array Value} {l' : List Int} (hl : l'.length = (ds[i]).l.length) (hN : Nums C' (ds[i]).c l') :
    NeD e (ds.set i ⟨(ds[i]).b, (ds[i]).c, C', l'⟩) (X.upd (ds[i]).b (.cells C' e (0, 0))) (ll.set i l') ∧ rawE (ds.set i ⟨(ds[i]).b, (ds[i]).c, C', l'⟩) = rawE ds := by
  refine ⟨⟨fun d hd => ?_, ?_, ?_⟩, ?_⟩
  · obtain ⟨j, hj, rfl⟩ := List.mem_iff_getElem.1 hd
    rw [List.length_set] at hj
    rw [List.getElem_set]
    split
    · exact ⟨Frag.upd_same _ _ _, hN⟩
    · rename_i hne
      have hb := nodup_b h.nd hi hj hne
      obtain ⟨g1, g2⟩ := h.inx (ds[j]) (List.getElem_mem hj)
      exact ⟨by rw [Frag.upd_ne _ _ hb]; exact g1, g2⟩
  · have : (ds.set i ⟨(ds[i]).b, (ds[i]).c, C', l'⟩).map (·.b) = ds.map (·.b) := by
      apply List.ext_getElem (by simp)
      intro j j1 j2
      simp only [List.getElem_map, List.getElem_set]
      split
      · rename_i e1; subst e1; rfl
      · rfl
    rw [this]; exact h.nd
  · rw [List.map_set, h.ls]
  · apply List.ext_getElem (by simp [rawE])
    intro j j1 j2
    simp only [rawE, List.getElem_map, List.getElem_set]
    split
    · rename_i e1; subst e1
      simp [Dn.hdr, hl]
    · rfl
theorem PlX.put {e e2 : Nat} {X : Frag} {pv : Value} {ds : List Dn} {plan : List (List Int)} (h : PlX e e2 X pv ds plan) {i : Nat} (hi : i < ds.length) {C' : Array Value} {l' : List Int} (hl : l'.length = (ds[i]).l.length) (hN : Nums C' (ds[i]).c l') :
    PlX e e2 (X.upd (ds[i]).b (.cells C' e (0, 0))) pv (ds.set i ⟨(ds[i]).b, (ds[i]).c, C', l'⟩) (plan.set i l') ∧ rawE (ds.set i ⟨(ds[i]).b, (ds[i]).c, C', l'⟩) = rawE ds := by
  obtain ⟨h1, h2⟩ := h.rows.set hi hl hN
  refine ⟨⟨(h.top.upd (h.off _ (List.getElem_mem hi)) _).cast h2.symm, h1, fun d hd => ?_⟩, h2⟩
  rcases List.mem_or_eq_of_mem_set hd with h3 | h3
  · exact h.off d h3
  · rw [h3]; exact h.off (ds[i]) (List.getElem_mem hi)
def mrP (ty : Nat) (xs : List D.Work) (pv : Value) (lf : Int) : Row := ⟨ty, 3, [[.view 4 (xs.map D.Work.enc), .raw pv, I lf]]⟩
def cPlI (ty e e2 d : Nat) : YCt := fun me args X K => ∃ (xs : List D.Work) (bud : Int) (pv : Value) (ds : List Dn) (s : Ps) (a : Int), me = .pt (mrP ty xs pv (bud - s.nodes)) ∧ args = [I a] ∧ PlX e e2 X pv ds s.plan ∧ WorksOk xs ∧ (0 ≤ a ∧ a + d = xs.length) ∧ psOk bud s.plan.length s ∧ s.plan.length ≤ 6 ∧ bud ≤ 20000 ∧ s.found = false ∧ s.full = false ∧
  ∀ X' ds' pl', rawE ds' = rawE ds → PlX e e2 X' pv ds' pl' → ((psR xs bud d a s).full = false → pl' = (psR xs bud d a s).plan) → K (some (mrP ty xs pv (bud - (psR xs bud d a s).nodes))) X' [.p (.bool (psR xs bud d a s).found), .p (.bool (!(psR xs bud d a s).full))]
end Go.Lo
namespace Go.Proofs.Ythjbcgdmdmfijaa
open Go.Lo
attribute [local irreducible] W Wc

theorem h_pl0 : YHolds Try.prog 118 (cPlI 164 2 24 0) := by
  refine E.mkY tt Try.func118 rfl Try.ntmps118 rfl (by kernel_rfl) ?_
  rintro _ _ X K ⟨xs, bud, pv, ds, ⟨nd, plan, fo, fl⟩, a, rfl, rfl, hP, hB, ⟨ha, had⟩, hs, hpl, hbud, hfo, hfl, hK⟩
  dsimp only at hfo hfl
  subst hfo hfl
  have hln : (xs.map D.Work.enc).length = xs.length := by simp
  have hle := hB.le
  refine ⟨Nat.le_of_ble_eq_true rfl, ?_⟩
  (repeat' ((conv => whnf); first
    | refine Sd.mk (by first | omega | (unfold in64; omega) | (simp only [fitK, in64]; omega) | (simp only [fitK, in64, chunk, List.length_map, List.length_append, List.length_replicate, List.length_set, List.length_nil, List.length_cons]; omega)) ?_
    | refine Br.yes rfl ?_
    | refine Br.no rfl ?_
    | refine Br.yes (by first | (simp only [ltB_t, ltB_f, eqB_t, eqB_f, pB_t, pB_f, sEq_t, sEq_f, emp_iff, ne_eq, List.length_map, Bool.not_eq_true, Bool.not_eq_false, Bool.not_eq_eq_eq_not, Bool.not_true, Bool.not_false]; done) | (simp only [ltB_t, ltB_f, eqB_t, eqB_f, pB_t, pB_f, sEq_t, sEq_f, emp_iff, ne_eq, List.length_map, Bool.not_eq_true, Bool.not_eq_false, Bool.not_eq_eq_eq_not, Bool.not_true, Bool.not_false]; omega) | (simp only [ltB_t, ltB_f, eqB_t, eqB_f, pB_t, pB_f, sEq_t, sEq_f, emp_iff, ne_eq, List.length_map, Bool.not_eq_true, Bool.not_eq_false, Bool.not_eq_eq_eq_not, Bool.not_true, Bool.not_false]; assumption)) ?_
    | refine Br.no (by first | (simp only [ltB_t, ltB_f, eqB_t, eqB_f, pB_t, pB_f, sEq_t, sEq_f, emp_iff, ne_eq, List.length_map, Bool.not_eq_true, Bool.not_eq_false, Bool.not_eq_eq_eq_not, Bool.not_true, Bool.not_false]; done) | (simp only [ltB_t, ltB_f, eqB_t, eqB_f, pB_t, pB_f, sEq_t, sEq_f, emp_iff, ne_eq, List.length_map, Bool.not_eq_true, Bool.not_eq_false, Bool.not_eq_eq_eq_not, Bool.not_true, Bool.not_false]; omega) | (simp only [ltB_t, ltB_f, eqB_t, eqB_f, pB_t, pB_f, sEq_t, sEq_f, emp_iff, ne_eq, List.length_map, Bool.not_eq_true, Bool.not_eq_false, Bool.not_eq_eq_eq_not, Bool.not_true, Bool.not_false]; assumption)) ?_
    | (refine Br.mk ?_ ?_ <;> intro h <;> (try simp only [ltB_t, ltB_f, eqB_t, eqB_f, pB_t, pB_f, sEq_t, sEq_f, emp_iff, ne_eq, List.length_map, Bool.not_eq_true, Bool.not_eq_false, Bool.not_eq_eq_eq_not, Bool.not_true, Bool.not_false] at h))
    | refine Ixv.mk (by omega) (ixE (by omega) (by omega)) ?_
    | refine Elt.mk rfl ?_
    | refine Elt.mk (by assumption) ?_
    | refine Elt.mk (ixE (by omega) (by omega)) ?_)) <;> (try (conv => whnf))
  all_goals first
    | (exfalso; omega)
    | exact ⟨_, ⟨rfl, rfl, rfl⟩, allSc_ok _ rfl, (fun r h => by cases h; exact ⟨_, rfl, rfl, rfl⟩), rfl, hK _ _ _ rfl hP (fun _ => rfl)⟩

end Go.Proofs.Ythjbcgdmdmfijaa
