/- Contracts (Bng). -/
import Derived.Test.YthjbcgdmdmfijaaBnf
set_option linter.unusedVariables false
set_option linter.unusedSimpArgs false
set_option maxRecDepth 100000
namespace Go.Lo
-- deps: Bnf
theorem Wc.rnRow {P : Program} {c : Code} {Q : Exit → St → Prop} {st : St} {k : Nat} {r : Row} (hk : look st.rows k = some r)
    (kk : Wc P c Q { st with rows := (k, ⟨r.ty, r.sz, r.els.map (fun e => e.map PV.rn)⟩) :: st.rows }) : Wc P c Q st := by
  rintro w0 a w Qr ⟨L, cp, sz, ln, s⟩ hT
  exact kk w0 a w Qr ⟨L, cp, sz, ln, s.reRow hk rfl (by simp) (fun _ _ _ _ g => g.rn)⟩ hT
def z40 : List Int := List.replicate 40 0
def plS (n : Int) : Ps := ⟨0, List.replicate n.toNat z40, false, false⟩
noncomputable def plR (xs : List D.Work) (bud n : Int) : Ps := psR xs bud xs.length 0 (plS n)
def cPlc : YCt := fun me args X K => me = .no ∧ ∃ (xs : List D.Work) (bud n : Int), args = [I n, .view 4 (xs.map D.Work.enc), I bud] ∧ WorksOk xs ∧ (1 ≤ n ∧ n ≤ 6) ∧ (1 ≤ bud ∧ bud ≤ 20000) ∧
  (((plR xs bud n).found = true ∧ ∀ v X', K none X' [.p (.raw v), .p (I 0)]) ∨ ((plR xs bud n).found = false ∧ (plR xs bud n).full = true ∧ ∀ X', K none X' [.p .nil, .p (I 5)]) ∨ ((plR xs bud n).found = false ∧ (plR xs bud n).full = false ∧ ∀ X', K none X' [.p .nil, .p (I 3)]))
theorem PlX.nil (e e2 : Nat) (X : Frag) : PlX e e2 X (.slice none 0 0) [] [] := ⟨FV.nil _ _, NeD.nil _ _, fun d hd => by cases hd⟩
theorem PlX.snoc {e e2 : Nat} {X : Frag} {pv : Value} {ds : List Dn} {plan : List (List Int)} (h : PlX e e2 X pv ds plan) {b c : Nat} {C : Array Value} {l : List Int} (hx : X b = none) (hN : Nums C c l) {els : List (List PV)} {b2 c2 : Nat} {C2 : Array Value}
    (he : els = rawE ds ++ [[.raw (.slice (some ⟨b, 0, none⟩) l.length c)]]) (hC2 : RowC C2 c2 ⟨e2, 1, els⟩) (hb2 : blkV pv = some b2 ∨ (X.upd b (.cells C e (0, 0))) b2 = none) :
    PlX e e2 ((X.upd b (.cells C e (0, 0))).upd b2 (.cells C2 e2 (0, 0))) (.slice (some ⟨b2, 0, none⟩) els.length c2) (ds ++ [⟨b, c, C, l⟩]) (plan ++ [l]) := by
  have hne : b ≠ b2 := fun e1 => by
    rcases hb2 with h2 | h2
    · exact h.top.fresh hx (by rw [e1]; exact h2)
    · rw [← e1, Frag.upd_same] at h2; cases h2
  have hr := h.rows.snoc hx hN
  have hoff : ∀ d ∈ ds ++ [(⟨b, c, C, l⟩ : Dn)], d.b ≠ b2 := fun d hd e1 => by
    rcases hb2 with h2 | h2
    · rcases List.mem_append.1 hd with hd | hd
      · exact h.off d hd (by rw [e1]; exact h2)
      · have : d = ⟨b, c, C, l⟩ := by simpa using hd
        subst this; exact hne e1
    · have := (hr.inx d hd).1
      rw [e1, h2] at this; cases this
  refine ⟨(FV.raw (Frag.upd_same _ _ _) hC2).cast ?_, ⟨fun d hd => ?_, hr.nd, hr.ls⟩, fun d hd h1 => ?_⟩
  · rw [he, rawE_snoc]; rfl
  · obtain ⟨g1, g2⟩ := hr.inx d hd
    exact ⟨by rw [Frag.upd_ne _ _ (hoff d hd)]; exact g1, g2⟩
  · have : b2 = d.b := by simpa [blkV] using h1
    exact hoff d hd this.symm
theorem raw_pl (v : Value) : ∀ e ∈ [[PV.raw v]], ∀ m ∈ e, m.val.isSome = true := by
  intro e he m hm
  simp at he; subst he; simp at hm; subst hm; rfl
theorem plS_ok {bud n : Int} (h0 : 0 ≤ n) (hb : 0 ≤ bud) : psOk bud (plS n).plan.length (plS n) := ⟨⟨by unfold plS; dsimp only; omega, by unfold plS; dsimp only; omega⟩, rfl, fun r hr => by
  have := List.eq_of_mem_replicate hr; subst this; simp [z40]⟩
theorem rep_snoc {n : Int} (h0 : 0 ≤ n) : List.replicate n.toNat z40 ++ [z40] = List.replicate (n + 1).toNat z40 := by
  rw [show (n + 1).toNat = n.toNat + 1 by omega, List.replicate_succ']
theorem psR_ff {xs : List D.Work} {bud : Int} : ∀ (d : Nat) (a : Int) (s : Ps), (s.found = true → s.full = false) → s.full = false → ((psR xs bud d a s).found = true → (psR xs bud d a s).full = false)
  | 0, a, s, _, h => fun _ => h
  | d + 1, a, s, h, h2 => by
    unfold psR
    exact it_inv (f := psB (psR xs bud d (a + 1)) bud (a + 1) (ix xs a)) (fun _ s => s.found = true → s.full = false) h (N := s.plan.length) (fun b s b0 b1 hs => by
      unfold psB
      by_cases hn : 0 ≤ (ix xs a).Last - (ix xs a).Days - (ix xs a).First + 2
      · exact it_inv (f := fun s j => psStep (psR xs bud d (a + 1)) bud (a + 1) (ix xs a).Days b s ((ix xs a).First + j)) (fun _ s => s.found = true → s.full = false) hs (N := (ix xs a).Last - (ix xs a).Days - (ix xs a).First + 2) (fun j s j0 j1 hs => by
          unfold psStep
          split
          · exact hs
          · split
            · intro h; cases h
            · have hq := psR_ff (xs := xs) (bud := bud) d (a + 1) ⟨s.nodes + 1, s.plan.set b.toNat (ptL (ix s.plan b) ((ix xs a).First + j) (ix xs a).Days (a + 1)), false, false⟩ (fun h => by cases h) rfl
              dsimp only
              split
              · exact hq
              · intro h; cases h) hn (by omega)
      · unfold it; rw [show ((ix xs a).Last - (ix xs a).Days - (ix xs a).First + 2).toNat = 0 by omega]; exact hs) (by omega) (by omega)
end Go.Lo
namespace Go.Proofs.Ythjbcgdmdmfijaa
open Go.Lo
attribute [local irreducible] W Wc



theorem h_plcS : YHolds Try.prog 88 cPlc := by
  refine E.mkY tt Try.func88 rfl Try.ntmps88 rfl (by kernel_rfl) ?_
  rintro _ _ X K ⟨rfl, xs, bud, n, rfl, hB, ⟨hn0, hn1⟩, ⟨hb0, hb1⟩, hK⟩
  refine ⟨Nat.le_of_ble_eq_true rfl, ?_⟩
  (repeat' ((conv => whnf); first
    | refine Sd.mk (by first | omega | (unfold in64; omega) | (simp only [fitK, in64]; omega) | (simp only [fitK, in64, chunk, List.length_map, List.length_append, List.length_replicate, List.length_set, List.length_nil, List.length_cons]; omega)) ?_
    | refine Br.yes rfl ?_
    | refine Br.no rfl ?_
    | refine Br.yes (by first | (simp only [ltB_t, ltB_f, eqB_t, eqB_f, pB_t, pB_f, sEq_t, sEq_f, emp_iff, ne_eq, List.length_map, Bool.not_eq_true, Bool.not_eq_false, Bool.not_eq_eq_eq_not, Bool.not_true, Bool.not_false]; done) | (simp only [ltB_t, ltB_f, eqB_t, eqB_f, pB_t, pB_f, sEq_t, sEq_f, emp_iff, ne_eq, List.length_map, Bool.not_eq_true, Bool.not_eq_false, Bool.not_eq_eq_eq_not, Bool.not_true, Bool.not_false]; omega) | (simp only [ltB_t, ltB_f, eqB_t, eqB_f, pB_t, pB_f, sEq_t, sEq_f, emp_iff, ne_eq, List.length_map, Bool.not_eq_true, Bool.not_eq_false, Bool.not_eq_eq_eq_not, Bool.not_true, Bool.not_false]; assumption)) ?_
    | refine Br.no (by first | (simp only [ltB_t, ltB_f, eqB_t, eqB_f, pB_t, pB_f, sEq_t, sEq_f, emp_iff, ne_eq, List.length_map, Bool.not_eq_true, Bool.not_eq_false, Bool.not_eq_eq_eq_not, Bool.not_true, Bool.not_false]; done) | (simp only [ltB_t, ltB_f, eqB_t, eqB_f, pB_t, pB_f, sEq_t, sEq_f, emp_iff, ne_eq, List.length_map, Bool.not_eq_true, Bool.not_eq_false, Bool.not_eq_eq_eq_not, Bool.not_true, Bool.not_false]; omega) | (simp only [ltB_t, ltB_f, eqB_t, eqB_f, pB_t, pB_f, sEq_t, sEq_f, emp_iff, ne_eq, List.length_map, Bool.not_eq_true, Bool.not_eq_false, Bool.not_eq_eq_eq_not, Bool.not_true, Bool.not_false]; assumption)) ?_
    | (refine Br.mk ?_ ?_ <;> intro h <;> (try simp only [ltB_t, ltB_f, eqB_t, eqB_f, pB_t, pB_f, sEq_t, sEq_f, emp_iff, ne_eq, List.length_map, Bool.not_eq_true, Bool.not_eq_false, Bool.not_eq_eq_eq_not, Bool.not_true, Bool.not_false] at h))
    | refine Elt.mk rfl ?_
    | refine Elt.mk (by assumption) ?_
    | refine Elt.mk (ixE (by omega) (by omega)) ?_
    | refine Mk.eq (by omega) (by omega) (by omega) ?_
    | refine Mk.zero (by omega) (by omega) (by omega) ?_
    | (fail "callY")
    | refine E.regionF tt (id := 5) 5 [0, 1, 2, 3] mixed (by decide +kernel) ?_
    | refine E.regionFY tt (id := 5) [0, 1, 2, 3] 7 (.nd [(4, .nd [(5, .nd [(6, .nd [(7, .nd [(8, .nd [(9, .nd [(10, .nd [])])])])])])]), (5, .nd [(4, .nd [(6, .nd [(7, .nd [(8, .nd [(9, .nd [(10, .nd [])])])])])]), (6, .nd [(4, .nd [(7, .nd [(8, .nd [(9, .nd [(10, .nd [])])])])])])])]) mixed (by decide +kernel) ?_
    | refine Bo.mk ?_ ?_)) <;> (try (conv => whnf))
  refine Wc.rnRow (k := 1) rfl ?_
  refine E.loop tt (fun q : Int × Value × List Dn × Frag => (0 ≤ q.1 ∧ q.1 ≤ n) ∧ PlX 2 24 q.2.2.2 q.2.1 q.2.2.1 (List.replicate q.1.toNat z40)) (fun q => ⟨39, 2, [(0, .p (I n)), (8, .loc 1 0 0), (9, .p (I q.1))], [(1, mrQ 160 xs q.2.1 0 bud false)], q.2.2.2⟩) (fun q => (n - q.1).toNat) (0, .slice none 0 0, [], X) ⟨⟨by dsimp only; omega, by dsimp only; omega⟩, PlX.nil _ _ _⟩ ⟨rfl, ⟨rfl, rfl, rfl, trivial⟩, ⟨rfl, trivial⟩, rfl, rfl, fun _ _ h => h⟩ ?_
  rintro q ⟨⟨q0, q1⟩, hP⟩
  rcases Int.lt_or_le q.1 n with hlt | hge
  · (repeat' ((conv => whnf); first
    | refine Sd.mk (by first | omega | (unfold in64; omega) | (simp only [fitK, in64]; omega) | (simp only [fitK, in64, chunk, List.length_map, List.length_append, List.length_replicate, List.length_set, List.length_nil, List.length_cons]; omega)) ?_
    | refine Br.yes rfl ?_
    | refine Br.no rfl ?_
    | refine Br.yes (by first | (simp only [ltB_t, ltB_f, eqB_t, eqB_f, pB_t, pB_f, sEq_t, sEq_f, emp_iff, ne_eq, List.length_map, Bool.not_eq_true, Bool.not_eq_false, Bool.not_eq_eq_eq_not, Bool.not_true, Bool.not_false]; done) | (simp only [ltB_t, ltB_f, eqB_t, eqB_f, pB_t, pB_f, sEq_t, sEq_f, emp_iff, ne_eq, List.length_map, Bool.not_eq_true, Bool.not_eq_false, Bool.not_eq_eq_eq_not, Bool.not_true, Bool.not_false]; omega) | (simp only [ltB_t, ltB_f, eqB_t, eqB_f, pB_t, pB_f, sEq_t, sEq_f, emp_iff, ne_eq, List.length_map, Bool.not_eq_true, Bool.not_eq_false, Bool.not_eq_eq_eq_not, Bool.not_true, Bool.not_false]; assumption)) ?_
    | refine Br.no (by first | (simp only [ltB_t, ltB_f, eqB_t, eqB_f, pB_t, pB_f, sEq_t, sEq_f, emp_iff, ne_eq, List.length_map, Bool.not_eq_true, Bool.not_eq_false, Bool.not_eq_eq_eq_not, Bool.not_true, Bool.not_false]; done) | (simp only [ltB_t, ltB_f, eqB_t, eqB_f, pB_t, pB_f, sEq_t, sEq_f, emp_iff, ne_eq, List.length_map, Bool.not_eq_true, Bool.not_eq_false, Bool.not_eq_eq_eq_not, Bool.not_true, Bool.not_false]; omega) | (simp only [ltB_t, ltB_f, eqB_t, eqB_f, pB_t, pB_f, sEq_t, sEq_f, emp_iff, ne_eq, List.length_map, Bool.not_eq_true, Bool.not_eq_false, Bool.not_eq_eq_eq_not, Bool.not_true, Bool.not_false]; assumption)) ?_
    | (refine Br.mk ?_ ?_ <;> intro h <;> (try simp only [ltB_t, ltB_f, eqB_t, eqB_f, pB_t, pB_f, sEq_t, sEq_f, emp_iff, ne_eq, List.length_map, Bool.not_eq_true, Bool.not_eq_false, Bool.not_eq_eq_eq_not, Bool.not_true, Bool.not_false] at h))
    | refine Elt.mk rfl ?_
    | refine Elt.mk (by assumption) ?_
    | refine Elt.mk (ixE (by omega) (by omega)) ?_
    | refine Mk.eq (by omega) (by omega) (by omega) ?_
    | refine Mk.zero (by omega) (by omega) (by omega) ?_
    | (fail "callY")
    | refine E.regionF tt (id := 5) 5 [0, 1, 2, 3] mixed (by decide +kernel) ?_
    | refine E.regionFY tt (id := 5) [0, 1, 2, 3] 7 (.nd [(4, .nd [(5, .nd [(6, .nd [(7, .nd [(8, .nd [(9, .nd [(10, .nd [])])])])])])]), (5, .nd [(4, .nd [(6, .nd [(7, .nd [(8, .nd [(9, .nd [(10, .nd [])])])])])]), (6, .nd [(4, .nd [(7, .nd [(8, .nd [(9, .nd [(10, .nd [])])])])])])])]) mixed (by decide +kernel) ?_
    | refine Bo.mk ?_ ?_)) <;> (try (conv => whnf))
    all_goals (refine E.absR tt [24] (k := 2) (fun t ht => by have e : t = 24 := (by simpa using ht); subst e; rfl) rfl rfl (fun e he m hm => by have e1 := List.eq_of_mem_replicate he; subst e1; have e2 : m = PV.int .i64 0 := (by simpa using hm); subst e2; rfl) fun b c C hC hx => ?_)
    all_goals (
      have hN : Nums C c z40 := RowC.nums (e := 2) hC
      have hF := hP.top.upd (hP.top.fresh hx) (.cells C 2 (0, 0))
      have hlen := hP.rows.len
      rw [List.length_replicate] at hlen
      (repeat' ((conv => whnf); first
    | refine Sd.mk (by first | omega | (unfold in64; omega) | (simp only [fitK, in64]; omega) | (simp only [fitK, in64, chunk, List.length_map, List.length_append, List.length_replicate, List.length_set, List.length_nil, List.length_cons]; omega)) ?_
    | refine Br.yes rfl ?_
    | refine Br.no rfl ?_
    | refine Br.yes (by first | (simp only [ltB_t, ltB_f, eqB_t, eqB_f, pB_t, pB_f, sEq_t, sEq_f, emp_iff, ne_eq, List.length_map, Bool.not_eq_true, Bool.not_eq_false, Bool.not_eq_eq_eq_not, Bool.not_true, Bool.not_false]; done) | (simp only [ltB_t, ltB_f, eqB_t, eqB_f, pB_t, pB_f, sEq_t, sEq_f, emp_iff, ne_eq, List.length_map, Bool.not_eq_true, Bool.not_eq_false, Bool.not_eq_eq_eq_not, Bool.not_true, Bool.not_false]; omega) | (simp only [ltB_t, ltB_f, eqB_t, eqB_f, pB_t, pB_f, sEq_t, sEq_f, emp_iff, ne_eq, List.length_map, Bool.not_eq_true, Bool.not_eq_false, Bool.not_eq_eq_eq_not, Bool.not_true, Bool.not_false]; assumption)) ?_
    | refine Br.no (by first | (simp only [ltB_t, ltB_f, eqB_t, eqB_f, pB_t, pB_f, sEq_t, sEq_f, emp_iff, ne_eq, List.length_map, Bool.not_eq_true, Bool.not_eq_false, Bool.not_eq_eq_eq_not, Bool.not_true, Bool.not_false]; done) | (simp only [ltB_t, ltB_f, eqB_t, eqB_f, pB_t, pB_f, sEq_t, sEq_f, emp_iff, ne_eq, List.length_map, Bool.not_eq_true, Bool.not_eq_false, Bool.not_eq_eq_eq_not, Bool.not_true, Bool.not_false]; omega) | (simp only [ltB_t, ltB_f, eqB_t, eqB_f, pB_t, pB_f, sEq_t, sEq_f, emp_iff, ne_eq, List.length_map, Bool.not_eq_true, Bool.not_eq_false, Bool.not_eq_eq_eq_not, Bool.not_true, Bool.not_false]; assumption)) ?_
    | (refine Br.mk ?_ ?_ <;> intro h <;> (try simp only [ltB_t, ltB_f, eqB_t, eqB_f, pB_t, pB_f, sEq_t, sEq_f, emp_iff, ne_eq, List.length_map, Bool.not_eq_true, Bool.not_eq_false, Bool.not_eq_eq_eq_not, Bool.not_true, Bool.not_false] at h))
    | refine Elt.mk rfl ?_
    | refine Elt.mk (by assumption) ?_
    | refine Elt.mk (ixE (by omega) (by omega)) ?_
    | refine Mk.eq (by omega) (by omega) (by omega) ?_
    | refine Mk.zero (by omega) (by omega) (by omega) ?_
    | (fail "callY")
    | refine E.regionF tt (id := 5) 5 [0, 1, 2, 3] mixed (by decide +kernel) ?_
    | refine E.regionFY tt (id := 5) [0, 1, 2, 3] 7 (.nd [(4, .nd [(5, .nd [(6, .nd [(7, .nd [(8, .nd [(9, .nd [(10, .nd [])])])])])])]), (5, .nd [(4, .nd [(6, .nd [(7, .nd [(8, .nd [(9, .nd [(10, .nd [])])])])])]), (6, .nd [(4, .nd [(7, .nd [(8, .nd [(9, .nd [(10, .nd [])])])])])])])]) mixed (by decide +kernel) ?_
    | refine Bo.mk ?_ ?_)) <;> (try (conv => whnf)))
    all_goals (
      refine E.appFw tt (els2 := [[.raw (.slice (some ⟨b, 0, none⟩) z40.length c)]]) rfl rfl rfl rfl rfl rfl hF rfl (by simp) (raw_pl _) rfl (by rw [hlen]; simp; omega) fun b2 c2 C2 hC2 hb2 => ?_
      have hP2 := hP.snoc (l := z40) hx hN rfl hC2 hb2
      (repeat' ((conv => whnf); first
    | refine Sd.mk (by first | omega | (unfold in64; omega) | (simp only [fitK, in64]; omega) | (simp only [fitK, in64, chunk, List.length_map, List.length_append, List.length_replicate, List.length_set, List.length_nil, List.length_cons]; omega)) ?_
    | refine Br.yes rfl ?_
    | refine Br.no rfl ?_
    | refine Br.yes (by first | (simp only [ltB_t, ltB_f, eqB_t, eqB_f, pB_t, pB_f, sEq_t, sEq_f, emp_iff, ne_eq, List.length_map, Bool.not_eq_true, Bool.not_eq_false, Bool.not_eq_eq_eq_not, Bool.not_true, Bool.not_false]; done) | (simp only [ltB_t, ltB_f, eqB_t, eqB_f, pB_t, pB_f, sEq_t, sEq_f, emp_iff, ne_eq, List.length_map, Bool.not_eq_true, Bool.not_eq_false, Bool.not_eq_eq_eq_not, Bool.not_true, Bool.not_false]; omega) | (simp only [ltB_t, ltB_f, eqB_t, eqB_f, pB_t, pB_f, sEq_t, sEq_f, emp_iff, ne_eq, List.length_map, Bool.not_eq_true, Bool.not_eq_false, Bool.not_eq_eq_eq_not, Bool.not_true, Bool.not_false]; assumption)) ?_
    | refine Br.no (by first | (simp only [ltB_t, ltB_f, eqB_t, eqB_f, pB_t, pB_f, sEq_t, sEq_f, emp_iff, ne_eq, List.length_map, Bool.not_eq_true, Bool.not_eq_false, Bool.not_eq_eq_eq_not, Bool.not_true, Bool.not_false]; done) | (simp only [ltB_t, ltB_f, eqB_t, eqB_f, pB_t, pB_f, sEq_t, sEq_f, emp_iff, ne_eq, List.length_map, Bool.not_eq_true, Bool.not_eq_false, Bool.not_eq_eq_eq_not, Bool.not_true, Bool.not_false]; omega) | (simp only [ltB_t, ltB_f, eqB_t, eqB_f, pB_t, pB_f, sEq_t, sEq_f, emp_iff, ne_eq, List.length_map, Bool.not_eq_true, Bool.not_eq_false, Bool.not_eq_eq_eq_not, Bool.not_true, Bool.not_false]; assumption)) ?_
    | (refine Br.mk ?_ ?_ <;> intro h <;> (try simp only [ltB_t, ltB_f, eqB_t, eqB_f, pB_t, pB_f, sEq_t, sEq_f, emp_iff, ne_eq, List.length_map, Bool.not_eq_true, Bool.not_eq_false, Bool.not_eq_eq_eq_not, Bool.not_true, Bool.not_false] at h))
    | refine Elt.mk rfl ?_
    | refine Elt.mk (by assumption) ?_
    | refine Elt.mk (ixE (by omega) (by omega)) ?_
    | refine Mk.eq (by omega) (by omega) (by omega) ?_
    | refine Mk.zero (by omega) (by omega) (by omega) ?_
    | (fail "callY")
    | refine E.regionF tt (id := 5) 5 [0, 1, 2, 3] mixed (by decide +kernel) ?_
    | refine E.regionFY tt (id := 5) [0, 1, 2, 3] 7 (.nd [(4, .nd [(5, .nd [(6, .nd [(7, .nd [(8, .nd [(9, .nd [(10, .nd [])])])])])])]), (5, .nd [(4, .nd [(6, .nd [(7, .nd [(8, .nd [(9, .nd [(10, .nd [])])])])])]), (6, .nd [(4, .nd [(7, .nd [(8, .nd [(9, .nd [(10, .nd [])])])])])])])]) mixed (by decide +kernel) ?_
    | refine Bo.mk ?_ ?_)) <;> (try (conv => whnf)))
    all_goals (refine ⟨(q.1 + 1, .slice (some ⟨b2, 0, none⟩) (rawE q.2.2.1 ++ [[PV.raw (.slice (some ⟨b, 0, none⟩) z40.length c)]]).length c2, q.2.2.1 ++ [⟨b, c, C, z40⟩], (q.2.2.2.upd b (.cells C 2 (0, 0))).upd b2 (.cells C2 24 (0, 0))), ⟨⟨by dsimp only; omega, by dsimp only; omega⟩, rep_snoc q0 ▸ hP2⟩, by dsimp only; omega, ⟨rfl, ⟨rfl, rfl, rfl, trivial⟩, ⟨rfl, trivial⟩, rfl, rfl, fun _ _ h => h⟩⟩)
  · have hqe : q.1 = n := by omega
    rw [hqe] at hP
    have hok := plS_ok (bud := bud) (n := n) (by omega) (by omega)
    have hpl : (plS n).plan.length = n.toNat := by unfold plS; simp
    (repeat' ((conv => whnf); first
    | refine Sd.mk (by first | omega | (unfold in64; omega) | (simp only [fitK, in64]; omega) | (simp only [fitK, in64, chunk, List.length_map, List.length_append, List.length_replicate, List.length_set, List.length_nil, List.length_cons]; omega)) ?_
    | refine Br.yes rfl ?_
    | refine Br.no rfl ?_
    | refine Br.yes (by first | (simp only [ltB_t, ltB_f, eqB_t, eqB_f, pB_t, pB_f, sEq_t, sEq_f, emp_iff, ne_eq, List.length_map, Bool.not_eq_true, Bool.not_eq_false, Bool.not_eq_eq_eq_not, Bool.not_true, Bool.not_false]; done) | (simp only [ltB_t, ltB_f, eqB_t, eqB_f, pB_t, pB_f, sEq_t, sEq_f, emp_iff, ne_eq, List.length_map, Bool.not_eq_true, Bool.not_eq_false, Bool.not_eq_eq_eq_not, Bool.not_true, Bool.not_false]; omega) | (simp only [ltB_t, ltB_f, eqB_t, eqB_f, pB_t, pB_f, sEq_t, sEq_f, emp_iff, ne_eq, List.length_map, Bool.not_eq_true, Bool.not_eq_false, Bool.not_eq_eq_eq_not, Bool.not_true, Bool.not_false]; assumption)) ?_
    | refine Br.no (by first | (simp only [ltB_t, ltB_f, eqB_t, eqB_f, pB_t, pB_f, sEq_t, sEq_f, emp_iff, ne_eq, List.length_map, Bool.not_eq_true, Bool.not_eq_false, Bool.not_eq_eq_eq_not, Bool.not_true, Bool.not_false]; done) | (simp only [ltB_t, ltB_f, eqB_t, eqB_f, pB_t, pB_f, sEq_t, sEq_f, emp_iff, ne_eq, List.length_map, Bool.not_eq_true, Bool.not_eq_false, Bool.not_eq_eq_eq_not, Bool.not_true, Bool.not_false]; omega) | (simp only [ltB_t, ltB_f, eqB_t, eqB_f, pB_t, pB_f, sEq_t, sEq_f, emp_iff, ne_eq, List.length_map, Bool.not_eq_true, Bool.not_eq_false, Bool.not_eq_eq_eq_not, Bool.not_true, Bool.not_false]; assumption)) ?_
    | (refine Br.mk ?_ ?_ <;> intro h <;> (try simp only [ltB_t, ltB_f, eqB_t, eqB_f, pB_t, pB_f, sEq_t, sEq_f, emp_iff, ne_eq, List.length_map, Bool.not_eq_true, Bool.not_eq_false, Bool.not_eq_eq_eq_not, Bool.not_true, Bool.not_false] at h))
    | refine Elt.mk rfl ?_
    | refine Elt.mk (by assumption) ?_
    | refine Elt.mk (ixE (by omega) (by omega)) ?_
    | refine Mk.eq (by omega) (by omega) (by omega) ?_
    | refine Mk.zero (by omega) (by omega) (by omega) ?_
    | (fail "callY")
    | refine E.regionF tt (id := 5) 5 [0, 1, 2, 3] mixed (by decide +kernel) ?_
    | refine E.regionFY tt (id := 5) [0, 1, 2, 3] 7 (.nd [(4, .nd [(5, .nd [(6, .nd [(7, .nd [(8, .nd [(9, .nd [(10, .nd [])])])])])])]), (5, .nd [(4, .nd [(6, .nd [(7, .nd [(8, .nd [(9, .nd [(10, .nd [])])])])])]), (6, .nd [(4, .nd [(7, .nd [(8, .nd [(9, .nd [(10, .nd [])])])])])])])]) mixed (by decide +kernel) ?_
    | refine Bo.mk ?_ ?_)) <;> (try (conv => whnf))
    all_goals try (exfalso; omega)
    all_goals (
      refine E.callYP tt (h_plS xs.length) rfl rfl rfl rfl rfl rfl ⟨xs, bud, q.2.1, q.2.2.1, plS n, 0, rfl, rfl, hP, hB, ⟨by omega, by omega⟩, hok, by omega, hb1, rfl, rfl, fun X' ds' pl' e1 P' h' r' e _ _ => ?_⟩
      cases e
      unfold plR at hK
      generalize psR xs bud xs.length 0 (plS n) = S at *
      obtain ⟨nd, pl, f, u⟩ := S
      dsimp only at hK
      rcases hK with ⟨h1, hK⟩ | ⟨h1, h2, hK⟩ | ⟨h1, h2, hK⟩
      · subst h1
        (repeat' ((conv => whnf); first
    | refine Sd.mk (by first | omega | (unfold in64; omega) | (simp only [fitK, in64]; omega) | (simp only [fitK, in64, chunk, List.length_map, List.length_append, List.length_replicate, List.length_set, List.length_nil, List.length_cons]; omega)) ?_
    | refine Br.yes rfl ?_
    | refine Br.no rfl ?_
    | refine Br.yes (by first | (simp only [ltB_t, ltB_f, eqB_t, eqB_f, pB_t, pB_f, sEq_t, sEq_f, emp_iff, ne_eq, List.length_map, Bool.not_eq_true, Bool.not_eq_false, Bool.not_eq_eq_eq_not, Bool.not_true, Bool.not_false]; done) | (simp only [ltB_t, ltB_f, eqB_t, eqB_f, pB_t, pB_f, sEq_t, sEq_f, emp_iff, ne_eq, List.length_map, Bool.not_eq_true, Bool.not_eq_false, Bool.not_eq_eq_eq_not, Bool.not_true, Bool.not_false]; omega) | (simp only [ltB_t, ltB_f, eqB_t, eqB_f, pB_t, pB_f, sEq_t, sEq_f, emp_iff, ne_eq, List.length_map, Bool.not_eq_true, Bool.not_eq_false, Bool.not_eq_eq_eq_not, Bool.not_true, Bool.not_false]; assumption)) ?_
    | refine Br.no (by first | (simp only [ltB_t, ltB_f, eqB_t, eqB_f, pB_t, pB_f, sEq_t, sEq_f, emp_iff, ne_eq, List.length_map, Bool.not_eq_true, Bool.not_eq_false, Bool.not_eq_eq_eq_not, Bool.not_true, Bool.not_false]; done) | (simp only [ltB_t, ltB_f, eqB_t, eqB_f, pB_t, pB_f, sEq_t, sEq_f, emp_iff, ne_eq, List.length_map, Bool.not_eq_true, Bool.not_eq_false, Bool.not_eq_eq_eq_not, Bool.not_true, Bool.not_false]; omega) | (simp only [ltB_t, ltB_f, eqB_t, eqB_f, pB_t, pB_f, sEq_t, sEq_f, emp_iff, ne_eq, List.length_map, Bool.not_eq_true, Bool.not_eq_false, Bool.not_eq_eq_eq_not, Bool.not_true, Bool.not_false]; assumption)) ?_
    | (refine Br.mk ?_ ?_ <;> intro h <;> (try simp only [ltB_t, ltB_f, eqB_t, eqB_f, pB_t, pB_f, sEq_t, sEq_f, emp_iff, ne_eq, List.length_map, Bool.not_eq_true, Bool.not_eq_false, Bool.not_eq_eq_eq_not, Bool.not_true, Bool.not_false] at h))
    | refine Elt.mk rfl ?_
    | refine Elt.mk (by assumption) ?_
    | refine Elt.mk (ixE (by omega) (by omega)) ?_
    | refine Mk.eq (by omega) (by omega) (by omega) ?_
    | refine Mk.zero (by omega) (by omega) (by omega) ?_
    | (fail "callY")
    | refine E.regionF tt (id := 5) 5 [0, 1, 2, 3] mixed (by decide +kernel) ?_
    | refine E.regionFY tt (id := 5) [0, 1, 2, 3] 7 (.nd [(4, .nd [(5, .nd [(6, .nd [(7, .nd [(8, .nd [(9, .nd [(10, .nd [])])])])])])]), (5, .nd [(4, .nd [(6, .nd [(7, .nd [(8, .nd [(9, .nd [(10, .nd [])])])])])]), (6, .nd [(4, .nd [(7, .nd [(8, .nd [(9, .nd [(10, .nd [])])])])])])])]) mixed (by decide +kernel) ?_
    | refine Bo.mk ?_ ?_)) <;> (try (conv => whnf))
        all_goals (exact ⟨_, ⟨rfl, rfl, rfl⟩, allSc_ok _ rfl, (fun r h => by cases h), rfl, hK _ _⟩)
      · subst h1; subst h2
        (repeat' ((conv => whnf); first
    | refine Sd.mk (by first | omega | (unfold in64; omega) | (simp only [fitK, in64]; omega) | (simp only [fitK, in64, chunk, List.length_map, List.length_append, List.length_replicate, List.length_set, List.length_nil, List.length_cons]; omega)) ?_
    | refine Br.yes rfl ?_
    | refine Br.no rfl ?_
    | refine Br.yes (by first | (simp only [ltB_t, ltB_f, eqB_t, eqB_f, pB_t, pB_f, sEq_t, sEq_f, emp_iff, ne_eq, List.length_map, Bool.not_eq_true, Bool.not_eq_false, Bool.not_eq_eq_eq_not, Bool.not_true, Bool.not_false]; done) | (simp only [ltB_t, ltB_f, eqB_t, eqB_f, pB_t, pB_f, sEq_t, sEq_f, emp_iff, ne_eq, List.length_map, Bool.not_eq_true, Bool.not_eq_false, Bool.not_eq_eq_eq_not, Bool.not_true, Bool.not_false]; omega) | (simp only [ltB_t, ltB_f, eqB_t, eqB_f, pB_t, pB_f, sEq_t, sEq_f, emp_iff, ne_eq, List.length_map, Bool.not_eq_true, Bool.not_eq_false, Bool.not_eq_eq_eq_not, Bool.not_true, Bool.not_false]; assumption)) ?_
    | refine Br.no (by first | (simp only [ltB_t, ltB_f, eqB_t, eqB_f, pB_t, pB_f, sEq_t, sEq_f, emp_iff, ne_eq, List.length_map, Bool.not_eq_true, Bool.not_eq_false, Bool.not_eq_eq_eq_not, Bool.not_true, Bool.not_false]; done) | (simp only [ltB_t, ltB_f, eqB_t, eqB_f, pB_t, pB_f, sEq_t, sEq_f, emp_iff, ne_eq, List.length_map, Bool.not_eq_true, Bool.not_eq_false, Bool.not_eq_eq_eq_not, Bool.not_true, Bool.not_false]; omega) | (simp only [ltB_t, ltB_f, eqB_t, eqB_f, pB_t, pB_f, sEq_t, sEq_f, emp_iff, ne_eq, List.length_map, Bool.not_eq_true, Bool.not_eq_false, Bool.not_eq_eq_eq_not, Bool.not_true, Bool.not_false]; assumption)) ?_
    | (refine Br.mk ?_ ?_ <;> intro h <;> (try simp only [ltB_t, ltB_f, eqB_t, eqB_f, pB_t, pB_f, sEq_t, sEq_f, emp_iff, ne_eq, List.length_map, Bool.not_eq_true, Bool.not_eq_false, Bool.not_eq_eq_eq_not, Bool.not_true, Bool.not_false] at h))
    | refine Elt.mk rfl ?_
    | refine Elt.mk (by assumption) ?_
    | refine Elt.mk (ixE (by omega) (by omega)) ?_
    | refine Mk.eq (by omega) (by omega) (by omega) ?_
    | refine Mk.zero (by omega) (by omega) (by omega) ?_
    | (fail "callY")
    | refine E.regionF tt (id := 5) 5 [0, 1, 2, 3] mixed (by decide +kernel) ?_
    | refine E.regionFY tt (id := 5) [0, 1, 2, 3] 7 (.nd [(4, .nd [(5, .nd [(6, .nd [(7, .nd [(8, .nd [(9, .nd [(10, .nd [])])])])])])]), (5, .nd [(4, .nd [(6, .nd [(7, .nd [(8, .nd [(9, .nd [(10, .nd [])])])])])]), (6, .nd [(4, .nd [(7, .nd [(8, .nd [(9, .nd [(10, .nd [])])])])])])])]) mixed (by decide +kernel) ?_
    | refine Bo.mk ?_ ?_)) <;> (try (conv => whnf))
        all_goals (exact ⟨_, ⟨rfl, rfl, rfl⟩, allSc_ok _ rfl, (fun r h => by cases h), rfl, hK _⟩)
      · subst h1; subst h2
        (repeat' ((conv => whnf); first
    | refine Sd.mk (by first | omega | (unfold in64; omega) | (simp only [fitK, in64]; omega) | (simp only [fitK, in64, chunk, List.length_map, List.length_append, List.length_replicate, List.length_set, List.length_nil, List.length_cons]; omega)) ?_
    | refine Br.yes rfl ?_
    | refine Br.no rfl ?_
    | refine Br.yes (by first | (simp only [ltB_t, ltB_f, eqB_t, eqB_f, pB_t, pB_f, sEq_t, sEq_f, emp_iff, ne_eq, List.length_map, Bool.not_eq_true, Bool.not_eq_false, Bool.not_eq_eq_eq_not, Bool.not_true, Bool.not_false]; done) | (simp only [ltB_t, ltB_f, eqB_t, eqB_f, pB_t, pB_f, sEq_t, sEq_f, emp_iff, ne_eq, List.length_map, Bool.not_eq_true, Bool.not_eq_false, Bool.not_eq_eq_eq_not, Bool.not_true, Bool.not_false]; omega) | (simp only [ltB_t, ltB_f, eqB_t, eqB_f, pB_t, pB_f, sEq_t, sEq_f, emp_iff, ne_eq, List.length_map, Bool.not_eq_true, Bool.not_eq_false, Bool.not_eq_eq_eq_not, Bool.not_true, Bool.not_false]; assumption)) ?_
    | refine Br.no (by first | (simp only [ltB_t, ltB_f, eqB_t, eqB_f, pB_t, pB_f, sEq_t, sEq_f, emp_iff, ne_eq, List.length_map, Bool.not_eq_true, Bool.not_eq_false, Bool.not_eq_eq_eq_not, Bool.not_true, Bool.not_false]; done) | (simp only [ltB_t, ltB_f, eqB_t, eqB_f, pB_t, pB_f, sEq_t, sEq_f, emp_iff, ne_eq, List.length_map, Bool.not_eq_true, Bool.not_eq_false, Bool.not_eq_eq_eq_not, Bool.not_true, Bool.not_false]; omega) | (simp only [ltB_t, ltB_f, eqB_t, eqB_f, pB_t, pB_f, sEq_t, sEq_f, emp_iff, ne_eq, List.length_map, Bool.not_eq_true, Bool.not_eq_false, Bool.not_eq_eq_eq_not, Bool.not_true, Bool.not_false]; assumption)) ?_
    | (refine Br.mk ?_ ?_ <;> intro h <;> (try simp only [ltB_t, ltB_f, eqB_t, eqB_f, pB_t, pB_f, sEq_t, sEq_f, emp_iff, ne_eq, List.length_map, Bool.not_eq_true, Bool.not_eq_false, Bool.not_eq_eq_eq_not, Bool.not_true, Bool.not_false] at h))
    | refine Elt.mk rfl ?_
    | refine Elt.mk (by assumption) ?_
    | refine Elt.mk (ixE (by omega) (by omega)) ?_
    | refine Mk.eq (by omega) (by omega) (by omega) ?_
    | refine Mk.zero (by omega) (by omega) (by omega) ?_
    | (fail "callY")
    | refine E.regionF tt (id := 5) 5 [0, 1, 2, 3] mixed (by decide +kernel) ?_
    | refine E.regionFY tt (id := 5) [0, 1, 2, 3] 7 (.nd [(4, .nd [(5, .nd [(6, .nd [(7, .nd [(8, .nd [(9, .nd [(10, .nd [])])])])])])]), (5, .nd [(4, .nd [(6, .nd [(7, .nd [(8, .nd [(9, .nd [(10, .nd [])])])])])]), (6, .nd [(4, .nd [(7, .nd [(8, .nd [(9, .nd [(10, .nd [])])])])])])])]) mixed (by decide +kernel) ?_
    | refine Bo.mk ?_ ?_)) <;> (try (conv => whnf))
        all_goals (exact ⟨_, ⟨rfl, rfl, rfl⟩, allSc_ok _ rfl, (fun r h => by cases h), rfl, hK _⟩))

end Go.Proofs.Ythjbcgdmdmfijaa
