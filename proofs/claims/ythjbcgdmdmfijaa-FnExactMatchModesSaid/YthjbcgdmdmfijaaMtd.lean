/- Contracts (Mtd). -/
import Derived.Test.YthjbcgdmdmfijaaMtc
set_option linter.unusedVariables false
set_option linter.unusedSimpArgs false
set_option maxRecDepth 100000
namespace Go.Lo
-- deps: Mtc
def mrJ (ty : Nat) (xs ys : List D.Mode) (uv : Value) (lf : Int) (gv bv : Value) (sum : Int) (s : Ms) : Row := ⟨ty, 9, [[.view 3 (xs.map D.Mode.enc), .view 3 (ys.map D.Mode.enc), .raw uv, I lf, .raw gv, I sum, .raw bv, I (lsI s), .bool (fdI s)]]⟩
theorem ne_of_app {b ub e c n : Nat} {X : Frag} {v : Value} {o : Obj} (hx : X ub = some o) (ha : apart (.slice (some ⟨ub, 0, none⟩) n c) v) (hb : blkV v = some b ∨ X b = none) : ub ≠ b := fun h => by
  subst h
  rcases hb with h1 | h1
  · exact ha ub rfl h1
  · rw [hx] at h1; cases h1
theorem apart_of_l {b n n' c c' : Nat} {v : Value} (h : apart (.slice (some ⟨b, 0, none⟩) n c) v) : apart (.slice (some ⟨b, 0, none⟩) n' c') v := fun b' h1 => h b' h1
theorem rd_idxR1 {P : Program} {st : St} {x y : Operand} {t ty e : Nat} {ti : TyI} {k : IntKind} {i : Int} {b n c : Nat} (tt : Tab P) (h : tt.l.get t = some ti) (hel : ti.el = some (e, 1)) (ha : ti.agg = false)
    (hx : st.ev x = .p (.raw (.slice (some ⟨b, 0, none⟩) n c))) (hy : st.ev y = .p (.int k i)) (h0 : 0 ≤ i) (h1 : i < n) : ReadOp P (.indexAddr t x y) ty st (.p (.raw (.pointer (some ⟨b, i.toNat, none⟩)))) := by
  have := rd_idxR (P := P) (st := st) (ty := ty) (o := 0) tt h hel ha rfl hx hy h0 h1
  rwa [show 0 + i.toNat * 1 = i.toNat by omega] at this
theorem two_app2 {e e' b c : Nat} {X : Frag} {v w : Value} {els l l2 : List (List PV)} {C : Array Value} (hv : FV e' X v els) (hw : FV e X w l) (ha : apart v w) (hb : blkV w = some b ∨ X b = none) (hC : RowC C c ⟨e, 1, l2⟩) :
    FV e' (X.upd b (.cells C e (0, 0))) v els ∧ FV e (X.upd b (.cells C e (0, 0))) (.slice (some ⟨b, 0, none⟩) l2.length c) l2 ∧ apart v (.slice (some ⟨b, 0, none⟩) l2.length c) := by
  have hne : blkV v ≠ some b := fun h => by
    rcases hb with h1 | h1
    · exact ha b h h1
    · exact hv.blk h h1
  refine ⟨hv.upd hne _, FV.raw (Frag.upd_same _ _ _) hC, fun b' h1 h2 => hne ?_⟩
  have : b = b' := by simpa [blkV] using h2
  rw [this]; exact h1
end Go.Lo
namespace Go.Proofs.Ythjbcgdmdmfijaa
open Go.Lo
attribute [local irreducible] W Wc

set_option maxHeartbeats 2000000 in
theorem h_srchI : ∀ d, YHolds Try.prog 84 (cRunI 127 2 4 d)
  | 0 => h_srch0
  | d + 1 => by
    have ih := h_srchI d
    refine E.mkY tt Try.func84 rfl Try.ntmps84 rfl (by kernel_rfl) ?_
    rintro _ _ X K ⟨xs, ys, bud, uv, gv, bv, g, sum, s0, rfl, rfl, ⟨hu, hg, hb⟩, ⟨hug, hub, hgb⟩, hX, hY, hlen, hsum, hms, hbud, hfl, hK⟩
    have hlx : (xs.map D.Mode.enc).length = xs.length := by simp
    have hly : (ys.map D.Mode.enc).length = ys.length := by simp
    have hlg : (g.map encI).length = g.length := by simp
    have hlu := uE_len ys.length g
    have hxl := hX.le
    have hyl := hY.le
    refine ⟨Nat.le_of_ble_eq_true rfl, ?_⟩
    (repeat' ((conv => whnf); first
    | refine Sd.mk (by first | omega | (unfold in64; omega) | (simp only [fitK, in64]; omega) | (simp only [fitK, in64, chunk, List.length_map, List.length_append, List.length_replicate, List.length_set, List.length_nil, List.length_cons]; omega)) ?_
    | refine Br.yes rfl ?_
    | refine Br.no rfl ?_
    | refine Br.yes (by first | (simp only [ltB_t, ltB_f, eqB_t, eqB_f, pB_t, pB_f, sEq_t, sEq_f, emp_iff, ne_eq, List.length_map, Bool.not_eq_true, Bool.not_eq_false, Bool.not_eq_eq_eq_not, Bool.not_true, Bool.not_false]; done) | (simp only [ltB_t, ltB_f, eqB_t, eqB_f, pB_t, pB_f, sEq_t, sEq_f, emp_iff, ne_eq, List.length_map, Bool.not_eq_true, Bool.not_eq_false, Bool.not_eq_eq_eq_not, Bool.not_true, Bool.not_false]; omega) | (simp only [ltB_t, ltB_f, eqB_t, eqB_f, pB_t, pB_f, sEq_t, sEq_f, emp_iff, ne_eq, List.length_map, Bool.not_eq_true, Bool.not_eq_false, Bool.not_eq_eq_eq_not, Bool.not_true, Bool.not_false]; assumption)) ?_
    | refine Br.no (by first | (simp only [ltB_t, ltB_f, eqB_t, eqB_f, pB_t, pB_f, sEq_t, sEq_f, emp_iff, ne_eq, List.length_map, Bool.not_eq_true, Bool.not_eq_false, Bool.not_eq_eq_eq_not, Bool.not_true, Bool.not_false]; done) | (simp only [ltB_t, ltB_f, eqB_t, eqB_f, pB_t, pB_f, sEq_t, sEq_f, emp_iff, ne_eq, List.length_map, Bool.not_eq_true, Bool.not_eq_false, Bool.not_eq_eq_eq_not, Bool.not_true, Bool.not_false]; omega) | (simp only [ltB_t, ltB_f, eqB_t, eqB_f, pB_t, pB_f, sEq_t, sEq_f, emp_iff, ne_eq, List.length_map, Bool.not_eq_true, Bool.not_eq_false, Bool.not_eq_eq_eq_not, Bool.not_true, Bool.not_false]; assumption)) ?_
    | (refine Br.mk ?_ ?_ <;> intro h <;> (try simp only [ltB_t, ltB_f, eqB_t, eqB_f, pB_t, pB_f, sEq_t, sEq_f, emp_iff, ne_eq, List.length_map, Bool.not_eq_true, Bool.not_eq_false, Bool.not_eq_eq_eq_not, Bool.not_true, Bool.not_false] at h))
    | refine Ixv.mk (by omega) (ixE (by omega) (by omega)) ?_
    | refine Elt.mk rfl ?_
    | refine Elt.mk (by assumption) ?_
    | refine Elt.mk (ixE (by omega) (by omega)) ?_
    | refine E.read tt (rd_lenF tt rfl rfl rfl rfl hg) rfl ?_
    | (fail "callR")
    | refine E.call tt h_dist rfl rfl ⟨_, _, rfl, by omega, by omega, _, _, rfl, rfl, ?_⟩
    | refine E.regionQ tt (id := 3) mixed (by decide +kernel) ?_
    | refine E.regionF tt (id := 4) 7 [0, 8, 9, 10] mixed (by decide +kernel) ?_
    | refine E.regionF tt (id := 4) 7 [0, 1, 2, 8, 9, 10] mixed (by decide +kernel) ?_
    | refine E.regionFY tt (id := 4) [0, 1, 2, 3, 4, 5, 8, 9, 10] 12 (.nd [(6, .nd [(7, .nd [(11, .nd [(12, .nd [(13, .nd [(14, .nd [(15, .nd [(16, .nd [(17, .nd [(18, .nd [(19, .nd [(20, .nd [])])])])])])])])])])]), (11, .nd [(7, .nd [(12, .nd [(13, .nd [(14, .nd [(15, .nd [(16, .nd [(17, .nd [(18, .nd [(19, .nd [(20, .nd [])])])])])])])])])])])]), (11, .nd [(6, .nd [(7, .nd [(12, .nd [(13, .nd [(14, .nd [(15, .nd [(16, .nd [(17, .nd [(18, .nd [(19, .nd [(20, .nd [])])])])])])])])])])])])]) mixed (by decide +kernel) ?_
    | refine Bo.mk ?_ ?_
    | refine E.regionQ tt (id := 13) mixed (by decide +kernel) ?_
    | refine E.regionF tt (id := 14) 12 [0, 1, 2, 4, 7, 8, 9, 14, 15, 16, 18] mixed (by decide +kernel) ?_
    | refine E.regionF tt (id := 14) 12 [0, 1, 2, 4, 5, 6, 7, 8, 9, 14, 15, 16, 18] mixed (by decide +kernel) ?_
    | refine E.regionT tt (id := 16) 20 mixed (by decide +kernel) ?_
    | refine E.regionF tt (id := 16) 20 [5, 6, 11, 17] mixed (by decide +kernel) ?_)) <;> (try (conv => whnf))
    all_goals try (exfalso; omega)
    refine E.loop tt (fun p : Int × Value × Value × Value × Frag => ((0 ≤ p.1 ∧ p.1 ≤ ys.length) ∧ (mmL xs ys bud d g sum s0 p.1).full = false) ∧ (FV 4 p.2.2.2.2 p.2.1 (uE ys.length g) ∧ FV 2 p.2.2.2.2 p.2.2.1 (g.map encI) ∧ FV 2 p.2.2.2.2 p.2.2.2.1 ((mmL xs ys bud d g sum s0 p.1).best.map encI)) ∧ (apart p.2.1 p.2.2.1 ∧ apart p.2.1 p.2.2.2.1 ∧ apart p.2.2.1 p.2.2.2.1)) (fun p => ⟨148, 1, [(0, .loc 0 0 0), (3, .p (I g.length)), (57, .p (.view 3 (ys.map D.Mode.enc))), (58, .p (I (ys.map D.Mode.enc).length)), (59, .p (I p.1))], [(0, mrI 127 xs ys bud p.2.1 p.2.2.1 p.2.2.2.1 sum (mmL xs ys bud d g sum s0 p.1))], p.2.2.2.2⟩) (fun p => (ys.length - p.1).toNat) (0, uv, gv, bv, X) ⟨⟨⟨by dsimp only; omega, by dsimp only; omega⟩, by rw [mmL_zero]; exact hfl⟩, ⟨hu, hg, by rw [mmL_zero]; exact hb⟩, ⟨hug, hub, hgb⟩⟩ ⟨rfl, ⟨rfl, pI (by rw [hlg]), rfl, rfl, rfl, trivial⟩, ⟨(by rw [mmL_zero]; rfl), trivial⟩, rfl, rfl, fun _ _ h => h⟩ ?_
    rintro p ⟨⟨⟨hi0, hi1⟩, hpf⟩, ⟨hup, hgp, hbp⟩, ⟨pug, pub, pgb⟩⟩
    have hmp := mmL_b (xs := xs) (k := p.1) (by omega) hsum.1 hms hi0 hi1
    have hsu := mmL_succ (xs := xs) (ys := ys) (bud := bud) (d := d) (g := g) (sum := sum) (s := s0) hi0
    have hend : p.1 = ys.length → mmR xs ys bud (d + 1) g sum s0 = mmL xs ys bud d g sum s0 p.1 := fun h => by rw [h]; rfl
    generalize hs : mmL xs ys bud d g sum s0 p.1 = s at *
    obtain ⟨nd, fl, le, bs⟩ := s
    dsimp only at hpf
    subst hpf
    rcases Int.lt_or_le p.1 ys.length with hlt | hge
    · obtain ⟨⟨hn0, hn1⟩, hbl, hle1⟩ := id hmp
      dsimp only at hn0 hn1 hbl hle1
      have hx1 := hX.at (i := (g.length : Int)) (by omega) (by omega)
      have hy1 := hY.at hi0 hlt
      unfold ModeOk at hx1 hy1
      have hst2 := mmR_stop (xs := xs) (ys := ys) (bud := bud) (d := d) (g := g) (sum := sum) (s := s0) (k := p.1 + 1) (by omega) (by omega)
      generalize p.2.1 = uu at *
      generalize p.2.2.1 = vv at *
      generalize p.2.2.2.1 = ww at *
      generalize p.2.2.2.2 = Y at *
      generalize hpi : p.1 = i at *
      obtain ⟨ub, uc, uC, rfl, hux, huC⟩ := hup.open (by rw [hlu]; omega)
      have hup := FV.raw hux huC
      have hk10 : 0 + i.toNat * 1 = i.toNat := by omega
      have hku : i.toNat < (uE ys.length g).length := by rw [hlu]; omega
      have hgk := uE_get (m := ys.length) (g := g) hi0 (by omega)
      obtain ⟨w, hw1, hw2⟩ := huC.cell hgk
      have hw3 : w = .bool (decide (i ∈ g)) := (Option.some.inj hw2).symm
      subst hw3
      have hku2 := huC.lt hku
      by_cases hin : i ∈ g
      · rw [mmF_in hin] at hsu
        rw [decide_eq_true hin] at hw1
        (repeat' ((conv => whnf); first
    | refine Sd.mk (by first | omega | (unfold in64; omega) | (simp only [fitK, in64]; omega) | (simp only [fitK, in64, chunk, List.length_map, List.length_append, List.length_replicate, List.length_set, List.length_nil, List.length_cons]; omega)) ?_
    | refine Br.yes rfl ?_
    | refine Br.no rfl ?_
    | refine Br.yes (by first | (simp only [ltB_t, ltB_f, eqB_t, eqB_f, pB_t, pB_f, sEq_t, sEq_f, emp_iff, ne_eq, List.length_map, Bool.not_eq_true, Bool.not_eq_false, Bool.not_eq_eq_eq_not, Bool.not_true, Bool.not_false]; done) | (simp only [ltB_t, ltB_f, eqB_t, eqB_f, pB_t, pB_f, sEq_t, sEq_f, emp_iff, ne_eq, List.length_map, Bool.not_eq_true, Bool.not_eq_false, Bool.not_eq_eq_eq_not, Bool.not_true, Bool.not_false]; omega) | (simp only [ltB_t, ltB_f, eqB_t, eqB_f, pB_t, pB_f, sEq_t, sEq_f, emp_iff, ne_eq, List.length_map, Bool.not_eq_true, Bool.not_eq_false, Bool.not_eq_eq_eq_not, Bool.not_true, Bool.not_false]; assumption)) ?_
    | refine Br.no (by first | (simp only [ltB_t, ltB_f, eqB_t, eqB_f, pB_t, pB_f, sEq_t, sEq_f, emp_iff, ne_eq, List.length_map, Bool.not_eq_true, Bool.not_eq_false, Bool.not_eq_eq_eq_not, Bool.not_true, Bool.not_false]; done) | (simp only [ltB_t, ltB_f, eqB_t, eqB_f, pB_t, pB_f, sEq_t, sEq_f, emp_iff, ne_eq, List.length_map, Bool.not_eq_true, Bool.not_eq_false, Bool.not_eq_eq_eq_not, Bool.not_true, Bool.not_false]; omega) | (simp only [ltB_t, ltB_f, eqB_t, eqB_f, pB_t, pB_f, sEq_t, sEq_f, emp_iff, ne_eq, List.length_map, Bool.not_eq_true, Bool.not_eq_false, Bool.not_eq_eq_eq_not, Bool.not_true, Bool.not_false]; assumption)) ?_
    | (refine Br.mk ?_ ?_ <;> intro h <;> (try simp only [ltB_t, ltB_f, eqB_t, eqB_f, pB_t, pB_f, sEq_t, sEq_f, emp_iff, ne_eq, List.length_map, Bool.not_eq_true, Bool.not_eq_false, Bool.not_eq_eq_eq_not, Bool.not_true, Bool.not_false] at h))
    | refine Ixv.mk (by omega) (ixE (by omega) (by omega)) ?_
    | refine Elt.mk rfl ?_
    | refine Elt.mk (by assumption) ?_
    | refine Elt.mk (ixE (by omega) (by omega)) ?_
    | refine E.read tt (rd_idxR1 tt (b := ub) (c := uc) rfl rfl rfl rfl rfl (by omega) (by omega)) rfl ?_
    | refine E.read tt (rd_loadR tt (m := .bool true) rfl rfl rfl hux hw1 rfl) rfl ?_
    | (fail "callR")
    | refine E.call tt h_dist rfl rfl ⟨_, _, rfl, by omega, by omega, _, _, rfl, rfl, ?_⟩
    | refine E.regionQ tt (id := 3) mixed (by decide +kernel) ?_
    | refine E.regionF tt (id := 4) 7 [0, 8, 9, 10] mixed (by decide +kernel) ?_
    | refine E.regionF tt (id := 4) 7 [0, 1, 2, 8, 9, 10] mixed (by decide +kernel) ?_
    | refine E.regionFY tt (id := 4) [0, 1, 2, 3, 4, 5, 8, 9, 10] 12 (.nd [(6, .nd [(7, .nd [(11, .nd [(12, .nd [(13, .nd [(14, .nd [(15, .nd [(16, .nd [(17, .nd [(18, .nd [(19, .nd [(20, .nd [])])])])])])])])])])]), (11, .nd [(7, .nd [(12, .nd [(13, .nd [(14, .nd [(15, .nd [(16, .nd [(17, .nd [(18, .nd [(19, .nd [(20, .nd [])])])])])])])])])])])]), (11, .nd [(6, .nd [(7, .nd [(12, .nd [(13, .nd [(14, .nd [(15, .nd [(16, .nd [(17, .nd [(18, .nd [(19, .nd [(20, .nd [])])])])])])])])])])])])]) mixed (by decide +kernel) ?_
    | refine Bo.mk ?_ ?_
    | refine E.regionQ tt (id := 13) mixed (by decide +kernel) ?_
    | refine E.regionF tt (id := 14) 12 [0, 1, 2, 4, 7, 8, 9, 14, 15, 16, 18] mixed (by decide +kernel) ?_
    | refine E.regionF tt (id := 14) 12 [0, 1, 2, 4, 5, 6, 7, 8, 9, 14, 15, 16, 18] mixed (by decide +kernel) ?_
    | refine E.regionT tt (id := 16) 20 mixed (by decide +kernel) ?_
    | refine E.regionF tt (id := 16) 20 [5, 6, 11, 17] mixed (by decide +kernel) ?_)) <;> (try (conv => whnf))
        all_goals (refine ⟨(i + 1, .slice (some ⟨ub, 0, none⟩) (uE ys.length g).length uc, vv, ww, Y), ⟨⟨⟨by dsimp only; omega, by dsimp only; omega⟩, by dsimp only; rw [hsu]⟩, ⟨hup, hgp, by dsimp only; rw [hsu]; exact hbp⟩, pug, pub, pgb⟩, by dsimp only; omega, ⟨rfl, ⟨rfl, rfl, rfl, rfl, rfl, trivial⟩, ⟨(by rw [hsu]; rfl), trivial⟩, rfl, rfl, fun _ _ h => h⟩⟩)
      · rw [decide_eq_false hin] at hw1
        by_cases hnb : nd = bud
        · rw [mmF_full rfl hin hnb] at hsu
          have hst3 := hst2 (by rw [hsu]; rfl)
          rw [hst3, hsu] at hK
          (repeat' ((conv => whnf); first
    | refine Sd.mk (by first | omega | (unfold in64; omega) | (simp only [fitK, in64]; omega) | (simp only [fitK, in64, chunk, List.length_map, List.length_append, List.length_replicate, List.length_set, List.length_nil, List.length_cons]; omega)) ?_
    | refine Br.yes rfl ?_
    | refine Br.no rfl ?_
    | refine Br.yes (by first | (simp only [ltB_t, ltB_f, eqB_t, eqB_f, pB_t, pB_f, sEq_t, sEq_f, emp_iff, ne_eq, List.length_map, Bool.not_eq_true, Bool.not_eq_false, Bool.not_eq_eq_eq_not, Bool.not_true, Bool.not_false]; done) | (simp only [ltB_t, ltB_f, eqB_t, eqB_f, pB_t, pB_f, sEq_t, sEq_f, emp_iff, ne_eq, List.length_map, Bool.not_eq_true, Bool.not_eq_false, Bool.not_eq_eq_eq_not, Bool.not_true, Bool.not_false]; omega) | (simp only [ltB_t, ltB_f, eqB_t, eqB_f, pB_t, pB_f, sEq_t, sEq_f, emp_iff, ne_eq, List.length_map, Bool.not_eq_true, Bool.not_eq_false, Bool.not_eq_eq_eq_not, Bool.not_true, Bool.not_false]; assumption)) ?_
    | refine Br.no (by first | (simp only [ltB_t, ltB_f, eqB_t, eqB_f, pB_t, pB_f, sEq_t, sEq_f, emp_iff, ne_eq, List.length_map, Bool.not_eq_true, Bool.not_eq_false, Bool.not_eq_eq_eq_not, Bool.not_true, Bool.not_false]; done) | (simp only [ltB_t, ltB_f, eqB_t, eqB_f, pB_t, pB_f, sEq_t, sEq_f, emp_iff, ne_eq, List.length_map, Bool.not_eq_true, Bool.not_eq_false, Bool.not_eq_eq_eq_not, Bool.not_true, Bool.not_false]; omega) | (simp only [ltB_t, ltB_f, eqB_t, eqB_f, pB_t, pB_f, sEq_t, sEq_f, emp_iff, ne_eq, List.length_map, Bool.not_eq_true, Bool.not_eq_false, Bool.not_eq_eq_eq_not, Bool.not_true, Bool.not_false]; assumption)) ?_
    | (refine Br.mk ?_ ?_ <;> intro h <;> (try simp only [ltB_t, ltB_f, eqB_t, eqB_f, pB_t, pB_f, sEq_t, sEq_f, emp_iff, ne_eq, List.length_map, Bool.not_eq_true, Bool.not_eq_false, Bool.not_eq_eq_eq_not, Bool.not_true, Bool.not_false] at h))
    | refine Ixv.mk (by omega) (ixE (by omega) (by omega)) ?_
    | refine Elt.mk rfl ?_
    | refine Elt.mk (by assumption) ?_
    | refine Elt.mk (ixE (by omega) (by omega)) ?_
    | refine E.read tt (rd_idxR1 tt (b := ub) (c := uc) rfl rfl rfl rfl rfl (by omega) (by omega)) rfl ?_
    | refine E.read tt (rd_loadR tt (m := .bool false) rfl rfl rfl hux hw1 rfl) rfl ?_
    | (fail "callR")
    | refine E.call tt h_dist rfl rfl ⟨_, _, rfl, by omega, by omega, _, _, rfl, rfl, ?_⟩
    | refine E.regionQ tt (id := 3) mixed (by decide +kernel) ?_
    | refine E.regionF tt (id := 4) 7 [0, 8, 9, 10] mixed (by decide +kernel) ?_
    | refine E.regionF tt (id := 4) 7 [0, 1, 2, 8, 9, 10] mixed (by decide +kernel) ?_
    | refine E.regionFY tt (id := 4) [0, 1, 2, 3, 4, 5, 8, 9, 10] 12 (.nd [(6, .nd [(7, .nd [(11, .nd [(12, .nd [(13, .nd [(14, .nd [(15, .nd [(16, .nd [(17, .nd [(18, .nd [(19, .nd [(20, .nd [])])])])])])])])])])]), (11, .nd [(7, .nd [(12, .nd [(13, .nd [(14, .nd [(15, .nd [(16, .nd [(17, .nd [(18, .nd [(19, .nd [(20, .nd [])])])])])])])])])])])]), (11, .nd [(6, .nd [(7, .nd [(12, .nd [(13, .nd [(14, .nd [(15, .nd [(16, .nd [(17, .nd [(18, .nd [(19, .nd [(20, .nd [])])])])])])])])])])])])]) mixed (by decide +kernel) ?_
    | refine Bo.mk ?_ ?_
    | refine E.regionQ tt (id := 13) mixed (by decide +kernel) ?_
    | refine E.regionF tt (id := 14) 12 [0, 1, 2, 4, 7, 8, 9, 14, 15, 16, 18] mixed (by decide +kernel) ?_
    | refine E.regionF tt (id := 14) 12 [0, 1, 2, 4, 5, 6, 7, 8, 9, 14, 15, 16, 18] mixed (by decide +kernel) ?_
    | refine E.regionT tt (id := 16) 20 mixed (by decide +kernel) ?_
    | refine E.regionF tt (id := 16) 20 [5, 6, 11, 17] mixed (by decide +kernel) ?_)) <;> (try (conv => whnf))
          all_goals first
            | (exfalso; omega)
            | exact ⟨_, ⟨rfl, rfl, rfl⟩, allSc_ok _ rfl, (fun r h => by cases h; exact ⟨_, rfl, rfl, rfl⟩), rfl, hK _ _ _ _ hup hgp hbp pug pub pgb⟩
        · rw [mmF_go rfl hin hnb] at hsu
          have hdl := tdist_le hX hY (i := (g.length : Int)) (by omega) (by omega) hi0 hlt
          have hdn := tdist_nn xs ys g.length i
          have hupb := msB_up hmp hnb
          (repeat' ((conv => whnf); first
    | refine Sd.mk (by first | omega | (unfold in64; omega) | (simp only [fitK, in64]; omega) | (simp only [fitK, in64, chunk, List.length_map, List.length_append, List.length_replicate, List.length_set, List.length_nil, List.length_cons]; omega)) ?_
    | refine Br.yes rfl ?_
    | refine Br.no rfl ?_
    | refine Br.yes (by first | (simp only [ltB_t, ltB_f, eqB_t, eqB_f, pB_t, pB_f, sEq_t, sEq_f, emp_iff, ne_eq, List.length_map, Bool.not_eq_true, Bool.not_eq_false, Bool.not_eq_eq_eq_not, Bool.not_true, Bool.not_false]; done) | (simp only [ltB_t, ltB_f, eqB_t, eqB_f, pB_t, pB_f, sEq_t, sEq_f, emp_iff, ne_eq, List.length_map, Bool.not_eq_true, Bool.not_eq_false, Bool.not_eq_eq_eq_not, Bool.not_true, Bool.not_false]; omega) | (simp only [ltB_t, ltB_f, eqB_t, eqB_f, pB_t, pB_f, sEq_t, sEq_f, emp_iff, ne_eq, List.length_map, Bool.not_eq_true, Bool.not_eq_false, Bool.not_eq_eq_eq_not, Bool.not_true, Bool.not_false]; assumption)) ?_
    | refine Br.no (by first | (simp only [ltB_t, ltB_f, eqB_t, eqB_f, pB_t, pB_f, sEq_t, sEq_f, emp_iff, ne_eq, List.length_map, Bool.not_eq_true, Bool.not_eq_false, Bool.not_eq_eq_eq_not, Bool.not_true, Bool.not_false]; done) | (simp only [ltB_t, ltB_f, eqB_t, eqB_f, pB_t, pB_f, sEq_t, sEq_f, emp_iff, ne_eq, List.length_map, Bool.not_eq_true, Bool.not_eq_false, Bool.not_eq_eq_eq_not, Bool.not_true, Bool.not_false]; omega) | (simp only [ltB_t, ltB_f, eqB_t, eqB_f, pB_t, pB_f, sEq_t, sEq_f, emp_iff, ne_eq, List.length_map, Bool.not_eq_true, Bool.not_eq_false, Bool.not_eq_eq_eq_not, Bool.not_true, Bool.not_false]; assumption)) ?_
    | (refine Br.mk ?_ ?_ <;> intro h <;> (try simp only [ltB_t, ltB_f, eqB_t, eqB_f, pB_t, pB_f, sEq_t, sEq_f, emp_iff, ne_eq, List.length_map, Bool.not_eq_true, Bool.not_eq_false, Bool.not_eq_eq_eq_not, Bool.not_true, Bool.not_false] at h))
    | refine Ixv.mk (by omega) (ixE (by omega) (by omega)) ?_
    | refine Elt.mk rfl ?_
    | refine Elt.mk (by assumption) ?_
    | refine Elt.mk (ixE (by omega) (by omega)) ?_
    | refine E.read tt (rd_idxR1 tt (b := ub) (c := uc) rfl rfl rfl rfl rfl (by omega) (by omega)) rfl ?_
    | refine E.read tt (rd_loadR tt (m := .bool false) rfl rfl rfl hux hw1 rfl) rfl ?_
    | refine E.regionK tt (id := 14) [0, 1, 2, 3, 4, 5, 6, 7, 8, 9, 10, 11, 14, 15, 16, 17, 18, 19] [12, 13, 20, 21, 22, 23, 24, 25, 26, 27] 20 [(2, .slice (some ⟨ub, 0, none⟩) (uE ys.length g).length uc), (4, vv), (5, .int .i64 sum)] mixed (by decide +kernel) ?_
    | refine Kq.mk rfl rfl ⟨rfl, rfl, rfl, trivial⟩ ?_
    | (fail "callR")
    | refine E.call tt h_dist rfl rfl ⟨_, _, rfl, by omega, by omega, _, _, rfl, rfl, ?_⟩
    | refine E.regionQ tt (id := 3) mixed (by decide +kernel) ?_
    | refine E.regionF tt (id := 4) 7 [0, 8, 9, 10] mixed (by decide +kernel) ?_
    | refine E.regionF tt (id := 4) 7 [0, 1, 2, 8, 9, 10] mixed (by decide +kernel) ?_
    | refine E.regionFY tt (id := 4) [0, 1, 2, 3, 4, 5, 8, 9, 10] 12 (.nd [(6, .nd [(7, .nd [(11, .nd [(12, .nd [(13, .nd [(14, .nd [(15, .nd [(16, .nd [(17, .nd [(18, .nd [(19, .nd [(20, .nd [])])])])])])])])])])]), (11, .nd [(7, .nd [(12, .nd [(13, .nd [(14, .nd [(15, .nd [(16, .nd [(17, .nd [(18, .nd [(19, .nd [(20, .nd [])])])])])])])])])])])]), (11, .nd [(6, .nd [(7, .nd [(12, .nd [(13, .nd [(14, .nd [(15, .nd [(16, .nd [(17, .nd [(18, .nd [(19, .nd [(20, .nd [])])])])])])])])])])])])]) mixed (by decide +kernel) ?_
    | refine Bo.mk ?_ ?_
    | refine E.regionQ tt (id := 13) mixed (by decide +kernel) ?_
    | refine E.regionF tt (id := 14) 12 [0, 1, 2, 4, 7, 8, 9, 14, 15, 16, 18] mixed (by decide +kernel) ?_
    | refine E.regionF tt (id := 14) 12 [0, 1, 2, 4, 5, 6, 7, 8, 9, 14, 15, 16, 18] mixed (by decide +kernel) ?_
    | refine E.regionT tt (id := 16) 20 mixed (by decide +kernel) ?_
    | refine E.regionF tt (id := 16) 20 [5, 6, 11, 17] mixed (by decide +kernel) ?_)) <;> (try (conv => whnf))
          all_goals try (exfalso; omega)
          refine E.appFw tt (els2 := [[I i]]) rfl rfl rfl rfl rfl rfl hgp rfl (by simp) (one_pl i) rfl (by rw [hlg]; simp; omega) fun b2 c2 C2 hC2 hb2 => ?_
          have hne := ne_of_app (e := 0) hux pug hb2
          obtain ⟨q1, q2, q3⟩ := two_app2 hup hgp pug hb2 hC2
          obtain ⟨q4, _, q6⟩ := two_app hbp hgp pgb.symm hb2 hC2
          have hux1 : (Y.upd b2 (.cells C2 2 (0, 0))) ub = some (.cells uC 4 (0, 0)) := by rw [Frag.upd_ne _ _ hne]; exact hux
          have hset := FV.set (e := 4) (X := Y.upd b2 (.cells C2 2 (0, 0))) (b := ub) (m := .bool true) huC hku rfl rfl
          have hset := hset.cast (uE_set (g' := g ++ [i]) hi0 (by simp) (fun j hj => by simp [hj]))
          have r2 := q2.upd (b := ub) (fun h => q3 ub rfl h) (.cells (uC.setIfInBounds i.toNat (.bool true)) 4 (0, 0))
          have r4 := q4.upd (b := ub) (fun h => pub ub rfl h) (.cells (uC.setIfInBounds i.toNat (.bool true)) 4 (0, 0))
          (repeat' ((conv => whnf); first
    | refine Sd.mk (by first | omega | (unfold in64; omega) | (simp only [fitK, in64]; omega) | (simp only [fitK, in64, chunk, List.length_map, List.length_append, List.length_replicate, List.length_set, List.length_nil, List.length_cons]; omega)) ?_
    | refine Br.yes rfl ?_
    | refine Br.no rfl ?_
    | refine Br.yes (by first | (simp only [ltB_t, ltB_f, eqB_t, eqB_f, pB_t, pB_f, sEq_t, sEq_f, emp_iff, ne_eq, List.length_map, Bool.not_eq_true, Bool.not_eq_false, Bool.not_eq_eq_eq_not, Bool.not_true, Bool.not_false]; done) | (simp only [ltB_t, ltB_f, eqB_t, eqB_f, pB_t, pB_f, sEq_t, sEq_f, emp_iff, ne_eq, List.length_map, Bool.not_eq_true, Bool.not_eq_false, Bool.not_eq_eq_eq_not, Bool.not_true, Bool.not_false]; omega) | (simp only [ltB_t, ltB_f, eqB_t, eqB_f, pB_t, pB_f, sEq_t, sEq_f, emp_iff, ne_eq, List.length_map, Bool.not_eq_true, Bool.not_eq_false, Bool.not_eq_eq_eq_not, Bool.not_true, Bool.not_false]; assumption)) ?_
    | refine Br.no (by first | (simp only [ltB_t, ltB_f, eqB_t, eqB_f, pB_t, pB_f, sEq_t, sEq_f, emp_iff, ne_eq, List.length_map, Bool.not_eq_true, Bool.not_eq_false, Bool.not_eq_eq_eq_not, Bool.not_true, Bool.not_false]; done) | (simp only [ltB_t, ltB_f, eqB_t, eqB_f, pB_t, pB_f, sEq_t, sEq_f, emp_iff, ne_eq, List.length_map, Bool.not_eq_true, Bool.not_eq_false, Bool.not_eq_eq_eq_not, Bool.not_true, Bool.not_false]; omega) | (simp only [ltB_t, ltB_f, eqB_t, eqB_f, pB_t, pB_f, sEq_t, sEq_f, emp_iff, ne_eq, List.length_map, Bool.not_eq_true, Bool.not_eq_false, Bool.not_eq_eq_eq_not, Bool.not_true, Bool.not_false]; assumption)) ?_
    | (refine Br.mk ?_ ?_ <;> intro h <;> (try simp only [ltB_t, ltB_f, eqB_t, eqB_f, pB_t, pB_f, sEq_t, sEq_f, emp_iff, ne_eq, List.length_map, Bool.not_eq_true, Bool.not_eq_false, Bool.not_eq_eq_eq_not, Bool.not_true, Bool.not_false] at h))
    | refine Ixv.mk (by omega) (ixE (by omega) (by omega)) ?_
    | refine Elt.mk rfl ?_
    | refine Elt.mk (by assumption) ?_
    | refine Elt.mk (ixE (by omega) (by omega)) ?_
    | refine Kq.mk rfl rfl ⟨rfl, rfl, rfl, trivial⟩ ?_
    | refine E.read tt (rd_idxR1 tt (b := ub) (c := uc) rfl rfl rfl rfl rfl (by omega) (by omega)) rfl ?_
    | refine E.storeRw tt (m := .bool true) (v := .bool true) rfl rfl rfl rfl rfl rfl hux1 hku2 ?_
    | (fail "callR")
    | refine E.call tt h_dist rfl rfl ⟨_, _, rfl, by omega, by omega, _, _, rfl, rfl, ?_⟩
    | refine E.regionQ tt (id := 3) mixed (by decide +kernel) ?_
    | refine E.regionF tt (id := 4) 7 [0, 8, 9, 10] mixed (by decide +kernel) ?_
    | refine E.regionF tt (id := 4) 7 [0, 1, 2, 8, 9, 10] mixed (by decide +kernel) ?_
    | refine E.regionFY tt (id := 4) [0, 1, 2, 3, 4, 5, 8, 9, 10] 12 (.nd [(6, .nd [(7, .nd [(11, .nd [(12, .nd [(13, .nd [(14, .nd [(15, .nd [(16, .nd [(17, .nd [(18, .nd [(19, .nd [(20, .nd [])])])])])])])])])])]), (11, .nd [(7, .nd [(12, .nd [(13, .nd [(14, .nd [(15, .nd [(16, .nd [(17, .nd [(18, .nd [(19, .nd [(20, .nd [])])])])])])])])])])])]), (11, .nd [(6, .nd [(7, .nd [(12, .nd [(13, .nd [(14, .nd [(15, .nd [(16, .nd [(17, .nd [(18, .nd [(19, .nd [(20, .nd [])])])])])])])])])])])])]) mixed (by decide +kernel) ?_
    | refine Bo.mk ?_ ?_
    | refine E.regionQ tt (id := 13) mixed (by decide +kernel) ?_
    | refine E.regionF tt (id := 14) 12 [0, 1, 2, 4, 7, 8, 9, 14, 15, 16, 18] mixed (by decide +kernel) ?_
    | refine E.regionF tt (id := 14) 12 [0, 1, 2, 4, 5, 6, 7, 8, 9, 14, 15, 16, 18] mixed (by decide +kernel) ?_
    | refine E.regionT tt (id := 16) 20 mixed (by decide +kernel) ?_
    | refine E.regionF tt (id := 16) 20 [5, 6, 11, 17] mixed (by decide +kernel) ?_)) <;> (try (conv => whnf))
          refine E.callYP tt ih rfl rfl rfl rfl rfl rfl ⟨xs, ys, bud, .slice (some ⟨ub, 0, none⟩) (uE ys.length g).length uc, _, ww, g ++ [i], sum + tdist xs ys g.length i, msUp ⟨nd, false, le, bs⟩, congrArg (fun z => Me.pt (mrJ 127 xs ys (.slice (some ⟨ub, 0, none⟩) (uE ys.length g).length uc) z (.slice (some ⟨b2, 0, none⟩) (g.map encI ++ [[I i]]).length c2) ww (sum + tdist xs ys g.length i) (msUp ⟨nd, false, le, bs⟩))) (by omega : bud - nd - 1 = bud - (nd + 1)), rfl, ⟨hset, r2.cast (encI_app _ _), r4⟩, ⟨q3, pub, q6.symm⟩, hX, hY, by simp; omega, ⟨by omega, by simp; omega⟩, hupb, hbud, rfl, fun uv' gv' bv' X' g1 g2 g3 a1 a2 a3 r' e _ _ => ?_⟩
          cases e
          have hts : sum + tdist xs ys g.length i - tdist xs ys g.length i = sum := by omega
          have gl : ((g ++ [i]).map encI).length = g.length + 1 := by simp
          have ul := uE_len ys.length (g ++ [i])
          obtain ⟨k1, k2⟩ := g2.cut (n := (g.length : Int).toNat) (by rw [gl]; omega)
          rw [take_app] at k1
          obtain ⟨fb, fc, fC, rfl, hfX, hfC⟩ := g2.open (by rw [gl]; omega)
          have g2 := FV.raw hfX hfC
          obtain ⟨ub', uc', uC', rfl, hux', huC'⟩ := g1.open (by rw [ul]; omega)
          have g1 := FV.raw hux' huC'
          have hku' : i.toNat < (uE ys.length (g ++ [i])).length := by rw [ul]; omega
          have hku2' := huC'.lt hku'
          have hset' := (FV.set (e := 4) (X := X') (b := ub') (m := .bool false) huC' hku' rfl rfl).cast (uE_set (g' := g) hi0 (decide_eq_false hin) (fun j hj => by simp [hj]))
          have a1' : apart (cutV (.slice (some ⟨fb, 0, none⟩) ((g ++ [i]).map encI).length fc) (g.length : Int).toNat) (.slice (some ⟨ub', 0, none⟩) (uE ys.length (g ++ [i])).length uc') := a1.symm.cut k2
          have t1 := k1.upd (b := ub') (fun h => a1 ub' rfl (by rw [← k2]; exact h)) (.cells (uC'.setIfInBounds i.toNat (.bool false)) 4 (0, 0))
          have t2 := g3.upd (b := ub') (fun h => a2 ub' rfl h) (.cells (uC'.setIfInBounds i.toNat (.bool false)) 4 (0, 0))
          have hst3 := hst2
          rw [hsu] at hst3
          generalize hs2 : mmR xs ys bud d (g ++ [i]) (sum + tdist xs ys g.length i) (msUp ⟨nd, false, le, bs⟩) = s2 at *
          obtain ⟨n2, f2, l2, bs2⟩ := s2
          dsimp only at hst3
          cases f2 with
          | true =>
            rw [hst3 rfl] at hK
            (repeat' ((conv => whnf); first
    | refine Sd.mk (by first | omega | (unfold in64; omega) | (simp only [fitK, in64]; omega) | (simp only [fitK, in64, chunk, List.length_map, List.length_append, List.length_replicate, List.length_set, List.length_nil, List.length_cons]; omega)) ?_
    | refine Br.yes rfl ?_
    | refine Br.no rfl ?_
    | refine Br.yes (by first | (simp only [ltB_t, ltB_f, eqB_t, eqB_f, pB_t, pB_f, sEq_t, sEq_f, emp_iff, ne_eq, List.length_map, Bool.not_eq_true, Bool.not_eq_false, Bool.not_eq_eq_eq_not, Bool.not_true, Bool.not_false]; done) | (simp only [ltB_t, ltB_f, eqB_t, eqB_f, pB_t, pB_f, sEq_t, sEq_f, emp_iff, ne_eq, List.length_map, Bool.not_eq_true, Bool.not_eq_false, Bool.not_eq_eq_eq_not, Bool.not_true, Bool.not_false]; omega) | (simp only [ltB_t, ltB_f, eqB_t, eqB_f, pB_t, pB_f, sEq_t, sEq_f, emp_iff, ne_eq, List.length_map, Bool.not_eq_true, Bool.not_eq_false, Bool.not_eq_eq_eq_not, Bool.not_true, Bool.not_false]; assumption)) ?_
    | refine Br.no (by first | (simp only [ltB_t, ltB_f, eqB_t, eqB_f, pB_t, pB_f, sEq_t, sEq_f, emp_iff, ne_eq, List.length_map, Bool.not_eq_true, Bool.not_eq_false, Bool.not_eq_eq_eq_not, Bool.not_true, Bool.not_false]; done) | (simp only [ltB_t, ltB_f, eqB_t, eqB_f, pB_t, pB_f, sEq_t, sEq_f, emp_iff, ne_eq, List.length_map, Bool.not_eq_true, Bool.not_eq_false, Bool.not_eq_eq_eq_not, Bool.not_true, Bool.not_false]; omega) | (simp only [ltB_t, ltB_f, eqB_t, eqB_f, pB_t, pB_f, sEq_t, sEq_f, emp_iff, ne_eq, List.length_map, Bool.not_eq_true, Bool.not_eq_false, Bool.not_eq_eq_eq_not, Bool.not_true, Bool.not_false]; assumption)) ?_
    | (refine Br.mk ?_ ?_ <;> intro h <;> (try simp only [ltB_t, ltB_f, eqB_t, eqB_f, pB_t, pB_f, sEq_t, sEq_f, emp_iff, ne_eq, List.length_map, Bool.not_eq_true, Bool.not_eq_false, Bool.not_eq_eq_eq_not, Bool.not_true, Bool.not_false] at h))
    | refine Ixv.mk (by omega) (ixE (by omega) (by omega)) ?_
    | refine Elt.mk rfl ?_
    | refine Elt.mk (by assumption) ?_
    | refine Elt.mk (ixE (by omega) (by omega)) ?_
    | refine E.regionK tt (id := 16) [0, 1, 2, 3, 4, 5, 6, 7, 8, 9, 10, 11, 12, 13, 14, 15, 16, 17, 18, 19] [20, 21, 22, 23, 24, 25, 26] 19 [(2, .slice (some ⟨ub', 0, none⟩) (uE ys.length (g ++ [i])).length uc'), (4, .slice (some ⟨fb, 0, none⟩) ((g ++ [i]).map encI).length fc), (5, .int .i64 (sum + tdist xs ys g.length i))] mixed (by decide +kernel) ?_
    | refine Kq.mk rfl rfl ⟨rfl, rfl, rfl, trivial⟩ ?_
    | refine Rx.mk (rd_cutF tt rfl rfl rfl rfl rfl g2 rfl (by omega) (by rw [gl]; omega)) ?_
    | refine Rx.mk (rd_idxR1 tt (b := ub') (c := uc') rfl rfl rfl rfl rfl (by omega) (by omega)) ?_
    | refine E.storeRw tt (m := .bool false) (v := .bool false) rfl rfl rfl rfl rfl rfl hux' hku2' ?_
    | (fail "callR")
    | refine E.call tt h_dist rfl rfl ⟨_, _, rfl, by omega, by omega, _, _, rfl, rfl, ?_⟩
    | refine E.regionQ tt (id := 3) mixed (by decide +kernel) ?_
    | refine E.regionF tt (id := 4) 7 [0, 8, 9, 10] mixed (by decide +kernel) ?_
    | refine E.regionF tt (id := 4) 7 [0, 1, 2, 8, 9, 10] mixed (by decide +kernel) ?_
    | refine E.regionFY tt (id := 4) [0, 1, 2, 3, 4, 5, 8, 9, 10] 12 (.nd [(6, .nd [(7, .nd [(11, .nd [(12, .nd [(13, .nd [(14, .nd [(15, .nd [(16, .nd [(17, .nd [(18, .nd [(19, .nd [(20, .nd [])])])])])])])])])])]), (11, .nd [(7, .nd [(12, .nd [(13, .nd [(14, .nd [(15, .nd [(16, .nd [(17, .nd [(18, .nd [(19, .nd [(20, .nd [])])])])])])])])])])])]), (11, .nd [(6, .nd [(7, .nd [(12, .nd [(13, .nd [(14, .nd [(15, .nd [(16, .nd [(17, .nd [(18, .nd [(19, .nd [(20, .nd [])])])])])])])])])])])])]) mixed (by decide +kernel) ?_
    | refine Bo.mk ?_ ?_
    | refine E.regionQ tt (id := 13) mixed (by decide +kernel) ?_
    | refine E.regionF tt (id := 14) 12 [0, 1, 2, 4, 7, 8, 9, 14, 15, 16, 18] mixed (by decide +kernel) ?_
    | refine E.regionF tt (id := 14) 12 [0, 1, 2, 4, 5, 6, 7, 8, 9, 14, 15, 16, 18] mixed (by decide +kernel) ?_
    | refine E.regionT tt (id := 16) 20 mixed (by decide +kernel) ?_
    | refine E.regionF tt (id := 16) 20 [5, 6, 11, 17] mixed (by decide +kernel) ?_)) <;> (try (conv => whnf))
            all_goals first
              | (exfalso; omega)
              | exact ⟨_, ⟨rfl, rfl, rfl⟩, allSc_ok _ rfl, (fun r h => by cases h; exact ⟨_, rfl, rfl, rfl⟩), rfl, Eq.mpr (congrArg (fun z => K (some (mrI 127 xs ys bud (.slice (some ⟨ub', 0, none⟩) (uE ys.length (g ++ [i])).length uc') (cutV (.slice (some ⟨fb, 0, none⟩) ((g ++ [i]).map encI).length fc) (g.length : Int).toNat) bv' z ⟨n2, true, l2, bs2⟩)) (X'.upd ub' (.cells (uC'.setIfInBounds i.toNat (.bool false)) 4 (0, 0))) [.p (.bool false)]) hts) (hK _ _ _ _ hset' t1 t2 a1'.symm a2 (a3.cut k2))⟩
          | false =>
            (repeat' ((conv => whnf); first
    | refine Sd.mk (by first | omega | (unfold in64; omega) | (simp only [fitK, in64]; omega) | (simp only [fitK, in64, chunk, List.length_map, List.length_append, List.length_replicate, List.length_set, List.length_nil, List.length_cons]; omega)) ?_
    | refine Br.yes rfl ?_
    | refine Br.no rfl ?_
    | refine Br.yes (by first | (simp only [ltB_t, ltB_f, eqB_t, eqB_f, pB_t, pB_f, sEq_t, sEq_f, emp_iff, ne_eq, List.length_map, Bool.not_eq_true, Bool.not_eq_false, Bool.not_eq_eq_eq_not, Bool.not_true, Bool.not_false]; done) | (simp only [ltB_t, ltB_f, eqB_t, eqB_f, pB_t, pB_f, sEq_t, sEq_f, emp_iff, ne_eq, List.length_map, Bool.not_eq_true, Bool.not_eq_false, Bool.not_eq_eq_eq_not, Bool.not_true, Bool.not_false]; omega) | (simp only [ltB_t, ltB_f, eqB_t, eqB_f, pB_t, pB_f, sEq_t, sEq_f, emp_iff, ne_eq, List.length_map, Bool.not_eq_true, Bool.not_eq_false, Bool.not_eq_eq_eq_not, Bool.not_true, Bool.not_false]; assumption)) ?_
    | refine Br.no (by first | (simp only [ltB_t, ltB_f, eqB_t, eqB_f, pB_t, pB_f, sEq_t, sEq_f, emp_iff, ne_eq, List.length_map, Bool.not_eq_true, Bool.not_eq_false, Bool.not_eq_eq_eq_not, Bool.not_true, Bool.not_false]; done) | (simp only [ltB_t, ltB_f, eqB_t, eqB_f, pB_t, pB_f, sEq_t, sEq_f, emp_iff, ne_eq, List.length_map, Bool.not_eq_true, Bool.not_eq_false, Bool.not_eq_eq_eq_not, Bool.not_true, Bool.not_false]; omega) | (simp only [ltB_t, ltB_f, eqB_t, eqB_f, pB_t, pB_f, sEq_t, sEq_f, emp_iff, ne_eq, List.length_map, Bool.not_eq_true, Bool.not_eq_false, Bool.not_eq_eq_eq_not, Bool.not_true, Bool.not_false]; assumption)) ?_
    | (refine Br.mk ?_ ?_ <;> intro h <;> (try simp only [ltB_t, ltB_f, eqB_t, eqB_f, pB_t, pB_f, sEq_t, sEq_f, emp_iff, ne_eq, List.length_map, Bool.not_eq_true, Bool.not_eq_false, Bool.not_eq_eq_eq_not, Bool.not_true, Bool.not_false] at h))
    | refine Ixv.mk (by omega) (ixE (by omega) (by omega)) ?_
    | refine Elt.mk rfl ?_
    | refine Elt.mk (by assumption) ?_
    | refine Elt.mk (ixE (by omega) (by omega)) ?_
    | refine E.regionK tt (id := 16) [0, 1, 2, 3, 4, 5, 6, 7, 8, 9, 10, 11, 12, 13, 14, 15, 16, 17, 18, 19] [20, 21, 22, 23, 24, 25, 26] 19 [(2, .slice (some ⟨ub', 0, none⟩) (uE ys.length (g ++ [i])).length uc'), (4, .slice (some ⟨fb, 0, none⟩) ((g ++ [i]).map encI).length fc), (5, .int .i64 (sum + tdist xs ys g.length i))] mixed (by decide +kernel) ?_
    | refine Kq.mk rfl rfl ⟨rfl, rfl, rfl, trivial⟩ ?_
    | refine Rx.mk (rd_cutF tt rfl rfl rfl rfl rfl g2 rfl (by omega) (by rw [gl]; omega)) ?_
    | refine Rx.mk (rd_idxR1 tt (b := ub') (c := uc') rfl rfl rfl rfl rfl (by omega) (by omega)) ?_
    | refine E.storeRw tt (m := .bool false) (v := .bool false) rfl rfl rfl rfl rfl rfl hux' hku2' ?_
    | (fail "callR")
    | refine E.call tt h_dist rfl rfl ⟨_, _, rfl, by omega, by omega, _, _, rfl, rfl, ?_⟩
    | refine E.regionQ tt (id := 3) mixed (by decide +kernel) ?_
    | refine E.regionF tt (id := 4) 7 [0, 8, 9, 10] mixed (by decide +kernel) ?_
    | refine E.regionF tt (id := 4) 7 [0, 1, 2, 8, 9, 10] mixed (by decide +kernel) ?_
    | refine E.regionFY tt (id := 4) [0, 1, 2, 3, 4, 5, 8, 9, 10] 12 (.nd [(6, .nd [(7, .nd [(11, .nd [(12, .nd [(13, .nd [(14, .nd [(15, .nd [(16, .nd [(17, .nd [(18, .nd [(19, .nd [(20, .nd [])])])])])])])])])])]), (11, .nd [(7, .nd [(12, .nd [(13, .nd [(14, .nd [(15, .nd [(16, .nd [(17, .nd [(18, .nd [(19, .nd [(20, .nd [])])])])])])])])])])])]), (11, .nd [(6, .nd [(7, .nd [(12, .nd [(13, .nd [(14, .nd [(15, .nd [(16, .nd [(17, .nd [(18, .nd [(19, .nd [(20, .nd [])])])])])])])])])])])])]) mixed (by decide +kernel) ?_
    | refine Bo.mk ?_ ?_
    | refine E.regionQ tt (id := 13) mixed (by decide +kernel) ?_
    | refine E.regionF tt (id := 14) 12 [0, 1, 2, 4, 7, 8, 9, 14, 15, 16, 18] mixed (by decide +kernel) ?_
    | refine E.regionF tt (id := 14) 12 [0, 1, 2, 4, 5, 6, 7, 8, 9, 14, 15, 16, 18] mixed (by decide +kernel) ?_
    | refine E.regionT tt (id := 16) 20 mixed (by decide +kernel) ?_
    | refine E.regionF tt (id := 16) 20 [5, 6, 11, 17] mixed (by decide +kernel) ?_)) <;> (try (conv => whnf))
            all_goals (refine ⟨(i + 1, .slice (some ⟨ub', 0, none⟩) (uE ys.length (g ++ [i])).length uc', cutV (.slice (some ⟨fb, 0, none⟩) ((g ++ [i]).map encI).length fc) (g.length : Int).toNat, bv', X'.upd ub' (.cells (uC'.setIfInBounds i.toNat (.bool false)) 4 (0, 0))), ⟨⟨⟨by dsimp only; omega, by dsimp only; omega⟩, by dsimp only; rw [hsu]⟩, ⟨hset', t1, by dsimp only; rw [hsu]; exact t2⟩, a1'.symm, a2, a3.cut k2⟩, by dsimp only; omega, ⟨rfl, ⟨rfl, rfl, rfl, rfl, rfl, trivial⟩, ⟨(Eq.trans (congrArg (fun z => some (mrI 127 xs ys bud (.slice (some ⟨ub', 0, none⟩) (uE ys.length (g ++ [i])).length uc') (cutV (.slice (some ⟨fb, 0, none⟩) ((g ++ [i]).map encI).length fc) (g.length : Int).toNat) bv' z ⟨n2, false, l2, bs2⟩)) hts) (congrArg (fun s => some (mrI 127 xs ys bud (.slice (some ⟨ub', 0, none⟩) (uE ys.length (g ++ [i])).length uc') (cutV (.slice (some ⟨fb, 0, none⟩) ((g ++ [i]).map encI).length fc) (g.length : Int).toNat) bv' sum s)) hsu.symm)), trivial⟩, rfl, rfl, fun _ _ h => h⟩⟩)
    · have hie : p.1 = ys.length := by omega
      rw [hend hie] at hK
      (repeat' ((conv => whnf); first
    | refine Sd.mk (by first | omega | (unfold in64; omega) | (simp only [fitK, in64]; omega) | (simp only [fitK, in64, chunk, List.length_map, List.length_append, List.length_replicate, List.length_set, List.length_nil, List.length_cons]; omega)) ?_
    | refine Br.yes rfl ?_
    | refine Br.no rfl ?_
    | refine Br.yes (by first | (simp only [ltB_t, ltB_f, eqB_t, eqB_f, pB_t, pB_f, sEq_t, sEq_f, emp_iff, ne_eq, List.length_map, Bool.not_eq_true, Bool.not_eq_false, Bool.not_eq_eq_eq_not, Bool.not_true, Bool.not_false]; done) | (simp only [ltB_t, ltB_f, eqB_t, eqB_f, pB_t, pB_f, sEq_t, sEq_f, emp_iff, ne_eq, List.length_map, Bool.not_eq_true, Bool.not_eq_false, Bool.not_eq_eq_eq_not, Bool.not_true, Bool.not_false]; omega) | (simp only [ltB_t, ltB_f, eqB_t, eqB_f, pB_t, pB_f, sEq_t, sEq_f, emp_iff, ne_eq, List.length_map, Bool.not_eq_true, Bool.not_eq_false, Bool.not_eq_eq_eq_not, Bool.not_true, Bool.not_false]; assumption)) ?_
    | refine Br.no (by first | (simp only [ltB_t, ltB_f, eqB_t, eqB_f, pB_t, pB_f, sEq_t, sEq_f, emp_iff, ne_eq, List.length_map, Bool.not_eq_true, Bool.not_eq_false, Bool.not_eq_eq_eq_not, Bool.not_true, Bool.not_false]; done) | (simp only [ltB_t, ltB_f, eqB_t, eqB_f, pB_t, pB_f, sEq_t, sEq_f, emp_iff, ne_eq, List.length_map, Bool.not_eq_true, Bool.not_eq_false, Bool.not_eq_eq_eq_not, Bool.not_true, Bool.not_false]; omega) | (simp only [ltB_t, ltB_f, eqB_t, eqB_f, pB_t, pB_f, sEq_t, sEq_f, emp_iff, ne_eq, List.length_map, Bool.not_eq_true, Bool.not_eq_false, Bool.not_eq_eq_eq_not, Bool.not_true, Bool.not_false]; assumption)) ?_
    | (refine Br.mk ?_ ?_ <;> intro h <;> (try simp only [ltB_t, ltB_f, eqB_t, eqB_f, pB_t, pB_f, sEq_t, sEq_f, emp_iff, ne_eq, List.length_map, Bool.not_eq_true, Bool.not_eq_false, Bool.not_eq_eq_eq_not, Bool.not_true, Bool.not_false] at h))
    | refine Ixv.mk (by omega) (ixE (by omega) (by omega)) ?_
    | refine Elt.mk rfl ?_
    | refine Elt.mk (by assumption) ?_
    | refine Elt.mk (ixE (by omega) (by omega)) ?_
    | (fail "callR")
    | refine E.call tt h_dist rfl rfl ⟨_, _, rfl, by omega, by omega, _, _, rfl, rfl, ?_⟩
    | refine E.regionQ tt (id := 3) mixed (by decide +kernel) ?_
    | refine E.regionF tt (id := 4) 7 [0, 8, 9, 10] mixed (by decide +kernel) ?_
    | refine E.regionF tt (id := 4) 7 [0, 1, 2, 8, 9, 10] mixed (by decide +kernel) ?_
    | refine E.regionFY tt (id := 4) [0, 1, 2, 3, 4, 5, 8, 9, 10] 12 (.nd [(6, .nd [(7, .nd [(11, .nd [(12, .nd [(13, .nd [(14, .nd [(15, .nd [(16, .nd [(17, .nd [(18, .nd [(19, .nd [(20, .nd [])])])])])])])])])])]), (11, .nd [(7, .nd [(12, .nd [(13, .nd [(14, .nd [(15, .nd [(16, .nd [(17, .nd [(18, .nd [(19, .nd [(20, .nd [])])])])])])])])])])])]), (11, .nd [(6, .nd [(7, .nd [(12, .nd [(13, .nd [(14, .nd [(15, .nd [(16, .nd [(17, .nd [(18, .nd [(19, .nd [(20, .nd [])])])])])])])])])])])])]) mixed (by decide +kernel) ?_
    | refine Bo.mk ?_ ?_
    | refine E.regionQ tt (id := 13) mixed (by decide +kernel) ?_
    | refine E.regionF tt (id := 14) 12 [0, 1, 2, 4, 7, 8, 9, 14, 15, 16, 18] mixed (by decide +kernel) ?_
    | refine E.regionF tt (id := 14) 12 [0, 1, 2, 4, 5, 6, 7, 8, 9, 14, 15, 16, 18] mixed (by decide +kernel) ?_
    | refine E.regionT tt (id := 16) 20 mixed (by decide +kernel) ?_
    | refine E.regionF tt (id := 16) 20 [5, 6, 11, 17] mixed (by decide +kernel) ?_)) <;> (try (conv => whnf))
      all_goals first
        | (exfalso; omega)
        | exact ⟨_, ⟨rfl, rfl, rfl⟩, allSc_ok _ rfl, (fun r h => by cases h; exact ⟨_, rfl, rfl, rfl⟩), rfl, hK _ _ _ _ hup hgp hbp pug pub pgb⟩

end Go.Proofs.Ythjbcgdmdmfijaa
