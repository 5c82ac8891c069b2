/- Contracts (Crt). -/
import Derived.Test.YthjbcgdmdmfijaaDrw
import Derived.Test.YthjbcgdmdmfijaaArr
set_option linter.unusedVariables false
set_option linter.unusedSimpArgs false
set_option maxRecDepth 100000
namespace Go.Lo
-- deps: Drw Arr
structure Cs where
  left : Int
  best : List Int
  least : Int
  found : Bool
  ok : Bool
/-- One order is looked at. -/
def csN (goal g c : List Int) (s : Cs) : Cs := if s.found = false ∨ gapV c goal < s.least then ⟨s.left - 1, g, gapV c goal, true, true⟩ else ⟨s.left - 1, s.best, s.least, s.found, true⟩
def csF (xs : List D.Coat) (rc : List Int → List Int → Cs → Cs) (g c : List Int) (s : Cs) (k : Int) : Cs := if s.ok = true then rc (g ++ [k]) (ovL (ix xs k) c) s else s
def csX (s : Cs) : Cs := ⟨s.left, s.best, s.least, s.found, false⟩
/-- All orders that go on from one, by at most so many coats. -/
def csR (xs : List D.Coat) (goal : List Int) : Nat → List Int → List Int → Cs → Cs
  | 0, g, c, s => if s.left = 0 then csX s else csN goal g c s
  | d + 1, g, c, s => if s.left = 0 then csX s else it (csF xs (csR xs goal d) g c) (csN goal g c s) xs.length
def csB (s : Cs) : Prop := 0 ≤ s.left ∧ s.left ≤ 20000 ∧ s.best.length ≤ 10
theorem csN_b {goal g c : List Int} {s : Cs} (h : csB s) (h0 : ¬ s.left = 0) (hg : g.length ≤ 10) : csB (csN goal g c s) := by
  obtain ⟨a, b, e⟩ := h
  unfold csN
  split
  · exact ⟨by dsimp only; omega, by dsimp only; omega, hg⟩
  · exact ⟨by dsimp only; omega, by dsimp only; omega, e⟩
theorem csN_ok (goal g c : List Int) (s : Cs) : (csN goal g c s).ok = true := by unfold csN; split <;> rfl
theorem csX_b {s : Cs} (h : csB s) : csB (csX s) := h
theorem csR_b {xs : List D.Coat} {goal : List Int} : ∀ (d : Nat) (g c : List Int) (s : Cs), g.length + d ≤ 10 → csB s → csB (csR xs goal d g c s)
  | 0, g, c, s, hg, h => by
    unfold csR; split
    · exact csX_b h
    · exact csN_b h ‹_› (by omega)
  | d + 1, g, c, s, hg, h => by
    unfold csR; split
    · exact csX_b h
    · exact it_inv (f := csF xs (csR xs goal d) g c) (fun _ s => csB s) (csN_b h ‹_› (by omega)) (N := xs.length) (fun k s _ _ hs => by
        unfold csF; split
        · exact csR_b d _ _ _ (by simp; omega) hs
        · exact hs) (by omega) (by omega)
theorem csI_b {xs : List D.Coat} {goal g c : List Int} {d : Nat} {s : Cs} (hg : g.length + (d + 1) ≤ 10) (h : csB s) {i : Int} (h0 : 0 ≤ i) (h1 : i ≤ xs.length) : csB (it (csF xs (csR xs goal d) g c) s i) :=
  it_inv (f := csF xs (csR xs goal d) g c) (fun _ s => csB s) h (N := xs.length) (fun k s _ _ hs => by
    unfold csF; split
    · exact csR_b d _ _ _ (by simp; omega) hs
    · exact hs) h0 h1
theorem it_stopC {σ : Type} {f : σ → Int → σ} {s : σ} {k n : Int} (h0 : 0 ≤ k) (hk : k ≤ n) (hf : ∀ j, f (it f s k) j = it f s k) : it f s n = it f s k := by
  have key : ∀ m : Nat, it f s (k + m) = it f s k := fun m => by
    induction m with
    | zero => simp
    | succ m ih => rw [show k + ((m + 1 : Nat) : Int) = (k + m) + 1 by omega, it_succ (by omega), ih]; exact hf _
  have := key (n - k).toNat
  rwa [show k + ((n - k).toNat : Int) = n by omega] at this
/-- Two kept slices lie apart. -/
def apart (v w : Value) : Prop := ∀ b, blkV v = some b → blkV w ≠ some b
theorem apart.symm {v w : Value} (h : apart v w) : apart w v := fun b h1 h2 => h b h2 h1
theorem apart.cut {v w : Value} {n : Nat} (h : apart v w) (e : blkV (cutV v n) = blkV v) : apart (cutV v n) w := fun b h1 => h b (by rw [← e]; exact h1)
theorem two_app {e b c : Nat} {X : Frag} {v w : Value} {els l l2 : List (List PV)} {C : Array Value} (hv : FV e X v els) (hw : FV e X w l) (ha : apart v w) (hb : blkV w = some b ∨ X b = none) (hC : RowC C c ⟨e, 1, l2⟩) :
    FV e (X.upd b (.cells C e (0, 0))) v els ∧ FV e (X.upd b (.cells C e (0, 0))) (.slice (some ⟨b, 0, none⟩) l2.length c) l2 ∧ apart v (.slice (some ⟨b, 0, none⟩) l2.length c) := by
  have hne : blkV v ≠ some b := fun h => by
    rcases hb with h1 | h1
    · exact ha b h h1
    · exact hv.blk h h1
  refine ⟨hv.upd hne _, FV.raw (Frag.upd_same _ _ _) hC, fun b' h1 h2 => hne ?_⟩
  have : b = b' := by simpa [blkV] using h2
  rw [this]; exact h1
theorem apart_fresh {e b n c : Nat} {X : Frag} {v : Value} {els : List (List PV)} (h : FV e X v els) (hx : X b = none) : apart v (.slice (some ⟨b, 0, none⟩) n c) := fun b' h1 h2 => h.fresh hx (by
  have : b = b' := by simpa [blkV] using h2
  rw [this]; exact h1)
theorem encI_app (l : List Int) (v : Int) : l.map encI ++ [[I v]] = (l ++ [v]).map encI := by simp [encI]
theorem one_pl (v : Int) : ∀ e ∈ [[I v]], ∀ m ∈ e, m.val.isSome = true := by
  intro e he m hm
  simp at he; subst he; simp at hm; subst hm; rfl
theorem take_app (g : List Int) (k : Int) : ((g ++ [k]).map encI).take (g.length : Int).toNat = g.map encI := by simp
def mrC (ty : Nat) (xs : List D.Coat) (goal : List Int) (most : Int) (gv bv : Value) (s : Cs) : Row := ⟨ty, 8, [[.view 4 (xs.map D.Coat.enc), .view 1 (goal.map encI), I most, I s.left, .raw gv, .raw bv, I s.least, .bool s.found]]⟩
def cCs (ty e d : Nat) : YCt := fun me args X K => ∃ (xs : List D.Coat) (goal : List Int) (most : Int) (gv bv : Value) (g c : List Int) (s : Cs), me = .pt (mrC ty xs goal most gv bv s) ∧ args = [.view 1 (c.map encI)] ∧ (FV e X gv (g.map encI) ∧ FV e X bv (s.best.map encI)) ∧ apart gv bv ∧ CoatsOk xs ∧ ColOk goal ∧ ColOk c ∧ (g.length + (d : Int) = most ∧ most ≤ 10) ∧ csB s ∧
  ∀ gv' bv' X', FV e X' gv' (g.map encI) → FV e X' bv' ((csR xs goal d g c s).best.map encI) → apart gv' bv' → K (some (mrC ty xs goal most gv' bv' (csR xs goal d g c s))) X' [.p (.bool (csR xs goal d g c s).ok)]
end Go.Lo
namespace Go.Proofs.Ythjbcgdmdmfijaa
open Go.Lo
attribute [local irreducible] W Wc

theorem h_cloneI : Holds Try.prog 105 (fun args K => ∃ g : List Int, args = [.view 1 (g.map encI)] ∧ (g.length : Int) ≤ 1048576 ∧ K [.fresh ⟨2, 1, g.map encI⟩]) := by
  refine E.mk tt Try.func105 rfl Try.ntmps105 rfl (by kernel_rfl) ?_
  rintro _ K ⟨g, rfl, hl, hK⟩
  have hln : (g.map encI).length = g.length := by simp
  refine ⟨Nat.le_of_ble_eq_true rfl, _, hK, ?_⟩
  (repeat' ((conv => whnf); first
    | refine Sd.mk (by first | omega | (unfold in64; omega) | (simp only [fitK, in64]; omega) | (simp only [fitK, in64, chunk, List.length_map, List.length_append, List.length_replicate, List.length_set, List.length_nil, List.length_cons]; omega)) ?_
    | refine Br.yes rfl ?_
    | refine Br.no rfl ?_
    | refine Br.yes (by first | (simp only [ltB_t, ltB_f, eqB_t, eqB_f, pB_t, pB_f, sEq_t, sEq_f, emp_iff, ne_eq, List.length_map, Bool.not_eq_true, Bool.not_eq_false, Bool.not_eq_eq_eq_not, Bool.not_true, Bool.not_false]; done) | (simp only [ltB_t, ltB_f, eqB_t, eqB_f, pB_t, pB_f, sEq_t, sEq_f, emp_iff, ne_eq, List.length_map, Bool.not_eq_true, Bool.not_eq_false, Bool.not_eq_eq_eq_not, Bool.not_true, Bool.not_false]; omega) | (simp only [ltB_t, ltB_f, eqB_t, eqB_f, pB_t, pB_f, sEq_t, sEq_f, emp_iff, ne_eq, List.length_map, Bool.not_eq_true, Bool.not_eq_false, Bool.not_eq_eq_eq_not, Bool.not_true, Bool.not_false]; assumption)) ?_
    | refine Br.no (by first | (simp only [ltB_t, ltB_f, eqB_t, eqB_f, pB_t, pB_f, sEq_t, sEq_f, emp_iff, ne_eq, List.length_map, Bool.not_eq_true, Bool.not_eq_false, Bool.not_eq_eq_eq_not, Bool.not_true, Bool.not_false]; done) | (simp only [ltB_t, ltB_f, eqB_t, eqB_f, pB_t, pB_f, sEq_t, sEq_f, emp_iff, ne_eq, List.length_map, Bool.not_eq_true, Bool.not_eq_false, Bool.not_eq_eq_eq_not, Bool.not_true, Bool.not_false]; omega) | (simp only [ltB_t, ltB_f, eqB_t, eqB_f, pB_t, pB_f, sEq_t, sEq_f, emp_iff, ne_eq, List.length_map, Bool.not_eq_true, Bool.not_eq_false, Bool.not_eq_eq_eq_not, Bool.not_true, Bool.not_false]; assumption)) ?_
    | (refine Br.mk ?_ ?_ <;> intro h <;> (try simp only [ltB_t, ltB_f, eqB_t, eqB_f, pB_t, pB_f, sEq_t, sEq_f, emp_iff, ne_eq, List.length_map, Bool.not_eq_true, Bool.not_eq_false, Bool.not_eq_eq_eq_not, Bool.not_true, Bool.not_false] at h))
    | refine Elt.mk rfl ?_
    | refine Elt.mk (by assumption) ?_
    | refine Elt.mk (ixE (by omega) (by omega)) ?_
    | refine Mk.eq (by omega) (by omega) (by omega) ?_
    | refine Mk.zero (by omega) (by omega) (by omega) ?_)) <;> (try (conv => whnf))
  all_goals (exact fin_p rfl rfl rfl rfl)


theorem h_cs0 : YHolds Try.prog 71 (cCs 107 2 0) := by
  refine E.mkY tt Try.func71 rfl Try.ntmps71 rfl (by kernel_rfl) ?_
  rintro _ _ X K ⟨xs, goal, most, gv, bv, g, c, ⟨lf, bs, le, fd, ok⟩, rfl, rfl, ⟨hg, hb⟩, hap, hB, hgo, hc, ⟨hgd, hm⟩, hs, hK⟩
  have hlx : (xs.map D.Coat.enc).length = xs.length := by simp
  have hlg : (g.map encI).length = g.length := by simp
  have hle := hB.le
  have hs0 : 0 ≤ lf ∧ lf ≤ 20000 := ⟨hs.1, hs.2.1⟩
  refine ⟨Nat.le_of_ble_eq_true rfl, ?_⟩
  by_cases h0 : lf = 0
  · have e0 : csR xs goal 0 g c ⟨lf, bs, le, fd, ok⟩ = ⟨lf, bs, le, fd, false⟩ := if_pos h0
    rw [e0] at hK
    (repeat' ((conv => whnf); first
    | refine Sd.mk (by first | omega | (unfold in64; omega) | (simp only [fitK, in64]; omega) | (simp only [fitK, in64, chunk, List.length_map, List.length_append, List.length_replicate, List.length_set, List.length_nil, List.length_cons]; omega)) ?_
    | refine Br.yes rfl ?_
    | refine Br.no rfl ?_
    | refine Br.yes (by first | (simp only [ltB_t, ltB_f, eqB_t, eqB_f, pB_t, pB_f, sEq_t, sEq_f, emp_iff, ne_eq, List.length_map, Bool.not_eq_true, Bool.not_eq_false, Bool.not_eq_eq_eq_not, Bool.not_true, Bool.not_false]; done) | (simp only [ltB_t, ltB_f, eqB_t, eqB_f, pB_t, pB_f, sEq_t, sEq_f, emp_iff, ne_eq, List.length_map, Bool.not_eq_true, Bool.not_eq_false, Bool.not_eq_eq_eq_not, Bool.not_true, Bool.not_false]; omega) | (simp only [ltB_t, ltB_f, eqB_t, eqB_f, pB_t, pB_f, sEq_t, sEq_f, emp_iff, ne_eq, List.length_map, Bool.not_eq_true, Bool.not_eq_false, Bool.not_eq_eq_eq_not, Bool.not_true, Bool.not_false]; assumption)) ?_
    | refine Br.no (by first | (simp only [ltB_t, ltB_f, eqB_t, eqB_f, pB_t, pB_f, sEq_t, sEq_f, emp_iff, ne_eq, List.length_map, Bool.not_eq_true, Bool.not_eq_false, Bool.not_eq_eq_eq_not, Bool.not_true, Bool.not_false]; done) | (simp only [ltB_t, ltB_f, eqB_t, eqB_f, pB_t, pB_f, sEq_t, sEq_f, emp_iff, ne_eq, List.length_map, Bool.not_eq_true, Bool.not_eq_false, Bool.not_eq_eq_eq_not, Bool.not_true, Bool.not_false]; omega) | (simp only [ltB_t, ltB_f, eqB_t, eqB_f, pB_t, pB_f, sEq_t, sEq_f, emp_iff, ne_eq, List.length_map, Bool.not_eq_true, Bool.not_eq_false, Bool.not_eq_eq_eq_not, Bool.not_true, Bool.not_false]; assumption)) ?_
    | (refine Br.mk ?_ ?_ <;> intro h <;> (try simp only [ltB_t, ltB_f, eqB_t, eqB_f, pB_t, pB_f, sEq_t, sEq_f, emp_iff, ne_eq, List.length_map, Bool.not_eq_true, Bool.not_eq_false, Bool.not_eq_eq_eq_not, Bool.not_true, Bool.not_false] at h))
    | refine Ixv.mk (by omega) (ixE (by omega) (by omega)) ?_
    | refine Elt.mk rfl ?_
    | refine Elt.mk (by assumption) ?_
    | refine Elt.mk (ixE (by omega) (by omega)) ?_
    | (fail "callY")
    | refine E.call tt h_gapI rfl rfl ⟨_, _, rfl, by assumption, by assumption, _, _, rfl, rfl, ?_⟩
    | (fail "callR"))) <;> (try (conv => whnf))
    all_goals first
      | (exfalso; omega)
      | exact ⟨_, ⟨rfl, rfl, rfl⟩, allSc_ok _ rfl, (fun r h => by cases h; exact ⟨_, rfl, rfl, rfl⟩), rfl, hK _ _ _ hg hb hap⟩
  · have e0 : csR xs goal 0 g c ⟨lf, bs, le, fd, ok⟩ = csN goal g c ⟨lf, bs, le, fd, ok⟩ := if_neg h0
    rw [e0] at hK
    have h3 : fd = false ∨ (fd = true ∧ gapV c goal < le) ∨ (fd = true ∧ ¬ gapV c goal < le) := by
      cases fd
      · exact .inl rfl
      · exact .inr (by by_cases h : gapV c goal < le; exact .inl ⟨rfl, h⟩; exact .inr ⟨rfl, h⟩)
    rcases h3 with rfl | ⟨rfl, hu⟩ | ⟨rfl, hu⟩
    case' neg.inr.inr =>
      have hn : csN goal g c ⟨lf, bs, le, true, ok⟩ = ⟨lf - 1, bs, le, true, true⟩ := if_neg (by simp; omega)
      rw [hn] at hK
      (repeat' ((conv => whnf); first
    | refine Sd.mk (by first | omega | (unfold in64; omega) | (simp only [fitK, in64]; omega) | (simp only [fitK, in64, chunk, List.length_map, List.length_append, List.length_replicate, List.length_set, List.length_nil, List.length_cons]; omega)) ?_
    | refine Br.yes rfl ?_
    | refine Br.no rfl ?_
    | refine Br.yes (by first | (simp only [ltB_t, ltB_f, eqB_t, eqB_f, pB_t, pB_f, sEq_t, sEq_f, emp_iff, ne_eq, List.length_map, Bool.not_eq_true, Bool.not_eq_false, Bool.not_eq_eq_eq_not, Bool.not_true, Bool.not_false]; done) | (simp only [ltB_t, ltB_f, eqB_t, eqB_f, pB_t, pB_f, sEq_t, sEq_f, emp_iff, ne_eq, List.length_map, Bool.not_eq_true, Bool.not_eq_false, Bool.not_eq_eq_eq_not, Bool.not_true, Bool.not_false]; omega) | (simp only [ltB_t, ltB_f, eqB_t, eqB_f, pB_t, pB_f, sEq_t, sEq_f, emp_iff, ne_eq, List.length_map, Bool.not_eq_true, Bool.not_eq_false, Bool.not_eq_eq_eq_not, Bool.not_true, Bool.not_false]; assumption)) ?_
    | refine Br.no (by first | (simp only [ltB_t, ltB_f, eqB_t, eqB_f, pB_t, pB_f, sEq_t, sEq_f, emp_iff, ne_eq, List.length_map, Bool.not_eq_true, Bool.not_eq_false, Bool.not_eq_eq_eq_not, Bool.not_true, Bool.not_false]; done) | (simp only [ltB_t, ltB_f, eqB_t, eqB_f, pB_t, pB_f, sEq_t, sEq_f, emp_iff, ne_eq, List.length_map, Bool.not_eq_true, Bool.not_eq_false, Bool.not_eq_eq_eq_not, Bool.not_true, Bool.not_false]; omega) | (simp only [ltB_t, ltB_f, eqB_t, eqB_f, pB_t, pB_f, sEq_t, sEq_f, emp_iff, ne_eq, List.length_map, Bool.not_eq_true, Bool.not_eq_false, Bool.not_eq_eq_eq_not, Bool.not_true, Bool.not_false]; assumption)) ?_
    | (refine Br.mk ?_ ?_ <;> intro h <;> (try simp only [ltB_t, ltB_f, eqB_t, eqB_f, pB_t, pB_f, sEq_t, sEq_f, emp_iff, ne_eq, List.length_map, Bool.not_eq_true, Bool.not_eq_false, Bool.not_eq_eq_eq_not, Bool.not_true, Bool.not_false] at h))
    | refine Ixv.mk (by omega) (ixE (by omega) (by omega)) ?_
    | refine Elt.mk rfl ?_
    | refine Elt.mk (by assumption) ?_
    | refine Elt.mk (ixE (by omega) (by omega)) ?_
    | refine E.read tt (rd_lenF tt rfl rfl rfl rfl hg) rfl ?_
    | (fail "callY")
    | refine E.call tt h_gapI rfl rfl ⟨_, _, rfl, by assumption, by assumption, _, _, rfl, rfl, ?_⟩
    | (fail "callR"))) <;> (try (conv => whnf))
      all_goals first
        | (exfalso; omega)
        | exact ⟨_, ⟨rfl, rfl, rfl⟩, allSc_ok _ rfl, (fun r h => by cases h; exact ⟨_, rfl, rfl, rfl⟩), rfl, hK _ _ _ hg hb hap⟩
    case' neg.inr.inl =>
      have hn : csN goal g c ⟨lf, bs, le, true, ok⟩ = ⟨lf - 1, g, gapV c goal, true, true⟩ := if_pos (.inr hu)
      rw [hn] at hK
    case' neg.inl =>
      have hn : csN goal g c ⟨lf, bs, le, false, ok⟩ = ⟨lf - 1, g, gapV c goal, true, true⟩ := if_pos (.inl rfl)
      rw [hn] at hK
    all_goals (
      (repeat' ((conv => whnf); first
    | refine Sd.mk (by first | omega | (unfold in64; omega) | (simp only [fitK, in64]; omega) | (simp only [fitK, in64, chunk, List.length_map, List.length_append, List.length_replicate, List.length_set, List.length_nil, List.length_cons]; omega)) ?_
    | refine Br.yes rfl ?_
    | refine Br.no rfl ?_
    | refine Br.yes (by first | (simp only [ltB_t, ltB_f, eqB_t, eqB_f, pB_t, pB_f, sEq_t, sEq_f, emp_iff, ne_eq, List.length_map, Bool.not_eq_true, Bool.not_eq_false, Bool.not_eq_eq_eq_not, Bool.not_true, Bool.not_false]; done) | (simp only [ltB_t, ltB_f, eqB_t, eqB_f, pB_t, pB_f, sEq_t, sEq_f, emp_iff, ne_eq, List.length_map, Bool.not_eq_true, Bool.not_eq_false, Bool.not_eq_eq_eq_not, Bool.not_true, Bool.not_false]; omega) | (simp only [ltB_t, ltB_f, eqB_t, eqB_f, pB_t, pB_f, sEq_t, sEq_f, emp_iff, ne_eq, List.length_map, Bool.not_eq_true, Bool.not_eq_false, Bool.not_eq_eq_eq_not, Bool.not_true, Bool.not_false]; assumption)) ?_
    | refine Br.no (by first | (simp only [ltB_t, ltB_f, eqB_t, eqB_f, pB_t, pB_f, sEq_t, sEq_f, emp_iff, ne_eq, List.length_map, Bool.not_eq_true, Bool.not_eq_false, Bool.not_eq_eq_eq_not, Bool.not_true, Bool.not_false]; done) | (simp only [ltB_t, ltB_f, eqB_t, eqB_f, pB_t, pB_f, sEq_t, sEq_f, emp_iff, ne_eq, List.length_map, Bool.not_eq_true, Bool.not_eq_false, Bool.not_eq_eq_eq_not, Bool.not_true, Bool.not_false]; omega) | (simp only [ltB_t, ltB_f, eqB_t, eqB_f, pB_t, pB_f, sEq_t, sEq_f, emp_iff, ne_eq, List.length_map, Bool.not_eq_true, Bool.not_eq_false, Bool.not_eq_eq_eq_not, Bool.not_true, Bool.not_false]; assumption)) ?_
    | (refine Br.mk ?_ ?_ <;> intro h <;> (try simp only [ltB_t, ltB_f, eqB_t, eqB_f, pB_t, pB_f, sEq_t, sEq_f, emp_iff, ne_eq, List.length_map, Bool.not_eq_true, Bool.not_eq_false, Bool.not_eq_eq_eq_not, Bool.not_true, Bool.not_false] at h))
    | refine Ixv.mk (by omega) (ixE (by omega) (by omega)) ?_
    | refine Elt.mk rfl ?_
    | refine Elt.mk (by assumption) ?_
    | refine Elt.mk (ixE (by omega) (by omega)) ?_
    | (fail "callY")
    | refine E.call tt h_gapI rfl rfl ⟨_, _, rfl, by assumption, by assumption, _, _, rfl, rfl, ?_⟩
    | (fail "callR"))) <;> (try (conv => whnf))
      all_goals try (exfalso; omega)
      refine E.callRD tt (args := [.view 1 (g.map encI)]) h_cloneI ⟨Deep.fv rfl hg, trivial⟩ rfl ⟨g, rfl, by omega, rv1i, ?_⟩
      (repeat' ((conv => whnf); first
    | refine Sd.mk (by first | omega | (unfold in64; omega) | (simp only [fitK, in64]; omega) | (simp only [fitK, in64, chunk, List.length_map, List.length_append, List.length_replicate, List.length_set, List.length_nil, List.length_cons]; omega)) ?_
    | refine Br.yes rfl ?_
    | refine Br.no rfl ?_
    | refine Br.yes (by first | (simp only [ltB_t, ltB_f, eqB_t, eqB_f, pB_t, pB_f, sEq_t, sEq_f, emp_iff, ne_eq, List.length_map, Bool.not_eq_true, Bool.not_eq_false, Bool.not_eq_eq_eq_not, Bool.not_true, Bool.not_false]; done) | (simp only [ltB_t, ltB_f, eqB_t, eqB_f, pB_t, pB_f, sEq_t, sEq_f, emp_iff, ne_eq, List.length_map, Bool.not_eq_true, Bool.not_eq_false, Bool.not_eq_eq_eq_not, Bool.not_true, Bool.not_false]; omega) | (simp only [ltB_t, ltB_f, eqB_t, eqB_f, pB_t, pB_f, sEq_t, sEq_f, emp_iff, ne_eq, List.length_map, Bool.not_eq_true, Bool.not_eq_false, Bool.not_eq_eq_eq_not, Bool.not_true, Bool.not_false]; assumption)) ?_
    | refine Br.no (by first | (simp only [ltB_t, ltB_f, eqB_t, eqB_f, pB_t, pB_f, sEq_t, sEq_f, emp_iff, ne_eq, List.length_map, Bool.not_eq_true, Bool.not_eq_false, Bool.not_eq_eq_eq_not, Bool.not_true, Bool.not_false]; done) | (simp only [ltB_t, ltB_f, eqB_t, eqB_f, pB_t, pB_f, sEq_t, sEq_f, emp_iff, ne_eq, List.length_map, Bool.not_eq_true, Bool.not_eq_false, Bool.not_eq_eq_eq_not, Bool.not_true, Bool.not_false]; omega) | (simp only [ltB_t, ltB_f, eqB_t, eqB_f, pB_t, pB_f, sEq_t, sEq_f, emp_iff, ne_eq, List.length_map, Bool.not_eq_true, Bool.not_eq_false, Bool.not_eq_eq_eq_not, Bool.not_true, Bool.not_false]; assumption)) ?_
    | (refine Br.mk ?_ ?_ <;> intro h <;> (try simp only [ltB_t, ltB_f, eqB_t, eqB_f, pB_t, pB_f, sEq_t, sEq_f, emp_iff, ne_eq, List.length_map, Bool.not_eq_true, Bool.not_eq_false, Bool.not_eq_eq_eq_not, Bool.not_true, Bool.not_false] at h))
    | refine Ixv.mk (by omega) (ixE (by omega) (by omega)) ?_
    | refine Elt.mk rfl ?_
    | refine Elt.mk (by assumption) ?_
    | refine Elt.mk (ixE (by omega) (by omega)) ?_
    | (fail "callY")
    | refine E.call tt h_gapI rfl rfl ⟨_, _, rfl, by assumption, by assumption, _, _, rfl, rfl, ?_⟩
    | (fail "callR"))) <;> (try (conv => whnf))
      refine E.abs tt 48 (l := g) rfl rfl rfl fun b c1 C hN hx => ?_
      have hg2 := hg.upd (hg.fresh hx) (.cells C 2 (0, 0))
      (repeat' ((conv => whnf); first
    | refine Sd.mk (by first | omega | (unfold in64; omega) | (simp only [fitK, in64]; omega) | (simp only [fitK, in64, chunk, List.length_map, List.length_append, List.length_replicate, List.length_set, List.length_nil, List.length_cons]; omega)) ?_
    | refine Br.yes rfl ?_
    | refine Br.no rfl ?_
    | refine Br.yes (by first | (simp only [ltB_t, ltB_f, eqB_t, eqB_f, pB_t, pB_f, sEq_t, sEq_f, emp_iff, ne_eq, List.length_map, Bool.not_eq_true, Bool.not_eq_false, Bool.not_eq_eq_eq_not, Bool.not_true, Bool.not_false]; done) | (simp only [ltB_t, ltB_f, eqB_t, eqB_f, pB_t, pB_f, sEq_t, sEq_f, emp_iff, ne_eq, List.length_map, Bool.not_eq_true, Bool.not_eq_false, Bool.not_eq_eq_eq_not, Bool.not_true, Bool.not_false]; omega) | (simp only [ltB_t, ltB_f, eqB_t, eqB_f, pB_t, pB_f, sEq_t, sEq_f, emp_iff, ne_eq, List.length_map, Bool.not_eq_true, Bool.not_eq_false, Bool.not_eq_eq_eq_not, Bool.not_true, Bool.not_false]; assumption)) ?_
    | refine Br.no (by first | (simp only [ltB_t, ltB_f, eqB_t, eqB_f, pB_t, pB_f, sEq_t, sEq_f, emp_iff, ne_eq, List.length_map, Bool.not_eq_true, Bool.not_eq_false, Bool.not_eq_eq_eq_not, Bool.not_true, Bool.not_false]; done) | (simp only [ltB_t, ltB_f, eqB_t, eqB_f, pB_t, pB_f, sEq_t, sEq_f, emp_iff, ne_eq, List.length_map, Bool.not_eq_true, Bool.not_eq_false, Bool.not_eq_eq_eq_not, Bool.not_true, Bool.not_false]; omega) | (simp only [ltB_t, ltB_f, eqB_t, eqB_f, pB_t, pB_f, sEq_t, sEq_f, emp_iff, ne_eq, List.length_map, Bool.not_eq_true, Bool.not_eq_false, Bool.not_eq_eq_eq_not, Bool.not_true, Bool.not_false]; assumption)) ?_
    | (refine Br.mk ?_ ?_ <;> intro h <;> (try simp only [ltB_t, ltB_f, eqB_t, eqB_f, pB_t, pB_f, sEq_t, sEq_f, emp_iff, ne_eq, List.length_map, Bool.not_eq_true, Bool.not_eq_false, Bool.not_eq_eq_eq_not, Bool.not_true, Bool.not_false] at h))
    | refine Ixv.mk (by omega) (ixE (by omega) (by omega)) ?_
    | refine Elt.mk rfl ?_
    | refine Elt.mk (by assumption) ?_
    | refine Elt.mk (ixE (by omega) (by omega)) ?_
    | refine E.read tt (rd_lenF tt rfl rfl rfl rfl hg2) rfl ?_
    | (fail "callY")
    | refine E.call tt h_gapI rfl rfl ⟨_, _, rfl, by assumption, by assumption, _, _, rfl, rfl, ?_⟩
    | (fail "callR"))) <;> (try (conv => whnf))
      all_goals first
        | (exfalso; omega)
        | exact ⟨_, ⟨rfl, rfl, rfl⟩, allSc_ok _ rfl, (fun r h => by cases h; exact ⟨_, rfl, rfl, rfl⟩), rfl, hK _ _ _ hg2 (FV.marked hN rfl) (apart_fresh hg hx)⟩)
theorem h_cs : ∀ d, YHolds Try.prog 71 (cCs 107 2 d)
  | 0 => h_cs0
  | d + 1 => by
    have ih := h_cs d
    refine E.mkY tt Try.func71 rfl Try.ntmps71 rfl (by kernel_rfl) ?_
    rintro _ _ X K ⟨xs, goal, most, gv, bv, g, c, ⟨lf, bs, le, fd, ok⟩, rfl, rfl, ⟨hg, hb⟩, hap, hB, hgo, hc, ⟨hgd, hm⟩, hs, hK⟩
    have hlx : (xs.map D.Coat.enc).length = xs.length := by simp
    have hlg : (g.map encI).length = g.length := by simp
    have hle := hB.le
    have hs0 : 0 ≤ lf ∧ lf ≤ 20000 := ⟨hs.1, hs.2.1⟩
    refine ⟨Nat.le_of_ble_eq_true rfl, ?_⟩
    by_cases h0 : lf = 0
    · have e0 : csR xs goal (d + 1) g c ⟨lf, bs, le, fd, ok⟩ = ⟨lf, bs, le, fd, false⟩ := if_pos h0
      rw [e0] at hK
      (repeat' ((conv => whnf); first
    | refine Sd.mk (by first | omega | (unfold in64; omega) | (simp only [fitK, in64]; omega) | (simp only [fitK, in64, chunk, List.length_map, List.length_append, List.length_replicate, List.length_set, List.length_nil, List.length_cons]; omega)) ?_
    | refine Br.yes rfl ?_
    | refine Br.no rfl ?_
    | refine Br.yes (by first | (simp only [ltB_t, ltB_f, eqB_t, eqB_f, pB_t, pB_f, sEq_t, sEq_f, emp_iff, ne_eq, List.length_map, Bool.not_eq_true, Bool.not_eq_false, Bool.not_eq_eq_eq_not, Bool.not_true, Bool.not_false]; done) | (simp only [ltB_t, ltB_f, eqB_t, eqB_f, pB_t, pB_f, sEq_t, sEq_f, emp_iff, ne_eq, List.length_map, Bool.not_eq_true, Bool.not_eq_false, Bool.not_eq_eq_eq_not, Bool.not_true, Bool.not_false]; omega) | (simp only [ltB_t, ltB_f, eqB_t, eqB_f, pB_t, pB_f, sEq_t, sEq_f, emp_iff, ne_eq, List.length_map, Bool.not_eq_true, Bool.not_eq_false, Bool.not_eq_eq_eq_not, Bool.not_true, Bool.not_false]; assumption)) ?_
    | refine Br.no (by first | (simp only [ltB_t, ltB_f, eqB_t, eqB_f, pB_t, pB_f, sEq_t, sEq_f, emp_iff, ne_eq, List.length_map, Bool.not_eq_true, Bool.not_eq_false, Bool.not_eq_eq_eq_not, Bool.not_true, Bool.not_false]; done) | (simp only [ltB_t, ltB_f, eqB_t, eqB_f, pB_t, pB_f, sEq_t, sEq_f, emp_iff, ne_eq, List.length_map, Bool.not_eq_true, Bool.not_eq_false, Bool.not_eq_eq_eq_not, Bool.not_true, Bool.not_false]; omega) | (simp only [ltB_t, ltB_f, eqB_t, eqB_f, pB_t, pB_f, sEq_t, sEq_f, emp_iff, ne_eq, List.length_map, Bool.not_eq_true, Bool.not_eq_false, Bool.not_eq_eq_eq_not, Bool.not_true, Bool.not_false]; assumption)) ?_
    | (refine Br.mk ?_ ?_ <;> intro h <;> (try simp only [ltB_t, ltB_f, eqB_t, eqB_f, pB_t, pB_f, sEq_t, sEq_f, emp_iff, ne_eq, List.length_map, Bool.not_eq_true, Bool.not_eq_false, Bool.not_eq_eq_eq_not, Bool.not_true, Bool.not_false] at h))
    | refine Ixv.mk (by omega) (ixE (by omega) (by omega)) ?_
    | refine Elt.mk rfl ?_
    | refine Elt.mk (by assumption) ?_
    | refine Elt.mk (ixE (by omega) (by omega)) ?_
    | (fail "callY")
    | refine E.call tt h_gapI rfl rfl ⟨_, _, rfl, by assumption, by assumption, _, _, rfl, rfl, ?_⟩
    | (fail "callR"))) <;> (try (conv => whnf))
      all_goals first
        | (exfalso; omega)
        | exact ⟨_, ⟨rfl, rfl, rfl⟩, allSc_ok _ rfl, (fun r h => by cases h; exact ⟨_, rfl, rfl, rfl⟩), rfl, hK _ _ _ hg hb hap⟩
    · have e0 : csR xs goal (d + 1) g c ⟨lf, bs, le, fd, ok⟩ = it (csF xs (csR xs goal d) g c) (csN goal g c ⟨lf, bs, le, fd, ok⟩) xs.length := if_neg h0
      rw [e0] at hK
      have h3 : fd = false ∨ (fd = true ∧ gapV c goal < le) ∨ (fd = true ∧ ¬ gapV c goal < le) := by
        cases fd
        · exact .inl rfl
        · exact .inr (by by_cases h : gapV c goal < le; exact .inl ⟨rfl, h⟩; exact .inr ⟨rfl, h⟩)
      have hSb := csN_b (goal := goal) (g := g) (c := c) hs h0 (by omega)
      have hSk := csN_ok goal g c ⟨lf, bs, le, fd, ok⟩
      obtain ⟨S1, hS⟩ : ∃ S1, S1 = csN goal g c ⟨lf, bs, le, fd, ok⟩ := ⟨_, rfl⟩
      rw [← hS] at hK hSb hSk
      rcases h3 with rfl | ⟨rfl, hu⟩ | ⟨rfl, hu⟩
      case' neg.inr.inr =>
        have hS1 : S1 = ⟨lf - 1, bs, le, true, true⟩ := hS.trans (if_neg (by simp; omega))
        (repeat' ((conv => whnf); first
    | refine Sd.mk (by first | omega | (unfold in64; omega) | (simp only [fitK, in64]; omega) | (simp only [fitK, in64, chunk, List.length_map, List.length_append, List.length_replicate, List.length_set, List.length_nil, List.length_cons]; omega)) ?_
    | refine Br.yes rfl ?_
    | refine Br.no rfl ?_
    | refine Br.yes (by first | (simp only [ltB_t, ltB_f, eqB_t, eqB_f, pB_t, pB_f, sEq_t, sEq_f, emp_iff, ne_eq, List.length_map, Bool.not_eq_true, Bool.not_eq_false, Bool.not_eq_eq_eq_not, Bool.not_true, Bool.not_false]; done) | (simp only [ltB_t, ltB_f, eqB_t, eqB_f, pB_t, pB_f, sEq_t, sEq_f, emp_iff, ne_eq, List.length_map, Bool.not_eq_true, Bool.not_eq_false, Bool.not_eq_eq_eq_not, Bool.not_true, Bool.not_false]; omega) | (simp only [ltB_t, ltB_f, eqB_t, eqB_f, pB_t, pB_f, sEq_t, sEq_f, emp_iff, ne_eq, List.length_map, Bool.not_eq_true, Bool.not_eq_false, Bool.not_eq_eq_eq_not, Bool.not_true, Bool.not_false]; assumption)) ?_
    | refine Br.no (by first | (simp only [ltB_t, ltB_f, eqB_t, eqB_f, pB_t, pB_f, sEq_t, sEq_f, emp_iff, ne_eq, List.length_map, Bool.not_eq_true, Bool.not_eq_false, Bool.not_eq_eq_eq_not, Bool.not_true, Bool.not_false]; done) | (simp only [ltB_t, ltB_f, eqB_t, eqB_f, pB_t, pB_f, sEq_t, sEq_f, emp_iff, ne_eq, List.length_map, Bool.not_eq_true, Bool.not_eq_false, Bool.not_eq_eq_eq_not, Bool.not_true, Bool.not_false]; omega) | (simp only [ltB_t, ltB_f, eqB_t, eqB_f, pB_t, pB_f, sEq_t, sEq_f, emp_iff, ne_eq, List.length_map, Bool.not_eq_true, Bool.not_eq_false, Bool.not_eq_eq_eq_not, Bool.not_true, Bool.not_false]; assumption)) ?_
    | (refine Br.mk ?_ ?_ <;> intro h <;> (try simp only [ltB_t, ltB_f, eqB_t, eqB_f, pB_t, pB_f, sEq_t, sEq_f, emp_iff, ne_eq, List.length_map, Bool.not_eq_true, Bool.not_eq_false, Bool.not_eq_eq_eq_not, Bool.not_true, Bool.not_false] at h))
    | refine Ixv.mk (by omega) (ixE (by omega) (by omega)) ?_
    | refine Elt.mk rfl ?_
    | refine Elt.mk (by assumption) ?_
    | refine Elt.mk (ixE (by omega) (by omega)) ?_
    | refine E.read tt (rd_lenF tt rfl rfl rfl rfl hg) rfl ?_
    | (fail "callY")
    | refine E.call tt h_gapI rfl rfl ⟨_, _, rfl, by assumption, by assumption, _, _, rfl, rfl, ?_⟩
    | (fail "callR"))) <;> (try (conv => whnf))
        all_goals try (exfalso; omega)
        refine E.loop tt (fun p : Int × Value × Value × Frag => ((0 ≤ p.1 ∧ p.1 ≤ xs.length) ∧ (it (csF xs (csR xs goal d) g c) S1 p.1).ok = true) ∧ (FV 2 p.2.2.2 p.2.1 (g.map encI) ∧ FV 2 p.2.2.2 p.2.2.1 ((it (csF xs (csR xs goal d) g c) S1 p.1).best.map encI)) ∧ apart p.2.1 p.2.2.1) (fun p => ⟨104, 1, [(0, .loc 0 0 0), (1, .p (.view 1 (c.map encI))), (6, .p (I g.length)), (70, .p (.view 4 (xs.map D.Coat.enc))), (71, .p (I (xs.map D.Coat.enc).length)), (72, .p (I p.1))], [(0, mrC 107 xs goal most p.2.1 p.2.2.1 (it (csF xs (csR xs goal d) g c) S1 p.1))], p.2.2.2⟩) (fun p => (xs.length - p.1).toNat) (0, gv, bv, X) ⟨⟨⟨by dsimp only; omega, by dsimp only; omega⟩, by dsimp only; rw [it_zero, hS1]⟩, ⟨hg, by dsimp only; rw [it_zero, hS1]; exact hb⟩, hap⟩ ⟨rfl, ⟨rfl, rfl, pI (by omega), rfl, rfl, rfl, trivial⟩, ⟨(congrArg (fun s : Cs => some (mrC 107 xs goal most gv (bv) s)) ((it_zero _ _).trans hS1).symm), trivial⟩, rfl, rfl, fun _ _ h => h⟩ ?_
      case' neg.inr.inl =>
        have hS1 : S1 = ⟨lf - 1, g, gapV c goal, true, true⟩ := hS.trans (if_pos (.inr hu))
        (repeat' ((conv => whnf); first
    | refine Sd.mk (by first | omega | (unfold in64; omega) | (simp only [fitK, in64]; omega) | (simp only [fitK, in64, chunk, List.length_map, List.length_append, List.length_replicate, List.length_set, List.length_nil, List.length_cons]; omega)) ?_
    | refine Br.yes rfl ?_
    | refine Br.no rfl ?_
    | refine Br.yes (by first | (simp only [ltB_t, ltB_f, eqB_t, eqB_f, pB_t, pB_f, sEq_t, sEq_f, emp_iff, ne_eq, List.length_map, Bool.not_eq_true, Bool.not_eq_false, Bool.not_eq_eq_eq_not, Bool.not_true, Bool.not_false]; done) | (simp only [ltB_t, ltB_f, eqB_t, eqB_f, pB_t, pB_f, sEq_t, sEq_f, emp_iff, ne_eq, List.length_map, Bool.not_eq_true, Bool.not_eq_false, Bool.not_eq_eq_eq_not, Bool.not_true, Bool.not_false]; omega) | (simp only [ltB_t, ltB_f, eqB_t, eqB_f, pB_t, pB_f, sEq_t, sEq_f, emp_iff, ne_eq, List.length_map, Bool.not_eq_true, Bool.not_eq_false, Bool.not_eq_eq_eq_not, Bool.not_true, Bool.not_false]; assumption)) ?_
    | refine Br.no (by first | (simp only [ltB_t, ltB_f, eqB_t, eqB_f, pB_t, pB_f, sEq_t, sEq_f, emp_iff, ne_eq, List.length_map, Bool.not_eq_true, Bool.not_eq_false, Bool.not_eq_eq_eq_not, Bool.not_true, Bool.not_false]; done) | (simp only [ltB_t, ltB_f, eqB_t, eqB_f, pB_t, pB_f, sEq_t, sEq_f, emp_iff, ne_eq, List.length_map, Bool.not_eq_true, Bool.not_eq_false, Bool.not_eq_eq_eq_not, Bool.not_true, Bool.not_false]; omega) | (simp only [ltB_t, ltB_f, eqB_t, eqB_f, pB_t, pB_f, sEq_t, sEq_f, emp_iff, ne_eq, List.length_map, Bool.not_eq_true, Bool.not_eq_false, Bool.not_eq_eq_eq_not, Bool.not_true, Bool.not_false]; assumption)) ?_
    | (refine Br.mk ?_ ?_ <;> intro h <;> (try simp only [ltB_t, ltB_f, eqB_t, eqB_f, pB_t, pB_f, sEq_t, sEq_f, emp_iff, ne_eq, List.length_map, Bool.not_eq_true, Bool.not_eq_false, Bool.not_eq_eq_eq_not, Bool.not_true, Bool.not_false] at h))
    | refine Ixv.mk (by omega) (ixE (by omega) (by omega)) ?_
    | refine Elt.mk rfl ?_
    | refine Elt.mk (by assumption) ?_
    | refine Elt.mk (ixE (by omega) (by omega)) ?_
    | (fail "callY")
    | refine E.call tt h_gapI rfl rfl ⟨_, _, rfl, by assumption, by assumption, _, _, rfl, rfl, ?_⟩
    | (fail "callR"))) <;> (try (conv => whnf))
        all_goals try (exfalso; omega)
        refine E.callRD tt (args := [.view 1 (g.map encI)]) h_cloneI ⟨Deep.fv rfl hg, trivial⟩ rfl ⟨g, rfl, by omega, rv1i, ?_⟩
        (repeat' ((conv => whnf); first
    | refine Sd.mk (by first | omega | (unfold in64; omega) | (simp only [fitK, in64]; omega) | (simp only [fitK, in64, chunk, List.length_map, List.length_append, List.length_replicate, List.length_set, List.length_nil, List.length_cons]; omega)) ?_
    | refine Br.yes rfl ?_
    | refine Br.no rfl ?_
    | refine Br.yes (by first | (simp only [ltB_t, ltB_f, eqB_t, eqB_f, pB_t, pB_f, sEq_t, sEq_f, emp_iff, ne_eq, List.length_map, Bool.not_eq_true, Bool.not_eq_false, Bool.not_eq_eq_eq_not, Bool.not_true, Bool.not_false]; done) | (simp only [ltB_t, ltB_f, eqB_t, eqB_f, pB_t, pB_f, sEq_t, sEq_f, emp_iff, ne_eq, List.length_map, Bool.not_eq_true, Bool.not_eq_false, Bool.not_eq_eq_eq_not, Bool.not_true, Bool.not_false]; omega) | (simp only [ltB_t, ltB_f, eqB_t, eqB_f, pB_t, pB_f, sEq_t, sEq_f, emp_iff, ne_eq, List.length_map, Bool.not_eq_true, Bool.not_eq_false, Bool.not_eq_eq_eq_not, Bool.not_true, Bool.not_false]; assumption)) ?_
    | refine Br.no (by first | (simp only [ltB_t, ltB_f, eqB_t, eqB_f, pB_t, pB_f, sEq_t, sEq_f, emp_iff, ne_eq, List.length_map, Bool.not_eq_true, Bool.not_eq_false, Bool.not_eq_eq_eq_not, Bool.not_true, Bool.not_false]; done) | (simp only [ltB_t, ltB_f, eqB_t, eqB_f, pB_t, pB_f, sEq_t, sEq_f, emp_iff, ne_eq, List.length_map, Bool.not_eq_true, Bool.not_eq_false, Bool.not_eq_eq_eq_not, Bool.not_true, Bool.not_false]; omega) | (simp only [ltB_t, ltB_f, eqB_t, eqB_f, pB_t, pB_f, sEq_t, sEq_f, emp_iff, ne_eq, List.length_map, Bool.not_eq_true, Bool.not_eq_false, Bool.not_eq_eq_eq_not, Bool.not_true, Bool.not_false]; assumption)) ?_
    | (refine Br.mk ?_ ?_ <;> intro h <;> (try simp only [ltB_t, ltB_f, eqB_t, eqB_f, pB_t, pB_f, sEq_t, sEq_f, emp_iff, ne_eq, List.length_map, Bool.not_eq_true, Bool.not_eq_false, Bool.not_eq_eq_eq_not, Bool.not_true, Bool.not_false] at h))
    | refine Ixv.mk (by omega) (ixE (by omega) (by omega)) ?_
    | refine Elt.mk rfl ?_
    | refine Elt.mk (by assumption) ?_
    | refine Elt.mk (ixE (by omega) (by omega)) ?_
    | (fail "callY")
    | refine E.call tt h_gapI rfl rfl ⟨_, _, rfl, by assumption, by assumption, _, _, rfl, rfl, ?_⟩
    | (fail "callR"))) <;> (try (conv => whnf))
        refine E.abs tt 48 (l := g) rfl rfl rfl fun b c1 C hN hx => ?_
        have hg2 := hg.upd (hg.fresh hx) (.cells C 2 (0, 0))
        (repeat' ((conv => whnf); first
    | refine Sd.mk (by first | omega | (unfold in64; omega) | (simp only [fitK, in64]; omega) | (simp only [fitK, in64, chunk, List.length_map, List.length_append, List.length_replicate, List.length_set, List.length_nil, List.length_cons]; omega)) ?_
    | refine Br.yes rfl ?_
    | refine Br.no rfl ?_
    | refine Br.yes (by first | (simp only [ltB_t, ltB_f, eqB_t, eqB_f, pB_t, pB_f, sEq_t, sEq_f, emp_iff, ne_eq, List.length_map, Bool.not_eq_true, Bool.not_eq_false, Bool.not_eq_eq_eq_not, Bool.not_true, Bool.not_false]; done) | (simp only [ltB_t, ltB_f, eqB_t, eqB_f, pB_t, pB_f, sEq_t, sEq_f, emp_iff, ne_eq, List.length_map, Bool.not_eq_true, Bool.not_eq_false, Bool.not_eq_eq_eq_not, Bool.not_true, Bool.not_false]; omega) | (simp only [ltB_t, ltB_f, eqB_t, eqB_f, pB_t, pB_f, sEq_t, sEq_f, emp_iff, ne_eq, List.length_map, Bool.not_eq_true, Bool.not_eq_false, Bool.not_eq_eq_eq_not, Bool.not_true, Bool.not_false]; assumption)) ?_
    | refine Br.no (by first | (simp only [ltB_t, ltB_f, eqB_t, eqB_f, pB_t, pB_f, sEq_t, sEq_f, emp_iff, ne_eq, List.length_map, Bool.not_eq_true, Bool.not_eq_false, Bool.not_eq_eq_eq_not, Bool.not_true, Bool.not_false]; done) | (simp only [ltB_t, ltB_f, eqB_t, eqB_f, pB_t, pB_f, sEq_t, sEq_f, emp_iff, ne_eq, List.length_map, Bool.not_eq_true, Bool.not_eq_false, Bool.not_eq_eq_eq_not, Bool.not_true, Bool.not_false]; omega) | (simp only [ltB_t, ltB_f, eqB_t, eqB_f, pB_t, pB_f, sEq_t, sEq_f, emp_iff, ne_eq, List.length_map, Bool.not_eq_true, Bool.not_eq_false, Bool.not_eq_eq_eq_not, Bool.not_true, Bool.not_false]; assumption)) ?_
    | (refine Br.mk ?_ ?_ <;> intro h <;> (try simp only [ltB_t, ltB_f, eqB_t, eqB_f, pB_t, pB_f, sEq_t, sEq_f, emp_iff, ne_eq, List.length_map, Bool.not_eq_true, Bool.not_eq_false, Bool.not_eq_eq_eq_not, Bool.not_true, Bool.not_false] at h))
    | refine Ixv.mk (by omega) (ixE (by omega) (by omega)) ?_
    | refine Elt.mk rfl ?_
    | refine Elt.mk (by assumption) ?_
    | refine Elt.mk (ixE (by omega) (by omega)) ?_
    | refine E.read tt (rd_lenF tt rfl rfl rfl rfl hg2) rfl ?_
    | (fail "callY")
    | refine E.call tt h_gapI rfl rfl ⟨_, _, rfl, by assumption, by assumption, _, _, rfl, rfl, ?_⟩
    | (fail "callR"))) <;> (try (conv => whnf))
        all_goals try (exfalso; omega)
        refine E.loop tt (fun p : Int × Value × Value × Frag => ((0 ≤ p.1 ∧ p.1 ≤ xs.length) ∧ (it (csF xs (csR xs goal d) g c) S1 p.1).ok = true) ∧ (FV 2 p.2.2.2 p.2.1 (g.map encI) ∧ FV 2 p.2.2.2 p.2.2.1 ((it (csF xs (csR xs goal d) g c) S1 p.1).best.map encI)) ∧ apart p.2.1 p.2.2.1) (fun p => ⟨104, 1, [(0, .loc 0 0 0), (1, .p (.view 1 (c.map encI))), (6, .p (I g.length)), (70, .p (.view 4 (xs.map D.Coat.enc))), (71, .p (I (xs.map D.Coat.enc).length)), (72, .p (I p.1))], [(0, mrC 107 xs goal most p.2.1 p.2.2.1 (it (csF xs (csR xs goal d) g c) S1 p.1))], p.2.2.2⟩) (fun p => (xs.length - p.1).toNat) (0, gv, .slice (some ⟨b, 0, none⟩) g.length c1, X.upd b (.cells C 2 (0, 0))) ⟨⟨⟨by dsimp only; omega, by dsimp only; omega⟩, by dsimp only; rw [it_zero, hS1]⟩, ⟨hg2, by dsimp only; rw [it_zero, hS1]; exact (FV.marked hN rfl)⟩, apart_fresh hg hx⟩ ⟨rfl, ⟨rfl, rfl, pI (by omega), rfl, rfl, rfl, trivial⟩, ⟨(congrArg (fun s : Cs => some (mrC 107 xs goal most gv (.slice (some ⟨b, 0, none⟩) g.length c1) s)) ((it_zero _ _).trans hS1).symm), trivial⟩, rfl, rfl, fun _ _ h => h⟩ ?_
      case' neg.inl =>
        have hS1 : S1 = ⟨lf - 1, g, gapV c goal, true, true⟩ := hS.trans (if_pos (.inl rfl))
        (repeat' ((conv => whnf); first
    | refine Sd.mk (by first | omega | (unfold in64; omega) | (simp only [fitK, in64]; omega) | (simp only [fitK, in64, chunk, List.length_map, List.length_append, List.length_replicate, List.length_set, List.length_nil, List.length_cons]; omega)) ?_
    | refine Br.yes rfl ?_
    | refine Br.no rfl ?_
    | refine Br.yes (by first | (simp only [ltB_t, ltB_f, eqB_t, eqB_f, pB_t, pB_f, sEq_t, sEq_f, emp_iff, ne_eq, List.length_map, Bool.not_eq_true, Bool.not_eq_false, Bool.not_eq_eq_eq_not, Bool.not_true, Bool.not_false]; done) | (simp only [ltB_t, ltB_f, eqB_t, eqB_f, pB_t, pB_f, sEq_t, sEq_f, emp_iff, ne_eq, List.length_map, Bool.not_eq_true, Bool.not_eq_false, Bool.not_eq_eq_eq_not, Bool.not_true, Bool.not_false]; omega) | (simp only [ltB_t, ltB_f, eqB_t, eqB_f, pB_t, pB_f, sEq_t, sEq_f, emp_iff, ne_eq, List.length_map, Bool.not_eq_true, Bool.not_eq_false, Bool.not_eq_eq_eq_not, Bool.not_true, Bool.not_false]; assumption)) ?_
    | refine Br.no (by first | (simp only [ltB_t, ltB_f, eqB_t, eqB_f, pB_t, pB_f, sEq_t, sEq_f, emp_iff, ne_eq, List.length_map, Bool.not_eq_true, Bool.not_eq_false, Bool.not_eq_eq_eq_not, Bool.not_true, Bool.not_false]; done) | (simp only [ltB_t, ltB_f, eqB_t, eqB_f, pB_t, pB_f, sEq_t, sEq_f, emp_iff, ne_eq, List.length_map, Bool.not_eq_true, Bool.not_eq_false, Bool.not_eq_eq_eq_not, Bool.not_true, Bool.not_false]; omega) | (simp only [ltB_t, ltB_f, eqB_t, eqB_f, pB_t, pB_f, sEq_t, sEq_f, emp_iff, ne_eq, List.length_map, Bool.not_eq_true, Bool.not_eq_false, Bool.not_eq_eq_eq_not, Bool.not_true, Bool.not_false]; assumption)) ?_
    | (refine Br.mk ?_ ?_ <;> intro h <;> (try simp only [ltB_t, ltB_f, eqB_t, eqB_f, pB_t, pB_f, sEq_t, sEq_f, emp_iff, ne_eq, List.length_map, Bool.not_eq_true, Bool.not_eq_false, Bool.not_eq_eq_eq_not, Bool.not_true, Bool.not_false] at h))
    | refine Ixv.mk (by omega) (ixE (by omega) (by omega)) ?_
    | refine Elt.mk rfl ?_
    | refine Elt.mk (by assumption) ?_
    | refine Elt.mk (ixE (by omega) (by omega)) ?_
    | (fail "callY")
    | refine E.call tt h_gapI rfl rfl ⟨_, _, rfl, by assumption, by assumption, _, _, rfl, rfl, ?_⟩
    | (fail "callR"))) <;> (try (conv => whnf))
        all_goals try (exfalso; omega)
        refine E.callRD tt (args := [.view 1 (g.map encI)]) h_cloneI ⟨Deep.fv rfl hg, trivial⟩ rfl ⟨g, rfl, by omega, rv1i, ?_⟩
        (repeat' ((conv => whnf); first
    | refine Sd.mk (by first | omega | (unfold in64; omega) | (simp only [fitK, in64]; omega) | (simp only [fitK, in64, chunk, List.length_map, List.length_append, List.length_replicate, List.length_set, List.length_nil, List.length_cons]; omega)) ?_
    | refine Br.yes rfl ?_
    | refine Br.no rfl ?_
    | refine Br.yes (by first | (simp only [ltB_t, ltB_f, eqB_t, eqB_f, pB_t, pB_f, sEq_t, sEq_f, emp_iff, ne_eq, List.length_map, Bool.not_eq_true, Bool.not_eq_false, Bool.not_eq_eq_eq_not, Bool.not_true, Bool.not_false]; done) | (simp only [ltB_t, ltB_f, eqB_t, eqB_f, pB_t, pB_f, sEq_t, sEq_f, emp_iff, ne_eq, List.length_map, Bool.not_eq_true, Bool.not_eq_false, Bool.not_eq_eq_eq_not, Bool.not_true, Bool.not_false]; omega) | (simp only [ltB_t, ltB_f, eqB_t, eqB_f, pB_t, pB_f, sEq_t, sEq_f, emp_iff, ne_eq, List.length_map, Bool.not_eq_true, Bool.not_eq_false, Bool.not_eq_eq_eq_not, Bool.not_true, Bool.not_false]; assumption)) ?_
    | refine Br.no (by first | (simp only [ltB_t, ltB_f, eqB_t, eqB_f, pB_t, pB_f, sEq_t, sEq_f, emp_iff, ne_eq, List.length_map, Bool.not_eq_true, Bool.not_eq_false, Bool.not_eq_eq_eq_not, Bool.not_true, Bool.not_false]; done) | (simp only [ltB_t, ltB_f, eqB_t, eqB_f, pB_t, pB_f, sEq_t, sEq_f, emp_iff, ne_eq, List.length_map, Bool.not_eq_true, Bool.not_eq_false, Bool.not_eq_eq_eq_not, Bool.not_true, Bool.not_false]; omega) | (simp only [ltB_t, ltB_f, eqB_t, eqB_f, pB_t, pB_f, sEq_t, sEq_f, emp_iff, ne_eq, List.length_map, Bool.not_eq_true, Bool.not_eq_false, Bool.not_eq_eq_eq_not, Bool.not_true, Bool.not_false]; assumption)) ?_
    | (refine Br.mk ?_ ?_ <;> intro h <;> (try simp only [ltB_t, ltB_f, eqB_t, eqB_f, pB_t, pB_f, sEq_t, sEq_f, emp_iff, ne_eq, List.length_map, Bool.not_eq_true, Bool.not_eq_false, Bool.not_eq_eq_eq_not, Bool.not_true, Bool.not_false] at h))
    | refine Ixv.mk (by omega) (ixE (by omega) (by omega)) ?_
    | refine Elt.mk rfl ?_
    | refine Elt.mk (by assumption) ?_
    | refine Elt.mk (ixE (by omega) (by omega)) ?_
    | (fail "callY")
    | refine E.call tt h_gapI rfl rfl ⟨_, _, rfl, by assumption, by assumption, _, _, rfl, rfl, ?_⟩
    | (fail "callR"))) <;> (try (conv => whnf))
        refine E.abs tt 48 (l := g) rfl rfl rfl fun b c1 C hN hx => ?_
        have hg2 := hg.upd (hg.fresh hx) (.cells C 2 (0, 0))
        (repeat' ((conv => whnf); first
    | refine Sd.mk (by first | omega | (unfold in64; omega) | (simp only [fitK, in64]; omega) | (simp only [fitK, in64, chunk, List.length_map, List.length_append, List.length_replicate, List.length_set, List.length_nil, List.length_cons]; omega)) ?_
    | refine Br.yes rfl ?_
    | refine Br.no rfl ?_
    | refine Br.yes (by first | (simp only [ltB_t, ltB_f, eqB_t, eqB_f, pB_t, pB_f, sEq_t, sEq_f, emp_iff, ne_eq, List.length_map, Bool.not_eq_true, Bool.not_eq_false, Bool.not_eq_eq_eq_not, Bool.not_true, Bool.not_false]; done) | (simp only [ltB_t, ltB_f, eqB_t, eqB_f, pB_t, pB_f, sEq_t, sEq_f, emp_iff, ne_eq, List.length_map, Bool.not_eq_true, Bool.not_eq_false, Bool.not_eq_eq_eq_not, Bool.not_true, Bool.not_false]; omega) | (simp only [ltB_t, ltB_f, eqB_t, eqB_f, pB_t, pB_f, sEq_t, sEq_f, emp_iff, ne_eq, List.length_map, Bool.not_eq_true, Bool.not_eq_false, Bool.not_eq_eq_eq_not, Bool.not_true, Bool.not_false]; assumption)) ?_
    | refine Br.no (by first | (simp only [ltB_t, ltB_f, eqB_t, eqB_f, pB_t, pB_f, sEq_t, sEq_f, emp_iff, ne_eq, List.length_map, Bool.not_eq_true, Bool.not_eq_false, Bool.not_eq_eq_eq_not, Bool.not_true, Bool.not_false]; done) | (simp only [ltB_t, ltB_f, eqB_t, eqB_f, pB_t, pB_f, sEq_t, sEq_f, emp_iff, ne_eq, List.length_map, Bool.not_eq_true, Bool.not_eq_false, Bool.not_eq_eq_eq_not, Bool.not_true, Bool.not_false]; omega) | (simp only [ltB_t, ltB_f, eqB_t, eqB_f, pB_t, pB_f, sEq_t, sEq_f, emp_iff, ne_eq, List.length_map, Bool.not_eq_true, Bool.not_eq_false, Bool.not_eq_eq_eq_not, Bool.not_true, Bool.not_false]; assumption)) ?_
    | (refine Br.mk ?_ ?_ <;> intro h <;> (try simp only [ltB_t, ltB_f, eqB_t, eqB_f, pB_t, pB_f, sEq_t, sEq_f, emp_iff, ne_eq, List.length_map, Bool.not_eq_true, Bool.not_eq_false, Bool.not_eq_eq_eq_not, Bool.not_true, Bool.not_false] at h))
    | refine Ixv.mk (by omega) (ixE (by omega) (by omega)) ?_
    | refine Elt.mk rfl ?_
    | refine Elt.mk (by assumption) ?_
    | refine Elt.mk (ixE (by omega) (by omega)) ?_
    | refine E.read tt (rd_lenF tt rfl rfl rfl rfl hg2) rfl ?_
    | (fail "callY")
    | refine E.call tt h_gapI rfl rfl ⟨_, _, rfl, by assumption, by assumption, _, _, rfl, rfl, ?_⟩
    | (fail "callR"))) <;> (try (conv => whnf))
        all_goals try (exfalso; omega)
        refine E.loop tt (fun p : Int × Value × Value × Frag => ((0 ≤ p.1 ∧ p.1 ≤ xs.length) ∧ (it (csF xs (csR xs goal d) g c) S1 p.1).ok = true) ∧ (FV 2 p.2.2.2 p.2.1 (g.map encI) ∧ FV 2 p.2.2.2 p.2.2.1 ((it (csF xs (csR xs goal d) g c) S1 p.1).best.map encI)) ∧ apart p.2.1 p.2.2.1) (fun p => ⟨104, 1, [(0, .loc 0 0 0), (1, .p (.view 1 (c.map encI))), (6, .p (I g.length)), (70, .p (.view 4 (xs.map D.Coat.enc))), (71, .p (I (xs.map D.Coat.enc).length)), (72, .p (I p.1))], [(0, mrC 107 xs goal most p.2.1 p.2.2.1 (it (csF xs (csR xs goal d) g c) S1 p.1))], p.2.2.2⟩) (fun p => (xs.length - p.1).toNat) (0, gv, .slice (some ⟨b, 0, none⟩) g.length c1, X.upd b (.cells C 2 (0, 0))) ⟨⟨⟨by dsimp only; omega, by dsimp only; omega⟩, by dsimp only; rw [it_zero, hS1]⟩, ⟨hg2, by dsimp only; rw [it_zero, hS1]; exact (FV.marked hN rfl)⟩, apart_fresh hg hx⟩ ⟨rfl, ⟨rfl, rfl, pI (by omega), rfl, rfl, rfl, trivial⟩, ⟨(congrArg (fun s : Cs => some (mrC 107 xs goal most gv (.slice (some ⟨b, 0, none⟩) g.length c1) s)) ((it_zero _ _).trans hS1).symm), trivial⟩, rfl, rfl, fun _ _ h => h⟩ ?_
      all_goals (
        rintro p ⟨⟨⟨hi0, hi1⟩, hok⟩, ⟨hgp, hbp⟩, hap2⟩
        have hbd := csI_b (xs := xs) (goal := goal) (g := g) (c := c) (d := d) (by omega) hSb hi0 hi1
        have hsu : it (csF xs (csR xs goal d) g c) S1 (p.1 + 1) = csF xs (csR xs goal d) g c (it (csF xs (csR xs goal d) g c) S1 p.1) p.1 := it_succ hi0
        rcases Int.lt_or_le p.1 xs.length with hlt | hge
        · have hst : (it (csF xs (csR xs goal d) g c) S1 (p.1 + 1)).ok = false → it (csF xs (csR xs goal d) g c) S1 xs.length = it (csF xs (csR xs goal d) g c) S1 (p.1 + 1) := fun h => it_stopC (by omega) (by omega) (fun j => by unfold csF; rw [if_neg (by unfold csF at h; rw [h]; simp)])
          generalize it (csF xs (csR xs goal d) g c) S1 p.1 = s at *
          obtain ⟨l2, bs2, le2, fd2, ok2⟩ := s
          dsimp only at hok hbp
          subst hok
          have hsv : csF xs (csR xs goal d) g c ⟨l2, bs2, le2, fd2, true⟩ p.1 = csR xs goal d (g ++ [p.1]) (ovL (ix xs p.1) c) ⟨l2, bs2, le2, fd2, true⟩ := if_pos rfl
          rw [hsv] at hsu
          have hx := hB.at hi0 hlt
          have hov := ov_ok hx hc
          generalize p.2.1 = vv at *
          generalize p.2.2.1 = ww at *
          generalize p.2.2.2 = Y at *
          (repeat' ((conv => whnf); first
    | refine Sd.mk (by first | omega | (unfold in64; omega) | (simp only [fitK, in64]; omega) | (simp only [fitK, in64, chunk, List.length_map, List.length_append, List.length_replicate, List.length_set, List.length_nil, List.length_cons]; omega)) ?_
    | refine Br.yes rfl ?_
    | refine Br.no rfl ?_
    | refine Br.yes (by first | (simp only [ltB_t, ltB_f, eqB_t, eqB_f, pB_t, pB_f, sEq_t, sEq_f, emp_iff, ne_eq, List.length_map, Bool.not_eq_true, Bool.not_eq_false, Bool.not_eq_eq_eq_not, Bool.not_true, Bool.not_false]; done) | (simp only [ltB_t, ltB_f, eqB_t, eqB_f, pB_t, pB_f, sEq_t, sEq_f, emp_iff, ne_eq, List.length_map, Bool.not_eq_true, Bool.not_eq_false, Bool.not_eq_eq_eq_not, Bool.not_true, Bool.not_false]; omega) | (simp only [ltB_t, ltB_f, eqB_t, eqB_f, pB_t, pB_f, sEq_t, sEq_f, emp_iff, ne_eq, List.length_map, Bool.not_eq_true, Bool.not_eq_false, Bool.not_eq_eq_eq_not, Bool.not_true, Bool.not_false]; assumption)) ?_
    | refine Br.no (by first | (simp only [ltB_t, ltB_f, eqB_t, eqB_f, pB_t, pB_f, sEq_t, sEq_f, emp_iff, ne_eq, List.length_map, Bool.not_eq_true, Bool.not_eq_false, Bool.not_eq_eq_eq_not, Bool.not_true, Bool.not_false]; done) | (simp only [ltB_t, ltB_f, eqB_t, eqB_f, pB_t, pB_f, sEq_t, sEq_f, emp_iff, ne_eq, List.length_map, Bool.not_eq_true, Bool.not_eq_false, Bool.not_eq_eq_eq_not, Bool.not_true, Bool.not_false]; omega) | (simp only [ltB_t, ltB_f, eqB_t, eqB_f, pB_t, pB_f, sEq_t, sEq_f, emp_iff, ne_eq, List.length_map, Bool.not_eq_true, Bool.not_eq_false, Bool.not_eq_eq_eq_not, Bool.not_true, Bool.not_false]; assumption)) ?_
    | (refine Br.mk ?_ ?_ <;> intro h <;> (try simp only [ltB_t, ltB_f, eqB_t, eqB_f, pB_t, pB_f, sEq_t, sEq_f, emp_iff, ne_eq, List.length_map, Bool.not_eq_true, Bool.not_eq_false, Bool.not_eq_eq_eq_not, Bool.not_true, Bool.not_false] at h))
    | refine Ixv.mk (by omega) (ixE (by omega) (by omega)) ?_
    | refine Elt.mk rfl ?_
    | refine Elt.mk (by assumption) ?_
    | refine Elt.mk (ixE (by omega) (by omega)) ?_
    | (fail "callY")
    | refine E.call tt h_gapI rfl rfl ⟨_, _, rfl, by assumption, by assumption, _, _, rfl, rfl, ?_⟩
    | (fail "callR"))) <;> (try (conv => whnf))
          all_goals try (exfalso; omega)
          refine E.appFw tt (els2 := [[I p.1]]) rfl rfl rfl rfl rfl rfl hgp rfl (by simp) (one_pl p.1) rfl (by rw [hlg]; simp; omega) fun b2 c2 C2 hC2 hb2 => ?_
          obtain ⟨q4, q5, q6⟩ := two_app hbp hgp hap2.symm hb2 hC2
          (repeat' ((conv => whnf); first
    | refine Sd.mk (by first | omega | (unfold in64; omega) | (simp only [fitK, in64]; omega) | (simp only [fitK, in64, chunk, List.length_map, List.length_append, List.length_replicate, List.length_set, List.length_nil, List.length_cons]; omega)) ?_
    | refine Br.yes rfl ?_
    | refine Br.no rfl ?_
    | refine Br.yes (by first | (simp only [ltB_t, ltB_f, eqB_t, eqB_f, pB_t, pB_f, sEq_t, sEq_f, emp_iff, ne_eq, List.length_map, Bool.not_eq_true, Bool.not_eq_false, Bool.not_eq_eq_eq_not, Bool.not_true, Bool.not_false]; done) | (simp only [ltB_t, ltB_f, eqB_t, eqB_f, pB_t, pB_f, sEq_t, sEq_f, emp_iff, ne_eq, List.length_map, Bool.not_eq_true, Bool.not_eq_false, Bool.not_eq_eq_eq_not, Bool.not_true, Bool.not_false]; omega) | (simp only [ltB_t, ltB_f, eqB_t, eqB_f, pB_t, pB_f, sEq_t, sEq_f, emp_iff, ne_eq, List.length_map, Bool.not_eq_true, Bool.not_eq_false, Bool.not_eq_eq_eq_not, Bool.not_true, Bool.not_false]; assumption)) ?_
    | refine Br.no (by first | (simp only [ltB_t, ltB_f, eqB_t, eqB_f, pB_t, pB_f, sEq_t, sEq_f, emp_iff, ne_eq, List.length_map, Bool.not_eq_true, Bool.not_eq_false, Bool.not_eq_eq_eq_not, Bool.not_true, Bool.not_false]; done) | (simp only [ltB_t, ltB_f, eqB_t, eqB_f, pB_t, pB_f, sEq_t, sEq_f, emp_iff, ne_eq, List.length_map, Bool.not_eq_true, Bool.not_eq_false, Bool.not_eq_eq_eq_not, Bool.not_true, Bool.not_false]; omega) | (simp only [ltB_t, ltB_f, eqB_t, eqB_f, pB_t, pB_f, sEq_t, sEq_f, emp_iff, ne_eq, List.length_map, Bool.not_eq_true, Bool.not_eq_false, Bool.not_eq_eq_eq_not, Bool.not_true, Bool.not_false]; assumption)) ?_
    | (refine Br.mk ?_ ?_ <;> intro h <;> (try simp only [ltB_t, ltB_f, eqB_t, eqB_f, pB_t, pB_f, sEq_t, sEq_f, emp_iff, ne_eq, List.length_map, Bool.not_eq_true, Bool.not_eq_false, Bool.not_eq_eq_eq_not, Bool.not_true, Bool.not_false] at h))
    | refine Ixv.mk (by omega) (ixE (by omega) (by omega)) ?_
    | refine Elt.mk rfl ?_
    | refine Elt.mk (by assumption) ?_
    | refine Elt.mk (ixE (by omega) (by omega)) ?_
    | (fail "callY")
    | refine E.call tt h_gapI rfl rfl ⟨_, _, rfl, by assumption, by assumption, _, _, rfl, rfl, ?_⟩
    | (fail "callR"))) <;> (try (conv => whnf))
          all_goals try (exfalso; omega)
          refine E.callRF tt h_overI rfl rfl rfl ⟨_, _, rfl, hx, hc, _, rfl, .inr rv1i, ?_⟩
          (repeat' ((conv => whnf); first
    | refine Sd.mk (by first | omega | (unfold in64; omega) | (simp only [fitK, in64]; omega) | (simp only [fitK, in64, chunk, List.length_map, List.length_append, List.length_replicate, List.length_set, List.length_nil, List.length_cons]; omega)) ?_
    | refine Br.yes rfl ?_
    | refine Br.no rfl ?_
    | refine Br.yes (by first | (simp only [ltB_t, ltB_f, eqB_t, eqB_f, pB_t, pB_f, sEq_t, sEq_f, emp_iff, ne_eq, List.length_map, Bool.not_eq_true, Bool.not_eq_false, Bool.not_eq_eq_eq_not, Bool.not_true, Bool.not_false]; done) | (simp only [ltB_t, ltB_f, eqB_t, eqB_f, pB_t, pB_f, sEq_t, sEq_f, emp_iff, ne_eq, List.length_map, Bool.not_eq_true, Bool.not_eq_false, Bool.not_eq_eq_eq_not, Bool.not_true, Bool.not_false]; omega) | (simp only [ltB_t, ltB_f, eqB_t, eqB_f, pB_t, pB_f, sEq_t, sEq_f, emp_iff, ne_eq, List.length_map, Bool.not_eq_true, Bool.not_eq_false, Bool.not_eq_eq_eq_not, Bool.not_true, Bool.not_false]; assumption)) ?_
    | refine Br.no (by first | (simp only [ltB_t, ltB_f, eqB_t, eqB_f, pB_t, pB_f, sEq_t, sEq_f, emp_iff, ne_eq, List.length_map, Bool.not_eq_true, Bool.not_eq_false, Bool.not_eq_eq_eq_not, Bool.not_true, Bool.not_false]; done) | (simp only [ltB_t, ltB_f, eqB_t, eqB_f, pB_t, pB_f, sEq_t, sEq_f, emp_iff, ne_eq, List.length_map, Bool.not_eq_true, Bool.not_eq_false, Bool.not_eq_eq_eq_not, Bool.not_true, Bool.not_false]; omega) | (simp only [ltB_t, ltB_f, eqB_t, eqB_f, pB_t, pB_f, sEq_t, sEq_f, emp_iff, ne_eq, List.length_map, Bool.not_eq_true, Bool.not_eq_false, Bool.not_eq_eq_eq_not, Bool.not_true, Bool.not_false]; assumption)) ?_
    | (refine Br.mk ?_ ?_ <;> intro h <;> (try simp only [ltB_t, ltB_f, eqB_t, eqB_f, pB_t, pB_f, sEq_t, sEq_f, emp_iff, ne_eq, List.length_map, Bool.not_eq_true, Bool.not_eq_false, Bool.not_eq_eq_eq_not, Bool.not_true, Bool.not_false] at h))
    | refine Ixv.mk (by omega) (ixE (by omega) (by omega)) ?_
    | refine Elt.mk rfl ?_
    | refine Elt.mk (by assumption) ?_
    | refine Elt.mk (ixE (by omega) (by omega)) ?_
    | (fail "callY")
    | refine E.call tt h_gapI rfl rfl ⟨_, _, rfl, by assumption, by assumption, _, _, rfl, rfl, ?_⟩
    | (fail "callR"))) <;> (try (conv => whnf))
          refine E.callYP tt ih rfl rfl rfl rfl rfl rfl ⟨xs, goal, most, (.slice (some ⟨b2, 0, none⟩) (g.map encI ++ [[I p.1]]).length c2), ww, g ++ [p.1], ovL (ix xs p.1) c, ⟨l2, bs2, le2, fd2, true⟩, rfl, rfl, ⟨q5.cast (encI_app _ _), q4⟩, q6.symm, hB, hgo, hov, ⟨by simp; omega, hm⟩, hbd, fun gv' bv' X' g1 g2 a1 r' e _ _ => ?_⟩
          cases e
          have gl : ((g ++ [p.1]).map encI).length = g.length + 1 := by simp
          obtain ⟨k1, k2⟩ := g1.cut (n := (g.length : Int).toNat) (by rw [gl]; omega)
          rw [take_app] at k1
          obtain ⟨fb, fc, fC, rfl, hfX, hfC⟩ := g1.open (by rw [gl]; omega)
          have g1 := FV.raw hfX hfC
          have a2 := a1.cut k2
          generalize csR xs goal d (g ++ [p.1]) (ovL (ix xs p.1) c) ⟨l2, bs2, le2, fd2, true⟩ = s3 at *
          obtain ⟨l3, bs3, le3, fd3, ok3⟩ := s3
          rw [hsu] at hst
          cases ok3 with
          | false =>
            rw [hst rfl] at hK
            (repeat' ((conv => whnf); first
    | refine Sd.mk (by first | omega | (unfold in64; omega) | (simp only [fitK, in64]; omega) | (simp only [fitK, in64, chunk, List.length_map, List.length_append, List.length_replicate, List.length_set, List.length_nil, List.length_cons]; omega)) ?_
    | refine Br.yes rfl ?_
    | refine Br.no rfl ?_
    | refine Br.yes (by first | (simp only [ltB_t, ltB_f, eqB_t, eqB_f, pB_t, pB_f, sEq_t, sEq_f, emp_iff, ne_eq, List.length_map, Bool.not_eq_true, Bool.not_eq_false, Bool.not_eq_eq_eq_not, Bool.not_true, Bool.not_false]; done) | (simp only [ltB_t, ltB_f, eqB_t, eqB_f, pB_t, pB_f, sEq_t, sEq_f, emp_iff, ne_eq, List.length_map, Bool.not_eq_true, Bool.not_eq_false, Bool.not_eq_eq_eq_not, Bool.not_true, Bool.not_false]; omega) | (simp only [ltB_t, ltB_f, eqB_t, eqB_f, pB_t, pB_f, sEq_t, sEq_f, emp_iff, ne_eq, List.length_map, Bool.not_eq_true, Bool.not_eq_false, Bool.not_eq_eq_eq_not, Bool.not_true, Bool.not_false]; assumption)) ?_
    | refine Br.no (by first | (simp only [ltB_t, ltB_f, eqB_t, eqB_f, pB_t, pB_f, sEq_t, sEq_f, emp_iff, ne_eq, List.length_map, Bool.not_eq_true, Bool.not_eq_false, Bool.not_eq_eq_eq_not, Bool.not_true, Bool.not_false]; done) | (simp only [ltB_t, ltB_f, eqB_t, eqB_f, pB_t, pB_f, sEq_t, sEq_f, emp_iff, ne_eq, List.length_map, Bool.not_eq_true, Bool.not_eq_false, Bool.not_eq_eq_eq_not, Bool.not_true, Bool.not_false]; omega) | (simp only [ltB_t, ltB_f, eqB_t, eqB_f, pB_t, pB_f, sEq_t, sEq_f, emp_iff, ne_eq, List.length_map, Bool.not_eq_true, Bool.not_eq_false, Bool.not_eq_eq_eq_not, Bool.not_true, Bool.not_false]; assumption)) ?_
    | (refine Br.mk ?_ ?_ <;> intro h <;> (try simp only [ltB_t, ltB_f, eqB_t, eqB_f, pB_t, pB_f, sEq_t, sEq_f, emp_iff, ne_eq, List.length_map, Bool.not_eq_true, Bool.not_eq_false, Bool.not_eq_eq_eq_not, Bool.not_true, Bool.not_false] at h))
    | refine Ixv.mk (by omega) (ixE (by omega) (by omega)) ?_
    | refine Elt.mk rfl ?_
    | refine Elt.mk (by assumption) ?_
    | refine Elt.mk (ixE (by omega) (by omega)) ?_
    | refine E.read tt (rd_cutF tt rfl rfl rfl rfl rfl g1 rfl (by omega) (by rw [gl]; omega)) rfl ?_
    | (fail "callY")
    | refine E.call tt h_gapI rfl rfl ⟨_, _, rfl, by assumption, by assumption, _, _, rfl, rfl, ?_⟩
    | (fail "callR"))) <;> (try (conv => whnf))
            all_goals first
              | (exfalso; omega)
              | exact ⟨_, ⟨rfl, rfl, rfl⟩, allSc_ok _ rfl, (fun r h => by cases h; exact ⟨_, rfl, rfl, rfl⟩), rfl, hK _ _ _ k1 g2 a2⟩
          | true =>
            (repeat' ((conv => whnf); first
    | refine Sd.mk (by first | omega | (unfold in64; omega) | (simp only [fitK, in64]; omega) | (simp only [fitK, in64, chunk, List.length_map, List.length_append, List.length_replicate, List.length_set, List.length_nil, List.length_cons]; omega)) ?_
    | refine Br.yes rfl ?_
    | refine Br.no rfl ?_
    | refine Br.yes (by first | (simp only [ltB_t, ltB_f, eqB_t, eqB_f, pB_t, pB_f, sEq_t, sEq_f, emp_iff, ne_eq, List.length_map, Bool.not_eq_true, Bool.not_eq_false, Bool.not_eq_eq_eq_not, Bool.not_true, Bool.not_false]; done) | (simp only [ltB_t, ltB_f, eqB_t, eqB_f, pB_t, pB_f, sEq_t, sEq_f, emp_iff, ne_eq, List.length_map, Bool.not_eq_true, Bool.not_eq_false, Bool.not_eq_eq_eq_not, Bool.not_true, Bool.not_false]; omega) | (simp only [ltB_t, ltB_f, eqB_t, eqB_f, pB_t, pB_f, sEq_t, sEq_f, emp_iff, ne_eq, List.length_map, Bool.not_eq_true, Bool.not_eq_false, Bool.not_eq_eq_eq_not, Bool.not_true, Bool.not_false]; assumption)) ?_
    | refine Br.no (by first | (simp only [ltB_t, ltB_f, eqB_t, eqB_f, pB_t, pB_f, sEq_t, sEq_f, emp_iff, ne_eq, List.length_map, Bool.not_eq_true, Bool.not_eq_false, Bool.not_eq_eq_eq_not, Bool.not_true, Bool.not_false]; done) | (simp only [ltB_t, ltB_f, eqB_t, eqB_f, pB_t, pB_f, sEq_t, sEq_f, emp_iff, ne_eq, List.length_map, Bool.not_eq_true, Bool.not_eq_false, Bool.not_eq_eq_eq_not, Bool.not_true, Bool.not_false]; omega) | (simp only [ltB_t, ltB_f, eqB_t, eqB_f, pB_t, pB_f, sEq_t, sEq_f, emp_iff, ne_eq, List.length_map, Bool.not_eq_true, Bool.not_eq_false, Bool.not_eq_eq_eq_not, Bool.not_true, Bool.not_false]; assumption)) ?_
    | (refine Br.mk ?_ ?_ <;> intro h <;> (try simp only [ltB_t, ltB_f, eqB_t, eqB_f, pB_t, pB_f, sEq_t, sEq_f, emp_iff, ne_eq, List.length_map, Bool.not_eq_true, Bool.not_eq_false, Bool.not_eq_eq_eq_not, Bool.not_true, Bool.not_false] at h))
    | refine Ixv.mk (by omega) (ixE (by omega) (by omega)) ?_
    | refine Elt.mk rfl ?_
    | refine Elt.mk (by assumption) ?_
    | refine Elt.mk (ixE (by omega) (by omega)) ?_
    | refine E.read tt (rd_cutF tt rfl rfl rfl rfl rfl g1 rfl (by omega) (by rw [gl]; omega)) rfl ?_
    | (fail "callY")
    | refine E.call tt h_gapI rfl rfl ⟨_, _, rfl, by assumption, by assumption, _, _, rfl, rfl, ?_⟩
    | (fail "callR"))) <;> (try (conv => whnf))
            all_goals try (exfalso; omega)
            all_goals (refine ⟨(p.1 + 1, (cutV (.slice (some ⟨fb, 0, none⟩) ((g ++ [p.1]).map encI).length fc) (g.length : Int).toNat), bv', X'), ⟨⟨⟨by dsimp only; omega, by dsimp only; omega⟩, by dsimp only; rw [hsu]⟩, ⟨k1, by dsimp only; rw [hsu]; exact g2⟩, a2⟩, by dsimp only; omega, ⟨rfl, ⟨rfl, rfl, rfl, rfl, rfl, rfl, trivial⟩, ⟨(congrArg (fun s : Cs => some (mrC 107 xs goal most (cutV (.slice (some ⟨fb, 0, none⟩) ((g ++ [p.1]).map encI).length fc) (g.length : Int).toNat) bv' s)) hsu.symm), trivial⟩, rfl, rfl, fun _ _ h => h⟩⟩)
        · have hie : p.1 = xs.length := by omega
          rw [← hie] at hK
          generalize it (csF xs (csR xs goal d) g c) S1 p.1 = s at *
          obtain ⟨l2, bs2, le2, fd2, ok2⟩ := s
          dsimp only at hok hbp
          subst hok
          (repeat' ((conv => whnf); first
    | refine Sd.mk (by first | omega | (unfold in64; omega) | (simp only [fitK, in64]; omega) | (simp only [fitK, in64, chunk, List.length_map, List.length_append, List.length_replicate, List.length_set, List.length_nil, List.length_cons]; omega)) ?_
    | refine Br.yes rfl ?_
    | refine Br.no rfl ?_
    | refine Br.yes (by first | (simp only [ltB_t, ltB_f, eqB_t, eqB_f, pB_t, pB_f, sEq_t, sEq_f, emp_iff, ne_eq, List.length_map, Bool.not_eq_true, Bool.not_eq_false, Bool.not_eq_eq_eq_not, Bool.not_true, Bool.not_false]; done) | (simp only [ltB_t, ltB_f, eqB_t, eqB_f, pB_t, pB_f, sEq_t, sEq_f, emp_iff, ne_eq, List.length_map, Bool.not_eq_true, Bool.not_eq_false, Bool.not_eq_eq_eq_not, Bool.not_true, Bool.not_false]; omega) | (simp only [ltB_t, ltB_f, eqB_t, eqB_f, pB_t, pB_f, sEq_t, sEq_f, emp_iff, ne_eq, List.length_map, Bool.not_eq_true, Bool.not_eq_false, Bool.not_eq_eq_eq_not, Bool.not_true, Bool.not_false]; assumption)) ?_
    | refine Br.no (by first | (simp only [ltB_t, ltB_f, eqB_t, eqB_f, pB_t, pB_f, sEq_t, sEq_f, emp_iff, ne_eq, List.length_map, Bool.not_eq_true, Bool.not_eq_false, Bool.not_eq_eq_eq_not, Bool.not_true, Bool.not_false]; done) | (simp only [ltB_t, ltB_f, eqB_t, eqB_f, pB_t, pB_f, sEq_t, sEq_f, emp_iff, ne_eq, List.length_map, Bool.not_eq_true, Bool.not_eq_false, Bool.not_eq_eq_eq_not, Bool.not_true, Bool.not_false]; omega) | (simp only [ltB_t, ltB_f, eqB_t, eqB_f, pB_t, pB_f, sEq_t, sEq_f, emp_iff, ne_eq, List.length_map, Bool.not_eq_true, Bool.not_eq_false, Bool.not_eq_eq_eq_not, Bool.not_true, Bool.not_false]; assumption)) ?_
    | (refine Br.mk ?_ ?_ <;> intro h <;> (try simp only [ltB_t, ltB_f, eqB_t, eqB_f, pB_t, pB_f, sEq_t, sEq_f, emp_iff, ne_eq, List.length_map, Bool.not_eq_true, Bool.not_eq_false, Bool.not_eq_eq_eq_not, Bool.not_true, Bool.not_false] at h))
    | refine Ixv.mk (by omega) (ixE (by omega) (by omega)) ?_
    | refine Elt.mk rfl ?_
    | refine Elt.mk (by assumption) ?_
    | refine Elt.mk (ixE (by omega) (by omega)) ?_
    | (fail "callY")
    | refine E.call tt h_gapI rfl rfl ⟨_, _, rfl, by assumption, by assumption, _, _, rfl, rfl, ?_⟩
    | (fail "callR"))) <;> (try (conv => whnf))
          all_goals first
            | (exfalso; omega)
            | exact ⟨_, ⟨rfl, rfl, rfl⟩, allSc_ok _ rfl, (fun r h => by cases h; exact ⟨_, rfl, rfl, rfl⟩), rfl, hK _ _ _ hgp hbp hap2⟩)

end Go.Proofs.Ythjbcgdmdmfijaa
