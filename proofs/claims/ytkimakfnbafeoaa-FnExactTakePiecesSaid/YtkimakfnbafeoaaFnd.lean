/- Contracts (Fnd). -/
import Derived.Test.YtkimakfnbafeoaaGoods
import Derived.Test.YtkimakfnbafeoaaSo
set_option linter.unusedVariables false
set_option linter.unusedSimpArgs false
set_option maxRecDepth 100000
namespace Go.Lo
-- deps: Goods So
noncomputable def gfind (xs : List D.Good) (id : ByteArray) : Int := fstNot (fun i => (ix xs i).Id ≠ id) xs.length
theorem gfind_at {xs : List D.Good} {id : ByteArray} {i : Int} (h : gfind xs id = i) (h0 : i ≠ -1) : 0 ≤ i ∧ i < xs.length ∧ (ix xs i).Id = id := by
  subst h
  rcases fstNot_cases (fun i => (ix xs i).Id ≠ id) xs.length with ⟨h, _⟩ | ⟨a, b, c, _⟩
  · exact absurd h h0
  · exact ⟨a, b, Classical.not_not.1 c⟩
theorem GoodsOk.rise {xs : List D.Good} (h : GoodsOk xs) {a b : Int} (h0 : 0 ≤ a) (h1 : a < b) (h2 : b < xs.length) : sLt (ix xs a).Id (ix xs b).Id = true :=
  str_lt (f := fun i => (ix xs i).Id) (n := xs.length) (fun i i0 i1 => (h.1 i (by omega) i1).2 i0) h0 h1 h2
def cmpS (a b : ByteArray) : Int := bif sLt a b then -1 else bif sEq a b then 0 else 1
theorem cmpS_lt {a b : ByteArray} : cmpS a b < 0 ↔ sLt a b = true := by
  unfold cmpS
  cases sLt a b <;> cases sEq a b <;> simp
theorem cmpS_eq {a b : ByteArray} : cmpS a b = 0 ↔ a = b := by
  unfold cmpS
  rw [← sEq_t]
  cases h : sLt a b <;> cases h2 : sEq a b <;> simp
  have := sEq_t.1 h2
  subst this
  rw [sLt_irr] at h; cases h
theorem cmpS_l {a b : ByteArray} (h : sLt a b = true) : cmpS a b = -1 := by unfold cmpS; rw [h]; rfl
theorem cmpS_e {a b : ByteArray} (h : sLt a b = false) (e : a = b) : cmpS a b = 0 := by unfold cmpS; rw [h, sEq_t.2 e]; rfl
theorem cmpS_g {a b : ByteArray} (h : sLt a b = false) (e : a ≠ b) : cmpS a b = 1 := by unfold cmpS; rw [h, sEq_f.2 e]; rfl
theorem cmpS_bd (a b : ByteArray) : -1 ≤ cmpS a b ∧ cmpS a b ≤ 1 := by
  unfold cmpS
  cases sLt a b <;> cases sEq a b <;> simp
def BsI (xs : List D.Good) (id : ByteArray) (i j : Int) : Prop := 0 ≤ i ∧ i ≤ j ∧ j ≤ xs.length ∧ (∀ k, 0 ≤ k → k < i → sLt (ix xs k).Id id = true) ∧ (∀ k, j ≤ k → k < xs.length → sLt (ix xs k).Id id = false)
theorem bs_lo {xs : List D.Good} {id : ByteArray} {i j h : Int} (hB : GoodsOk xs) (hi : BsI xs id i j) (h0 : i ≤ h) (h1 : h < j) (hl : sLt (ix xs h).Id id = true) : BsI xs id (h + 1) j := by
  obtain ⟨a, b, c, d, e⟩ := hi
  refine ⟨by omega, by omega, c, fun k k0 k1 => ?_, e⟩
  by_cases hk : k = h
  · rw [hk]; exact hl
  · exact sLt_trans (hB.rise k0 (by omega) (by omega)) hl
theorem bs_hi {xs : List D.Good} {id : ByteArray} {i j h : Int} (hB : GoodsOk xs) (hi : BsI xs id i j) (h0 : i ≤ h) (h1 : h < j) (hl : sLt (ix xs h).Id id = false) : BsI xs id i h := by
  obtain ⟨a, b, c, d, e⟩ := hi
  refine ⟨a, h0, by omega, d, fun k k0 k1 => ?_⟩
  by_cases hk : k = h
  · rw [hk]; exact hl
  · cases hc : sLt (ix xs k).Id id with
    | false => rfl
    | true => have := sLt_trans (hB.rise (a := h) (b := k) (by omega) (by omega) k1) hc; rw [hl] at this; cases this
theorem bs_end {xs : List D.Good} {id : ByteArray} {i : Int} (hB : GoodsOk xs) (hi : BsI xs id i i) : (gfind xs id ≠ -1 → i = gfind xs id) ∧ (gfind xs id ≠ -1 ↔ (i < xs.length ∧ (ix xs i).Id = id)) := by
  obtain ⟨a, b, c, d, e⟩ := hi
  have h1 : gfind xs id ≠ -1 → i = gfind xs id := fun h => by
    obtain ⟨g0, g1, g2⟩ := gfind_at rfl h
    rcases Int.lt_trichotomy i (gfind xs id) with hl | hl | hl
    · have q1 := hB.rise a hl g1
      rw [g2] at q1
      have := e i (Int.le_refl _) (by omega)
      rw [q1] at this; cases this
    · exact hl
    · have := d _ g0 hl
      rw [g2, sLt_irr] at this; cases this
  refine ⟨h1, fun h => ?_, fun ⟨q0, q1⟩ => ?_⟩
  · have := h1 h
    obtain ⟨g0, g1, g2⟩ := gfind_at rfl h
    rw [this]; exact ⟨g1, g2⟩
  · have : gfind xs id = i := fstNot_some a q0 (fun hc => hc q1) (fun k k0 k1 => sLt_ne (d k k0 k1))
    omega
theorem bs_ex (xs : List D.Good) (id : ByteArray) : ∃ p : Int, GoodsOk xs → 0 ≤ p ∧ p ≤ xs.length ∧ (gfind xs id ≠ -1 → p = gfind xs id) ∧ ∀ i, BsI xs id i i → i = p := by
  by_cases hB : GoodsOk xs
  · by_cases hex : ∃ i, BsI xs id i i
    · obtain ⟨i, hi⟩ := hex
      refine ⟨i, fun _ => ⟨hi.1, hi.2.2.1, (bs_end hB hi).1, fun j hj => ?_⟩⟩
      obtain ⟨a, b, c, d, e⟩ := hi
      obtain ⟨a', b', c', d', e'⟩ := hj
      rcases Int.lt_trichotomy i j with hl | hl | hl
      · have q1 := d' i a hl
        have q2 := e i (Int.le_refl _) (by omega)
        rw [q1] at q2; cases q2
      · exact hl.symm
      · have q1 := d j a' hl
        have q2 := e' j (Int.le_refl _) (by omega)
        rw [q1] at q2; cases q2
    · by_cases hg : gfind xs id ≠ -1
      · obtain ⟨g0, g1, g2⟩ := gfind_at rfl hg
        exact ⟨gfind xs id, fun _ => ⟨g0, by omega, fun _ => rfl, fun i hi => absurd ⟨i, hi⟩ hex⟩⟩
      · exact ⟨0, fun _ => ⟨by omega, by omega, fun h => absurd h hg, fun i hi => absurd ⟨i, hi⟩ hex⟩⟩
  · exact ⟨0, fun h => absurd h hB⟩
noncomputable def gpos (xs : List D.Good) (id : ByteArray) : Int := Classical.choose (bs_ex xs id)
theorem gpos_at {xs : List D.Good} (hB : GoodsOk xs) (id : ByteArray) : 0 ≤ gpos xs id ∧ gpos xs id ≤ xs.length ∧ (gfind xs id ≠ -1 → gpos xs id = gfind xs id) ∧ ∀ i, BsI xs id i i → i = gpos xs id := Classical.choose_spec (bs_ex xs id) hB
def cGoodOf : Ct := fun args K => ∃ (xs : List D.Good) (id : ByteArray), args = [.view 4 (xs.map D.Good.enc), .str id] ∧ GoodsOk xs ∧ K [.p (I (gpos xs id)), .p (.bool (pB (gfind xs id ≠ -1)))]
def cGSearch (f : Nat) : Ct := fun args K => ∃ (xs : List D.Good) (id : ByteArray), args = [.view 4 (xs.map D.Good.enc), .str id, .clo f []] ∧ GoodsOk xs ∧ K [.p (I (gpos xs id)), .p (.bool (pB (gfind xs id ≠ -1)))]
end Go.Lo
namespace Go.Proofs.Ytkimakfnbafeoaa
open Go.Lo
attribute [local irreducible] W Wc

theorem h_cmpG : Holds Try.prog 200 (fun args K => ∃ (x : D.Good) (id : ByteArray), args = [.agg x.enc, .str id] ∧ K [.p (I (cmpS x.Id id))]) := by
  refine E.mk tt Try.func200 rfl Try.ntmps200 rfl (by kernel_rfl) ?_
  rintro _ K ⟨x, id, rfl, hK⟩
  refine ⟨Nat.le_of_ble_eq_true rfl, _, hK, ?_⟩
  (repeat' ((conv => whnf); first
    | refine Sd.mk (by first | omega | (unfold in64; omega) | (simp only [fitK, in64]; omega) | (simp only [fitK, in64, chunk, List.length_map, List.length_append, List.length_replicate, List.length_set, List.length_nil, List.length_cons]; omega)) ?_
    | refine Br.yes rfl ?_
    | refine Br.no rfl ?_
    | refine Br.yes (by first | (simp only [ltB_t, ltB_f, eqB_t, eqB_f, pB_t, pB_f, sEq_t, sEq_f, emp_iff, ne_eq, List.length_map, Bool.not_eq_true, Bool.not_eq_false, Bool.not_eq_eq_eq_not, Bool.not_true, Bool.not_false]; done) | (simp only [ltB_t, ltB_f, eqB_t, eqB_f, pB_t, pB_f, sEq_t, sEq_f, emp_iff, ne_eq, List.length_map, Bool.not_eq_true, Bool.not_eq_false, Bool.not_eq_eq_eq_not, Bool.not_true, Bool.not_false]; omega) | (simp only [ltB_t, ltB_f, eqB_t, eqB_f, pB_t, pB_f, sEq_t, sEq_f, emp_iff, ne_eq, List.length_map, Bool.not_eq_true, Bool.not_eq_false, Bool.not_eq_eq_eq_not, Bool.not_true, Bool.not_false]; assumption)) ?_
    | refine Br.no (by first | (simp only [ltB_t, ltB_f, eqB_t, eqB_f, pB_t, pB_f, sEq_t, sEq_f, emp_iff, ne_eq, List.length_map, Bool.not_eq_true, Bool.not_eq_false, Bool.not_eq_eq_eq_not, Bool.not_true, Bool.not_false]; done) | (simp only [ltB_t, ltB_f, eqB_t, eqB_f, pB_t, pB_f, sEq_t, sEq_f, emp_iff, ne_eq, List.length_map, Bool.not_eq_true, Bool.not_eq_false, Bool.not_eq_eq_eq_not, Bool.not_true, Bool.not_false]; omega) | (simp only [ltB_t, ltB_f, eqB_t, eqB_f, pB_t, pB_f, sEq_t, sEq_f, emp_iff, ne_eq, List.length_map, Bool.not_eq_true, Bool.not_eq_false, Bool.not_eq_eq_eq_not, Bool.not_true, Bool.not_false]; assumption)) ?_
    | (refine Br.mk ?_ ?_ <;> intro h <;> (try simp only [ltB_t, ltB_f, eqB_t, eqB_f, pB_t, pB_f, sEq_t, sEq_f, emp_iff, ne_eq, List.length_map, Bool.not_eq_true, Bool.not_eq_false, Bool.not_eq_eq_eq_not, Bool.not_true, Bool.not_false] at h))
    | refine Elt.mk rfl ?_
    | refine Elt.mk (by assumption) ?_
    | refine Elt.mk (ixE (by omega) (by omega)) ?_)) <;> (try (conv => whnf))
  all_goals (refine fin_p rfl ?_ rfl rfl; unfold cmpS; simp_all)
theorem h_bsG : Holds Try.prog 199 (cGSearch 200) := by
  refine E.mk tt Try.func199 rfl Try.ntmps199 rfl (by kernel_rfl) ?_
  rintro _ K ⟨xs, id, rfl, hB, hK⟩
  have hln : (xs.map D.Good.enc).length = xs.length := by simp
  have hle := hB.le
  obtain ⟨hp0, hp1, hp2, hp3⟩ := gpos_at hB id
  refine ⟨Nat.le_of_ble_eq_true rfl, _, hK, ?_⟩
  (repeat' ((conv => whnf); first
    | refine Sd.mk (by first | omega | (unfold in64; omega) | (simp only [fitK, in64]; omega) | (simp only [fitK, in64, chunk, List.length_map, List.length_append, List.length_replicate, List.length_set, List.length_nil, List.length_cons]; omega)) ?_
    | refine Br.yes rfl ?_
    | refine Br.no rfl ?_
    | refine Br.yes (by first | (simp only [ltB_t, ltB_f, eqB_t, eqB_f, pB_t, pB_f, sEq_t, sEq_f, emp_iff, ne_eq, List.length_map, Bool.not_eq_true, Bool.not_eq_false, Bool.not_eq_eq_eq_not, Bool.not_true, Bool.not_false]; done) | (simp only [ltB_t, ltB_f, eqB_t, eqB_f, pB_t, pB_f, sEq_t, sEq_f, emp_iff, ne_eq, List.length_map, Bool.not_eq_true, Bool.not_eq_false, Bool.not_eq_eq_eq_not, Bool.not_true, Bool.not_false]; omega) | (simp only [ltB_t, ltB_f, eqB_t, eqB_f, pB_t, pB_f, sEq_t, sEq_f, emp_iff, ne_eq, List.length_map, Bool.not_eq_true, Bool.not_eq_false, Bool.not_eq_eq_eq_not, Bool.not_true, Bool.not_false]; assumption)) ?_
    | refine Br.no (by first | (simp only [ltB_t, ltB_f, eqB_t, eqB_f, pB_t, pB_f, sEq_t, sEq_f, emp_iff, ne_eq, List.length_map, Bool.not_eq_true, Bool.not_eq_false, Bool.not_eq_eq_eq_not, Bool.not_true, Bool.not_false]; done) | (simp only [ltB_t, ltB_f, eqB_t, eqB_f, pB_t, pB_f, sEq_t, sEq_f, emp_iff, ne_eq, List.length_map, Bool.not_eq_true, Bool.not_eq_false, Bool.not_eq_eq_eq_not, Bool.not_true, Bool.not_false]; omega) | (simp only [ltB_t, ltB_f, eqB_t, eqB_f, pB_t, pB_f, sEq_t, sEq_f, emp_iff, ne_eq, List.length_map, Bool.not_eq_true, Bool.not_eq_false, Bool.not_eq_eq_eq_not, Bool.not_true, Bool.not_false]; assumption)) ?_
    | (refine Br.mk ?_ ?_ <;> intro h <;> (try simp only [ltB_t, ltB_f, eqB_t, eqB_f, pB_t, pB_f, sEq_t, sEq_f, emp_iff, ne_eq, List.length_map, Bool.not_eq_true, Bool.not_eq_false, Bool.not_eq_eq_eq_not, Bool.not_true, Bool.not_false] at h))
    | refine Ixv.mk (by omega) (ixE (by omega) (by omega)) ?_
    | refine Elt.mk rfl ?_
    | refine Elt.mk (by assumption) ?_
    | refine Elt.mk (ixE (by omega) (by omega)) ?_)) <;> (try (conv => whnf))
  refine E.loop tt (fun p : Int × Int => BsI xs id p.1 p.2) (fun p => ⟨49, 1, [(0, .p (.view 4 (xs.map D.Good.enc))), (1, .p (.str id)), (2, .p (.clo 200 [])), (8, .p (I xs.length)), (9, .p (I p.1)), (10, .p (I p.2))], []⟩) (fun p => (p.2 - p.1).toNat) (0, xs.length) ⟨by dsimp only; omega, by dsimp only; omega, by dsimp only; omega, fun k k0 k1 => by dsimp only at k1; omega, fun k k0 k1 => by dsimp only at k0; omega⟩ ⟨rfl, ⟨rfl, rfl, rfl, pI (by omega), rfl, pI (by dsimp only; omega), trivial⟩, trivial, rfl, rfl⟩ ?_
  rintro ⟨i, j⟩ hi
  dsimp only at hi
  have hi0 := hi.1
  have hi1 := hi.2.1
  have hi2 := hi.2.2.1
  rcases Int.lt_or_le i j with hlt | hge
  · have hb := cmpS_bd (ix xs ((i + j) / 2)).Id id
    (repeat' ((conv => whnf); first
    | refine Sd.mk (by first | omega | (unfold in64; omega) | (simp only [fitK, in64]; omega) | (simp only [fitK, in64, chunk, List.length_map, List.length_append, List.length_replicate, List.length_set, List.length_nil, List.length_cons]; omega)) ?_
    | refine Br.yes rfl ?_
    | refine Br.no rfl ?_
    | refine Br.yes (by first | (simp only [ltB_t, ltB_f, eqB_t, eqB_f, pB_t, pB_f, sEq_t, sEq_f, emp_iff, ne_eq, List.length_map, Bool.not_eq_true, Bool.not_eq_false, Bool.not_eq_eq_eq_not, Bool.not_true, Bool.not_false]; done) | (simp only [ltB_t, ltB_f, eqB_t, eqB_f, pB_t, pB_f, sEq_t, sEq_f, emp_iff, ne_eq, List.length_map, Bool.not_eq_true, Bool.not_eq_false, Bool.not_eq_eq_eq_not, Bool.not_true, Bool.not_false]; omega) | (simp only [ltB_t, ltB_f, eqB_t, eqB_f, pB_t, pB_f, sEq_t, sEq_f, emp_iff, ne_eq, List.length_map, Bool.not_eq_true, Bool.not_eq_false, Bool.not_eq_eq_eq_not, Bool.not_true, Bool.not_false]; assumption)) ?_
    | refine Br.no (by first | (simp only [ltB_t, ltB_f, eqB_t, eqB_f, pB_t, pB_f, sEq_t, sEq_f, emp_iff, ne_eq, List.length_map, Bool.not_eq_true, Bool.not_eq_false, Bool.not_eq_eq_eq_not, Bool.not_true, Bool.not_false]; done) | (simp only [ltB_t, ltB_f, eqB_t, eqB_f, pB_t, pB_f, sEq_t, sEq_f, emp_iff, ne_eq, List.length_map, Bool.not_eq_true, Bool.not_eq_false, Bool.not_eq_eq_eq_not, Bool.not_true, Bool.not_false]; omega) | (simp only [ltB_t, ltB_f, eqB_t, eqB_f, pB_t, pB_f, sEq_t, sEq_f, emp_iff, ne_eq, List.length_map, Bool.not_eq_true, Bool.not_eq_false, Bool.not_eq_eq_eq_not, Bool.not_true, Bool.not_false]; assumption)) ?_
    | (refine Br.mk ?_ ?_ <;> intro h <;> (try simp only [ltB_t, ltB_f, eqB_t, eqB_f, pB_t, pB_f, sEq_t, sEq_f, emp_iff, ne_eq, List.length_map, Bool.not_eq_true, Bool.not_eq_false, Bool.not_eq_eq_eq_not, Bool.not_true, Bool.not_false] at h))
    | refine Ixv.mk (by omega) (ixE (by omega) (by omega)) ?_
    | refine Elt.mk rfl ?_
    | refine Elt.mk (by assumption) ?_
    | refine Elt.mk (ixE (by omega) (by omega)) ?_
    | refine E.callV tt h_cmpG rfl rfl rfl ⟨_, _, rfl, _, _, rfl, rfl, ?_⟩)) <;> (try (conv => whnf))
    all_goals first
      | (refine ⟨((i + j) / 2 + 1, j), bs_lo (h := (i + j) / 2) hB hi (by omega) (by omega) (cmpS_lt.1 (by assumption)), by dsimp only; omega, ⟨rfl, ⟨rfl, rfl, rfl, rfl, rfl, rfl, trivial⟩, trivial, rfl, rfl⟩⟩)
      | (refine ⟨(i, (i + j) / 2), bs_hi (h := (i + j) / 2) hB hi (by omega) (by omega) (by rw [← Bool.not_eq_true, ← cmpS_lt]; omega), by dsimp only; omega, ⟨rfl, ⟨rfl, rfl, rfl, rfl, rfl, rfl, trivial⟩, trivial, rfl, rfl⟩⟩)
  · have hij : j = i := by omega
    subst hij
    have hpe := hp3 _ hi
    rw [← hpe]
    have hend := (bs_end hB hi).2
    rcases Int.lt_or_le j xs.length with hjl | hjg
    · (repeat' ((conv => whnf); first
    | refine Sd.mk (by first | omega | (unfold in64; omega) | (simp only [fitK, in64]; omega) | (simp only [fitK, in64, chunk, List.length_map, List.length_append, List.length_replicate, List.length_set, List.length_nil, List.length_cons]; omega)) ?_
    | refine Br.yes rfl ?_
    | refine Br.no rfl ?_
    | refine Br.yes (by first | (simp only [ltB_t, ltB_f, eqB_t, eqB_f, pB_t, pB_f, sEq_t, sEq_f, emp_iff, ne_eq, List.length_map, Bool.not_eq_true, Bool.not_eq_false, Bool.not_eq_eq_eq_not, Bool.not_true, Bool.not_false]; done) | (simp only [ltB_t, ltB_f, eqB_t, eqB_f, pB_t, pB_f, sEq_t, sEq_f, emp_iff, ne_eq, List.length_map, Bool.not_eq_true, Bool.not_eq_false, Bool.not_eq_eq_eq_not, Bool.not_true, Bool.not_false]; omega) | (simp only [ltB_t, ltB_f, eqB_t, eqB_f, pB_t, pB_f, sEq_t, sEq_f, emp_iff, ne_eq, List.length_map, Bool.not_eq_true, Bool.not_eq_false, Bool.not_eq_eq_eq_not, Bool.not_true, Bool.not_false]; assumption)) ?_
    | refine Br.no (by first | (simp only [ltB_t, ltB_f, eqB_t, eqB_f, pB_t, pB_f, sEq_t, sEq_f, emp_iff, ne_eq, List.length_map, Bool.not_eq_true, Bool.not_eq_false, Bool.not_eq_eq_eq_not, Bool.not_true, Bool.not_false]; done) | (simp only [ltB_t, ltB_f, eqB_t, eqB_f, pB_t, pB_f, sEq_t, sEq_f, emp_iff, ne_eq, List.length_map, Bool.not_eq_true, Bool.not_eq_false, Bool.not_eq_eq_eq_not, Bool.not_true, Bool.not_false]; omega) | (simp only [ltB_t, ltB_f, eqB_t, eqB_f, pB_t, pB_f, sEq_t, sEq_f, emp_iff, ne_eq, List.length_map, Bool.not_eq_true, Bool.not_eq_false, Bool.not_eq_eq_eq_not, Bool.not_true, Bool.not_false]; assumption)) ?_
    | (refine Br.mk ?_ ?_ <;> intro h <;> (try simp only [ltB_t, ltB_f, eqB_t, eqB_f, pB_t, pB_f, sEq_t, sEq_f, emp_iff, ne_eq, List.length_map, Bool.not_eq_true, Bool.not_eq_false, Bool.not_eq_eq_eq_not, Bool.not_true, Bool.not_false] at h))
    | refine Ixv.mk (by omega) (ixE (by omega) (by omega)) ?_
    | refine Elt.mk rfl ?_
    | refine Elt.mk (by assumption) ?_
    | refine Elt.mk (ixE (by omega) (by omega)) ?_
    | refine E.callV tt h_cmpG rfl rfl rfl ⟨_, _, rfl, _, _, rfl, rfl, ?_⟩)) <;> (try (conv => whnf))
      all_goals (refine fin_p rfl ?_ rfl rfl; congr 4; refine pB_eq ?_; rw [hend, eqB_t, cmpS_eq]; exact ⟨fun h => ⟨hjl, h⟩, fun h => h.2⟩)
    · (repeat' ((conv => whnf); first
    | refine Sd.mk (by first | omega | (unfold in64; omega) | (simp only [fitK, in64]; omega) | (simp only [fitK, in64, chunk, List.length_map, List.length_append, List.length_replicate, List.length_set, List.length_nil, List.length_cons]; omega)) ?_
    | refine Br.yes rfl ?_
    | refine Br.no rfl ?_
    | refine Br.yes (by first | (simp only [ltB_t, ltB_f, eqB_t, eqB_f, pB_t, pB_f, sEq_t, sEq_f, emp_iff, ne_eq, List.length_map, Bool.not_eq_true, Bool.not_eq_false, Bool.not_eq_eq_eq_not, Bool.not_true, Bool.not_false]; done) | (simp only [ltB_t, ltB_f, eqB_t, eqB_f, pB_t, pB_f, sEq_t, sEq_f, emp_iff, ne_eq, List.length_map, Bool.not_eq_true, Bool.not_eq_false, Bool.not_eq_eq_eq_not, Bool.not_true, Bool.not_false]; omega) | (simp only [ltB_t, ltB_f, eqB_t, eqB_f, pB_t, pB_f, sEq_t, sEq_f, emp_iff, ne_eq, List.length_map, Bool.not_eq_true, Bool.not_eq_false, Bool.not_eq_eq_eq_not, Bool.not_true, Bool.not_false]; assumption)) ?_
    | refine Br.no (by first | (simp only [ltB_t, ltB_f, eqB_t, eqB_f, pB_t, pB_f, sEq_t, sEq_f, emp_iff, ne_eq, List.length_map, Bool.not_eq_true, Bool.not_eq_false, Bool.not_eq_eq_eq_not, Bool.not_true, Bool.not_false]; done) | (simp only [ltB_t, ltB_f, eqB_t, eqB_f, pB_t, pB_f, sEq_t, sEq_f, emp_iff, ne_eq, List.length_map, Bool.not_eq_true, Bool.not_eq_false, Bool.not_eq_eq_eq_not, Bool.not_true, Bool.not_false]; omega) | (simp only [ltB_t, ltB_f, eqB_t, eqB_f, pB_t, pB_f, sEq_t, sEq_f, emp_iff, ne_eq, List.length_map, Bool.not_eq_true, Bool.not_eq_false, Bool.not_eq_eq_eq_not, Bool.not_true, Bool.not_false]; assumption)) ?_
    | (refine Br.mk ?_ ?_ <;> intro h <;> (try simp only [ltB_t, ltB_f, eqB_t, eqB_f, pB_t, pB_f, sEq_t, sEq_f, emp_iff, ne_eq, List.length_map, Bool.not_eq_true, Bool.not_eq_false, Bool.not_eq_eq_eq_not, Bool.not_true, Bool.not_false] at h))
    | refine Ixv.mk (by omega) (ixE (by omega) (by omega)) ?_
    | refine Elt.mk rfl ?_
    | refine Elt.mk (by assumption) ?_
    | refine Elt.mk (ixE (by omega) (by omega)) ?_)) <;> (try (conv => whnf))
      all_goals (refine fin_p rfl ?_ rfl rfl; congr 4; refine pB_eq ?_; rw [hend]; exact ⟨fun h => (by cases h), fun h => (by omega)⟩)

theorem h_goodOf : Holds Try.prog 152 cGoodOf := by
  refine E.mk tt Try.func152 rfl Try.ntmps152 rfl (by kernel_rfl) ?_
  rintro _ K ⟨xs, id, rfl, hB, hK⟩
  refine ⟨Nat.le_of_ble_eq_true rfl, _, hK, ?_⟩
  (repeat' ((conv => whnf); first
    | refine Sd.mk (by first | omega | (unfold in64; omega) | (simp only [fitK, in64]; omega) | (simp only [fitK, in64, chunk, List.length_map, List.length_append, List.length_replicate, List.length_set, List.length_nil, List.length_cons]; omega)) ?_
    | refine Br.yes rfl ?_
    | refine Br.no rfl ?_
    | refine Br.yes (by first | (simp only [ltB_t, ltB_f, eqB_t, eqB_f, pB_t, pB_f, sEq_t, sEq_f, emp_iff, ne_eq, List.length_map, Bool.not_eq_true, Bool.not_eq_false, Bool.not_eq_eq_eq_not, Bool.not_true, Bool.not_false]; done) | (simp only [ltB_t, ltB_f, eqB_t, eqB_f, pB_t, pB_f, sEq_t, sEq_f, emp_iff, ne_eq, List.length_map, Bool.not_eq_true, Bool.not_eq_false, Bool.not_eq_eq_eq_not, Bool.not_true, Bool.not_false]; omega) | (simp only [ltB_t, ltB_f, eqB_t, eqB_f, pB_t, pB_f, sEq_t, sEq_f, emp_iff, ne_eq, List.length_map, Bool.not_eq_true, Bool.not_eq_false, Bool.not_eq_eq_eq_not, Bool.not_true, Bool.not_false]; assumption)) ?_
    | refine Br.no (by first | (simp only [ltB_t, ltB_f, eqB_t, eqB_f, pB_t, pB_f, sEq_t, sEq_f, emp_iff, ne_eq, List.length_map, Bool.not_eq_true, Bool.not_eq_false, Bool.not_eq_eq_eq_not, Bool.not_true, Bool.not_false]; done) | (simp only [ltB_t, ltB_f, eqB_t, eqB_f, pB_t, pB_f, sEq_t, sEq_f, emp_iff, ne_eq, List.length_map, Bool.not_eq_true, Bool.not_eq_false, Bool.not_eq_eq_eq_not, Bool.not_true, Bool.not_false]; omega) | (simp only [ltB_t, ltB_f, eqB_t, eqB_f, pB_t, pB_f, sEq_t, sEq_f, emp_iff, ne_eq, List.length_map, Bool.not_eq_true, Bool.not_eq_false, Bool.not_eq_eq_eq_not, Bool.not_true, Bool.not_false]; assumption)) ?_
    | (refine Br.mk ?_ ?_ <;> intro h <;> (try simp only [ltB_t, ltB_f, eqB_t, eqB_f, pB_t, pB_f, sEq_t, sEq_f, emp_iff, ne_eq, List.length_map, Bool.not_eq_true, Bool.not_eq_false, Bool.not_eq_eq_eq_not, Bool.not_true, Bool.not_false] at h))
    | refine Elt.mk rfl ?_
    | refine Elt.mk (by assumption) ?_
    | refine Elt.mk (ixE (by omega) (by omega)) ?_
    | refine E.callR tt h_bsG rfl rfl ⟨_, _, rfl, by assumption, .inr (allSc_ok _ rfl), ?_⟩)) <;> (try (conv => whnf))
  all_goals (exact fin_p rfl rfl rfl rfl)

theorem h_l26Find : Holds Try.prog 148 (fun args K => ∃ (xs : List D.Good) (id : ByteArray), args = [.view 4 (xs.map D.Good.enc), .str id] ∧ (xs.length : Int) ≤ 1048576 ∧ K [.p (I (gfind xs id))]) := by
  refine E.mk tt Try.func148 rfl Try.ntmps148 rfl (by kernel_rfl) ?_
  rintro _ K ⟨xs, id, rfl, hl, hK⟩
  have hln : (xs.map D.Good.enc).length = xs.length := by simp
  refine ⟨Nat.le_of_ble_eq_true rfl, _, hK, ?_⟩
  (repeat' ((conv => whnf); first
    | refine Sd.mk (by first | omega | (unfold in64; omega) | (simp only [fitK, in64]; omega) | (simp only [fitK, in64, chunk, List.length_map, List.length_append, List.length_replicate, List.length_set, List.length_nil, List.length_cons]; omega)) ?_
    | refine Br.yes rfl ?_
    | refine Br.no rfl ?_
    | refine Br.yes (by first | (simp only [ltB_t, ltB_f, eqB_t, eqB_f, pB_t, pB_f, sEq_t, sEq_f, emp_iff, ne_eq, List.length_map, Bool.not_eq_true, Bool.not_eq_false, Bool.not_eq_eq_eq_not, Bool.not_true, Bool.not_false]; done) | (simp only [ltB_t, ltB_f, eqB_t, eqB_f, pB_t, pB_f, sEq_t, sEq_f, emp_iff, ne_eq, List.length_map, Bool.not_eq_true, Bool.not_eq_false, Bool.not_eq_eq_eq_not, Bool.not_true, Bool.not_false]; omega) | (simp only [ltB_t, ltB_f, eqB_t, eqB_f, pB_t, pB_f, sEq_t, sEq_f, emp_iff, ne_eq, List.length_map, Bool.not_eq_true, Bool.not_eq_false, Bool.not_eq_eq_eq_not, Bool.not_true, Bool.not_false]; assumption)) ?_
    | refine Br.no (by first | (simp only [ltB_t, ltB_f, eqB_t, eqB_f, pB_t, pB_f, sEq_t, sEq_f, emp_iff, ne_eq, List.length_map, Bool.not_eq_true, Bool.not_eq_false, Bool.not_eq_eq_eq_not, Bool.not_true, Bool.not_false]; done) | (simp only [ltB_t, ltB_f, eqB_t, eqB_f, pB_t, pB_f, sEq_t, sEq_f, emp_iff, ne_eq, List.length_map, Bool.not_eq_true, Bool.not_eq_false, Bool.not_eq_eq_eq_not, Bool.not_true, Bool.not_false]; omega) | (simp only [ltB_t, ltB_f, eqB_t, eqB_f, pB_t, pB_f, sEq_t, sEq_f, emp_iff, ne_eq, List.length_map, Bool.not_eq_true, Bool.not_eq_false, Bool.not_eq_eq_eq_not, Bool.not_true, Bool.not_false]; assumption)) ?_
    | (refine Br.mk ?_ ?_ <;> intro h <;> (try simp only [ltB_t, ltB_f, eqB_t, eqB_f, pB_t, pB_f, sEq_t, sEq_f, emp_iff, ne_eq, List.length_map, Bool.not_eq_true, Bool.not_eq_false, Bool.not_eq_eq_eq_not, Bool.not_true, Bool.not_false] at h))
    | refine Ixv.mk (by omega) (ixE (by omega) (by omega)) ?_
    | refine Elt.mk rfl ?_
    | refine Elt.mk (by assumption) ?_
    | refine Elt.mk (ixE (by omega) (by omega)) ?_)) <;> (try (conv => whnf))
  refine E.loop tt (fun i : Int => 0 ≤ i ∧ i ≤ xs.length ∧ allTo (fun i => (ix xs i).Id ≠ id) i) (fun i => ⟨20, 1, [(0, .p (.view 4 (xs.map D.Good.enc))), (1, .p (.str id)), (5, .p (I i))], []⟩) (fun i => (xs.length - i).toNat) 0 ⟨by omega, by omega, allTo_zero _⟩ ⟨rfl, ⟨rfl, rfl, rfl, trivial⟩, trivial, rfl, rfl⟩ ?_
  rintro i ⟨hi0, hi1, hinv⟩
  (repeat' ((conv => whnf); first
    | refine Sd.mk (by first | omega | (unfold in64; omega) | (simp only [fitK, in64]; omega) | (simp only [fitK, in64, chunk, List.length_map, List.length_append, List.length_replicate, List.length_set, List.length_nil, List.length_cons]; omega)) ?_
    | refine Br.yes rfl ?_
    | refine Br.no rfl ?_
    | refine Br.yes (by first | (simp only [ltB_t, ltB_f, eqB_t, eqB_f, pB_t, pB_f, sEq_t, sEq_f, emp_iff, ne_eq, List.length_map, Bool.not_eq_true, Bool.not_eq_false, Bool.not_eq_eq_eq_not, Bool.not_true, Bool.not_false]; done) | (simp only [ltB_t, ltB_f, eqB_t, eqB_f, pB_t, pB_f, sEq_t, sEq_f, emp_iff, ne_eq, List.length_map, Bool.not_eq_true, Bool.not_eq_false, Bool.not_eq_eq_eq_not, Bool.not_true, Bool.not_false]; omega) | (simp only [ltB_t, ltB_f, eqB_t, eqB_f, pB_t, pB_f, sEq_t, sEq_f, emp_iff, ne_eq, List.length_map, Bool.not_eq_true, Bool.not_eq_false, Bool.not_eq_eq_eq_not, Bool.not_true, Bool.not_false]; assumption)) ?_
    | refine Br.no (by first | (simp only [ltB_t, ltB_f, eqB_t, eqB_f, pB_t, pB_f, sEq_t, sEq_f, emp_iff, ne_eq, List.length_map, Bool.not_eq_true, Bool.not_eq_false, Bool.not_eq_eq_eq_not, Bool.not_true, Bool.not_false]; done) | (simp only [ltB_t, ltB_f, eqB_t, eqB_f, pB_t, pB_f, sEq_t, sEq_f, emp_iff, ne_eq, List.length_map, Bool.not_eq_true, Bool.not_eq_false, Bool.not_eq_eq_eq_not, Bool.not_true, Bool.not_false]; omega) | (simp only [ltB_t, ltB_f, eqB_t, eqB_f, pB_t, pB_f, sEq_t, sEq_f, emp_iff, ne_eq, List.length_map, Bool.not_eq_true, Bool.not_eq_false, Bool.not_eq_eq_eq_not, Bool.not_true, Bool.not_false]; assumption)) ?_
    | (refine Br.mk ?_ ?_ <;> intro h <;> (try simp only [ltB_t, ltB_f, eqB_t, eqB_f, pB_t, pB_f, sEq_t, sEq_f, emp_iff, ne_eq, List.length_map, Bool.not_eq_true, Bool.not_eq_false, Bool.not_eq_eq_eq_not, Bool.not_true, Bool.not_false] at h))
    | refine Ixv.mk (by omega) (ixE (by omega) (by omega)) ?_
    | refine Elt.mk rfl ?_
    | refine Elt.mk (by assumption) ?_
    | refine Elt.mk (ixE (by omega) (by omega)) ?_)) <;> (try (conv => whnf))
  all_goals first
    | (refine ⟨i + 1, ⟨by omega, by omega, allTo_succ hinv (by assumption)⟩, by dsimp only; omega, ⟨rfl, ⟨rfl, rfl, rfl, trivial⟩, trivial, rfl, rfl⟩⟩)
    | (refine fin_p rfl ?_ rfl rfl; congr 3; unfold gfind; first
        | (rw [fstNot_some hi0 (by omega) (fun h => h (by assumption)) hinv])
        | (rw [fstNot_none (allTo_le hinv (by omega))]))


end Go.Proofs.Ytkimakfnbafeoaa
