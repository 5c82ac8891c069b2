/- Contracts (Vis). -/
import Derived.Test.YtkimakfnbafeoaaTyVisit
import Derived.Test.YtkimakfnbafeoaaLs
set_option linter.unusedVariables false
set_option linter.unusedSimpArgs false
set_option maxRecDepth 100000
namespace Go.Lo
-- deps: TyVisit Ls
/-- The visits of one customer. -/
def ofV (xs : List D.Visit) (s : ByteArray) : List D.Visit := xs.filter fun x => sEq x.Who s
theorem ofV_succ {xs : List D.Visit} (s : ByteArray) {i : Int} (h0 : 0 ≤ i) (h1 : i < xs.length) : ofV (xs.take (i + 1).toNat) s = ofV (xs.take i.toNat) s ++ (bif sEq (ix xs i).Who s then [ix xs i] else []) := by
  have hi : i.toNat < xs.length := by omega
  have he : ix xs i = xs[i.toNat] := by simp [ix, hi]
  unfold ofV
  rw [show (i + 1).toNat = i.toNat + 1 by omega, List.take_succ_eq_append_getElem hi, List.filter_append, he]
  cases h : sEq xs[i.toNat].Who s <;> simp [h]
theorem ofV_yes {xs : List D.Visit} {s : ByteArray} {i : Int} (h0 : 0 ≤ i) (h1 : i < xs.length) (h : (ix xs i).Who = s) : ofV (xs.take (i + 1).toNat) s = ofV (xs.take i.toNat) s ++ [ix xs i] := by
  rw [ofV_succ s h0 h1, sEq_t.2 h]; rfl
theorem ofV_no {xs : List D.Visit} {s : ByteArray} {i : Int} (h0 : 0 ≤ i) (h1 : i < xs.length) (h : (ix xs i).Who ≠ s) : ofV (xs.take (i + 1).toNat) s = ofV (xs.take i.toNat) s := by
  rw [ofV_succ s h0 h1, sEq_f.2 h]; simp
theorem ofV_all {xs : List D.Visit} {s : ByteArray} {k : Nat} (h : allTo (fun i => (ix xs i).Who = s) k) (hk : k ≤ xs.length) : ofV (xs.take k) s = xs.take k := by
  unfold ofV
  rw [List.filter_eq_self]
  intro x hx
  obtain ⟨n, hn, rfl⟩ := List.mem_iff_getElem.1 hx
  have hn' : n < k := by simp at hn; omega
  have := h n (by omega) (by omega)
  dsimp only at this
  rw [ix_get (by omega)] at this
  rw [List.getElem_take]
  exact sEq_t.2 this
theorem ofV_len (xs : List D.Visit) (s : ByteArray) : (ofV xs s).length ≤ xs.length := List.length_filter_le _ _
theorem ofV_mem {xs : List D.Visit} {s : ByteArray} {x : D.Visit} (h : x ∈ ofV xs s) : x ∈ xs ∧ x.Who = s := by
  unfold ofV at h
  rw [List.mem_filter] at h
  exact ⟨h.1, sEq_t.1 h.2⟩
theorem ix_app {α : Type} [Inhabited α] {xs : List α} {y : α} {j : Int} (h0 : 0 ≤ j) (h1 : j < xs.length) : ix (xs ++ [y]) j = ix xs j := by
  have hi : j.toNat < xs.length := by omega
  simp [ix, List.getElem?_append_left hi]
theorem ix_snoc {α : Type} [Inhabited α] {xs : List α} {y : α} : ix (xs ++ [y]) (xs.length : Int) = y := by simp [ix]
/-- What DeleteFunc has at hand in its round: the kept ones in front, the rest as it was. -/
structure DelI (xs : List D.Visit) (s : ByteArray) (i j : Int) (el : List D.Visit) : Prop where
  i0 : 0 ≤ i
  ij : i < j
  jn : j ≤ xs.length
  len : el.length = xs.length
  front : el.take i.toNat = ofV (xs.take j.toNat) s
  back : ∀ k, j ≤ k → k < xs.length → ix el k = ix xs k
theorem DelI.start {xs : List D.Visit} {s : ByteArray} {i : Int} (h0 : 0 ≤ i) (h1 : i < xs.length) (hq : ¬ (ix xs i).Who = s) (ha : allTo (fun i => (ix xs i).Who = s) i) : DelI xs s i (i + 1) xs :=
  ⟨h0, by omega, by omega, rfl, by rw [ofV_no h0 h1 hq, ofV_all (by rw [show ((i.toNat : Nat) : Int) = i by omega]; exact ha) (by omega)], fun k _ _ => rfl⟩
theorem DelI.skip {xs el : List D.Visit} {s : ByteArray} {i j : Int} (h : DelI xs s i j el) (h1 : j < xs.length) (hq : ¬ (ix xs j).Who = s) : DelI xs s i (j + 1) el :=
  ⟨h.i0, by have := h.ij; omega, by omega, h.len, by rw [ofV_no (by have := h.i0; have := h.ij; omega) h1 hq]; exact h.front, fun k a b => h.back k (by omega) b⟩
theorem DelI.keep {xs el : List D.Visit} {s : ByteArray} {i j : Int} (h : DelI xs s i j el) (h1 : j < xs.length) (hq : (ix xs j).Who = s) : DelI xs s (i + 1) (j + 1) (el.set i.toNat (ix xs j)) := by
  have hi := h.i0
  have hij := h.ij
  have hl := h.len
  have hlt : i.toNat < el.length := by omega
  refine ⟨by omega, by omega, by omega, by simpa using hl, ?_, fun k a b => ?_⟩
  · rw [ofV_yes (by omega) h1 hq, ← h.front, show (i + 1).toNat = i.toNat + 1 by omega, List.take_succ_eq_append_getElem (by simpa using hlt), List.getElem_set_self, List.take_set_of_le (Nat.le_refl _)]
  · rw [← h.back k (by omega) b]
    unfold ix
    simp only [List.getD_eq_getElem?_getD]
    rw [List.getElem?_set_ne (by omega)]
theorem DelI.fin {xs el : List D.Visit} {s : ByteArray} {i : Int} (h : DelI xs s i xs.length el) : el.take i.toNat = ofV xs s := by
  have := h.front
  simpa using this
/-- What a customer has spent. -/
def spV (xs : List D.Visit) (s : ByteArray) : Int := sumTo (fun j => (ix (ofV xs s) j).Amount) (ofV xs s).length
theorem spV_snoc (ys : List D.Visit) (y : D.Visit) : sumTo (fun j => (ix (ys ++ [y]) j).Amount) (ys ++ [y]).length = sumTo (fun j => (ix ys j).Amount) ys.length + y.Amount := by
  rw [List.length_append, List.length_singleton, show ((ys.length + 1 : Nat) : Int) = (ys.length : Int) + 1 by omega, sumTo_succ (by omega), ix_snoc]
  congr 1
  exact sumTo_congr (fun i a b => by rw [ix_app a b])
theorem spV_succ {xs : List D.Visit} {s : ByteArray} {i : Int} (h0 : 0 ≤ i) (h1 : i < xs.length) : ((ix xs i).Who = s → spV (xs.take (i + 1).toNat) s = spV (xs.take i.toNat) s + (ix xs i).Amount) ∧ ((ix xs i).Who ≠ s → spV (xs.take (i + 1).toNat) s = spV (xs.take i.toNat) s) := by
  unfold spV
  constructor
  · intro h
    rw [ofV_yes h0 h1 h, spV_snoc]
  · intro h
    rw [ofV_no h0 h1 h]
theorem spV_bd {xs : List D.Visit} (h : VisitsOk xs) (s : ByteArray) : ∀ {ys : List D.Visit}, (∀ y ∈ ys, y ∈ xs) → ∀ {i : Int}, 0 ≤ i → i ≤ ys.length → 0 ≤ sumTo (fun j => (ix ys j).Amount) i ∧ sumTo (fun j => (ix ys j).Amount) i ≤ 10000000 * i := by
  intro ys hy i h0 h1
  have := sumTo_bd (f := fun j => (ix ys j).Amount) (lo := 0) (hi := 10000000) (N := ys.length) (fun j a b => by
    have := h.mem _ (hy _ (ix_mem a b))
    unfold VisitOk at this
    omega) h0 h1
  omega
theorem spV_bd2 {xs : List D.Visit} (h : VisitsOk xs) (s : ByteArray) (i : Int) (h0 : 0 ≤ i) (h1 : i ≤ xs.length) : 0 ≤ spV (xs.take i.toNat) s ∧ spV (xs.take i.toNat) s ≤ 320000000 := by
  have hl := ofV_len (xs.take i.toNat) s
  have hle := h.le
  have hl2 : (xs.take i.toNat).length ≤ xs.length := by simp; omega
  have := spV_bd h s (ys := ofV (xs.take i.toNat) s) (fun y hy => List.mem_of_mem_take (ofV_mem hy).1) (i := (ofV (xs.take i.toNat) s).length) (by omega) (by omega)
  unfold spV
  omega
theorem spV_bd3 {xs : List D.Visit} (h : VisitsOk xs) (s : ByteArray) : 0 ≤ spV xs s ∧ spV xs s ≤ 320000000 := by
  have := spV_bd2 h s xs.length (by omega) (by omega)
  simpa using this
end Go.Lo
namespace Go.Proofs.Ytkimakfnbafeoaa
open Go.Lo
attribute [local irreducible] W Wc

theorem h_isWho : Holds Try.prog 179 (fun args K => ∃ (x : D.Visit) (s : ByteArray), args = [.agg x.enc, .ref [.str s]] ∧ K [.p (.bool (!sEq x.Who s))]) := by
  refine E.mk tt Try.func179 rfl Try.ntmps179 rfl (by kernel_rfl) ?_
  rintro _ K ⟨x, s, rfl, hK⟩
  refine ⟨Nat.le_of_ble_eq_true rfl, _, hK, ?_⟩
  (repeat' ((conv => whnf); first
    | refine Sd.mk (by first | omega | (unfold in64; omega) | (simp only [fitK, in64]; omega) | (simp only [fitK, in64, chunk, List.length_map, List.length_append, List.length_replicate, List.length_set, List.length_nil, List.length_cons]; omega)) ?_
    | refine Br.yes rfl ?_
    | refine Br.no rfl ?_
    | refine Br.yes (by first | (simp only [ltB_t, ltB_f, eqB_t, eqB_f, pB_t, pB_f, sEq_t, sEq_f, emp_iff, ne_eq, List.length_map, Bool.not_eq_true, Bool.not_eq_false, Bool.not_eq_eq_eq_not, Bool.not_true, Bool.not_false]; done) | (simp only [ltB_t, ltB_f, eqB_t, eqB_f, pB_t, pB_f, sEq_t, sEq_f, emp_iff, ne_eq, List.length_map, Bool.not_eq_true, Bool.not_eq_false, Bool.not_eq_eq_eq_not, Bool.not_true, Bool.not_false]; omega) | (simp only [ltB_t, ltB_f, eqB_t, eqB_f, pB_t, pB_f, sEq_t, sEq_f, emp_iff, ne_eq, List.length_map, Bool.not_eq_true, Bool.not_eq_false, Bool.not_eq_eq_eq_not, Bool.not_true, Bool.not_false]; assumption)) ?_
    | refine Br.no (by first | (simp only [ltB_t, ltB_f, eqB_t, eqB_f, pB_t, pB_f, sEq_t, sEq_f, emp_iff, ne_eq, List.length_map, Bool.not_eq_true, Bool.not_eq_false, Bool.not_eq_eq_eq_not, Bool.not_true, Bool.not_false]; done) | (simp only [ltB_t, ltB_f, eqB_t, eqB_f, pB_t, pB_f, sEq_t, sEq_f, emp_iff, ne_eq, List.length_map, Bool.not_eq_true, Bool.not_eq_false, Bool.not_eq_eq_eq_not, Bool.not_true, Bool.not_false]; omega) | (simp only [ltB_t, ltB_f, eqB_t, eqB_f, pB_t, pB_f, sEq_t, sEq_f, emp_iff, ne_eq, List.length_map, Bool.not_eq_true, Bool.not_eq_false, Bool.not_eq_eq_eq_not, Bool.not_true, Bool.not_false]; assumption)) ?_
    | (refine Br.mk ?_ ?_ <;> intro h <;> (try simp only [ltB_t, ltB_f, eqB_t, eqB_f, pB_t, pB_f, sEq_t, sEq_f, emp_iff, ne_eq, List.length_map, Bool.not_eq_true, Bool.not_eq_false, Bool.not_eq_eq_eq_not, Bool.not_true, Bool.not_false] at h))
    | refine Elt.mk rfl ?_
    | refine Elt.mk (by assumption) ?_
    | refine Elt.mk (ixE (by omega) (by omega)) ?_)) <;> (try (conv => whnf))
  all_goals (exact fin_p rfl rfl rfl rfl)
theorem h_idxV : Holds Try.prog 211 (fun args K => ∃ (xs : List D.Visit) (s : ByteArray), args = [.view 4 (xs.map D.Visit.enc), .clo 179 [.ref [.str s]]] ∧ (xs.length : Int) ≤ 1048576 ∧ K [.p (I (fstNot (fun i => (ix xs i).Who = s) xs.length))]) := by
  refine E.mk tt Try.func211 rfl Try.ntmps211 rfl (by kernel_rfl) ?_
  rintro _ K ⟨xs, s, rfl, hl, hK⟩
  have hln : (xs.map D.Visit.enc).length = xs.length := by simp
  refine ⟨Nat.le_of_ble_eq_true rfl, _, hK, ?_⟩
  (repeat' ((conv => whnf); first
    | refine Sd.mk (by first | omega | (unfold in64; omega) | (simp only [fitK, in64]; omega) | (simp only [fitK, in64, chunk, List.length_map, List.length_append, List.length_replicate, List.length_set, List.length_nil, List.length_cons]; omega)) ?_
    | refine Br.yes rfl ?_
    | refine Br.no rfl ?_
    | refine Br.yes (by first | (simp only [ltB_t, ltB_f, eqB_t, eqB_f, pB_t, pB_f, sEq_t, sEq_f, emp_iff, ne_eq, List.length_map, Bool.not_eq_true, Bool.not_eq_false, Bool.not_eq_eq_eq_not, Bool.not_true, Bool.not_false]; done) | (simp only [ltB_t, ltB_f, eqB_t, eqB_f, pB_t, pB_f, sEq_t, sEq_f, emp_iff, ne_eq, List.length_map, Bool.not_eq_true, Bool.not_eq_false, Bool.not_eq_eq_eq_not, Bool.not_true, Bool.not_false]; omega) | (simp only [ltB_t, ltB_f, eqB_t, eqB_f, pB_t, pB_f, sEq_t, sEq_f, emp_iff, ne_eq, List.length_map, Bool.not_eq_true, Bool.not_eq_false, Bool.not_eq_eq_eq_not, Bool.not_true, Bool.not_false]; assumption)) ?_
    | refine Br.no (by first | (simp only [ltB_t, ltB_f, eqB_t, eqB_f, pB_t, pB_f, sEq_t, sEq_f, emp_iff, ne_eq, List.length_map, Bool.not_eq_true, Bool.not_eq_false, Bool.not_eq_eq_eq_not, Bool.not_true, Bool.not_false]; done) | (simp only [ltB_t, ltB_f, eqB_t, eqB_f, pB_t, pB_f, sEq_t, sEq_f, emp_iff, ne_eq, List.length_map, Bool.not_eq_true, Bool.not_eq_false, Bool.not_eq_eq_eq_not, Bool.not_true, Bool.not_false]; omega) | (simp only [ltB_t, ltB_f, eqB_t, eqB_f, pB_t, pB_f, sEq_t, sEq_f, emp_iff, ne_eq, List.length_map, Bool.not_eq_true, Bool.not_eq_false, Bool.not_eq_eq_eq_not, Bool.not_true, Bool.not_false]; assumption)) ?_
    | (refine Br.mk ?_ ?_ <;> intro h <;> (try simp only [ltB_t, ltB_f, eqB_t, eqB_f, pB_t, pB_f, sEq_t, sEq_f, emp_iff, ne_eq, List.length_map, Bool.not_eq_true, Bool.not_eq_false, Bool.not_eq_eq_eq_not, Bool.not_true, Bool.not_false] at h))
    | refine Ixv.mk (by omega) (ixE (by omega) (by omega)) ?_
    | refine Elt.mk rfl ?_
    | refine Elt.mk (by assumption) ?_
    | refine Elt.mk (ixE (by omega) (by omega)) ?_)) <;> (try (conv => whnf))
  refine E.loop tt (fun i : Int => 0 ≤ i ∧ i ≤ xs.length ∧ allTo (fun i => (ix xs i).Who = s) i) (fun i => ⟨19, 1, [(0, .p (.view 4 (xs.map D.Visit.enc))), (1, .p (.clo 179 [.ref [.str s]])), (7, .p (I xs.length)), (8, .p (I i))], []⟩) (fun i => (xs.length - i).toNat) 0 ⟨by omega, by omega, allTo_zero _⟩ ⟨rfl, ⟨rfl, rfl, pI (by omega), rfl, trivial⟩, trivial, rfl, rfl⟩ ?_
  rintro i ⟨hi0, hi1, hinv⟩
  (repeat' ((conv => whnf); first
    | refine Sd.mk (by first | omega | (unfold in64; omega) | (simp only [fitK, in64]; omega) | (simp only [fitK, in64, chunk, List.length_map, List.length_append, List.length_replicate, List.length_set, List.length_nil, List.length_cons]; omega)) ?_
    | refine Br.yes rfl ?_
    | refine Br.no rfl ?_
    | refine Br.yes (by first | (simp only [ltB_t, ltB_f, eqB_t, eqB_f, pB_t, pB_f, sEq_t, sEq_f, emp_iff, ne_eq, List.length_map, Bool.not_eq_true, Bool.not_eq_false, Bool.not_eq_eq_eq_not, Bool.not_true, Bool.not_false]; done) | (simp only [ltB_t, ltB_f, eqB_t, eqB_f, pB_t, pB_f, sEq_t, sEq_f, emp_iff, ne_eq, List.length_map, Bool.not_eq_true, Bool.not_eq_false, Bool.not_eq_eq_eq_not, Bool.not_true, Bool.not_false]; omega) | (simp only [ltB_t, ltB_f, eqB_t, eqB_f, pB_t, pB_f, sEq_t, sEq_f, emp_iff, ne_eq, List.length_map, Bool.not_eq_true, Bool.not_eq_false, Bool.not_eq_eq_eq_not, Bool.not_true, Bool.not_false]; assumption)) ?_
    | refine Br.no (by first | (simp only [ltB_t, ltB_f, eqB_t, eqB_f, pB_t, pB_f, sEq_t, sEq_f, emp_iff, ne_eq, List.length_map, Bool.not_eq_true, Bool.not_eq_false, Bool.not_eq_eq_eq_not, Bool.not_true, Bool.not_false]; done) | (simp only [ltB_t, ltB_f, eqB_t, eqB_f, pB_t, pB_f, sEq_t, sEq_f, emp_iff, ne_eq, List.length_map, Bool.not_eq_true, Bool.not_eq_false, Bool.not_eq_eq_eq_not, Bool.not_true, Bool.not_false]; omega) | (simp only [ltB_t, ltB_f, eqB_t, eqB_f, pB_t, pB_f, sEq_t, sEq_f, emp_iff, ne_eq, List.length_map, Bool.not_eq_true, Bool.not_eq_false, Bool.not_eq_eq_eq_not, Bool.not_true, Bool.not_false]; assumption)) ?_
    | (refine Br.mk ?_ ?_ <;> intro h <;> (try simp only [ltB_t, ltB_f, eqB_t, eqB_f, pB_t, pB_f, sEq_t, sEq_f, emp_iff, ne_eq, List.length_map, Bool.not_eq_true, Bool.not_eq_false, Bool.not_eq_eq_eq_not, Bool.not_true, Bool.not_false] at h))
    | refine Ixv.mk (by omega) (ixE (by omega) (by omega)) ?_
    | refine Elt.mk rfl ?_
    | refine Elt.mk (by assumption) ?_
    | refine Elt.mk (ixE (by omega) (by omega)) ?_
    | refine E.callV tt h_isWho rfl rfl rfl ⟨_, _, rfl, _, _, rfl, rfl, ?_⟩)) <;> (try (conv => whnf))
  all_goals first
    | (refine ⟨i + 1, ⟨by omega, by omega, allTo_succ hinv (by first | assumption | simp_all)⟩, by dsimp only; omega, ⟨rfl, ⟨rfl, rfl, rfl, rfl, trivial⟩, trivial, rfl, rfl⟩⟩)
    | (refine fin_p rfl ?_ rfl rfl; congr 3; first
        | (rw [fstNot_some hi0 (by omega) (by first | assumption | simp_all) hinv])
        | (rw [fstNot_none (allTo_le hinv (by omega))]))

theorem h_delV : MHolds Try.prog 177 (fun r args K => ∃ (xs : List D.Visit) (s : ByteArray), r = ⟨120, 4, xs.map D.Visit.enc⟩ ∧ args = [.clo 179 [.ref [.str s]]] ∧ (xs.length : Int) ≤ 1048576 ∧ K ⟨120, 4, (ofV xs s).map D.Visit.enc⟩ .self) := by
  refine E.mkW tt Try.func177 rfl Try.ntmps177 rfl (by kernel_rfl) ?_
  rintro _ _ K ⟨xs, s, rfl, rfl, hl, hK⟩
  have hln : (xs.map D.Visit.enc).length = xs.length := by simp
  refine ⟨Nat.le_of_ble_eq_true rfl, _, hK, ?_⟩
  rcases fstNot_cases (fun i => (ix xs i).Who = s) xs.length with ⟨hf, ha⟩ | ⟨h0, h1, h2, h3⟩
  · (repeat' ((conv => whnf); first
    | refine Sd.mk (by first | omega | (unfold in64; omega) | (simp only [fitK, in64]; omega) | (simp only [fitK, in64, chunk, List.length_map, List.length_append, List.length_replicate, List.length_set, List.length_nil, List.length_cons]; omega)) ?_
    | refine Br.yes rfl ?_
    | refine Br.no rfl ?_
    | refine Br.yes (by first | (simp only [ltB_t, ltB_f, eqB_t, eqB_f, pB_t, pB_f, sEq_t, sEq_f, emp_iff, ne_eq, List.length_map, Bool.not_eq_true, Bool.not_eq_false, Bool.not_eq_eq_eq_not, Bool.not_true, Bool.not_false]; done) | (simp only [ltB_t, ltB_f, eqB_t, eqB_f, pB_t, pB_f, sEq_t, sEq_f, emp_iff, ne_eq, List.length_map, Bool.not_eq_true, Bool.not_eq_false, Bool.not_eq_eq_eq_not, Bool.not_true, Bool.not_false]; omega) | (simp only [ltB_t, ltB_f, eqB_t, eqB_f, pB_t, pB_f, sEq_t, sEq_f, emp_iff, ne_eq, List.length_map, Bool.not_eq_true, Bool.not_eq_false, Bool.not_eq_eq_eq_not, Bool.not_true, Bool.not_false]; assumption)) ?_
    | refine Br.no (by first | (simp only [ltB_t, ltB_f, eqB_t, eqB_f, pB_t, pB_f, sEq_t, sEq_f, emp_iff, ne_eq, List.length_map, Bool.not_eq_true, Bool.not_eq_false, Bool.not_eq_eq_eq_not, Bool.not_true, Bool.not_false]; done) | (simp only [ltB_t, ltB_f, eqB_t, eqB_f, pB_t, pB_f, sEq_t, sEq_f, emp_iff, ne_eq, List.length_map, Bool.not_eq_true, Bool.not_eq_false, Bool.not_eq_eq_eq_not, Bool.not_true, Bool.not_false]; omega) | (simp only [ltB_t, ltB_f, eqB_t, eqB_f, pB_t, pB_f, sEq_t, sEq_f, emp_iff, ne_eq, List.length_map, Bool.not_eq_true, Bool.not_eq_false, Bool.not_eq_eq_eq_not, Bool.not_true, Bool.not_false]; assumption)) ?_
    | (refine Br.mk ?_ ?_ <;> intro h <;> (try simp only [ltB_t, ltB_f, eqB_t, eqB_f, pB_t, pB_f, sEq_t, sEq_f, emp_iff, ne_eq, List.length_map, Bool.not_eq_true, Bool.not_eq_false, Bool.not_eq_eq_eq_not, Bool.not_true, Bool.not_false] at h))
    | refine Ixv.mk (by omega) (ixE (by omega) (by omega)) ?_
    | refine Elt.mk rfl ?_
    | refine Elt.mk (by assumption) ?_
    | refine Elt.mk (ixE (by omega) (by omega)) ?_
    | refine E.call tt h_idxV rfl rfl ⟨_, _, rfl, by omega, _, _, rfl, rfl, ?_⟩)) <;> (try (conv => whnf))
    all_goals (refine ⟨_, _, rfl, rfl, .inl ⟨rfl, rowEq ?_⟩⟩; have := ofV_all (xs := xs) (s := s) (k := xs.length) ha (Nat.le_refl _); rw [List.take_length] at this; rw [this])
  · generalize hfe : fstNot (fun i => (ix xs i).Who = s) xs.length = f at *
    (repeat' ((conv => whnf); first
    | refine Sd.mk (by first | omega | (unfold in64; omega) | (simp only [fitK, in64]; omega) | (simp only [fitK, in64, chunk, List.length_map, List.length_append, List.length_replicate, List.length_set, List.length_nil, List.length_cons]; omega)) ?_
    | refine Br.yes rfl ?_
    | refine Br.no rfl ?_
    | refine Br.yes (by first | (simp only [ltB_t, ltB_f, eqB_t, eqB_f, pB_t, pB_f, sEq_t, sEq_f, emp_iff, ne_eq, List.length_map, Bool.not_eq_true, Bool.not_eq_false, Bool.not_eq_eq_eq_not, Bool.not_true, Bool.not_false]; done) | (simp only [ltB_t, ltB_f, eqB_t, eqB_f, pB_t, pB_f, sEq_t, sEq_f, emp_iff, ne_eq, List.length_map, Bool.not_eq_true, Bool.not_eq_false, Bool.not_eq_eq_eq_not, Bool.not_true, Bool.not_false]; omega) | (simp only [ltB_t, ltB_f, eqB_t, eqB_f, pB_t, pB_f, sEq_t, sEq_f, emp_iff, ne_eq, List.length_map, Bool.not_eq_true, Bool.not_eq_false, Bool.not_eq_eq_eq_not, Bool.not_true, Bool.not_false]; assumption)) ?_
    | refine Br.no (by first | (simp only [ltB_t, ltB_f, eqB_t, eqB_f, pB_t, pB_f, sEq_t, sEq_f, emp_iff, ne_eq, List.length_map, Bool.not_eq_true, Bool.not_eq_false, Bool.not_eq_eq_eq_not, Bool.not_true, Bool.not_false]; done) | (simp only [ltB_t, ltB_f, eqB_t, eqB_f, pB_t, pB_f, sEq_t, sEq_f, emp_iff, ne_eq, List.length_map, Bool.not_eq_true, Bool.not_eq_false, Bool.not_eq_eq_eq_not, Bool.not_true, Bool.not_false]; omega) | (simp only [ltB_t, ltB_f, eqB_t, eqB_f, pB_t, pB_f, sEq_t, sEq_f, emp_iff, ne_eq, List.length_map, Bool.not_eq_true, Bool.not_eq_false, Bool.not_eq_eq_eq_not, Bool.not_true, Bool.not_false]; assumption)) ?_
    | (refine Br.mk ?_ ?_ <;> intro h <;> (try simp only [ltB_t, ltB_f, eqB_t, eqB_f, pB_t, pB_f, sEq_t, sEq_f, emp_iff, ne_eq, List.length_map, Bool.not_eq_true, Bool.not_eq_false, Bool.not_eq_eq_eq_not, Bool.not_true, Bool.not_false] at h))
    | refine Ixv.mk (by omega) (ixE (by omega) (by omega)) ?_
    | refine Elt.mk rfl ?_
    | refine Elt.mk (by assumption) ?_
    | refine Elt.mk (ixE (by omega) (by omega)) ?_
    | refine E.call tt h_idxV rfl rfl ⟨_, _, rfl, by omega, _, _, rfl, rfl, ?_⟩)) <;> (try (conv => whnf))
    refine E.loop tt (fun p : Int × Int × List D.Visit => DelI xs s p.1 p.2.1 p.2.2) (fun p => ⟨42, 1, [(0, .own 0), (1, .p (.clo 179 [.ref [.str s]])), (5, .p (I p.1)), (6, .p (I p.2.1))], [(0, ⟨120, 4, p.2.2.map D.Visit.enc⟩)]⟩) (fun p => (xs.length - p.2.1).toNat) (f, f + 1, xs) (DelI.start h0 h1 h2 h3) ⟨rfl, ⟨rfl, rfl, pI hfe, pI (by rw [hfe]), trivial⟩, ⟨rfl, trivial⟩, rfl, rfl⟩ ?_
    rintro ⟨i, j, el⟩ hi
    dsimp only at hi
    have hi0 := hi.i0
    have hij := hi.ij
    have hjn := hi.jn
    have hel : (el.map D.Visit.enc).length = xs.length := by simp [hi.len]
    have hel2 := hi.len
    rcases Int.lt_or_le j xs.length with hlt | hge
    · have hbk := hi.back j (by omega) hlt
      by_cases hw : (ix xs j).Who = s
      · (repeat' ((conv => whnf); first
    | refine Elt.mk (ixE (xs := el) (n := j) (by omega) (by omega)) ?_
    | refine Elt.mk (ixE (xs := el) (n := i) (by omega) (by omega)) ?_
    | refine Br.yes (by simp only [hbk, sEq_t.2 hw]; rfl) ?_
    | refine Sd.mk (by first | omega | (unfold in64; omega) | (simp only [fitK, in64]; omega) | (simp only [fitK, in64, chunk, List.length_map, List.length_append, List.length_replicate, List.length_set, List.length_nil, List.length_cons]; omega)) ?_
    | refine Br.yes rfl ?_
    | refine Br.no rfl ?_
    | refine Br.yes (by first | (simp only [ltB_t, ltB_f, eqB_t, eqB_f, pB_t, pB_f, sEq_t, sEq_f, emp_iff, ne_eq, List.length_map, Bool.not_eq_true, Bool.not_eq_false, Bool.not_eq_eq_eq_not, Bool.not_true, Bool.not_false]; done) | (simp only [ltB_t, ltB_f, eqB_t, eqB_f, pB_t, pB_f, sEq_t, sEq_f, emp_iff, ne_eq, List.length_map, Bool.not_eq_true, Bool.not_eq_false, Bool.not_eq_eq_eq_not, Bool.not_true, Bool.not_false]; omega) | (simp only [ltB_t, ltB_f, eqB_t, eqB_f, pB_t, pB_f, sEq_t, sEq_f, emp_iff, ne_eq, List.length_map, Bool.not_eq_true, Bool.not_eq_false, Bool.not_eq_eq_eq_not, Bool.not_true, Bool.not_false]; assumption)) ?_
    | refine Br.no (by first | (simp only [ltB_t, ltB_f, eqB_t, eqB_f, pB_t, pB_f, sEq_t, sEq_f, emp_iff, ne_eq, List.length_map, Bool.not_eq_true, Bool.not_eq_false, Bool.not_eq_eq_eq_not, Bool.not_true, Bool.not_false]; done) | (simp only [ltB_t, ltB_f, eqB_t, eqB_f, pB_t, pB_f, sEq_t, sEq_f, emp_iff, ne_eq, List.length_map, Bool.not_eq_true, Bool.not_eq_false, Bool.not_eq_eq_eq_not, Bool.not_true, Bool.not_false]; omega) | (simp only [ltB_t, ltB_f, eqB_t, eqB_f, pB_t, pB_f, sEq_t, sEq_f, emp_iff, ne_eq, List.length_map, Bool.not_eq_true, Bool.not_eq_false, Bool.not_eq_eq_eq_not, Bool.not_true, Bool.not_false]; assumption)) ?_
    | (refine Br.mk ?_ ?_ <;> intro h <;> (try simp only [ltB_t, ltB_f, eqB_t, eqB_f, pB_t, pB_f, sEq_t, sEq_f, emp_iff, ne_eq, List.length_map, Bool.not_eq_true, Bool.not_eq_false, Bool.not_eq_eq_eq_not, Bool.not_true, Bool.not_false] at h))
    | refine Ixv.mk (by omega) (ixE (by omega) (by omega)) ?_
    | refine Elt.mk rfl ?_
    | refine Elt.mk (by assumption) ?_
    | refine Elt.mk (ixE (by omega) (by omega)) ?_
    | refine E.callV tt h_isWho rfl rfl rfl ⟨_, _, rfl, _, _, rfl, rfl, ?_⟩
    | refine E.call tt h_idxV rfl rfl ⟨_, _, rfl, by omega, _, _, rfl, rfl, ?_⟩)) <;> (try (conv => whnf))
        all_goals (refine ⟨(i + 1, j + 1, el.set i.toNat (ix xs j)), hi.keep hlt hw, by dsimp only; omega, ⟨rfl, ⟨rfl, rfl, rfl, rfl, trivial⟩, ⟨congrArg some (rowEq (by dsimp only; rw [hbk, List.map_set])), trivial⟩, rfl, rfl⟩⟩)
      · (repeat' ((conv => whnf); first
    | refine Elt.mk (ixE (xs := el) (n := j) (by omega) (by omega)) ?_
    | refine Elt.mk (ixE (xs := el) (n := i) (by omega) (by omega)) ?_
    | refine Br.no (by simp only [hbk, sEq_f.2 hw]; rfl) ?_
    | refine Sd.mk (by first | omega | (unfold in64; omega) | (simp only [fitK, in64]; omega) | (simp only [fitK, in64, chunk, List.length_map, List.length_append, List.length_replicate, List.length_set, List.length_nil, List.length_cons]; omega)) ?_
    | refine Br.yes rfl ?_
    | refine Br.no rfl ?_
    | refine Br.yes (by first | (simp only [ltB_t, ltB_f, eqB_t, eqB_f, pB_t, pB_f, sEq_t, sEq_f, emp_iff, ne_eq, List.length_map, Bool.not_eq_true, Bool.not_eq_false, Bool.not_eq_eq_eq_not, Bool.not_true, Bool.not_false]; done) | (simp only [ltB_t, ltB_f, eqB_t, eqB_f, pB_t, pB_f, sEq_t, sEq_f, emp_iff, ne_eq, List.length_map, Bool.not_eq_true, Bool.not_eq_false, Bool.not_eq_eq_eq_not, Bool.not_true, Bool.not_false]; omega) | (simp only [ltB_t, ltB_f, eqB_t, eqB_f, pB_t, pB_f, sEq_t, sEq_f, emp_iff, ne_eq, List.length_map, Bool.not_eq_true, Bool.not_eq_false, Bool.not_eq_eq_eq_not, Bool.not_true, Bool.not_false]; assumption)) ?_
    | refine Br.no (by first | (simp only [ltB_t, ltB_f, eqB_t, eqB_f, pB_t, pB_f, sEq_t, sEq_f, emp_iff, ne_eq, List.length_map, Bool.not_eq_true, Bool.not_eq_false, Bool.not_eq_eq_eq_not, Bool.not_true, Bool.not_false]; done) | (simp only [ltB_t, ltB_f, eqB_t, eqB_f, pB_t, pB_f, sEq_t, sEq_f, emp_iff, ne_eq, List.length_map, Bool.not_eq_true, Bool.not_eq_false, Bool.not_eq_eq_eq_not, Bool.not_true, Bool.not_false]; omega) | (simp only [ltB_t, ltB_f, eqB_t, eqB_f, pB_t, pB_f, sEq_t, sEq_f, emp_iff, ne_eq, List.length_map, Bool.not_eq_true, Bool.not_eq_false, Bool.not_eq_eq_eq_not, Bool.not_true, Bool.not_false]; assumption)) ?_
    | (refine Br.mk ?_ ?_ <;> intro h <;> (try simp only [ltB_t, ltB_f, eqB_t, eqB_f, pB_t, pB_f, sEq_t, sEq_f, emp_iff, ne_eq, List.length_map, Bool.not_eq_true, Bool.not_eq_false, Bool.not_eq_eq_eq_not, Bool.not_true, Bool.not_false] at h))
    | refine Ixv.mk (by omega) (ixE (by omega) (by omega)) ?_
    | refine Elt.mk rfl ?_
    | refine Elt.mk (by assumption) ?_
    | refine Elt.mk (ixE (by omega) (by omega)) ?_
    | refine E.callV tt h_isWho rfl rfl rfl ⟨_, _, rfl, _, _, rfl, rfl, ?_⟩
    | refine E.call tt h_idxV rfl rfl ⟨_, _, rfl, by omega, _, _, rfl, rfl, ?_⟩)) <;> (try (conv => whnf))
        all_goals (refine ⟨(i, j + 1, el), hi.skip hlt hw, by dsimp only; omega, ⟨rfl, ⟨rfl, rfl, rfl, rfl, trivial⟩, ⟨rfl, trivial⟩, rfl, rfl⟩⟩)
    · have hje : j = xs.length := by omega
      subst hje
      have hfi := hi.fin
      (repeat' ((conv => whnf); first
    | refine Sd.mk (by rw [mid_length (by simp only [List.length_replicate, List.length_map]; omega)]; simp only [List.length_map]; omega) ?_
    | refine Sd.mk (by first | omega | (unfold in64; omega) | (simp only [fitK, in64]; omega) | (simp only [fitK, in64, chunk, List.length_map, List.length_append, List.length_replicate, List.length_set, List.length_nil, List.length_cons]; omega)) ?_
    | refine Br.yes rfl ?_
    | refine Br.no rfl ?_
    | refine Br.yes (by first | (simp only [ltB_t, ltB_f, eqB_t, eqB_f, pB_t, pB_f, sEq_t, sEq_f, emp_iff, ne_eq, List.length_map, Bool.not_eq_true, Bool.not_eq_false, Bool.not_eq_eq_eq_not, Bool.not_true, Bool.not_false]; done) | (simp only [ltB_t, ltB_f, eqB_t, eqB_f, pB_t, pB_f, sEq_t, sEq_f, emp_iff, ne_eq, List.length_map, Bool.not_eq_true, Bool.not_eq_false, Bool.not_eq_eq_eq_not, Bool.not_true, Bool.not_false]; omega) | (simp only [ltB_t, ltB_f, eqB_t, eqB_f, pB_t, pB_f, sEq_t, sEq_f, emp_iff, ne_eq, List.length_map, Bool.not_eq_true, Bool.not_eq_false, Bool.not_eq_eq_eq_not, Bool.not_true, Bool.not_false]; assumption)) ?_
    | refine Br.no (by first | (simp only [ltB_t, ltB_f, eqB_t, eqB_f, pB_t, pB_f, sEq_t, sEq_f, emp_iff, ne_eq, List.length_map, Bool.not_eq_true, Bool.not_eq_false, Bool.not_eq_eq_eq_not, Bool.not_true, Bool.not_false]; done) | (simp only [ltB_t, ltB_f, eqB_t, eqB_f, pB_t, pB_f, sEq_t, sEq_f, emp_iff, ne_eq, List.length_map, Bool.not_eq_true, Bool.not_eq_false, Bool.not_eq_eq_eq_not, Bool.not_true, Bool.not_false]; omega) | (simp only [ltB_t, ltB_f, eqB_t, eqB_f, pB_t, pB_f, sEq_t, sEq_f, emp_iff, ne_eq, List.length_map, Bool.not_eq_true, Bool.not_eq_false, Bool.not_eq_eq_eq_not, Bool.not_true, Bool.not_false]; assumption)) ?_
    | (refine Br.mk ?_ ?_ <;> intro h <;> (try simp only [ltB_t, ltB_f, eqB_t, eqB_f, pB_t, pB_f, sEq_t, sEq_f, emp_iff, ne_eq, List.length_map, Bool.not_eq_true, Bool.not_eq_false, Bool.not_eq_eq_eq_not, Bool.not_true, Bool.not_false] at h))
    | refine Ixv.mk (by omega) (ixE (by omega) (by omega)) ?_
    | refine Elt.mk rfl ?_
    | refine Elt.mk (by assumption) ?_
    | refine Elt.mk (ixE (by omega) (by omega)) ?_
    | refine E.call tt h_idxV rfl rfl ⟨_, _, rfl, by omega, _, _, rfl, rfl, ?_⟩)) <;> (try (conv => whnf))
      all_goals (refine ⟨_, _, rfl, rfl, .inr ⟨_, rfl, ?_, rowEq ?_⟩⟩)
      all_goals first
        | (rw [mid_length (by simp only [List.length_replicate, List.length_map]; omega)]; simp only [List.length_map]; omega)
        | (rw [← hfi, List.map_take]; unfold mid; rw [List.append_assoc, List.take_append_of_le_length (by simp; omega), List.take_take, Nat.min_self])
theorem h_visitsOf : Holds Try.prog 91 (fun args K => ∃ (xs : List D.Visit) (s : ByteArray), args = [.view 4 (xs.map D.Visit.enc), .str s] ∧ (xs.length : Int) ≤ 1048576 ∧ K [.fresh ⟨120, 4, (ofV xs s).map D.Visit.enc⟩]) := by
  refine E.mk tt Try.func91 rfl Try.ntmps91 rfl (by kernel_rfl) ?_
  rintro _ K ⟨xs, s, rfl, hl, hK⟩
  have hln : (xs.map D.Visit.enc).length = xs.length := by simp
  refine ⟨Nat.le_of_ble_eq_true rfl, _, hK, ?_⟩
  (repeat' ((conv => whnf); first
    | refine Sd.mk (by first | omega | (unfold in64; omega) | (simp only [fitK, in64]; omega) | (simp only [fitK, in64, chunk, List.length_map, List.length_append, List.length_replicate, List.length_set, List.length_nil, List.length_cons]; omega)) ?_
    | refine Br.yes rfl ?_
    | refine Br.no rfl ?_
    | refine Br.yes (by first | (simp only [ltB_t, ltB_f, eqB_t, eqB_f, pB_t, pB_f, sEq_t, sEq_f, emp_iff, ne_eq, List.length_map, Bool.not_eq_true, Bool.not_eq_false, Bool.not_eq_eq_eq_not, Bool.not_true, Bool.not_false]; done) | (simp only [ltB_t, ltB_f, eqB_t, eqB_f, pB_t, pB_f, sEq_t, sEq_f, emp_iff, ne_eq, List.length_map, Bool.not_eq_true, Bool.not_eq_false, Bool.not_eq_eq_eq_not, Bool.not_true, Bool.not_false]; omega) | (simp only [ltB_t, ltB_f, eqB_t, eqB_f, pB_t, pB_f, sEq_t, sEq_f, emp_iff, ne_eq, List.length_map, Bool.not_eq_true, Bool.not_eq_false, Bool.not_eq_eq_eq_not, Bool.not_true, Bool.not_false]; assumption)) ?_
    | refine Br.no (by first | (simp only [ltB_t, ltB_f, eqB_t, eqB_f, pB_t, pB_f, sEq_t, sEq_f, emp_iff, ne_eq, List.length_map, Bool.not_eq_true, Bool.not_eq_false, Bool.not_eq_eq_eq_not, Bool.not_true, Bool.not_false]; done) | (simp only [ltB_t, ltB_f, eqB_t, eqB_f, pB_t, pB_f, sEq_t, sEq_f, emp_iff, ne_eq, List.length_map, Bool.not_eq_true, Bool.not_eq_false, Bool.not_eq_eq_eq_not, Bool.not_true, Bool.not_false]; omega) | (simp only [ltB_t, ltB_f, eqB_t, eqB_f, pB_t, pB_f, sEq_t, sEq_f, emp_iff, ne_eq, List.length_map, Bool.not_eq_true, Bool.not_eq_false, Bool.not_eq_eq_eq_not, Bool.not_true, Bool.not_false]; assumption)) ?_
    | (refine Br.mk ?_ ?_ <;> intro h <;> (try simp only [ltB_t, ltB_f, eqB_t, eqB_f, pB_t, pB_f, sEq_t, sEq_f, emp_iff, ne_eq, List.length_map, Bool.not_eq_true, Bool.not_eq_false, Bool.not_eq_eq_eq_not, Bool.not_true, Bool.not_false] at h))
    | refine Elt.mk rfl ?_
    | refine Elt.mk (by assumption) ?_
    | refine Elt.mk (ixE (by omega) (by omega)) ?_
    | refine E.frzC tt rfl rfl rfl ?_
    | refine E.callMS tt h_delV rfl rfl rfl rfl rfl rfl rfl ⟨_, _, rfl, rfl, by omega, rfl, rfl, ?_⟩
    | refine E.callR tt h_cloneVisit rfl rfl ⟨_, rfl, by first | omega | (simp only [List.length_map, List.length_take]; omega), .inl rfl, ?_⟩)) <;> (try (conv => whnf))
  all_goals (exact fin_p rfl rfl rfl rfl)

end Go.Proofs.Ytkimakfnbafeoaa
