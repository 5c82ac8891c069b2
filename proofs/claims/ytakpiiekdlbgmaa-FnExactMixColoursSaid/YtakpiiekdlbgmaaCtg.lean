/- Contracts (Ctg). -/
import Derived.Test.YtakpiiekdlbgmaaLoD
import Derived.Test.YtakpiiekdlbgmaaTyCoat
import Derived.Test.YtakpiiekdlbgmaaNst
set_option linter.unusedVariables false
set_option linter.unusedSimpArgs false
set_option maxRecDepth 100000
namespace Go.Lo
-- deps: LoD TyCoat Nst
/-- A step as its cells, what it waits for a known block. -/
def stC (x : D.Coat) (d : Dn) : List PV := [.str x.Id, I x.Days, I x.Cover, .raw d.hdr]
def stE (xs : List D.Coat) (ds : List Dn) : List (List PV) := List.zipWith stC xs ds
theorem stE_len {xs : List D.Coat} {ds : List Dn} (h : ds.length = xs.length) : (stE xs ds).length = xs.length := by simp [stE, h]
theorem stE_sc (xs : List D.Coat) (ds : List Dn) : ∀ e ∈ stE xs ds, ∀ m ∈ e, m.sc = true := by
  intro e he m hm
  obtain ⟨i, hi, rfl⟩ := List.mem_iff_getElem.1 he
  simp only [stE, List.getElem_zipWith, stC] at hm
  simp at hm
  rcases hm with rfl | rfl | rfl | rfl <;> rfl
theorem stE_get {xs : List D.Coat} {ds : List Dn} {i : Nat} (h : i < xs.length) (h2 : i < ds.length) : (stE xs ds)[i]? = some (stC xs[i] ds[i]) := by
  simp [stE, List.getElem?_zipWith, h, h2]
theorem stE_rf {e : Nat} {X : Frag} {xs : List D.Coat} {ds : List Dn} (h : NeD e ds X (xs.map D.Coat.Colour)) : RfE X (stE xs ds) (xs.map D.Coat.enc) := by
  have hl : ds.length = xs.length := by have := ds_len h.ls; simpa using this
  refine ⟨by simp [stE, hl], fun i a b ha hb => ?_⟩
  have hi : i < xs.length := by have := (List.getElem?_eq_some_iff.1 hb).1; simpa using this
  have hi2 : i < ds.length := by omega
  rw [stE_get hi hi2] at ha
  simp only [List.getElem?_map, List.getElem?_eq_getElem hi, Option.map_some, Option.some.injEq] at hb
  cases ha; subst hb
  refine ⟨rfl, fun j m m' hm hm' => ?_⟩
  have hla : (ds[i]).l = (xs[i]).Colour := by
    have : (ds.map (·.l))[i]? = (xs.map D.Coat.Colour)[i]? := by rw [h.ls]
    simpa [hi, hi2] using this
  match j, hm, hm' with
  | 0, hm, hm' => simp [stC, D.Coat.enc] at hm hm'; subst hm; subst hm'; exact .inl rfl
  | 1, hm, hm' => simp [stC, D.Coat.enc] at hm hm'; subst hm; subst hm'; exact .inl rfl
  | 2, hm, hm' => simp [stC, D.Coat.enc] at hm hm'; subst hm; subst hm'; exact .inl rfl
  | 3, hm, hm' =>
    simp [stC, D.Coat.enc] at hm hm'; subst hm; subst hm'
    obtain ⟨h1, h2⟩ := h.inx _ (List.getElem_mem hi2)
    have := Nums.deep h1 h2
    rw [hla] at this
    exact .inr ⟨_, rfl, by unfold Dn.hdr; rw [hla]; exact this⟩
  | n + 4, hm, _ => simp [stC] at hm
/-- The row while it is filled. -/
def stZ (z : List PV) (xs : List D.Coat) (ds : List Dn) : List (List PV) := stE xs ds ++ List.replicate (xs.length - ds.length) z
theorem stZ_len {z : List PV} {xs : List D.Coat} {ds : List Dn} (h : ds.length ≤ xs.length) : (stZ z xs ds).length = xs.length := by simp [stZ, stE]; omega
theorem stZ_get {z : List PV} {xs : List D.Coat} {ds : List Dn} (h : ds.length < xs.length) : (stZ z xs ds)[ds.length]? = some z := by
  have hl : (stE xs ds).length = ds.length := by simp [stE]; omega
  unfold stZ
  rw [List.getElem?_append_right (by omega), hl, Nat.sub_self, List.getElem?_replicate, if_pos (by omega)]
theorem stZ_set {z : List PV} {xs : List D.Coat} {ds : List Dn} {d : Dn} (h : ds.length < xs.length) : (stZ z xs ds).set ds.length (stC (xs[ds.length]) d) = stZ z xs (ds ++ [d]) := by
  have hl : (stE xs ds).length = ds.length := by simp [stE]; omega
  have hl2 : (stE xs (ds ++ [d])).length = ds.length + 1 := by simp [stE]; omega
  apply List.ext_getElem?
  intro i
  by_cases hi : i = ds.length
  · subst hi
    rw [List.getElem?_set_self (by rw [stZ_len (by omega)]; exact h)]
    unfold stZ
    rw [List.getElem?_append_left (by omega), stE_get h (by simp)]
    simp
  · rw [List.getElem?_set_ne (by omega)]
    unfold stZ
    rcases Nat.lt_or_ge i ds.length with h1 | h1
    · rw [List.getElem?_append_left (by omega), List.getElem?_append_left (by omega), stE_get (by omega) (by omega), stE_get (by omega) (by simp; omega), List.getElem_append_left h1]
    · rw [List.getElem?_append_right (by omega), List.getElem?_append_right (by omega), hl, hl2, List.getElem?_replicate, List.getElem?_replicate]
      simp only [List.length_append, List.length_singleton]
      by_cases h2 : i - ds.length < xs.length - ds.length
      · rw [if_pos h2, if_pos (by omega)]
      · rw [if_neg h2, if_neg (by omega)]
theorem stZ_full {z : List PV} {xs : List D.Coat} {ds : List Dn} (h : ds.length = xs.length) : stZ z xs ds = stE xs ds := by simp [stZ, h]
theorem stZ_zero {z : List PV} {xs : List D.Coat} : stZ z xs [] = List.replicate xs.length z := by simp [stZ, stE]
def afS (xs : List D.Coat) (n : Int) : Int := sumTo (fun j => ((ix xs j).Colour.length : Int)) n
theorem afS_nn (xs : List D.Coat) : ∀ j : Int, 0 ≤ ((ix xs j).Colour.length : Int) := fun j => by omega
theorem afS_succ (xs : List D.Coat) {i : Int} (h : 0 ≤ i) : afS xs (i + 1) = afS xs i + (ix xs i).Colour.length := sumTo_succ h
theorem afS_le (xs : List D.Coat) {i n : Int} (h0 : 0 ≤ i) (h : i ≤ n) : afS xs i ≤ afS xs n := sumTo_mono (afS_nn xs) h0 h
theorem afS_0 (xs : List D.Coat) {i : Int} (h0 : 0 ≤ i) : 0 ≤ afS xs i := by
  have := afS_le xs (i := 0) (n := i) (by omega) h0
  unfold afS at *
  rw [sumTo_zero] at this; exact this
theorem szL_sum (xs : List D.Coat) (l : Int) {n : Int} (h0 : 0 ≤ n) : 0 ≤ szL xs l n → szL xs l n + afS xs n ≤ l - xs.length := by
  refine it_inv (f := szF xs) (fun n p => 0 ≤ p → p + afS xs n ≤ l - xs.length) (fun h => by unfold afS; rw [sumTo_zero]; unfold szR at *; split at h <;> omega) (N := n) (fun m p m0 m1 hq => ?_) h0 (by omega)
  unfold szF
  rw [afS_succ xs m0]
  split
  · intro h; omega
  · have hq2 := hq (by omega)
    unfold szC
    split
    · intro h; omega
    · split
      · intro h; omega
      · intro h; omega
/-- Rows of steps while they are marked: the inner rows stay where they are. -/
structure MkS (e : Nat) (xs : List D.Coat) (ds : List Dn) (X : Frag) (ys : List D.Coat) (ds' : List Dn) (X' : Frag) : Prop where
  inx : InX e X' ds'
  bs : ds'.map (·.b) = ds.map (·.b)
  ls : ∀ (i : Nat) (h : i < ds'.length) (h2 : i < xs.length), (ds'[i]).l.length = (xs[i]).Colour.length
  len : ds'.length = xs.length ∧ ys.length = xs.length
  dom : ∀ b, X' b = none ↔ X b = none
theorem MkS.start {e : Nat} {xs : List D.Coat} {ds : List Dn} {X : Frag} (h : NeD e ds X (xs.map D.Coat.Colour)) : MkS e xs ds X xs ds X := by
  have hl : ds.length = xs.length := by have := ds_len h.ls; simpa using this
  refine ⟨h.inx, rfl, fun i h1 h2 => ?_, ⟨hl, rfl⟩, fun _ => Iff.rfl⟩
  have : (ds.map (·.l))[i]? = (xs.map D.Coat.Colour)[i]? := by rw [h.ls]
  have : (ds[i]).l = (xs[i]).Colour := by simpa [h1, h2] using this
  rw [this]
theorem MkS.step {e : Nat} {xs ys : List D.Coat} {ds ds' : List Dn} {X X' : Frag} (h : MkS e xs ds X ys ds' X') (hnd : (ds.map (·.b)).Nodup) {i : Int} (h0 : 0 ≤ i) (h1 : i < xs.length) :
    ∃ d, d ∈ ds' ∧ (stE ys ds')[i.toNat]? = some (stC (ix ys i) d) ∧ (d.l.length : Int) = (ix xs i).Colour.length ∧
      ∀ (y : D.Coat) C' l', l'.length = d.l.length → Nums C' d.c l' → MkS e xs ds X (ys.set i.toNat y) (ds'.set i.toNat ⟨d.b, d.c, C', l'⟩) (X'.upd d.b (.cells C' e (0, 0))) ∧
        (stE ys ds').set i.toNat (stC y d) = stE (ys.set i.toNat y) (ds'.set i.toNat ⟨d.b, d.c, C', l'⟩) := by
  have hn : i.toNat < xs.length := by omega
  obtain ⟨hl1, hl2⟩ := h.len
  have hn1 : i.toNat < ds'.length := by omega
  have hn2 : i.toNat < ys.length := by omega
  have hix : ix ys i = ys[i.toNat] := by rw [← ix_get hn2, Int.toNat_of_nonneg h0]
  have hixx : ix xs i = xs[i.toNat] := by rw [← ix_get hn, Int.toNat_of_nonneg h0]
  refine ⟨ds'[i.toNat], List.getElem_mem hn1, by rw [hix]; exact stE_get hn2 hn1, by rw [h.ls _ hn1 hn, hixx], fun y C' l' hl hN => ⟨⟨?_, ?_, ?_, ⟨by simpa using hl1, by simpa using hl2⟩, ?_⟩, ?_⟩⟩
  · intro d hd
    obtain ⟨j, hj, rfl⟩ := List.mem_iff_getElem.1 hd
    rw [List.length_set] at hj
    rw [List.getElem_set]
    split
    · exact ⟨Frag.upd_same _ _ _, hN⟩
    · rename_i hne
      have hb := nodup_b (ds := ds') (by rw [h.bs]; exact hnd) hn1 hj hne
      obtain ⟨g1, g2⟩ := h.inx (ds'[j]) (List.getElem_mem hj)
      exact ⟨by rw [Frag.upd_ne _ _ hb]; exact g1, g2⟩
  · rw [← h.bs]
    apply List.ext_getElem (by simp)
    intro j j1 j2
    simp only [List.getElem_map, List.getElem_set]
    split
    · rename_i e1; subst e1; rfl
    · rfl
  · intro j j1 j2
    rw [List.getElem_set]
    split
    · rename_i e1; subst e1
      show l'.length = _
      rw [hl]; exact h.ls _ hn1 hn
    · exact h.ls j (by simpa using j1) j2
  · intro b
    rw [← h.dom]
    by_cases hb : b = (ds'[i.toNat]).b
    · subst hb
      rw [Frag.upd_same, (h.inx _ (List.getElem_mem hn1)).1]
      simp
    · rw [Frag.upd_ne _ _ hb]
  · apply List.ext_getElem?
    intro j
    rw [List.getElem?_set]
    split
    · rename_i e1; subst e1
      rw [if_pos (by simp [stE]; omega), stE_get (by simpa using hn2) (by simpa using hn1)]
      simp [stC, Dn.hdr, hl]
    · rename_i hne
      simp only [stE, List.getElem?_zipWith, List.getElem?_set_ne hne]
theorem MkS.rlen {e : Nat} {xs ys : List D.Coat} {ds ds' : List Dn} {X X' : Frag} (h : MkS e xs ds X ys ds' X') : (stE ys ds').length = xs.length := by
  have := h.len
  simp [stE]; omega
end Go.Lo
namespace Go.Proofs.Ytakpiiekdlbgmaa
open Go.Lo
attribute [local irreducible] W Wc

theorem h_szCoatS2 : Holds Try.prog 43 (fun args K => ∃ (xs : List D.Coat) (l : Int), args = [.view 4 (xs.map D.Coat.enc), I l] ∧ (xs.length : Int) ≤ 9223372036854775807 ∧ (∀ x ∈ xs, x.ok) ∧ 0 ≤ l ∧ l ≤ 1048576 ∧ ∀ r : Int, -1 ≤ r → (0 ≤ r → (r ≤ l ∧ (xs.length : Int) ≤ l) ∧ ∀ x ∈ xs, (x.Colour.length : Int) ≤ 1048576) → (0 ≤ r → afS xs xs.length ≤ 1048576) → K [.p (I r)]) := by
  refine E.mk tt Try.func43 rfl Try.ntmps43 rfl (by kernel_rfl) ?_
  rintro _ K ⟨xs, l, rfl, hlen, hok, hl0, hl1, hK⟩
  have hln : (xs.map D.Coat.enc).length = xs.length := by simp
  have hfin := szL_inv xs l (n := xs.length) (by omega)
  have hsum := szL_sum xs l (n := xs.length) (by omega)
  refine ⟨Nat.le_of_ble_eq_true rfl, _, hK (szL xs l xs.length) hfin.1 (fun h => ⟨by have := hfin.2 h; omega, fun x hx => ?_⟩) (fun h => by have := hsum h; omega), ?_⟩
  · obtain ⟨n, hn, rfl⟩ := List.mem_iff_getElem.1 hx
    have := (hfin.2 h).2 n (by omega) (by omega)
    dsimp only at this; rw [ix_get hn] at this
    omega
  have hs0 : szL xs l 0 = szR l xs.length := rfl
  by_cases hneg : l - xs.length < 0
  · have h1 : szL xs l xs.length = -1 := szL_end (i := 0) (by omega) (by omega) (by rw [hs0]; unfold szR; rw [if_pos hneg]; omega)
    (repeat' ((conv => whnf); first
    | refine Sd.mk (by first | omega | (unfold in64; omega) | (simp only [fitK, in64]; omega) | (simp only [fitK, in64, chunk, List.length_map, List.length_append, List.length_replicate, List.length_set, List.length_nil, List.length_cons]; omega)) ?_
    | refine Br.yes rfl ?_
    | refine Br.no rfl ?_
    | refine Br.yes (by first | (simp only [ltB_t, ltB_f, eqB_t, eqB_f, pB_t, pB_f, sEq_t, sEq_f, emp_iff, ne_eq, List.length_map, Bool.not_eq_true, Bool.not_eq_false, Bool.not_eq_eq_eq_not, Bool.not_true, Bool.not_false]; done) | (simp only [ltB_t, ltB_f, eqB_t, eqB_f, pB_t, pB_f, sEq_t, sEq_f, emp_iff, ne_eq, List.length_map, Bool.not_eq_true, Bool.not_eq_false, Bool.not_eq_eq_eq_not, Bool.not_true, Bool.not_false]; omega) | (simp only [ltB_t, ltB_f, eqB_t, eqB_f, pB_t, pB_f, sEq_t, sEq_f, emp_iff, ne_eq, List.length_map, Bool.not_eq_true, Bool.not_eq_false, Bool.not_eq_eq_eq_not, Bool.not_true, Bool.not_false]; assumption)) ?_
    | refine Br.no (by first | (simp only [ltB_t, ltB_f, eqB_t, eqB_f, pB_t, pB_f, sEq_t, sEq_f, emp_iff, ne_eq, List.length_map, Bool.not_eq_true, Bool.not_eq_false, Bool.not_eq_eq_eq_not, Bool.not_true, Bool.not_false]; done) | (simp only [ltB_t, ltB_f, eqB_t, eqB_f, pB_t, pB_f, sEq_t, sEq_f, emp_iff, ne_eq, List.length_map, Bool.not_eq_true, Bool.not_eq_false, Bool.not_eq_eq_eq_not, Bool.not_true, Bool.not_false]; omega) | (simp only [ltB_t, ltB_f, eqB_t, eqB_f, pB_t, pB_f, sEq_t, sEq_f, emp_iff, ne_eq, List.length_map, Bool.not_eq_true, Bool.not_eq_false, Bool.not_eq_eq_eq_not, Bool.not_true, Bool.not_false]; assumption)) ?_
    | (refine Br.mk ?_ ?_ <;> intro h <;> (try simp only [ltB_t, ltB_f, eqB_t, eqB_f, pB_t, pB_f, sEq_t, sEq_f, emp_iff, ne_eq, List.length_map, Bool.not_eq_true, Bool.not_eq_false, Bool.not_eq_eq_eq_not, Bool.not_true, Bool.not_false] at h))
    | refine Ixv.mk (by omega) (ixE (by omega) (by omega)) ?_
    | refine Elt.mk rfl ?_
    | refine Elt.mk (by assumption) ?_
    | refine Elt.mk (ixE (by omega) (by omega)) ?_
    | refine E.call tt h_szCoat rfl rfl ⟨_, _, rfl, by assumption, by omega, by omega, _, _, rfl, rfl, ?_⟩)) <;> (try (conv => whnf))
    all_goals (refine fin_p rfl ?_ rfl rfl; rw [h1])
  have hs1 : szL xs l 0 = l - xs.length := by rw [hs0]; unfold szR; rw [if_neg hneg]
  (repeat' ((conv => whnf); first
    | refine Sd.mk (by first | omega | (unfold in64; omega) | (simp only [fitK, in64]; omega) | (simp only [fitK, in64, chunk, List.length_map, List.length_append, List.length_replicate, List.length_set, List.length_nil, List.length_cons]; omega)) ?_
    | refine Br.yes rfl ?_
    | refine Br.no rfl ?_
    | refine Br.yes (by first | (simp only [ltB_t, ltB_f, eqB_t, eqB_f, pB_t, pB_f, sEq_t, sEq_f, emp_iff, ne_eq, List.length_map, Bool.not_eq_true, Bool.not_eq_false, Bool.not_eq_eq_eq_not, Bool.not_true, Bool.not_false]; done) | (simp only [ltB_t, ltB_f, eqB_t, eqB_f, pB_t, pB_f, sEq_t, sEq_f, emp_iff, ne_eq, List.length_map, Bool.not_eq_true, Bool.not_eq_false, Bool.not_eq_eq_eq_not, Bool.not_true, Bool.not_false]; omega) | (simp only [ltB_t, ltB_f, eqB_t, eqB_f, pB_t, pB_f, sEq_t, sEq_f, emp_iff, ne_eq, List.length_map, Bool.not_eq_true, Bool.not_eq_false, Bool.not_eq_eq_eq_not, Bool.not_true, Bool.not_false]; assumption)) ?_
    | refine Br.no (by first | (simp only [ltB_t, ltB_f, eqB_t, eqB_f, pB_t, pB_f, sEq_t, sEq_f, emp_iff, ne_eq, List.length_map, Bool.not_eq_true, Bool.not_eq_false, Bool.not_eq_eq_eq_not, Bool.not_true, Bool.not_false]; done) | (simp only [ltB_t, ltB_f, eqB_t, eqB_f, pB_t, pB_f, sEq_t, sEq_f, emp_iff, ne_eq, List.length_map, Bool.not_eq_true, Bool.not_eq_false, Bool.not_eq_eq_eq_not, Bool.not_true, Bool.not_false]; omega) | (simp only [ltB_t, ltB_f, eqB_t, eqB_f, pB_t, pB_f, sEq_t, sEq_f, emp_iff, ne_eq, List.length_map, Bool.not_eq_true, Bool.not_eq_false, Bool.not_eq_eq_eq_not, Bool.not_true, Bool.not_false]; assumption)) ?_
    | (refine Br.mk ?_ ?_ <;> intro h <;> (try simp only [ltB_t, ltB_f, eqB_t, eqB_f, pB_t, pB_f, sEq_t, sEq_f, emp_iff, ne_eq, List.length_map, Bool.not_eq_true, Bool.not_eq_false, Bool.not_eq_eq_eq_not, Bool.not_true, Bool.not_false] at h))
    | refine Ixv.mk (by omega) (ixE (by omega) (by omega)) ?_
    | refine Elt.mk rfl ?_
    | refine Elt.mk (by assumption) ?_
    | refine Elt.mk (ixE (by omega) (by omega)) ?_
    | refine E.call tt h_szCoat rfl rfl ⟨_, _, rfl, by assumption, by omega, by omega, _, _, rfl, rfl, ?_⟩)) <;> (try (conv => whnf))
  refine E.loop tt (fun i : Int => 0 ≤ i ∧ i ≤ xs.length ∧ 0 ≤ szL xs l i) (fun i => ⟨27, 1, [(0, .p (.view 4 (xs.map D.Coat.enc))), (1, .p (I (szL xs l i))), (5, .p (I i))], [], Frag.nil⟩) (fun i => (xs.length - i).toNat) 0 ⟨by omega, by omega, by omega⟩ ⟨rfl, ⟨rfl, pI (by rw [hs1, hln]), rfl, trivial⟩, trivial, rfl, rfl, fun _ _ h => h⟩ ?_
  rintro i ⟨hi0, hi1, hsm⟩
  have hoki : (ix xs i).ok := ix_prop hok D.Coat.ok0 i
  have hii := (szL_inv xs l hi0).2 hsm
  have hsu : szL xs l (i + 1) = szF xs (szL xs l i) i := it_succ hi0
  unfold szF at hsu
  rw [if_neg (by omega)] at hsu
  rcases Int.lt_or_le i xs.length with hlt | hge
  · by_cases hc : szC (ix xs i) (szL xs l i) < 0
    · have h1 : szL xs l xs.length = -1 := szL_end (i := i + 1) (by omega) (by omega) (by omega)
      (repeat' ((conv => whnf); first
    | refine Sd.mk (by first | omega | (unfold in64; omega) | (simp only [fitK, in64]; omega) | (simp only [fitK, in64, chunk, List.length_map, List.length_append, List.length_replicate, List.length_set, List.length_nil, List.length_cons]; omega)) ?_
    | refine Br.yes rfl ?_
    | refine Br.no rfl ?_
    | refine Br.yes (by first | (simp only [ltB_t, ltB_f, eqB_t, eqB_f, pB_t, pB_f, sEq_t, sEq_f, emp_iff, ne_eq, List.length_map, Bool.not_eq_true, Bool.not_eq_false, Bool.not_eq_eq_eq_not, Bool.not_true, Bool.not_false]; done) | (simp only [ltB_t, ltB_f, eqB_t, eqB_f, pB_t, pB_f, sEq_t, sEq_f, emp_iff, ne_eq, List.length_map, Bool.not_eq_true, Bool.not_eq_false, Bool.not_eq_eq_eq_not, Bool.not_true, Bool.not_false]; omega) | (simp only [ltB_t, ltB_f, eqB_t, eqB_f, pB_t, pB_f, sEq_t, sEq_f, emp_iff, ne_eq, List.length_map, Bool.not_eq_true, Bool.not_eq_false, Bool.not_eq_eq_eq_not, Bool.not_true, Bool.not_false]; assumption)) ?_
    | refine Br.no (by first | (simp only [ltB_t, ltB_f, eqB_t, eqB_f, pB_t, pB_f, sEq_t, sEq_f, emp_iff, ne_eq, List.length_map, Bool.not_eq_true, Bool.not_eq_false, Bool.not_eq_eq_eq_not, Bool.not_true, Bool.not_false]; done) | (simp only [ltB_t, ltB_f, eqB_t, eqB_f, pB_t, pB_f, sEq_t, sEq_f, emp_iff, ne_eq, List.length_map, Bool.not_eq_true, Bool.not_eq_false, Bool.not_eq_eq_eq_not, Bool.not_true, Bool.not_false]; omega) | (simp only [ltB_t, ltB_f, eqB_t, eqB_f, pB_t, pB_f, sEq_t, sEq_f, emp_iff, ne_eq, List.length_map, Bool.not_eq_true, Bool.not_eq_false, Bool.not_eq_eq_eq_not, Bool.not_true, Bool.not_false]; assumption)) ?_
    | (refine Br.mk ?_ ?_ <;> intro h <;> (try simp only [ltB_t, ltB_f, eqB_t, eqB_f, pB_t, pB_f, sEq_t, sEq_f, emp_iff, ne_eq, List.length_map, Bool.not_eq_true, Bool.not_eq_false, Bool.not_eq_eq_eq_not, Bool.not_true, Bool.not_false] at h))
    | refine Ixv.mk (by omega) (ixE (by omega) (by omega)) ?_
    | refine Elt.mk rfl ?_
    | refine Elt.mk (by assumption) ?_
    | refine Elt.mk (ixE (by omega) (by omega)) ?_
    | refine E.call tt h_szCoat rfl rfl ⟨_, _, rfl, by assumption, by omega, by omega, _, _, rfl, rfl, ?_⟩)) <;> (try (conv => whnf))
      all_goals (refine fin_p rfl ?_ rfl rfl; rw [h1])
    · (repeat' ((conv => whnf); first
    | refine Sd.mk (by first | omega | (unfold in64; omega) | (simp only [fitK, in64]; omega) | (simp only [fitK, in64, chunk, List.length_map, List.length_append, List.length_replicate, List.length_set, List.length_nil, List.length_cons]; omega)) ?_
    | refine Br.yes rfl ?_
    | refine Br.no rfl ?_
    | refine Br.yes (by first | (simp only [ltB_t, ltB_f, eqB_t, eqB_f, pB_t, pB_f, sEq_t, sEq_f, emp_iff, ne_eq, List.length_map, Bool.not_eq_true, Bool.not_eq_false, Bool.not_eq_eq_eq_not, Bool.not_true, Bool.not_false]; done) | (simp only [ltB_t, ltB_f, eqB_t, eqB_f, pB_t, pB_f, sEq_t, sEq_f, emp_iff, ne_eq, List.length_map, Bool.not_eq_true, Bool.not_eq_false, Bool.not_eq_eq_eq_not, Bool.not_true, Bool.not_false]; omega) | (simp only [ltB_t, ltB_f, eqB_t, eqB_f, pB_t, pB_f, sEq_t, sEq_f, emp_iff, ne_eq, List.length_map, Bool.not_eq_true, Bool.not_eq_false, Bool.not_eq_eq_eq_not, Bool.not_true, Bool.not_false]; assumption)) ?_
    | refine Br.no (by first | (simp only [ltB_t, ltB_f, eqB_t, eqB_f, pB_t, pB_f, sEq_t, sEq_f, emp_iff, ne_eq, List.length_map, Bool.not_eq_true, Bool.not_eq_false, Bool.not_eq_eq_eq_not, Bool.not_true, Bool.not_false]; done) | (simp only [ltB_t, ltB_f, eqB_t, eqB_f, pB_t, pB_f, sEq_t, sEq_f, emp_iff, ne_eq, List.length_map, Bool.not_eq_true, Bool.not_eq_false, Bool.not_eq_eq_eq_not, Bool.not_true, Bool.not_false]; omega) | (simp only [ltB_t, ltB_f, eqB_t, eqB_f, pB_t, pB_f, sEq_t, sEq_f, emp_iff, ne_eq, List.length_map, Bool.not_eq_true, Bool.not_eq_false, Bool.not_eq_eq_eq_not, Bool.not_true, Bool.not_false]; assumption)) ?_
    | (refine Br.mk ?_ ?_ <;> intro h <;> (try simp only [ltB_t, ltB_f, eqB_t, eqB_f, pB_t, pB_f, sEq_t, sEq_f, emp_iff, ne_eq, List.length_map, Bool.not_eq_true, Bool.not_eq_false, Bool.not_eq_eq_eq_not, Bool.not_true, Bool.not_false] at h))
    | refine Ixv.mk (by omega) (ixE (by omega) (by omega)) ?_
    | refine Elt.mk rfl ?_
    | refine Elt.mk (by assumption) ?_
    | refine Elt.mk (ixE (by omega) (by omega)) ?_
    | refine E.call tt h_szCoat rfl rfl ⟨_, _, rfl, by assumption, by omega, by omega, _, _, rfl, rfl, ?_⟩)) <;> (try (conv => whnf))
      all_goals (refine ⟨i + 1, ⟨by omega, by omega, by omega⟩, by dsimp only; omega, ⟨rfl, ⟨rfl, pI (by rw [hsu]), rfl, trivial⟩, trivial, rfl, rfl, fun _ _ h => h⟩⟩)
  · have hie : i = xs.length := by omega
    (repeat' ((conv => whnf); first
    | refine Sd.mk (by first | omega | (unfold in64; omega) | (simp only [fitK, in64]; omega) | (simp only [fitK, in64, chunk, List.length_map, List.length_append, List.length_replicate, List.length_set, List.length_nil, List.length_cons]; omega)) ?_
    | refine Br.yes rfl ?_
    | refine Br.no rfl ?_
    | refine Br.yes (by first | (simp only [ltB_t, ltB_f, eqB_t, eqB_f, pB_t, pB_f, sEq_t, sEq_f, emp_iff, ne_eq, List.length_map, Bool.not_eq_true, Bool.not_eq_false, Bool.not_eq_eq_eq_not, Bool.not_true, Bool.not_false]; done) | (simp only [ltB_t, ltB_f, eqB_t, eqB_f, pB_t, pB_f, sEq_t, sEq_f, emp_iff, ne_eq, List.length_map, Bool.not_eq_true, Bool.not_eq_false, Bool.not_eq_eq_eq_not, Bool.not_true, Bool.not_false]; omega) | (simp only [ltB_t, ltB_f, eqB_t, eqB_f, pB_t, pB_f, sEq_t, sEq_f, emp_iff, ne_eq, List.length_map, Bool.not_eq_true, Bool.not_eq_false, Bool.not_eq_eq_eq_not, Bool.not_true, Bool.not_false]; assumption)) ?_
    | refine Br.no (by first | (simp only [ltB_t, ltB_f, eqB_t, eqB_f, pB_t, pB_f, sEq_t, sEq_f, emp_iff, ne_eq, List.length_map, Bool.not_eq_true, Bool.not_eq_false, Bool.not_eq_eq_eq_not, Bool.not_true, Bool.not_false]; done) | (simp only [ltB_t, ltB_f, eqB_t, eqB_f, pB_t, pB_f, sEq_t, sEq_f, emp_iff, ne_eq, List.length_map, Bool.not_eq_true, Bool.not_eq_false, Bool.not_eq_eq_eq_not, Bool.not_true, Bool.not_false]; omega) | (simp only [ltB_t, ltB_f, eqB_t, eqB_f, pB_t, pB_f, sEq_t, sEq_f, emp_iff, ne_eq, List.length_map, Bool.not_eq_true, Bool.not_eq_false, Bool.not_eq_eq_eq_not, Bool.not_true, Bool.not_false]; assumption)) ?_
    | (refine Br.mk ?_ ?_ <;> intro h <;> (try simp only [ltB_t, ltB_f, eqB_t, eqB_f, pB_t, pB_f, sEq_t, sEq_f, emp_iff, ne_eq, List.length_map, Bool.not_eq_true, Bool.not_eq_false, Bool.not_eq_eq_eq_not, Bool.not_true, Bool.not_false] at h))
    | refine Ixv.mk (by omega) (ixE (by omega) (by omega)) ?_
    | refine Elt.mk rfl ?_
    | refine Elt.mk (by assumption) ?_
    | refine Elt.mk (ixE (by omega) (by omega)) ?_
    | refine E.call tt h_szCoat rfl rfl ⟨_, _, rfl, by assumption, by omega, by omega, _, _, rfl, rfl, ?_⟩)) <;> (try (conv => whnf))
    all_goals (subst hie; exact fin_p rfl rfl rfl rfl)
theorem h_toCoatG : YHolds Try.prog 100 (fun me args X K => me = .no ∧ ∃ x : D.Coat, args = [.agg x.enc] ∧ (x.Colour.length : Int) ≤ 1048576 ∧
    ∀ d : Dn, X d.b = none → Nums d.C d.c d.l → d.l = x.Colour → K none (X.upd d.b (.cells d.C 2 (0, 0))) [.p (.agg (stC x d))]) := by
  refine E.mkY tt Try.func100 rfl Try.ntmps100 rfl (by kernel_rfl) ?_
  rintro _ _ X K ⟨rfl, x, rfl, hl, hK⟩
  refine ⟨Nat.le_of_ble_eq_true rfl, ?_⟩
  (repeat' ((conv => whnf); first
    | refine Sd.mk (by first | omega | (unfold in64; omega) | (simp only [fitK, in64]; omega) | (simp only [fitK, in64, chunk, List.length_map, List.length_append, List.length_replicate, List.length_set, List.length_nil, List.length_cons]; omega)) ?_
    | refine Br.yes rfl ?_
    | refine Br.no rfl ?_
    | refine Br.yes (by first | (simp only [ltB_t, ltB_f, eqB_t, eqB_f, pB_t, pB_f, sEq_t, sEq_f, emp_iff, ne_eq, List.length_map, Bool.not_eq_true, Bool.not_eq_false, Bool.not_eq_eq_eq_not, Bool.not_true, Bool.not_false]; done) | (simp only [ltB_t, ltB_f, eqB_t, eqB_f, pB_t, pB_f, sEq_t, sEq_f, emp_iff, ne_eq, List.length_map, Bool.not_eq_true, Bool.not_eq_false, Bool.not_eq_eq_eq_not, Bool.not_true, Bool.not_false]; omega) | (simp only [ltB_t, ltB_f, eqB_t, eqB_f, pB_t, pB_f, sEq_t, sEq_f, emp_iff, ne_eq, List.length_map, Bool.not_eq_true, Bool.not_eq_false, Bool.not_eq_eq_eq_not, Bool.not_true, Bool.not_false]; assumption)) ?_
    | refine Br.no (by first | (simp only [ltB_t, ltB_f, eqB_t, eqB_f, pB_t, pB_f, sEq_t, sEq_f, emp_iff, ne_eq, List.length_map, Bool.not_eq_true, Bool.not_eq_false, Bool.not_eq_eq_eq_not, Bool.not_true, Bool.not_false]; done) | (simp only [ltB_t, ltB_f, eqB_t, eqB_f, pB_t, pB_f, sEq_t, sEq_f, emp_iff, ne_eq, List.length_map, Bool.not_eq_true, Bool.not_eq_false, Bool.not_eq_eq_eq_not, Bool.not_true, Bool.not_false]; omega) | (simp only [ltB_t, ltB_f, eqB_t, eqB_f, pB_t, pB_f, sEq_t, sEq_f, emp_iff, ne_eq, List.length_map, Bool.not_eq_true, Bool.not_eq_false, Bool.not_eq_eq_eq_not, Bool.not_true, Bool.not_false]; assumption)) ?_
    | (refine Br.mk ?_ ?_ <;> intro h <;> (try simp only [ltB_t, ltB_f, eqB_t, eqB_f, pB_t, pB_f, sEq_t, sEq_f, emp_iff, ne_eq, List.length_map, Bool.not_eq_true, Bool.not_eq_false, Bool.not_eq_eq_eq_not, Bool.not_true, Bool.not_false] at h))
    | refine Elt.mk rfl ?_
    | refine Elt.mk (by assumption) ?_
    | refine Elt.mk (ixE (by omega) (by omega)) ?_
    | refine E.abs tt 15 (l := x.Colour) rfl rfl rfl fun b c C hN hx => ?_
    | refine E.callR tt h_toInt64S rfl rfl ⟨_, rfl, by omega, .inl rfl, ?_⟩)) <;> (try (conv => whnf))
  all_goals (exact ⟨_, ⟨rfl, rfl, rfl⟩, (fun r hr => by simp at hr; subst hr; exact rfl), (fun r h => by cases h), rfl, hK ⟨b, c, C, x.Colour⟩ hx hN rfl⟩)
theorem h_toCoatsG : YHolds Try.prog 45 (fun me args X K => me = .no ∧ ∃ xs : List D.Coat, args = [.view 4 (xs.map D.Coat.enc)] ∧ (xs.length : Int) ≤ 1048576 ∧ (∀ x ∈ xs, (x.Colour.length : Int) ≤ 1048576) ∧
    ∀ ds X', NeD 2 ds X' (xs.map D.Coat.Colour) → K none X' [.fresh ⟨139, 4, stE xs ds⟩]) := by
  refine E.mkY tt Try.func45 rfl Try.ntmps45 rfl (by kernel_rfl) ?_
  rintro _ _ X K ⟨rfl, xs, rfl, hl, hcl, hK⟩
  have hln : (xs.map D.Coat.enc).length = xs.length := by simp
  refine ⟨Nat.le_of_ble_eq_true rfl, ?_⟩
  (repeat' ((conv => whnf); first
    | refine Sd.mk (by first | omega | (unfold in64; omega) | (simp only [fitK, in64]; omega) | (simp only [fitK, in64, chunk, List.length_map, List.length_append, List.length_replicate, List.length_set, List.length_nil, List.length_cons]; omega)) ?_
    | refine Br.yes rfl ?_
    | refine Br.no rfl ?_
    | refine Br.yes (by first | (simp only [ltB_t, ltB_f, eqB_t, eqB_f, pB_t, pB_f, sEq_t, sEq_f, emp_iff, ne_eq, List.length_map, Bool.not_eq_true, Bool.not_eq_false, Bool.not_eq_eq_eq_not, Bool.not_true, Bool.not_false]; done) | (simp only [ltB_t, ltB_f, eqB_t, eqB_f, pB_t, pB_f, sEq_t, sEq_f, emp_iff, ne_eq, List.length_map, Bool.not_eq_true, Bool.not_eq_false, Bool.not_eq_eq_eq_not, Bool.not_true, Bool.not_false]; omega) | (simp only [ltB_t, ltB_f, eqB_t, eqB_f, pB_t, pB_f, sEq_t, sEq_f, emp_iff, ne_eq, List.length_map, Bool.not_eq_true, Bool.not_eq_false, Bool.not_eq_eq_eq_not, Bool.not_true, Bool.not_false]; assumption)) ?_
    | refine Br.no (by first | (simp only [ltB_t, ltB_f, eqB_t, eqB_f, pB_t, pB_f, sEq_t, sEq_f, emp_iff, ne_eq, List.length_map, Bool.not_eq_true, Bool.not_eq_false, Bool.not_eq_eq_eq_not, Bool.not_true, Bool.not_false]; done) | (simp only [ltB_t, ltB_f, eqB_t, eqB_f, pB_t, pB_f, sEq_t, sEq_f, emp_iff, ne_eq, List.length_map, Bool.not_eq_true, Bool.not_eq_false, Bool.not_eq_eq_eq_not, Bool.not_true, Bool.not_false]; omega) | (simp only [ltB_t, ltB_f, eqB_t, eqB_f, pB_t, pB_f, sEq_t, sEq_f, emp_iff, ne_eq, List.length_map, Bool.not_eq_true, Bool.not_eq_false, Bool.not_eq_eq_eq_not, Bool.not_true, Bool.not_false]; assumption)) ?_
    | (refine Br.mk ?_ ?_ <;> intro h <;> (try simp only [ltB_t, ltB_f, eqB_t, eqB_f, pB_t, pB_f, sEq_t, sEq_f, emp_iff, ne_eq, List.length_map, Bool.not_eq_true, Bool.not_eq_false, Bool.not_eq_eq_eq_not, Bool.not_true, Bool.not_false] at h))
    | refine Ixv.mk (by omega) (ixE (by omega) (by omega)) ?_
    | refine Elt.mk rfl ?_
    | refine Elt.mk (by assumption) ?_
    | refine Elt.mk (ixE (by omega) (by omega)) ?_
    | refine Mk.eq (by omega) (by omega) (by omega) ?_
    | refine Mk.zero (by omega) (by omega) (by omega) ?_
    | refine E.callR tt h_toCoat rfl rfl ⟨_, rfl, by first | assumption | omega, .inl rfl, ?_⟩)) <;> (try (conv => whnf))
  refine E.loop tt (fun p : List Dn × Frag => p.1.length ≤ xs.length ∧ NeD 2 p.1 p.2 ((xs.map D.Coat.Colour).take p.1.length)) (fun p => ⟨23, 2, [(0, .p (.view 4 (xs.map D.Coat.enc))), (3, .own 1), (4, .p (I p.1.length))], [(1, ⟨139, 4, stZ [.str ⟨#[]⟩, .int .i64 0, .int .i64 0, .nil] xs p.1⟩)], p.2⟩) (fun p => xs.length - p.1.length) ([], X) ⟨Nat.zero_le _, NeD.nil _ _⟩ ⟨rfl, ⟨rfl, rfl, rfl, trivial⟩, ⟨congrArg some (rowEq (by rw [stZ_zero]; simp)), trivial⟩, rfl, rfl, fun _ _ h => h⟩ ?_
  rintro p ⟨hp, hD⟩
  have hzl := stZ_len (z := [.str ⟨#[]⟩, .int .i64 0, .int .i64 0, .nil]) hp
  have hci : ((ix xs p.1.length).Colour.length : Int) ≤ 1048576 := ix_prop (p := fun x : D.Coat => (x.Colour.length : Int) ≤ 1048576) hcl (by decide) _
  rcases Nat.lt_or_ge p.1.length xs.length with hlt | hge
  · have hg := stZ_get (z := [.str ⟨#[]⟩, .int .i64 0, .int .i64 0, .nil]) hlt
    have hixx : ix xs p.1.length = xs[p.1.length] := ix_get hlt
    (repeat' ((conv => whnf); first
    | refine Elt.mk (by rw [Int.toNat_natCast]; exact hg) ?_
    | refine Sd.mk (by first | omega | (unfold in64; omega) | (simp only [fitK, in64]; omega) | (simp only [fitK, in64, chunk, List.length_map, List.length_append, List.length_replicate, List.length_set, List.length_nil, List.length_cons]; omega)) ?_
    | refine Br.yes rfl ?_
    | refine Br.no rfl ?_
    | refine Br.yes (by first | (simp only [ltB_t, ltB_f, eqB_t, eqB_f, pB_t, pB_f, sEq_t, sEq_f, emp_iff, ne_eq, List.length_map, Bool.not_eq_true, Bool.not_eq_false, Bool.not_eq_eq_eq_not, Bool.not_true, Bool.not_false]; done) | (simp only [ltB_t, ltB_f, eqB_t, eqB_f, pB_t, pB_f, sEq_t, sEq_f, emp_iff, ne_eq, List.length_map, Bool.not_eq_true, Bool.not_eq_false, Bool.not_eq_eq_eq_not, Bool.not_true, Bool.not_false]; omega) | (simp only [ltB_t, ltB_f, eqB_t, eqB_f, pB_t, pB_f, sEq_t, sEq_f, emp_iff, ne_eq, List.length_map, Bool.not_eq_true, Bool.not_eq_false, Bool.not_eq_eq_eq_not, Bool.not_true, Bool.not_false]; assumption)) ?_
    | refine Br.no (by first | (simp only [ltB_t, ltB_f, eqB_t, eqB_f, pB_t, pB_f, sEq_t, sEq_f, emp_iff, ne_eq, List.length_map, Bool.not_eq_true, Bool.not_eq_false, Bool.not_eq_eq_eq_not, Bool.not_true, Bool.not_false]; done) | (simp only [ltB_t, ltB_f, eqB_t, eqB_f, pB_t, pB_f, sEq_t, sEq_f, emp_iff, ne_eq, List.length_map, Bool.not_eq_true, Bool.not_eq_false, Bool.not_eq_eq_eq_not, Bool.not_true, Bool.not_false]; omega) | (simp only [ltB_t, ltB_f, eqB_t, eqB_f, pB_t, pB_f, sEq_t, sEq_f, emp_iff, ne_eq, List.length_map, Bool.not_eq_true, Bool.not_eq_false, Bool.not_eq_eq_eq_not, Bool.not_true, Bool.not_false]; assumption)) ?_
    | (refine Br.mk ?_ ?_ <;> intro h <;> (try simp only [ltB_t, ltB_f, eqB_t, eqB_f, pB_t, pB_f, sEq_t, sEq_f, emp_iff, ne_eq, List.length_map, Bool.not_eq_true, Bool.not_eq_false, Bool.not_eq_eq_eq_not, Bool.not_true, Bool.not_false] at h))
    | refine Ixv.mk (by omega) (ixE (by omega) (by omega)) ?_
    | refine Elt.mk rfl ?_
    | refine Elt.mk (by assumption) ?_
    | refine Elt.mk (ixE (by omega) (by omega)) ?_
    | refine Mk.eq (by omega) (by omega) (by omega) ?_
    | refine Mk.zero (by omega) (by omega) (by omega) ?_
    | refine E.callY tt h_toCoatG rfl rfl rfl ⟨rfl, _, rfl, by omega, fun d hd1 hd2 hd3 => ?_⟩
    | refine E.callR tt h_toCoat rfl rfl ⟨_, rfl, by first | assumption | omega, .inl rfl, ?_⟩)) <;> (try (conv => whnf))
    all_goals (refine ⟨(p.1 ++ [d], _), ⟨by simp; omega, (hD.snoc hd1 hd2).cast (by rw [hd3, hixx]; simp only [List.length_append, List.length_singleton]; rw [List.take_succ_eq_append_getElem (by simpa using hlt)]; simp)⟩, by simp; omega, ⟨rfl, ⟨rfl, rfl, pI (by simp), trivial⟩, ⟨congrArg some (rowEq (by rw [Int.toNat_natCast, hixx]; exact stZ_set hlt)), trivial⟩, rfl, rfl, fun _ _ h => h⟩⟩)
  · have hpe : p.1.length = xs.length := by omega
    have hD2 := hD.cast (ll' := xs.map D.Coat.Colour) (by rw [hpe, List.take_of_length_le (by simp)])
    (repeat' ((conv => whnf); first
    | refine Sd.mk (by first | omega | (unfold in64; omega) | (simp only [fitK, in64]; omega) | (simp only [fitK, in64, chunk, List.length_map, List.length_append, List.length_replicate, List.length_set, List.length_nil, List.length_cons]; omega)) ?_
    | refine Br.yes rfl ?_
    | refine Br.no rfl ?_
    | refine Br.yes (by first | (simp only [ltB_t, ltB_f, eqB_t, eqB_f, pB_t, pB_f, sEq_t, sEq_f, emp_iff, ne_eq, List.length_map, Bool.not_eq_true, Bool.not_eq_false, Bool.not_eq_eq_eq_not, Bool.not_true, Bool.not_false]; done) | (simp only [ltB_t, ltB_f, eqB_t, eqB_f, pB_t, pB_f, sEq_t, sEq_f, emp_iff, ne_eq, List.length_map, Bool.not_eq_true, Bool.not_eq_false, Bool.not_eq_eq_eq_not, Bool.not_true, Bool.not_false]; omega) | (simp only [ltB_t, ltB_f, eqB_t, eqB_f, pB_t, pB_f, sEq_t, sEq_f, emp_iff, ne_eq, List.length_map, Bool.not_eq_true, Bool.not_eq_false, Bool.not_eq_eq_eq_not, Bool.not_true, Bool.not_false]; assumption)) ?_
    | refine Br.no (by first | (simp only [ltB_t, ltB_f, eqB_t, eqB_f, pB_t, pB_f, sEq_t, sEq_f, emp_iff, ne_eq, List.length_map, Bool.not_eq_true, Bool.not_eq_false, Bool.not_eq_eq_eq_not, Bool.not_true, Bool.not_false]; done) | (simp only [ltB_t, ltB_f, eqB_t, eqB_f, pB_t, pB_f, sEq_t, sEq_f, emp_iff, ne_eq, List.length_map, Bool.not_eq_true, Bool.not_eq_false, Bool.not_eq_eq_eq_not, Bool.not_true, Bool.not_false]; omega) | (simp only [ltB_t, ltB_f, eqB_t, eqB_f, pB_t, pB_f, sEq_t, sEq_f, emp_iff, ne_eq, List.length_map, Bool.not_eq_true, Bool.not_eq_false, Bool.not_eq_eq_eq_not, Bool.not_true, Bool.not_false]; assumption)) ?_
    | (refine Br.mk ?_ ?_ <;> intro h <;> (try simp only [ltB_t, ltB_f, eqB_t, eqB_f, pB_t, pB_f, sEq_t, sEq_f, emp_iff, ne_eq, List.length_map, Bool.not_eq_true, Bool.not_eq_false, Bool.not_eq_eq_eq_not, Bool.not_true, Bool.not_false] at h))
    | refine Ixv.mk (by omega) (ixE (by omega) (by omega)) ?_
    | refine Elt.mk rfl ?_
    | refine Elt.mk (by assumption) ?_
    | refine Elt.mk (ixE (by omega) (by omega)) ?_
    | refine Mk.eq (by omega) (by omega) (by omega) ?_
    | refine Mk.zero (by omega) (by omega) (by omega) ?_
    | refine E.callR tt h_toCoat rfl rfl ⟨_, rfl, by first | assumption | omega, .inl rfl, ?_⟩)) <;> (try (conv => whnf))
    all_goals (exact ⟨_, ⟨rfl, rfl, rfl⟩, (fun r hr => by simp at hr; subst hr; rw [stZ_full hpe]; exact stE_sc _ _), (fun r h => by cases h), rfl, by rw [stZ_full hpe]; exact hK _ _ hD2⟩)
theorem h_markCoatsG : YHolds Try.prog 50 (fun me args X K => ∃ (xs : List D.Coat) (ds : List Dn) (k : Int), me = .sl ⟨139, 4, stE xs ds⟩ ∧ args = [I k] ∧ NeD 2 ds X (xs.map D.Coat.Colour) ∧ (xs.length : Int) ≤ 1048576 ∧ afS xs xs.length ≤ 1048576 ∧ 1 ≤ k ∧ k ≤ 1000 ∧
    ∀ r' X' k', (∀ b, X' b = none ↔ X b = none) → 1 ≤ k' → k' ≤ 10000000 → K (some r') X' [.p (I k')]) := by
  refine E.mkY tt Try.func50 rfl Try.ntmps50 rfl (by kernel_rfl) ?_
  rintro _ _ X K ⟨xs, ds, k, rfl, rfl, hD, hl, hs, hk0, hk1, hK⟩
  refine ⟨Nat.le_of_ble_eq_true rfl, ?_⟩
  (repeat' ((conv => whnf); first
    | refine Sd.mk (by first | omega | (unfold in64; omega) | (simp only [fitK, in64]; omega) | (simp only [fitK, in64, chunk, List.length_map, List.length_append, List.length_replicate, List.length_set, List.length_nil, List.length_cons]; omega)) ?_
    | refine Br.yes rfl ?_
    | refine Br.no rfl ?_
    | refine Br.yes (by first | (simp only [ltB_t, ltB_f, eqB_t, eqB_f, pB_t, pB_f, sEq_t, sEq_f, emp_iff, ne_eq, List.length_map, Bool.not_eq_true, Bool.not_eq_false, Bool.not_eq_eq_eq_not, Bool.not_true, Bool.not_false]; done) | (simp only [ltB_t, ltB_f, eqB_t, eqB_f, pB_t, pB_f, sEq_t, sEq_f, emp_iff, ne_eq, List.length_map, Bool.not_eq_true, Bool.not_eq_false, Bool.not_eq_eq_eq_not, Bool.not_true, Bool.not_false]; omega) | (simp only [ltB_t, ltB_f, eqB_t, eqB_f, pB_t, pB_f, sEq_t, sEq_f, emp_iff, ne_eq, List.length_map, Bool.not_eq_true, Bool.not_eq_false, Bool.not_eq_eq_eq_not, Bool.not_true, Bool.not_false]; assumption)) ?_
    | refine Br.no (by first | (simp only [ltB_t, ltB_f, eqB_t, eqB_f, pB_t, pB_f, sEq_t, sEq_f, emp_iff, ne_eq, List.length_map, Bool.not_eq_true, Bool.not_eq_false, Bool.not_eq_eq_eq_not, Bool.not_true, Bool.not_false]; done) | (simp only [ltB_t, ltB_f, eqB_t, eqB_f, pB_t, pB_f, sEq_t, sEq_f, emp_iff, ne_eq, List.length_map, Bool.not_eq_true, Bool.not_eq_false, Bool.not_eq_eq_eq_not, Bool.not_true, Bool.not_false]; omega) | (simp only [ltB_t, ltB_f, eqB_t, eqB_f, pB_t, pB_f, sEq_t, sEq_f, emp_iff, ne_eq, List.length_map, Bool.not_eq_true, Bool.not_eq_false, Bool.not_eq_eq_eq_not, Bool.not_true, Bool.not_false]; assumption)) ?_
    | (refine Br.mk ?_ ?_ <;> intro h <;> (try simp only [ltB_t, ltB_f, eqB_t, eqB_f, pB_t, pB_f, sEq_t, sEq_f, emp_iff, ne_eq, List.length_map, Bool.not_eq_true, Bool.not_eq_false, Bool.not_eq_eq_eq_not, Bool.not_true, Bool.not_false] at h))
    | refine Ixv.mk (by omega) (ixE (by omega) (by omega)) ?_
    | refine Elt.mk rfl ?_
    | refine Elt.mk (by assumption) ?_
    | refine Elt.mk (ixE (by omega) (by omega)) ?_
    | refine E.callM tt h_markInt64S rfl rfl rfl rfl rfl rfl ⟨_, _, rfl, rfl, by omega, by omega, by omega, rfl, _, rfl, by simp [mkl_length], ?_⟩
    | refine E.call tt (h_markInt64SN.nilV [1]) rfl rfl ⟨_, rfl, by unfold in64; omega, _, _, rfl, rfl, ?_⟩
    | refine E.call tt h_markText rfl rfl ⟨_, rfl, by omega, by omega, _, _, rfl, rfl, ?_⟩)) <;> (try (conv => whnf))
  refine E.loop tt (fun p : Int × List D.Coat × List Dn × Frag => (0 ≤ p.1 ∧ p.1 ≤ xs.length) ∧ MkS 2 xs ds X p.2.1 p.2.2.1 p.2.2.2) (fun p => ⟨42, 1, [(0, .own 0), (1, .p (I (k + 3 * p.1 + afS xs p.1))), (5, .p (I p.1))], [(0, ⟨139, 4, stE p.2.1 p.2.2.1⟩)], p.2.2.2⟩) (fun p => (xs.length - p.1).toNat) (0, xs, ds, X) ⟨⟨by dsimp only; omega, by dsimp only; omega⟩, MkS.start hD⟩ ⟨rfl, ⟨rfl, pI (by unfold afS; rw [sumTo_zero]; omega), rfl, trivial⟩, ⟨rfl, trivial⟩, rfl, rfl, fun _ _ h => h⟩ ?_
  rintro p ⟨⟨hi0, hi1⟩, hM⟩
  have hrl := hM.rlen
  have h0 := afS_0 xs hi0
  have hle := afS_le xs hi0 hi1
  rcases Int.lt_or_le p.1 xs.length with hlt | hge
  · obtain ⟨d, q1, q2, q3, q4⟩ := hM.step hD.nd hi0 hlt
    obtain ⟨hdX, hdN⟩ := hM.inx d q1
    have hsu := afS_succ xs hi0
    have hle2 := afS_le xs (i := p.1 + 1) (n := xs.length) (by omega) (by omega)
    have hset : ∀ e : List PV, ((stE p.2.1 p.2.2.1).set p.1.toNat e)[p.1.toNat]? = some e := fun e => elt_set (by rw [hrl]; omega)
    have hset2 : ∀ e f : List PV, (((stE p.2.1 p.2.2.1).set p.1.toNat e).set p.1.toNat f)[p.1.toNat]? = some f := fun e f => by rw [List.set_set]; exact hset f
    have hset3 : ∀ e f g : List PV, ((((stE p.2.1 p.2.2.1).set p.1.toNat e).set p.1.toNat f).set p.1.toNat g)[p.1.toNat]? = some g := fun e f g => by rw [List.set_set, List.set_set]; exact hset g
    (repeat' ((conv => whnf); first
    | refine Elt.mk q2 ?_
    | refine Elt.mk (hset _) ?_
    | refine Elt.mk (hset2 _ _) ?_
    | refine Elt.mk (hset3 _ _ _) ?_
    | refine Sd.mk (by first | omega | (unfold in64; omega) | (simp only [fitK, in64]; omega) | (simp only [fitK, in64, chunk, List.length_map, List.length_append, List.length_replicate, List.length_set, List.length_nil, List.length_cons]; omega)) ?_
    | refine Br.yes rfl ?_
    | refine Br.no rfl ?_
    | refine Br.yes (by first | (simp only [ltB_t, ltB_f, eqB_t, eqB_f, pB_t, pB_f, sEq_t, sEq_f, emp_iff, ne_eq, List.length_map, Bool.not_eq_true, Bool.not_eq_false, Bool.not_eq_eq_eq_not, Bool.not_true, Bool.not_false]; done) | (simp only [ltB_t, ltB_f, eqB_t, eqB_f, pB_t, pB_f, sEq_t, sEq_f, emp_iff, ne_eq, List.length_map, Bool.not_eq_true, Bool.not_eq_false, Bool.not_eq_eq_eq_not, Bool.not_true, Bool.not_false]; omega) | (simp only [ltB_t, ltB_f, eqB_t, eqB_f, pB_t, pB_f, sEq_t, sEq_f, emp_iff, ne_eq, List.length_map, Bool.not_eq_true, Bool.not_eq_false, Bool.not_eq_eq_eq_not, Bool.not_true, Bool.not_false]; assumption)) ?_
    | refine Br.no (by first | (simp only [ltB_t, ltB_f, eqB_t, eqB_f, pB_t, pB_f, sEq_t, sEq_f, emp_iff, ne_eq, List.length_map, Bool.not_eq_true, Bool.not_eq_false, Bool.not_eq_eq_eq_not, Bool.not_true, Bool.not_false]; done) | (simp only [ltB_t, ltB_f, eqB_t, eqB_f, pB_t, pB_f, sEq_t, sEq_f, emp_iff, ne_eq, List.length_map, Bool.not_eq_true, Bool.not_eq_false, Bool.not_eq_eq_eq_not, Bool.not_true, Bool.not_false]; omega) | (simp only [ltB_t, ltB_f, eqB_t, eqB_f, pB_t, pB_f, sEq_t, sEq_f, emp_iff, ne_eq, List.length_map, Bool.not_eq_true, Bool.not_eq_false, Bool.not_eq_eq_eq_not, Bool.not_true, Bool.not_false]; assumption)) ?_
    | (refine Br.mk ?_ ?_ <;> intro h <;> (try simp only [ltB_t, ltB_f, eqB_t, eqB_f, pB_t, pB_f, sEq_t, sEq_f, emp_iff, ne_eq, List.length_map, Bool.not_eq_true, Bool.not_eq_false, Bool.not_eq_eq_eq_not, Bool.not_true, Bool.not_false] at h))
    | refine Ixv.mk (by omega) (ixE (by omega) (by omega)) ?_
    | refine Elt.mk rfl ?_
    | refine Elt.mk (by assumption) ?_
    | refine Elt.mk (ixE (by omega) (by omega)) ?_
    | refine Sd.mk (by simp only [List.length_set, hrl]; omega) ?_
    | refine E.callMX tt (b := d.b) (c := d.c) (l := d.l) (C := d.C) h_markInt64S rfl rfl hdX hdN rfl rfl rfl ⟨d.l, _, rfl, rfl, by omega, by omega, by omega, _, _, rfl, rfl, fun C' hC' => ?_⟩
    | refine E.callM tt h_markInt64S rfl rfl rfl rfl rfl rfl ⟨_, _, rfl, rfl, by omega, by omega, by omega, rfl, _, rfl, by simp [mkl_length], ?_⟩
    | refine E.call tt (h_markInt64SN.nilV [1]) rfl rfl ⟨_, rfl, by unfold in64; omega, _, _, rfl, rfl, ?_⟩
    | refine E.call tt h_markText rfl rfl ⟨_, rfl, by omega, by omega, _, _, rfl, rfl, ?_⟩)) <;> (try (conv => whnf))
    all_goals (have hq5 := q4 ⟨mtxt (k + 3 * p.1 + afS xs p.1), k + 3 * p.1 + afS xs p.1 + 1, k + 3 * p.1 + afS xs p.1 + 1 + 1, []⟩ C' _ (by rw [mkl_length]) hC'; refine ⟨(p.1 + 1, _, _, _), ⟨⟨by dsimp only; omega, by dsimp only; omega⟩, hq5.1⟩, by dsimp only; omega, ⟨rfl, ⟨rfl, pI (by dsimp only; rw [hsu]; omega), rfl, trivial⟩, ⟨congrArg some (rowEq (by simp only [List.set_set]; exact hq5.2)), trivial⟩, rfl, rfl, fun _ _ h => h⟩⟩)
  · (repeat' ((conv => whnf); first
    | refine Sd.mk (by first | omega | (unfold in64; omega) | (simp only [fitK, in64]; omega) | (simp only [fitK, in64, chunk, List.length_map, List.length_append, List.length_replicate, List.length_set, List.length_nil, List.length_cons]; omega)) ?_
    | refine Br.yes rfl ?_
    | refine Br.no rfl ?_
    | refine Br.yes (by first | (simp only [ltB_t, ltB_f, eqB_t, eqB_f, pB_t, pB_f, sEq_t, sEq_f, emp_iff, ne_eq, List.length_map, Bool.not_eq_true, Bool.not_eq_false, Bool.not_eq_eq_eq_not, Bool.not_true, Bool.not_false]; done) | (simp only [ltB_t, ltB_f, eqB_t, eqB_f, pB_t, pB_f, sEq_t, sEq_f, emp_iff, ne_eq, List.length_map, Bool.not_eq_true, Bool.not_eq_false, Bool.not_eq_eq_eq_not, Bool.not_true, Bool.not_false]; omega) | (simp only [ltB_t, ltB_f, eqB_t, eqB_f, pB_t, pB_f, sEq_t, sEq_f, emp_iff, ne_eq, List.length_map, Bool.not_eq_true, Bool.not_eq_false, Bool.not_eq_eq_eq_not, Bool.not_true, Bool.not_false]; assumption)) ?_
    | refine Br.no (by first | (simp only [ltB_t, ltB_f, eqB_t, eqB_f, pB_t, pB_f, sEq_t, sEq_f, emp_iff, ne_eq, List.length_map, Bool.not_eq_true, Bool.not_eq_false, Bool.not_eq_eq_eq_not, Bool.not_true, Bool.not_false]; done) | (simp only [ltB_t, ltB_f, eqB_t, eqB_f, pB_t, pB_f, sEq_t, sEq_f, emp_iff, ne_eq, List.length_map, Bool.not_eq_true, Bool.not_eq_false, Bool.not_eq_eq_eq_not, Bool.not_true, Bool.not_false]; omega) | (simp only [ltB_t, ltB_f, eqB_t, eqB_f, pB_t, pB_f, sEq_t, sEq_f, emp_iff, ne_eq, List.length_map, Bool.not_eq_true, Bool.not_eq_false, Bool.not_eq_eq_eq_not, Bool.not_true, Bool.not_false]; assumption)) ?_
    | (refine Br.mk ?_ ?_ <;> intro h <;> (try simp only [ltB_t, ltB_f, eqB_t, eqB_f, pB_t, pB_f, sEq_t, sEq_f, emp_iff, ne_eq, List.length_map, Bool.not_eq_true, Bool.not_eq_false, Bool.not_eq_eq_eq_not, Bool.not_true, Bool.not_false] at h))
    | refine Ixv.mk (by omega) (ixE (by omega) (by omega)) ?_
    | refine Elt.mk rfl ?_
    | refine Elt.mk (by assumption) ?_
    | refine Elt.mk (ixE (by omega) (by omega)) ?_
    | refine E.callM tt h_markInt64S rfl rfl rfl rfl rfl rfl ⟨_, _, rfl, rfl, by omega, by omega, by omega, rfl, _, rfl, by simp [mkl_length], ?_⟩
    | refine E.call tt (h_markInt64SN.nilV [1]) rfl rfl ⟨_, rfl, by unfold in64; omega, _, _, rfl, rfl, ?_⟩
    | refine E.call tt h_markText rfl rfl ⟨_, rfl, by omega, by omega, _, _, rfl, rfl, ?_⟩)) <;> (try (conv => whnf))
    all_goals (exact ⟨_, ⟨rfl, rfl, rfl⟩, (fun r hr => by simp at hr; subst hr; rfl), (fun r h => by cases h; exact ⟨_, rfl, rfl, by show (stE _ _).length = (stE _ _).length; rw [hrl, stE_len (by have := hM.len; have := congrArg List.length hM.bs; simp at this; omega)]⟩), rfl, hK _ _ _ hM.dom (by omega) (by omega)⟩)

end Go.Proofs.Ytakpiiekdlbgmaa
