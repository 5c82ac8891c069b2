/- Contracts (Nst). -/
import Derived.Test.YtakpiiekdlbgmaaLs
set_option linter.unusedVariables false
set_option linter.unusedSimpArgs false
set_option maxRecDepth 100000
namespace Go.Lo
-- deps: Ls
def encL (l : List Int) : List PV := [.view 1 (l.map encI)]
/-- The marks of rows of rows, from k on. -/
def mkLL : Int → List (List Int) → List (List Int)
  | _, [] => []
  | k, l :: ll => mkl mkI 1 k l.length :: mkLL (k + 1 * l.length) ll
def mkK : Int → List (List Int) → Int
  | k, [] => k
  | k, l :: ll => mkK (k + 1 * l.length) ll
theorem mkLL_len : ∀ (k : Int) (ll : List (List Int)), (mkLL k ll).length = ll.length
  | _, [] => rfl
  | k, l :: ll => by simp [mkLL, mkLL_len _ ll]
theorem mkLL_at : ∀ (ll : List (List Int)) (k : Int) (i : Nat) (h : i < ll.length), (mkLL k ll)[i]? = some (mkl mkI 1 (mkK k (ll.take i)) (ll[i]).length)
  | l :: ll, k, 0, h => by simp [mkLL, mkK]
  | l :: ll, k, i + 1, h => by
    simp only [mkLL, List.getElem?_cons_succ, List.take_succ_cons, mkK, List.getElem_cons_succ]
    exact mkLL_at ll _ i (by simpa using h)
theorem mkK_succ : ∀ (ll : List (List Int)) (k : Int) (i : Nat) (h : i < ll.length), mkK k (ll.take (i + 1)) = mkK k (ll.take i) + 1 * (ll[i]).length
  | l :: ll, k, 0, h => by simp [mkK]
  | l :: ll, k, i + 1, h => by
    simp only [List.take_succ_cons, mkK, List.getElem_cons_succ]
    exact mkK_succ ll _ i (by simpa using h)
theorem mkK_bd : ∀ (ll : List (List Int)) (k : Int), (∀ l ∈ ll, (l.length : Int) ≤ 16) → k ≤ mkK k ll ∧ mkK k ll ≤ k + 16 * (ll.length : Int)
  | [], k, _ => by simp [mkK]
  | l :: ll, k, h => by
    have h1 := h l (by simp)
    have h2 := mkK_bd ll (k + 1 * (l.length : Int)) (fun x hx => h x (by simp [hx]))
    simp only [mkK, List.length_cons]
    omega
/-- The known blocks of a list of rows while they are marked: i of them are done. -/
structure MarkI (e : Nat) (X : Frag) (ds : List Dn) (k i : Int) (ds' : List Dn) (X' : Frag) : Prop where
  raw : rawE ds' = rawE ds
  bs : ds'.map (·.b) = ds.map (·.b)
  inx : InX e X' ds'
  ls : ds'.map (·.l) = mkLL k ((ds.map (·.l)).take i.toNat) ++ (ds.map (·.l)).drop i.toNat
  dom : ∀ b, X' b = none ↔ X b = none
theorem MarkI.start {e : Nat} {X : Frag} {ds : List Dn} {k : Int} (h : InX e X ds) : MarkI e X ds k 0 ds X :=
  ⟨rfl, rfl, h, by simp [mkLL], fun _ => Iff.rfl⟩
theorem nodup_b {ds : List Dn} (h : (ds.map (·.b)).Nodup) {i j : Nat} (hi : i < ds.length) (hj : j < ds.length) (hne : i ≠ j) : (ds[j]).b ≠ (ds[i]).b := fun e => by
  have hp := List.pairwise_iff_getElem.1 h
  rcases Nat.lt_or_gt_of_ne hne with g | g
  · exact hp i j (by simpa using hi) (by simpa using hj) g (by simpa using e.symm)
  · exact hp j i (by simpa using hj) (by simpa using hi) g (by simpa using e)
theorem mkLL_snoc : ∀ (ll : List (List Int)) (k : Int) (l : List Int), mkLL k (ll ++ [l]) = mkLL k ll ++ [mkl mkI 1 (mkK k ll) l.length]
  | [], k, l => by simp [mkLL, mkK]
  | x :: ll, k, l => by simp only [List.cons_append, mkLL, mkLL_snoc ll, mkK]
theorem MarkI.at {e : Nat} {X X' : Frag} {ds ds' : List Dn} {k i : Int} (h : MarkI e X ds k i ds' X') (hnd : (ds.map (·.b)).Nodup) (h0 : 0 ≤ i) (h1 : i < ds.length) :
    ∃ d, d ∈ ds' ∧ (rawE ds)[i.toNat]? = some [.raw d.hdr] ∧ d.l = (ds[i.toNat]'(by omega)).l ∧
      mkK k ((ds.map (·.l)).take (i + 1).toNat) = mkK k ((ds.map (·.l)).take i.toNat) + 1 * (d.l.length : Int) ∧
      ∀ C', Nums C' d.c (mkl mkI 1 (mkK k ((ds.map (·.l)).take i.toNat)) d.l.length) → MarkI e X ds k (i + 1) (ds'.set i.toNat ⟨d.b, d.c, C', mkl mkI 1 (mkK k ((ds.map (·.l)).take i.toNat)) d.l.length⟩) (X'.upd d.b (.cells C' e (0, 0))) := by
  have hn : i.toNat < ds.length := by omega
  have hlen : ds'.length = ds.length := by have := congrArg List.length h.bs; simpa using this
  have hn' : i.toNat < ds'.length := by omega
  have hl : (ds'[i.toNat]).l = (ds[i.toNat]).l := by
    have e1 : (ds'.map (·.l))[i.toNat]? = some (ds'[i.toNat]).l := by simp [hn']
    have hml : (mkLL k ((ds.map (·.l)).take i.toNat)).length = i.toNat := by rw [mkLL_len, List.length_take, List.length_map]; omega
    rw [h.ls, List.getElem?_append_right (by omega), hml, Nat.sub_self, List.getElem?_drop, Nat.add_zero] at e1
    simp [hn] at e1
    exact e1.symm
  refine ⟨ds'[i.toNat], List.getElem_mem hn', ?_, hl, ?_, fun C' hC' => ⟨?_, ?_, ?_, ?_, ?_⟩⟩
  · rw [← h.raw]; simp [rawE, hn']
  · rw [show (i + 1).toNat = i.toNat + 1 by omega, mkK_succ _ _ _ (by simpa using hn), hl]; simp
  · rw [← h.raw]
    apply List.ext_getElem (by simp [rawE])
    intro j j1 j2
    simp only [rawE, List.getElem_map, List.getElem_set]
    split
    · rename_i e1; subst e1
      simp [Dn.hdr, mkl_length]
    · rfl
  · rw [← h.bs]
    apply List.ext_getElem (by simp)
    intro j j1 j2
    simp only [List.getElem_map, List.getElem_set]
    split
    · rename_i e1; subst e1; rfl
    · rfl
  · intro d hd
    obtain ⟨j, hj, rfl⟩ := List.mem_iff_getElem.1 hd
    rw [List.length_set] at hj
    rw [List.getElem_set]
    split
    · exact ⟨Frag.upd_same _ _ _, hC'⟩
    · rename_i hne
      have hb := nodup_b (ds := ds') (by rw [h.bs]; exact hnd) hn' hj hne
      obtain ⟨g1, g2⟩ := h.inx (ds'[j]) (List.getElem_mem hj)
      exact ⟨by rw [Frag.upd_ne _ _ hb]; exact g1, g2⟩
  · rw [List.map_set, h.ls]
    have hml : (mkLL k ((ds.map (·.l)).take i.toNat)).length = i.toNat := by rw [mkLL_len, List.length_take, List.length_map]; omega
    rw [List.set_append_right _ _ (by omega), hml, Nat.sub_self, show (i + 1).toNat = i.toNat + 1 by omega, List.take_succ_eq_append_getElem (by simpa using hn), mkLL_snoc, List.append_assoc]
    congr 1
    rw [List.drop_eq_getElem_cons (by simpa using hn), List.set_cons_zero]
    simp [hl]
  · intro b
    rw [← h.dom]
    by_cases hb : b = (ds'[i.toNat]).b
    · subst hb
      rw [Frag.upd_same, (h.inx _ (List.getElem_mem hn')).1]
      simp
    · rw [Frag.upd_ne _ _ hb]
/-- A function that may hand back rows of rows: conditions, the rows. -/
def n1 (B : Prop) (c1 : Int) (ll : List (List Int)) (o : Option (List (List Int))) (m : PV) : Prop := (¬ B ∧ o = none ∧ m = I c1) ∨ (B ∧ o = some ll ∧ m = I 0)
def n2 (B D : Prop) (c1 c2 : Int) (ll : List (List Int)) (o : Option (List (List Int))) (m : PV) : Prop := (¬ B ∧ o = none ∧ m = I c1) ∨ ((B ∧ ¬ D) ∧ o = none ∧ m = I c2) ∨ ((B ∧ D) ∧ o = some ll ∧ m = I 0)
/-- A row more, at the end. -/
theorem InX.snoc {e : Nat} {X : Frag} {ds : List Dn} {b c : Nat} {C : Array Value} {l : List Int} (h : InX e X ds) (hn : (ds.map (·.b)).Nodup) (hb : X b = none) (hN : Nums C c l) :
    InX e (X.upd b (.cells C e (0, 0))) (ds ++ [⟨b, c, C, l⟩]) ∧ ((ds ++ [(⟨b, c, C, l⟩ : Dn)]).map (·.b)).Nodup := by
  have hne : ∀ d ∈ ds, d.b ≠ b := fun d hd e1 => by rw [e1.symm, (h d hd).1] at hb; cases hb
  refine ⟨fun d hd => ?_, ?_⟩
  · rcases List.mem_append.1 hd with hd | hd
    · exact ⟨by rw [Frag.upd_ne _ _ (hne d hd)]; exact (h d hd).1, (h d hd).2⟩
    · have : d = ⟨b, c, C, l⟩ := by simpa using hd
      subst this
      exact ⟨Frag.upd_same _ _ _, hN⟩
  · rw [List.map_append, List.nodup_append]
    refine ⟨hn, by simp, fun x hx y hy => ?_⟩
    obtain ⟨d, hd, rfl⟩ := List.mem_map.1 hx
    have : y = b := by simpa using hy
    rw [this]; exact hne d hd
/-- Known rows, in the order ds, hold ll. -/
structure NeD (e : Nat) (ds : List Dn) (X : Frag) (ll : List (List Int)) : Prop where
  inx : InX e X ds
  nd : (ds.map (·.b)).Nodup
  ls : ds.map (·.l) = ll
theorem NeD.nil (e : Nat) (X : Frag) : NeD e [] X [] := ⟨fun d hd => (by cases hd), by simp, rfl⟩
theorem NeD.snoc {e : Nat} {ds : List Dn} {X : Frag} {ll : List (List Int)} (h : NeD e ds X ll) {b c : Nat} {C : Array Value} {l : List Int} (hb : X b = none) (hN : Nums C c l) : NeD e (ds ++ [⟨b, c, C, l⟩]) (X.upd b (.cells C e (0, 0))) (ll ++ [l]) :=
  let ⟨h1, h2⟩ := h.inx.snoc h.nd hb hN
  ⟨h1, h2, by rw [List.map_append, h.ls]; rfl⟩
theorem NeD.cast {e : Nat} {ds : List Dn} {X : Frag} {ll ll' : List (List Int)} (h : NeD e ds X ll) (e1 : ll = ll') : NeD e ds X ll' := e1 ▸ h
theorem NeD.len {e : Nat} {ds : List Dn} {X : Frag} {ll : List (List Int)} (h : NeD e ds X ll) : (rawE ds).length = ll.length := by rw [← h.ls]; simp [rawE]
theorem rawE_snoc (ds : List Dn) (d : Dn) : rawE (ds ++ [d]) = rawE ds ++ [[.raw d.hdr]] := by simp [rawE]
theorem cat_all {α : Type} {p : α → Prop} {g : Int → List α} (h : ∀ i, ∀ x ∈ g i, p x) {n : Int} (hn : 0 ≤ n) : ∀ x ∈ cat g n, p x :=
  it_inv (f := fun l i => l ++ g i) (fun _ l => ∀ x ∈ l, p x) (fun x hx => by cases hx) (N := n) (fun m l m0 m1 hq x hx => by
    rcases List.mem_append.1 hx with h' | h'
    · exact hq x h'
    · exact h m x h') hn (Int.le_refl _)
theorem Deep.nestL {st : St} {x : Operand} {ds : List Dn} {e : Nat} {ll : List (List Int)} (hx : st.ev x = .p (.view 1 (rawE ds))) (h : InX e st.x ds) (hl : ds.map (·.l) = ll) : Deep st x (.view 1 (ll.map encL)) := by
  subst hl; exact Deep.nest hx h
theorem Deep.nestM {st : St} {x : Operand} {ds ds' : List Dn} {e : Nat} {k : Int} {X X' : Frag} {ll : List (List Int)} (hx : st.ev x = .p (.view 1 (rawE ds))) (hM : MarkI e X ds k ds.length ds' X') (h : InX e st.x ds') (hl : ds.map (·.l) = ll) : Deep st x (.view 1 ((mkLL k ll).map encL)) := by
  refine Deep.nestL (ds := ds') (by rw [hM.raw]; exact hx) h ?_
  rw [hM.ls, hl, show ((ds.length : Int)).toNat = ds.length by omega]
  have : ll.length = ds.length := by rw [← hl]; simp
  rw [← this]; simp
theorem InX.keep {e : Nat} {X : Frag} {ds ds2 : List Dn} (h : InX e X ds) (hf : ∀ d ∈ ds2, X d.b = none) : InX e (fragU e ds2 X) ds := fun d hd => by
  obtain ⟨h1, h2⟩ := h d hd
  exact ⟨by rw [fragU_ne ds2 (fun d2 hd2 e1 => by have := hf d2 hd2; rw [← e1, h1] at this; cases this)]; exact h1, h2⟩
theorem ll_of {ds : List Dn} {ll : List (List Int)} (hl : ds.map (·.l) = ll) (h : ∀ l ∈ ll, (l.length : Int) ≤ 16) : ∀ d ∈ ds, (d.l.length : Int) ≤ 16 := fun d hd => h _ (by rw [← hl]; exact List.mem_map.2 ⟨d, hd, rfl⟩)
theorem ds_len {ds : List Dn} {ll : List (List Int)} (hl : ds.map (·.l) = ll) : ds.length = ll.length := by rw [← hl]; simp
theorem mkK_of {ds : List Dn} {ll : List (List Int)} (hl : ds.map (·.l) = ll) (k : Int) : I (mkK k (ds.map (·.l))) = I (mkK k ll) := by rw [hl]
end Go.Lo
namespace Go.Proofs.Ytakpiiekdlbgmaa
open Go.Lo
attribute [local irreducible] W Wc

theorem h_eqInt64SS : Holds Try.prog 14 (fun args K => ∃ xs ys : List (List Int), args = [.view 1 (xs.map encL), .view 1 (ys.map encL)] ∧ (xs.length : Int) ≤ 1048576 ∧ (∀ l ∈ xs, (l.length : Int) ≤ 1048576) ∧ K [.p (.bool (pB (xs = ys)))]) := by
  refine E.mk tt Try.func14 rfl Try.ntmps14 rfl (by kernel_rfl) ?_
  rintro _ K ⟨xs, ys, rfl, hl, hcl, hK⟩
  have hln : (xs.map encL).length = xs.length := by simp
  have hln2 : (ys.map encL).length = ys.length := by simp
  refine ⟨Nat.le_of_ble_eq_true rfl, _, hK, ?_⟩
  (repeat' ((conv => whnf); first
    | refine Sd.mk (by first | omega | (unfold in64; omega) | (simp only [fitK, in64]; omega) | (simp only [fitK, in64, chunk, List.length_map, List.length_append, List.length_replicate, List.length_set, List.length_nil, List.length_cons]; omega)) ?_
    | refine Br.yes rfl ?_
    | refine Br.no rfl ?_
    | refine Br.yes (by first | (simp only [ltB_t, ltB_f, eqB_t, eqB_f, pB_t, pB_f, sEq_t, sEq_f, emp_iff, ne_eq, List.length_map, Bool.not_eq_true, Bool.not_eq_false, Bool.not_eq_eq_eq_not, Bool.not_true, Bool.not_false]; done) | (simp only [ltB_t, ltB_f, eqB_t, eqB_f, pB_t, pB_f, sEq_t, sEq_f, emp_iff, ne_eq, List.length_map, Bool.not_eq_true, Bool.not_eq_false, Bool.not_eq_eq_eq_not, Bool.not_true, Bool.not_false]; omega) | (simp only [ltB_t, ltB_f, eqB_t, eqB_f, pB_t, pB_f, sEq_t, sEq_f, emp_iff, ne_eq, List.length_map, Bool.not_eq_true, Bool.not_eq_false, Bool.not_eq_eq_eq_not, Bool.not_true, Bool.not_false]; assumption)) ?_
    | refine Br.no (by first | (simp only [ltB_t, ltB_f, eqB_t, eqB_f, pB_t, pB_f, sEq_t, sEq_f, emp_iff, ne_eq, List.length_map, Bool.not_eq_true, Bool.not_eq_false, Bool.not_eq_eq_eq_not, Bool.not_true, Bool.not_false]; done) | (simp only [ltB_t, ltB_f, eqB_t, eqB_f, pB_t, pB_f, sEq_t, sEq_f, emp_iff, ne_eq, List.length_map, Bool.not_eq_true, Bool.not_eq_false, Bool.not_eq_eq_eq_not, Bool.not_true, Bool.not_false]; omega) | (simp only [ltB_t, ltB_f, eqB_t, eqB_f, pB_t, pB_f, sEq_t, sEq_f, emp_iff, ne_eq, List.length_map, Bool.not_eq_true, Bool.not_eq_false, Bool.not_eq_eq_eq_not, Bool.not_true, Bool.not_false]; assumption)) ?_
    | (refine Br.mk ?_ ?_ <;> intro h <;> (try simp only [ltB_t, ltB_f, eqB_t, eqB_f, pB_t, pB_f, sEq_t, sEq_f, emp_iff, ne_eq, List.length_map, Bool.not_eq_true, Bool.not_eq_false, Bool.not_eq_eq_eq_not, Bool.not_true, Bool.not_false] at h))
    | refine Ixv.mk (by omega) (ixE (by omega) (by omega)) ?_
    | refine Elt.mk rfl ?_
    | refine Elt.mk (by assumption) ?_
    | refine Elt.mk (ixE (by omega) (by omega)) ?_
    | refine E.call tt h_eqInt64S rfl rfl ⟨_, _, rfl, by omega, _, _, rfl, rfl, ?_⟩
    | refine E.call tt (h_eqInt64S.nilV [1, 1]) rfl rfl ⟨[], [], rfl, by decide, _, _, rfl, rfl, ?_⟩
    | refine E.regionQ tt (id := 6) mixed (by decide +kernel) ?_)) <;> (try (conv => whnf))
  all_goals try (refine fin_pB rfl rfl rfl ?_; simp only [ltB_t, ltB_f, eqB_t, eqB_f, pB_t, pB_f, sEq_t, sEq_f, emp_iff, ne_eq, List.length_map, Bool.not_eq_true, Bool.not_eq_false, Bool.not_eq_eq_eq_not, Bool.not_true, Bool.not_false, true_iff, false_iff, Bool.false_eq_true, iff_true, iff_false, and_true, true_and, not_false_eq_true]; intro hc; have hq := congrArg List.length hc; omega)
  have hle : (xs.length : Int) = ys.length := by assumption
  refine E.loop tt (fun i : Int => 0 ≤ i ∧ i ≤ xs.length ∧ allTo (fun j => ix xs j = ix ys j) i) (fun i => ⟨27, 1, [(0, .p (.view 1 (xs.map encL))), (1, .p (.view 1 (ys.map encL))), (5, .p (I i))], [], Frag.nil⟩) (fun i => (xs.length - i).toNat) 0 ⟨by omega, by omega, allTo_zero _⟩ ⟨rfl, ⟨rfl, rfl, rfl, trivial⟩, trivial, rfl, rfl, fun _ _ h => h⟩ ?_
  rintro i ⟨hi0, hi1, hinv⟩
  have hci : ((ix xs i).length : Int) ≤ 1048576 := ix_prop (p := fun l : List Int => (l.length : Int) ≤ 1048576) hcl (by decide) i
  (repeat' ((conv => whnf); first
    | refine Sd.mk (by first | omega | (unfold in64; omega) | (simp only [fitK, in64]; omega) | (simp only [fitK, in64, chunk, List.length_map, List.length_append, List.length_replicate, List.length_set, List.length_nil, List.length_cons]; omega)) ?_
    | refine Br.yes rfl ?_
    | refine Br.no rfl ?_
    | refine Br.yes (by first | (simp only [ltB_t, ltB_f, eqB_t, eqB_f, pB_t, pB_f, sEq_t, sEq_f, emp_iff, ne_eq, List.length_map, Bool.not_eq_true, Bool.not_eq_false, Bool.not_eq_eq_eq_not, Bool.not_true, Bool.not_false]; done) | (simp only [ltB_t, ltB_f, eqB_t, eqB_f, pB_t, pB_f, sEq_t, sEq_f, emp_iff, ne_eq, List.length_map, Bool.not_eq_true, Bool.not_eq_false, Bool.not_eq_eq_eq_not, Bool.not_true, Bool.not_false]; omega) | (simp only [ltB_t, ltB_f, eqB_t, eqB_f, pB_t, pB_f, sEq_t, sEq_f, emp_iff, ne_eq, List.length_map, Bool.not_eq_true, Bool.not_eq_false, Bool.not_eq_eq_eq_not, Bool.not_true, Bool.not_false]; assumption)) ?_
    | refine Br.no (by first | (simp only [ltB_t, ltB_f, eqB_t, eqB_f, pB_t, pB_f, sEq_t, sEq_f, emp_iff, ne_eq, List.length_map, Bool.not_eq_true, Bool.not_eq_false, Bool.not_eq_eq_eq_not, Bool.not_true, Bool.not_false]; done) | (simp only [ltB_t, ltB_f, eqB_t, eqB_f, pB_t, pB_f, sEq_t, sEq_f, emp_iff, ne_eq, List.length_map, Bool.not_eq_true, Bool.not_eq_false, Bool.not_eq_eq_eq_not, Bool.not_true, Bool.not_false]; omega) | (simp only [ltB_t, ltB_f, eqB_t, eqB_f, pB_t, pB_f, sEq_t, sEq_f, emp_iff, ne_eq, List.length_map, Bool.not_eq_true, Bool.not_eq_false, Bool.not_eq_eq_eq_not, Bool.not_true, Bool.not_false]; assumption)) ?_
    | (refine Br.mk ?_ ?_ <;> intro h <;> (try simp only [ltB_t, ltB_f, eqB_t, eqB_f, pB_t, pB_f, sEq_t, sEq_f, emp_iff, ne_eq, List.length_map, Bool.not_eq_true, Bool.not_eq_false, Bool.not_eq_eq_eq_not, Bool.not_true, Bool.not_false] at h))
    | refine Ixv.mk (by omega) (ixE (by omega) (by omega)) ?_
    | refine Elt.mk rfl ?_
    | refine Elt.mk (by assumption) ?_
    | refine Elt.mk (ixE (by omega) (by omega)) ?_
    | refine E.call tt h_eqInt64S rfl rfl ⟨_, _, rfl, by omega, _, _, rfl, rfl, ?_⟩
    | refine E.call tt (h_eqInt64S.nilV [1, 1]) rfl rfl ⟨[], [], rfl, by decide, _, _, rfl, rfl, ?_⟩
    | refine E.regionQ tt (id := 6) mixed (by decide +kernel) ?_)) <;> (try (conv => whnf))
  all_goals first
    | (refine fin_pB rfl rfl rfl ?_; simp only [ltB_t, ltB_f, eqB_t, eqB_f, pB_t, pB_f, sEq_t, sEq_f, emp_iff, ne_eq, List.length_map, Bool.not_eq_true, Bool.not_eq_false, Bool.not_eq_eq_eq_not, Bool.not_true, Bool.not_false, true_iff, false_iff, Bool.false_eq_true, iff_true, iff_false, and_true, true_and, not_false_eq_true]; first
        | (intro hc; exact absurd (by rw [hc]) (by assumption : ¬ ix xs i = ix ys i))
        | exact list_ext_ix hle (allTo_le hinv (by omega)))
    | (refine ⟨i + 1, ⟨by omega, by omega, allTo_succ hinv (by assumption)⟩, by dsimp only; omega, ⟨rfl, ⟨rfl, rfl, rfl, trivial⟩, trivial, rfl, rfl, fun _ _ h => h⟩⟩)

theorem h_heldInt64SS : Holds Try.prog 18 (fun args K => ∃ (ll : List (List Int)) (k : Int), args = [.view 1 ((mkLL k ll).map encL), I k] ∧ (ll.length : Int) ≤ 1048576 ∧ (∀ l ∈ ll, (l.length : Int) ≤ 16) ∧ 1 ≤ k ∧ k ≤ 1000 ∧ K [.p (I (mkK k ll))]) := by
  refine E.mk tt Try.func18 rfl Try.ntmps18 rfl (by kernel_rfl) ?_
  rintro _ K ⟨ll, k, rfl, hl, hcl, hk0, hk1, hK⟩
  have hln : ((mkLL k ll).map encL).length = ll.length := by simp [mkLL_len]
  have hln2 := mkLL_len k ll
  refine ⟨Nat.le_of_ble_eq_true rfl, _, hK, ?_⟩
  (repeat' ((conv => whnf); first
    | refine Sd.mk (by first | omega | (unfold in64; omega) | (simp only [fitK, in64]; omega) | (simp only [fitK, in64, chunk, List.length_map, List.length_append, List.length_replicate, List.length_set, List.length_nil, List.length_cons]; omega)) ?_
    | refine Br.yes rfl ?_
    | refine Br.no rfl ?_
    | refine Br.yes (by first | (simp only [ltB_t, ltB_f, eqB_t, eqB_f, pB_t, pB_f, sEq_t, sEq_f, emp_iff, ne_eq, List.length_map, Bool.not_eq_true, Bool.not_eq_false, Bool.not_eq_eq_eq_not, Bool.not_true, Bool.not_false]; done) | (simp only [ltB_t, ltB_f, eqB_t, eqB_f, pB_t, pB_f, sEq_t, sEq_f, emp_iff, ne_eq, List.length_map, Bool.not_eq_true, Bool.not_eq_false, Bool.not_eq_eq_eq_not, Bool.not_true, Bool.not_false]; omega) | (simp only [ltB_t, ltB_f, eqB_t, eqB_f, pB_t, pB_f, sEq_t, sEq_f, emp_iff, ne_eq, List.length_map, Bool.not_eq_true, Bool.not_eq_false, Bool.not_eq_eq_eq_not, Bool.not_true, Bool.not_false]; assumption)) ?_
    | refine Br.no (by first | (simp only [ltB_t, ltB_f, eqB_t, eqB_f, pB_t, pB_f, sEq_t, sEq_f, emp_iff, ne_eq, List.length_map, Bool.not_eq_true, Bool.not_eq_false, Bool.not_eq_eq_eq_not, Bool.not_true, Bool.not_false]; done) | (simp only [ltB_t, ltB_f, eqB_t, eqB_f, pB_t, pB_f, sEq_t, sEq_f, emp_iff, ne_eq, List.length_map, Bool.not_eq_true, Bool.not_eq_false, Bool.not_eq_eq_eq_not, Bool.not_true, Bool.not_false]; omega) | (simp only [ltB_t, ltB_f, eqB_t, eqB_f, pB_t, pB_f, sEq_t, sEq_f, emp_iff, ne_eq, List.length_map, Bool.not_eq_true, Bool.not_eq_false, Bool.not_eq_eq_eq_not, Bool.not_true, Bool.not_false]; assumption)) ?_
    | (refine Br.mk ?_ ?_ <;> intro h <;> (try simp only [ltB_t, ltB_f, eqB_t, eqB_f, pB_t, pB_f, sEq_t, sEq_f, emp_iff, ne_eq, List.length_map, Bool.not_eq_true, Bool.not_eq_false, Bool.not_eq_eq_eq_not, Bool.not_true, Bool.not_false] at h))
    | refine Ixv.mk (by omega) (ixE (by omega) (by omega)) ?_
    | refine Elt.mk rfl ?_
    | refine Elt.mk (by assumption) ?_
    | refine Elt.mk (ixE (by omega) (by omega)) ?_
    | refine E.call tt h_heldInt64S rfl rfl ⟨_, _, rfl, by omega, by omega, by omega, _, _, rfl, rfl, ?_⟩
    | refine E.call tt (h_heldInt64S.nilV [1]) rfl rfl ⟨0, _, rfl, by decide, by omega, by omega, _, _, rfl, rfl, ?_⟩)) <;> (try (conv => whnf))
  refine E.loop tt (fun i : Int => 0 ≤ i ∧ i ≤ ll.length) (fun i => ⟨21, 1, [(0, .p (.view 1 ((mkLL k ll).map encL))), (1, .p (I (mkK k (ll.take i.toNat)))), (5, .p (I i))], [], Frag.nil⟩) (fun i => (ll.length - i).toNat) 0 ⟨by omega, by omega⟩ ⟨rfl, ⟨rfl, rfl, rfl, trivial⟩, trivial, rfl, rfl, fun _ _ h => h⟩ ?_
  rintro i ⟨hi0, hi1⟩
  have hb := mkK_bd (ll.take i.toNat) k (fun l h => hcl l (List.mem_of_mem_take h))
  have htl : ((ll.take i.toNat).length : Int) = i := by rw [List.length_take]; omega
  rw [htl] at hb
  rcases Int.lt_or_le i ll.length with hlt | hge
  · have hil : i.toNat < ll.length := by omega
    have hgt : ((mkLL k ll).map encL)[i.toNat]? = some (encL (mkl mkI 1 (mkK k (ll.take i.toNat)) (ll[i.toNat]).length)) := by rw [List.getElem?_map, mkLL_at ll k i.toNat hil]; rfl
    have hsu := mkK_succ ll k i.toNat hil
    have hc16 := hcl _ (List.getElem_mem hil)
    (repeat' ((conv => whnf); first
    | refine Ixv.mk (by omega) hgt ?_
    | refine Sd.mk (by first | omega | (unfold in64; omega) | (simp only [fitK, in64]; omega) | (simp only [fitK, in64, chunk, List.length_map, List.length_append, List.length_replicate, List.length_set, List.length_nil, List.length_cons]; omega)) ?_
    | refine Br.yes rfl ?_
    | refine Br.no rfl ?_
    | refine Br.yes (by first | (simp only [ltB_t, ltB_f, eqB_t, eqB_f, pB_t, pB_f, sEq_t, sEq_f, emp_iff, ne_eq, List.length_map, Bool.not_eq_true, Bool.not_eq_false, Bool.not_eq_eq_eq_not, Bool.not_true, Bool.not_false]; done) | (simp only [ltB_t, ltB_f, eqB_t, eqB_f, pB_t, pB_f, sEq_t, sEq_f, emp_iff, ne_eq, List.length_map, Bool.not_eq_true, Bool.not_eq_false, Bool.not_eq_eq_eq_not, Bool.not_true, Bool.not_false]; omega) | (simp only [ltB_t, ltB_f, eqB_t, eqB_f, pB_t, pB_f, sEq_t, sEq_f, emp_iff, ne_eq, List.length_map, Bool.not_eq_true, Bool.not_eq_false, Bool.not_eq_eq_eq_not, Bool.not_true, Bool.not_false]; assumption)) ?_
    | refine Br.no (by first | (simp only [ltB_t, ltB_f, eqB_t, eqB_f, pB_t, pB_f, sEq_t, sEq_f, emp_iff, ne_eq, List.length_map, Bool.not_eq_true, Bool.not_eq_false, Bool.not_eq_eq_eq_not, Bool.not_true, Bool.not_false]; done) | (simp only [ltB_t, ltB_f, eqB_t, eqB_f, pB_t, pB_f, sEq_t, sEq_f, emp_iff, ne_eq, List.length_map, Bool.not_eq_true, Bool.not_eq_false, Bool.not_eq_eq_eq_not, Bool.not_true, Bool.not_false]; omega) | (simp only [ltB_t, ltB_f, eqB_t, eqB_f, pB_t, pB_f, sEq_t, sEq_f, emp_iff, ne_eq, List.length_map, Bool.not_eq_true, Bool.not_eq_false, Bool.not_eq_eq_eq_not, Bool.not_true, Bool.not_false]; assumption)) ?_
    | (refine Br.mk ?_ ?_ <;> intro h <;> (try simp only [ltB_t, ltB_f, eqB_t, eqB_f, pB_t, pB_f, sEq_t, sEq_f, emp_iff, ne_eq, List.length_map, Bool.not_eq_true, Bool.not_eq_false, Bool.not_eq_eq_eq_not, Bool.not_true, Bool.not_false] at h))
    | refine Ixv.mk (by omega) (ixE (by omega) (by omega)) ?_
    | refine Elt.mk rfl ?_
    | refine Elt.mk (by assumption) ?_
    | refine Elt.mk (ixE (by omega) (by omega)) ?_
    | refine E.call tt h_heldInt64S rfl rfl ⟨_, _, rfl, by omega, by omega, by omega, _, _, rfl, rfl, ?_⟩
    | refine E.call tt (h_heldInt64S.nilV [1]) rfl rfl ⟨0, _, rfl, by decide, by omega, by omega, _, _, rfl, rfl, ?_⟩)) <;> (try (conv => whnf))
    all_goals (refine ⟨i + 1, ⟨by omega, by omega⟩, by dsimp only; omega, ⟨rfl, ⟨rfl, pI (by rw [show (i + 1).toNat = i.toNat + 1 by omega, hsu]), rfl, trivial⟩, trivial, rfl, rfl, fun _ _ h => h⟩⟩)
  · have hie : i = ll.length := by omega
    subst hie
    (repeat' ((conv => whnf); first
    | refine Sd.mk (by first | omega | (unfold in64; omega) | (simp only [fitK, in64]; omega) | (simp only [fitK, in64, chunk, List.length_map, List.length_append, List.length_replicate, List.length_set, List.length_nil, List.length_cons]; omega)) ?_
    | refine Br.yes rfl ?_
    | refine Br.no rfl ?_
    | refine Br.yes (by first | (simp only [ltB_t, ltB_f, eqB_t, eqB_f, pB_t, pB_f, sEq_t, sEq_f, emp_iff, ne_eq, List.length_map, Bool.not_eq_true, Bool.not_eq_false, Bool.not_eq_eq_eq_not, Bool.not_true, Bool.not_false]; done) | (simp only [ltB_t, ltB_f, eqB_t, eqB_f, pB_t, pB_f, sEq_t, sEq_f, emp_iff, ne_eq, List.length_map, Bool.not_eq_true, Bool.not_eq_false, Bool.not_eq_eq_eq_not, Bool.not_true, Bool.not_false]; omega) | (simp only [ltB_t, ltB_f, eqB_t, eqB_f, pB_t, pB_f, sEq_t, sEq_f, emp_iff, ne_eq, List.length_map, Bool.not_eq_true, Bool.not_eq_false, Bool.not_eq_eq_eq_not, Bool.not_true, Bool.not_false]; assumption)) ?_
    | refine Br.no (by first | (simp only [ltB_t, ltB_f, eqB_t, eqB_f, pB_t, pB_f, sEq_t, sEq_f, emp_iff, ne_eq, List.length_map, Bool.not_eq_true, Bool.not_eq_false, Bool.not_eq_eq_eq_not, Bool.not_true, Bool.not_false]; done) | (simp only [ltB_t, ltB_f, eqB_t, eqB_f, pB_t, pB_f, sEq_t, sEq_f, emp_iff, ne_eq, List.length_map, Bool.not_eq_true, Bool.not_eq_false, Bool.not_eq_eq_eq_not, Bool.not_true, Bool.not_false]; omega) | (simp only [ltB_t, ltB_f, eqB_t, eqB_f, pB_t, pB_f, sEq_t, sEq_f, emp_iff, ne_eq, List.length_map, Bool.not_eq_true, Bool.not_eq_false, Bool.not_eq_eq_eq_not, Bool.not_true, Bool.not_false]; assumption)) ?_
    | (refine Br.mk ?_ ?_ <;> intro h <;> (try simp only [ltB_t, ltB_f, eqB_t, eqB_f, pB_t, pB_f, sEq_t, sEq_f, emp_iff, ne_eq, List.length_map, Bool.not_eq_true, Bool.not_eq_false, Bool.not_eq_eq_eq_not, Bool.not_true, Bool.not_false] at h))
    | refine Ixv.mk (by omega) (ixE (by omega) (by omega)) ?_
    | refine Elt.mk rfl ?_
    | refine Elt.mk (by assumption) ?_
    | refine Elt.mk (ixE (by omega) (by omega)) ?_
    | refine E.call tt h_heldInt64S rfl rfl ⟨_, _, rfl, by omega, by omega, by omega, _, _, rfl, rfl, ?_⟩
    | refine E.call tt (h_heldInt64S.nilV [1]) rfl rfl ⟨0, _, rfl, by decide, by omega, by omega, _, _, rfl, rfl, ?_⟩)) <;> (try (conv => whnf))
    all_goals (refine fin_p rfl ?_ rfl rfl; rw [show ((ll.length : Int)).toNat = ll.length by omega, List.take_length])
theorem h_heldInt64SSN : Holds Try.prog 18 (fun args K => ∃ (k : Int), args = [.view 1 [], I k] ∧ 1 ≤ k ∧ k ≤ 1000 ∧ K [.p (I k)]) :=
  ⟨h_heldInt64SS.1, fun args K ⟨k, e, h1, h2, hK⟩ => h_heldInt64SS.2 args K ⟨[], k, e, by decide, (fun l hl => by cases hl), h1, h2, hK⟩⟩

theorem h_markInt64SS : XHolds Try.prog 17 (fun args X K => ∃ (ds : List Dn) (k : Int), args = [.view 1 (rawE ds), I k] ∧ InX 2 X ds ∧ (ds.map (·.b)).Nodup ∧ (ds.length : Int) ≤ 1048576 ∧ (∀ d ∈ ds, (d.l.length : Int) ≤ 16) ∧ 1 ≤ k ∧ k ≤ 1000 ∧
    ∀ X' ds', MarkI 2 X ds k ds.length ds' X' → K X' (I (mkK k (ds.map (·.l))))) := by
  refine E.mkX tt Try.func17 rfl Try.ntmps17 rfl (by kernel_rfl) ?_
  rintro _ X K ⟨ds, k, rfl, hX, hnd, hl, hcl, hk0, hk1, hK⟩
  have hln : (rawE ds).length = ds.length := by simp [rawE]
  refine ⟨Nat.le_of_ble_eq_true rfl, ?_⟩
  (repeat' ((conv => whnf); first
    | refine Sd.mk (by first | omega | (unfold in64; omega) | (simp only [fitK, in64]; omega) | (simp only [fitK, in64, chunk, List.length_map, List.length_append, List.length_replicate, List.length_set, List.length_nil, List.length_cons]; omega)) ?_
    | refine Br.yes rfl ?_
    | refine Br.no rfl ?_
    | refine Br.yes (by first | (simp only [ltB_t, ltB_f, eqB_t, eqB_f, pB_t, pB_f, sEq_t, sEq_f, emp_iff, ne_eq, List.length_map, Bool.not_eq_true, Bool.not_eq_false, Bool.not_eq_eq_eq_not, Bool.not_true, Bool.not_false]; done) | (simp only [ltB_t, ltB_f, eqB_t, eqB_f, pB_t, pB_f, sEq_t, sEq_f, emp_iff, ne_eq, List.length_map, Bool.not_eq_true, Bool.not_eq_false, Bool.not_eq_eq_eq_not, Bool.not_true, Bool.not_false]; omega) | (simp only [ltB_t, ltB_f, eqB_t, eqB_f, pB_t, pB_f, sEq_t, sEq_f, emp_iff, ne_eq, List.length_map, Bool.not_eq_true, Bool.not_eq_false, Bool.not_eq_eq_eq_not, Bool.not_true, Bool.not_false]; assumption)) ?_
    | refine Br.no (by first | (simp only [ltB_t, ltB_f, eqB_t, eqB_f, pB_t, pB_f, sEq_t, sEq_f, emp_iff, ne_eq, List.length_map, Bool.not_eq_true, Bool.not_eq_false, Bool.not_eq_eq_eq_not, Bool.not_true, Bool.not_false]; done) | (simp only [ltB_t, ltB_f, eqB_t, eqB_f, pB_t, pB_f, sEq_t, sEq_f, emp_iff, ne_eq, List.length_map, Bool.not_eq_true, Bool.not_eq_false, Bool.not_eq_eq_eq_not, Bool.not_true, Bool.not_false]; omega) | (simp only [ltB_t, ltB_f, eqB_t, eqB_f, pB_t, pB_f, sEq_t, sEq_f, emp_iff, ne_eq, List.length_map, Bool.not_eq_true, Bool.not_eq_false, Bool.not_eq_eq_eq_not, Bool.not_true, Bool.not_false]; assumption)) ?_
    | (refine Br.mk ?_ ?_ <;> intro h <;> (try simp only [ltB_t, ltB_f, eqB_t, eqB_f, pB_t, pB_f, sEq_t, sEq_f, emp_iff, ne_eq, List.length_map, Bool.not_eq_true, Bool.not_eq_false, Bool.not_eq_eq_eq_not, Bool.not_true, Bool.not_false] at h))
    | refine Ixv.mk (by omega) (ixE (by omega) (by omega)) ?_
    | refine Elt.mk rfl ?_
    | refine Elt.mk (by assumption) ?_
    | refine Elt.mk (ixE (by omega) (by omega)) ?_
    | refine E.callM tt h_markInt64S rfl rfl rfl rfl rfl rfl ⟨_, _, rfl, rfl, by omega, by omega, by omega, rfl, _, rfl, by simp [mkl_length], ?_⟩
    | refine E.call tt (h_markInt64SN.nilV [1]) rfl rfl ⟨_, rfl, by unfold in64; omega, _, _, rfl, rfl, ?_⟩)) <;> (try (conv => whnf))
  refine E.loop tt (fun p : Int × List Dn × Frag => (0 ≤ p.1 ∧ p.1 ≤ ds.length) ∧ MarkI 2 X ds k p.1 p.2.1 p.2.2) (fun p => ⟨19, 1, [(0, .p (.view 1 (rawE ds))), (1, .p (I (mkK k ((ds.map (·.l)).take p.1.toNat)))), (5, .p (I p.1))], [], p.2.2⟩) (fun p => (ds.length - p.1).toNat) (0, ds, X) ⟨⟨by dsimp only; omega, by dsimp only; omega⟩, MarkI.start hX⟩ ⟨rfl, ⟨rfl, rfl, rfl, trivial⟩, trivial, rfl, rfl, fun _ _ h => h⟩ ?_
  rintro p ⟨⟨hi0, hi1⟩, hI⟩
  have hb := mkK_bd ((ds.map (·.l)).take p.1.toNat) k (fun l h => by
    obtain ⟨d, hd, rfl⟩ := List.mem_map.1 (List.mem_of_mem_take h)
    exact hcl d hd)
  have htl : (((ds.map (·.l)).take p.1.toNat).length : Int) = p.1 := by rw [List.length_take, List.length_map]; omega
  rw [htl] at hb
  rcases Int.lt_or_le p.1 ds.length with hlt | hge
  · obtain ⟨d, q1, q2, q3, q4, q5⟩ := hI.at hnd hi0 hlt
    obtain ⟨hdX, hdN⟩ := hI.inx d q1
    have hc16 : (d.l.length : Int) ≤ 16 := by rw [q3]; exact hcl _ (List.getElem_mem (by omega))
    (repeat' ((conv => whnf); first
    | refine Ixv.mk (by omega) q2 ?_
    | refine Sd.mk (by first | omega | (unfold in64; omega) | (simp only [fitK, in64]; omega) | (simp only [fitK, in64, chunk, List.length_map, List.length_append, List.length_replicate, List.length_set, List.length_nil, List.length_cons]; omega)) ?_
    | refine Br.yes rfl ?_
    | refine Br.no rfl ?_
    | refine Br.yes (by first | (simp only [ltB_t, ltB_f, eqB_t, eqB_f, pB_t, pB_f, sEq_t, sEq_f, emp_iff, ne_eq, List.length_map, Bool.not_eq_true, Bool.not_eq_false, Bool.not_eq_eq_eq_not, Bool.not_true, Bool.not_false]; done) | (simp only [ltB_t, ltB_f, eqB_t, eqB_f, pB_t, pB_f, sEq_t, sEq_f, emp_iff, ne_eq, List.length_map, Bool.not_eq_true, Bool.not_eq_false, Bool.not_eq_eq_eq_not, Bool.not_true, Bool.not_false]; omega) | (simp only [ltB_t, ltB_f, eqB_t, eqB_f, pB_t, pB_f, sEq_t, sEq_f, emp_iff, ne_eq, List.length_map, Bool.not_eq_true, Bool.not_eq_false, Bool.not_eq_eq_eq_not, Bool.not_true, Bool.not_false]; assumption)) ?_
    | refine Br.no (by first | (simp only [ltB_t, ltB_f, eqB_t, eqB_f, pB_t, pB_f, sEq_t, sEq_f, emp_iff, ne_eq, List.length_map, Bool.not_eq_true, Bool.not_eq_false, Bool.not_eq_eq_eq_not, Bool.not_true, Bool.not_false]; done) | (simp only [ltB_t, ltB_f, eqB_t, eqB_f, pB_t, pB_f, sEq_t, sEq_f, emp_iff, ne_eq, List.length_map, Bool.not_eq_true, Bool.not_eq_false, Bool.not_eq_eq_eq_not, Bool.not_true, Bool.not_false]; omega) | (simp only [ltB_t, ltB_f, eqB_t, eqB_f, pB_t, pB_f, sEq_t, sEq_f, emp_iff, ne_eq, List.length_map, Bool.not_eq_true, Bool.not_eq_false, Bool.not_eq_eq_eq_not, Bool.not_true, Bool.not_false]; assumption)) ?_
    | (refine Br.mk ?_ ?_ <;> intro h <;> (try simp only [ltB_t, ltB_f, eqB_t, eqB_f, pB_t, pB_f, sEq_t, sEq_f, emp_iff, ne_eq, List.length_map, Bool.not_eq_true, Bool.not_eq_false, Bool.not_eq_eq_eq_not, Bool.not_true, Bool.not_false] at h))
    | refine Ixv.mk (by omega) (ixE (by omega) (by omega)) ?_
    | refine Elt.mk rfl ?_
    | refine Elt.mk (by assumption) ?_
    | refine Elt.mk (ixE (by omega) (by omega)) ?_
    | refine E.callMX tt (b := d.b) (c := d.c) (l := d.l) (C := d.C) h_markInt64S rfl rfl hdX hdN rfl rfl rfl ⟨d.l, _, rfl, rfl, by omega, by omega, by omega, _, _, rfl, rfl, fun C' hC' => ?_⟩
    | refine E.callM tt h_markInt64S rfl rfl rfl rfl rfl rfl ⟨_, _, rfl, rfl, by omega, by omega, by omega, rfl, _, rfl, by simp [mkl_length], ?_⟩
    | refine E.call tt (h_markInt64SN.nilV [1]) rfl rfl ⟨_, rfl, by unfold in64; omega, _, _, rfl, rfl, ?_⟩)) <;> (try (conv => whnf))
    all_goals (refine ⟨(p.1 + 1, _, _), ⟨⟨by dsimp only; omega, by dsimp only; omega⟩, q5 C' hC'⟩, by dsimp only; omega, ⟨rfl, ⟨rfl, pI (by dsimp only; rw [q4]), rfl, trivial⟩, trivial, rfl, rfl, fun _ _ h => h⟩⟩)
  · have hie : p.1 = ds.length := by omega
    (repeat' ((conv => whnf); first
    | refine Sd.mk (by first | omega | (unfold in64; omega) | (simp only [fitK, in64]; omega) | (simp only [fitK, in64, chunk, List.length_map, List.length_append, List.length_replicate, List.length_set, List.length_nil, List.length_cons]; omega)) ?_
    | refine Br.yes rfl ?_
    | refine Br.no rfl ?_
    | refine Br.yes (by first | (simp only [ltB_t, ltB_f, eqB_t, eqB_f, pB_t, pB_f, sEq_t, sEq_f, emp_iff, ne_eq, List.length_map, Bool.not_eq_true, Bool.not_eq_false, Bool.not_eq_eq_eq_not, Bool.not_true, Bool.not_false]; done) | (simp only [ltB_t, ltB_f, eqB_t, eqB_f, pB_t, pB_f, sEq_t, sEq_f, emp_iff, ne_eq, List.length_map, Bool.not_eq_true, Bool.not_eq_false, Bool.not_eq_eq_eq_not, Bool.not_true, Bool.not_false]; omega) | (simp only [ltB_t, ltB_f, eqB_t, eqB_f, pB_t, pB_f, sEq_t, sEq_f, emp_iff, ne_eq, List.length_map, Bool.not_eq_true, Bool.not_eq_false, Bool.not_eq_eq_eq_not, Bool.not_true, Bool.not_false]; assumption)) ?_
    | refine Br.no (by first | (simp only [ltB_t, ltB_f, eqB_t, eqB_f, pB_t, pB_f, sEq_t, sEq_f, emp_iff, ne_eq, List.length_map, Bool.not_eq_true, Bool.not_eq_false, Bool.not_eq_eq_eq_not, Bool.not_true, Bool.not_false]; done) | (simp only [ltB_t, ltB_f, eqB_t, eqB_f, pB_t, pB_f, sEq_t, sEq_f, emp_iff, ne_eq, List.length_map, Bool.not_eq_true, Bool.not_eq_false, Bool.not_eq_eq_eq_not, Bool.not_true, Bool.not_false]; omega) | (simp only [ltB_t, ltB_f, eqB_t, eqB_f, pB_t, pB_f, sEq_t, sEq_f, emp_iff, ne_eq, List.length_map, Bool.not_eq_true, Bool.not_eq_false, Bool.not_eq_eq_eq_not, Bool.not_true, Bool.not_false]; assumption)) ?_
    | (refine Br.mk ?_ ?_ <;> intro h <;> (try simp only [ltB_t, ltB_f, eqB_t, eqB_f, pB_t, pB_f, sEq_t, sEq_f, emp_iff, ne_eq, List.length_map, Bool.not_eq_true, Bool.not_eq_false, Bool.not_eq_eq_eq_not, Bool.not_true, Bool.not_false] at h))
    | refine Ixv.mk (by omega) (ixE (by omega) (by omega)) ?_
    | refine Elt.mk rfl ?_
    | refine Elt.mk (by assumption) ?_
    | refine Elt.mk (ixE (by omega) (by omega)) ?_
    | refine E.callM tt h_markInt64S rfl rfl rfl rfl rfl rfl ⟨_, _, rfl, rfl, by omega, by omega, by omega, rfl, _, rfl, by simp [mkl_length], ?_⟩
    | refine E.call tt (h_markInt64SN.nilV [1]) rfl rfl ⟨_, rfl, by unfold in64; omega, _, _, rfl, rfl, ?_⟩)) <;> (try (conv => whnf))
    all_goals (refine ⟨_, _, rfl, rfl, rfl, hI.dom, ?_⟩; rw [hie] at hI; have hfin := hK _ _ hI; rw [hie, show ((ds.length : Int)).toNat = ds.length by omega, List.take_of_length_le (by simp)]; exact hfin)
theorem h_markInt64SSN : Holds Try.prog 17 (fun args K => ∃ (k : Int), args = [.view 1 [], I k] ∧ in64 k ∧ K [.p (I k)]) := by
  refine E.mk tt Try.func17 rfl Try.ntmps17 rfl (by kernel_rfl) ?_
  rintro _ K ⟨k, rfl, hk, hK⟩
  refine ⟨Nat.le_of_ble_eq_true rfl, _, hK, ?_⟩
  (repeat' ((conv => whnf); first
    | refine Sd.mk (by first | omega | (unfold in64; omega) | (simp only [fitK, in64]; omega) | (simp only [fitK, in64, chunk, List.length_map, List.length_append, List.length_replicate, List.length_set, List.length_nil, List.length_cons]; omega)) ?_
    | refine Br.yes rfl ?_
    | refine Br.no rfl ?_
    | refine Br.yes (by first | (simp only [ltB_t, ltB_f, eqB_t, eqB_f, pB_t, pB_f, sEq_t, sEq_f, emp_iff, ne_eq, List.length_map, Bool.not_eq_true, Bool.not_eq_false, Bool.not_eq_eq_eq_not, Bool.not_true, Bool.not_false]; done) | (simp only [ltB_t, ltB_f, eqB_t, eqB_f, pB_t, pB_f, sEq_t, sEq_f, emp_iff, ne_eq, List.length_map, Bool.not_eq_true, Bool.not_eq_false, Bool.not_eq_eq_eq_not, Bool.not_true, Bool.not_false]; omega) | (simp only [ltB_t, ltB_f, eqB_t, eqB_f, pB_t, pB_f, sEq_t, sEq_f, emp_iff, ne_eq, List.length_map, Bool.not_eq_true, Bool.not_eq_false, Bool.not_eq_eq_eq_not, Bool.not_true, Bool.not_false]; assumption)) ?_
    | refine Br.no (by first | (simp only [ltB_t, ltB_f, eqB_t, eqB_f, pB_t, pB_f, sEq_t, sEq_f, emp_iff, ne_eq, List.length_map, Bool.not_eq_true, Bool.not_eq_false, Bool.not_eq_eq_eq_not, Bool.not_true, Bool.not_false]; done) | (simp only [ltB_t, ltB_f, eqB_t, eqB_f, pB_t, pB_f, sEq_t, sEq_f, emp_iff, ne_eq, List.length_map, Bool.not_eq_true, Bool.not_eq_false, Bool.not_eq_eq_eq_not, Bool.not_true, Bool.not_false]; omega) | (simp only [ltB_t, ltB_f, eqB_t, eqB_f, pB_t, pB_f, sEq_t, sEq_f, emp_iff, ne_eq, List.length_map, Bool.not_eq_true, Bool.not_eq_false, Bool.not_eq_eq_eq_not, Bool.not_true, Bool.not_false]; assumption)) ?_
    | (refine Br.mk ?_ ?_ <;> intro h <;> (try simp only [ltB_t, ltB_f, eqB_t, eqB_f, pB_t, pB_f, sEq_t, sEq_f, emp_iff, ne_eq, List.length_map, Bool.not_eq_true, Bool.not_eq_false, Bool.not_eq_eq_eq_not, Bool.not_true, Bool.not_false] at h))
    | refine Ixv.mk (by omega) (ixE (by omega) (by omega)) ?_
    | refine Elt.mk rfl ?_
    | refine Elt.mk (by assumption) ?_
    | refine Elt.mk (ixE (by omega) (by omega)) ?_
    | refine E.callM tt h_markInt64S rfl rfl rfl rfl rfl rfl ⟨_, _, rfl, rfl, by omega, by omega, by omega, rfl, _, rfl, by simp [mkl_length], ?_⟩
    | refine E.call tt (h_markInt64SN.nilV [1]) rfl rfl ⟨_, rfl, by unfold in64; omega, _, _, rfl, rfl, ?_⟩)) <;> (try (conv => whnf))
  refine E.loop tt (fun i : Int => i = 0) (fun i => ⟨19, 1, [(0, .p (.view 1 [])), (1, .p (I k)), (5, .p (I i))], [], Frag.nil⟩) (fun i => 0) 0 rfl ⟨rfl, ⟨rfl, rfl, rfl, trivial⟩, trivial, rfl, rfl, fun _ _ h => h⟩ ?_
  rintro i hi
  subst hi
  have h00 : ((([] : List (List PV)).length : Nat) : Int) = 0 := rfl
  (repeat' ((conv => whnf); first
    | refine Sd.mk (by first | omega | (unfold in64; omega) | (simp only [fitK, in64]; omega) | (simp only [fitK, in64, chunk, List.length_map, List.length_append, List.length_replicate, List.length_set, List.length_nil, List.length_cons]; omega)) ?_
    | refine Br.yes rfl ?_
    | refine Br.no rfl ?_
    | refine Br.yes (by first | (simp only [ltB_t, ltB_f, eqB_t, eqB_f, pB_t, pB_f, sEq_t, sEq_f, emp_iff, ne_eq, List.length_map, Bool.not_eq_true, Bool.not_eq_false, Bool.not_eq_eq_eq_not, Bool.not_true, Bool.not_false]; done) | (simp only [ltB_t, ltB_f, eqB_t, eqB_f, pB_t, pB_f, sEq_t, sEq_f, emp_iff, ne_eq, List.length_map, Bool.not_eq_true, Bool.not_eq_false, Bool.not_eq_eq_eq_not, Bool.not_true, Bool.not_false]; omega) | (simp only [ltB_t, ltB_f, eqB_t, eqB_f, pB_t, pB_f, sEq_t, sEq_f, emp_iff, ne_eq, List.length_map, Bool.not_eq_true, Bool.not_eq_false, Bool.not_eq_eq_eq_not, Bool.not_true, Bool.not_false]; assumption)) ?_
    | refine Br.no (by first | (simp only [ltB_t, ltB_f, eqB_t, eqB_f, pB_t, pB_f, sEq_t, sEq_f, emp_iff, ne_eq, List.length_map, Bool.not_eq_true, Bool.not_eq_false, Bool.not_eq_eq_eq_not, Bool.not_true, Bool.not_false]; done) | (simp only [ltB_t, ltB_f, eqB_t, eqB_f, pB_t, pB_f, sEq_t, sEq_f, emp_iff, ne_eq, List.length_map, Bool.not_eq_true, Bool.not_eq_false, Bool.not_eq_eq_eq_not, Bool.not_true, Bool.not_false]; omega) | (simp only [ltB_t, ltB_f, eqB_t, eqB_f, pB_t, pB_f, sEq_t, sEq_f, emp_iff, ne_eq, List.length_map, Bool.not_eq_true, Bool.not_eq_false, Bool.not_eq_eq_eq_not, Bool.not_true, Bool.not_false]; assumption)) ?_
    | (refine Br.mk ?_ ?_ <;> intro h <;> (try simp only [ltB_t, ltB_f, eqB_t, eqB_f, pB_t, pB_f, sEq_t, sEq_f, emp_iff, ne_eq, List.length_map, Bool.not_eq_true, Bool.not_eq_false, Bool.not_eq_eq_eq_not, Bool.not_true, Bool.not_false] at h))
    | refine Ixv.mk (by omega) (ixE (by omega) (by omega)) ?_
    | refine Elt.mk rfl ?_
    | refine Elt.mk (by assumption) ?_
    | refine Elt.mk (ixE (by omega) (by omega)) ?_
    | refine E.callM tt h_markInt64S rfl rfl rfl rfl rfl rfl ⟨_, _, rfl, rfl, by omega, by omega, by omega, rfl, _, rfl, by simp [mkl_length], ?_⟩
    | refine E.call tt (h_markInt64SN.nilV [1]) rfl rfl ⟨_, rfl, by unfold in64; omega, _, _, rfl, rfl, ?_⟩)) <;> (try (conv => whnf))
  all_goals (exact fin_p rfl rfl rfl rfl)


end Go.Proofs.Ytakpiiekdlbgmaa
