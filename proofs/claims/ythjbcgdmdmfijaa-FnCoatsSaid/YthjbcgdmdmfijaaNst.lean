/- Contracts (Nst). -/
import Derived.Test.YthjbcgdmdmfijaaLs
set_option linter.unusedVariables false
set_option linter.unusedSimpArgs false
set_option maxRecDepth 100000
namespace Go.Lo
-- deps: Ls
def encL (l : List Int) : List PV := [.view 1 (l.map encI)]
/-- The marks of rows of rows, from k on. -/
def mkLL : Int → List (List Int) → List (List Int)
  | _, [] => []
  | k, l :: ll => mkl mkI 1 k l.length :: mkLL (k + 1 * l.length) ll
def mkK : Int → List (List Int) → Int
  | k, [] => k
  | k, l :: ll => mkK (k + 1 * l.length) ll
theorem mkLL_len : ∀ (k : Int) (ll : List (List Int)), (mkLL k ll).length = ll.length
  | _, [] => rfl
  | k, l :: ll => by simp [mkLL, mkLL_len _ ll]
theorem mkLL_at : ∀ (ll : List (List Int)) (k : Int) (i : Nat) (h : i < ll.length), (mkLL k ll)[i]? = some (mkl mkI 1 (mkK k (ll.take i)) (ll[i]).length)
  | l :: ll, k, 0, h => by simp [mkLL, mkK]
  | l :: ll, k, i + 1, h => by
    simp only [mkLL, List.getElem?_cons_succ, List.take_succ_cons, mkK, List.getElem_cons_succ]
    exact mkLL_at ll _ i (by simpa using h)
theorem mkK_succ : ∀ (ll : List (List Int)) (k : Int) (i : Nat) (h : i < ll.length), mkK k (ll.take (i + 1)) = mkK k (ll.take i) + 1 * (ll[i]).length
  | l :: ll, k, 0, h => by simp [mkK]
  | l :: ll, k, i + 1, h => by
    simp only [List.take_succ_cons, mkK, List.getElem_cons_succ]
    exact mkK_succ ll _ i (by simpa using h)
theorem mkK_bd : ∀ (ll : List (List Int)) (k : Int), (∀ l ∈ ll, (l.length : Int) ≤ 16) → k ≤ mkK k ll ∧ mkK k ll ≤ k + 16 * (ll.length : Int)
  | [], k, _ => by simp [mkK]
  | l :: ll, k, h => by
    have h1 := h l (by simp)
    have h2 := mkK_bd ll (k + 1 * (l.length : Int)) (fun x hx => h x (by simp [hx]))
    simp only [mkK, List.length_cons]
    omega
/-- The known blocks of a list of rows while they are marked: i of them are done. -/
structure MarkI (e : Nat) (X : Frag) (ds : List Dn) (k i : Int) (ds' : List Dn) (X' : Frag) : Prop where
  raw : rawE ds' = rawE ds
  bs : ds'.map (·.b) = ds.map (·.b)
  inx : InX e X' ds'
  ls : ds'.map (·.l) = mkLL k ((ds.map (·.l)).take i.toNat) ++ (ds.map (·.l)).drop i.toNat
  dom : ∀ b, X' b = none ↔ X b = none
theorem MarkI.start {e : Nat} {X : Frag} {ds : List Dn} {k : Int} (h : InX e X ds) : MarkI e X ds k 0 ds X :=
  ⟨rfl, rfl, h, by simp [mkLL], fun _ => Iff.rfl⟩
theorem nodup_b {ds : List Dn} (h : (ds.map (·.b)).Nodup) {i j : Nat} (hi : i < ds.length) (hj : j < ds.length) (hne : i ≠ j) : (ds[j]).b ≠ (ds[i]).b := fun e => by
  have hp := List.pairwise_iff_getElem.1 h
  rcases Nat.lt_or_gt_of_ne hne with g | g
  · exact hp i j (by simpa using hi) (by simpa using hj) g (by simpa using e.symm)
  · exact hp j i (by simpa using hj) (by simpa using hi) g (by simpa using e)
theorem mkLL_snoc : ∀ (ll : List (List Int)) (k : Int) (l : List Int), mkLL k (ll ++ [l]) = mkLL k ll ++ [mkl mkI 1 (mkK k ll) l.length]
  | [], k, l => by simp [mkLL, mkK]
  | x :: ll, k, l => by simp only [List.cons_append, mkLL, mkLL_snoc ll, mkK]
theorem MarkI.at {e : Nat} {X X' : Frag} {ds ds' : List Dn} {k i : Int} (h : MarkI e X ds k i ds' X') (hnd : (ds.map (·.b)).Nodup) (h0 : 0 ≤ i) (h1 : i < ds.length) :
    ∃ d, d ∈ ds' ∧ (rawE ds)[i.toNat]? = some [.raw d.hdr] ∧ d.l = (ds[i.toNat]'(by omega)).l ∧
      mkK k ((ds.map (·.l)).take (i + 1).toNat) = mkK k ((ds.map (·.l)).take i.toNat) + 1 * (d.l.length : Int) ∧
      ∀ C', Nums C' d.c (mkl mkI 1 (mkK k ((ds.map (·.l)).take i.toNat)) d.l.length) → MarkI e X ds k (i + 1) (ds'.set i.toNat ⟨d.b, d.c, C', mkl mkI 1 (mkK k ((ds.map (·.l)).take i.toNat)) d.l.length⟩) (X'.upd d.b (.cells C' e (0, 0))) := by
  have hn : i.toNat < ds.length := by omega
  have hlen : ds'.length = ds.length := by have := congrArg List.length h.bs; simpa using this
  have hn' : i.toNat < ds'.length := by omega
  have hl : (ds'[i.toNat]).l = (ds[i.toNat]).l := by
    have e1 : (ds'.map (·.l))[i.toNat]? = some (ds'[i.toNat]).l := by simp [hn']
    have hml : (mkLL k ((ds.map (·.l)).take i.toNat)).length = i.toNat := by rw [mkLL_len, List.length_take, List.length_map]; omega
    rw [h.ls, List.getElem?_append_right (by omega), hml, Nat.sub_self, List.getElem?_drop, Nat.add_zero] at e1
    simp [hn] at e1
    exact e1.symm
  refine ⟨ds'[i.toNat], List.getElem_mem hn', ?_, hl, ?_, fun C' hC' => ⟨?_, ?_, ?_, ?_, ?_⟩⟩
  · rw [← h.raw]; simp [rawE, hn']
  · rw [show (i + 1).toNat = i.toNat + 1 by omega, mkK_succ _ _ _ (by simpa using hn), hl]; simp
  · rw [← h.raw]
    apply List.ext_getElem (by simp [rawE])
    intro j j1 j2
    simp only [rawE, List.getElem_map, List.getElem_set]
    split
    · rename_i e1; subst e1
      simp [Dn.hdr, mkl_length]
    · rfl
  · rw [← h.bs]
    apply List.ext_getElem (by simp)
    intro j j1 j2
    simp only [List.getElem_map, List.getElem_set]
    split
    · rename_i e1; subst e1; rfl
    · rfl
  · intro d hd
    obtain ⟨j, hj, rfl⟩ := List.mem_iff_getElem.1 hd
    rw [List.length_set] at hj
    rw [List.getElem_set]
    split
    · exact ⟨Frag.upd_same _ _ _, hC'⟩
    · rename_i hne
      have hb := nodup_b (ds := ds') (by rw [h.bs]; exact hnd) hn' hj hne
      obtain ⟨g1, g2⟩ := h.inx (ds'[j]) (List.getElem_mem hj)
      exact ⟨by rw [Frag.upd_ne _ _ hb]; exact g1, g2⟩
  · rw [List.map_set, h.ls]
    have hml : (mkLL k ((ds.map (·.l)).take i.toNat)).length = i.toNat := by rw [mkLL_len, List.length_take, List.length_map]; omega
    rw [List.set_append_right _ _ (by omega), hml, Nat.sub_self, show (i + 1).toNat = i.toNat + 1 by omega, List.take_succ_eq_append_getElem (by simpa using hn), mkLL_snoc, List.append_assoc]
    congr 1
    rw [List.drop_eq_getElem_cons (by simpa using hn), List.set_cons_zero]
    simp [hl]
  · intro b
    rw [← h.dom]
    by_cases hb : b = (ds'[i.toNat]).b
    · subst hb
      rw [Frag.upd_same, (h.inx _ (List.getElem_mem hn')).1]
      simp
    · rw [Frag.upd_ne _ _ hb]
/-- A function that may hand back rows of rows: conditions, the rows. -/
def n1 (B : Prop) (c1 : Int) (ll : List (List Int)) (o : Option (List (List Int))) (m : PV) : Prop := (¬ B ∧ o = none ∧ m = I c1) ∨ (B ∧ o = some ll ∧ m = I 0)
def n2 (B D : Prop) (c1 c2 : Int) (ll : List (List Int)) (o : Option (List (List Int))) (m : PV) : Prop := (¬ B ∧ o = none ∧ m = I c1) ∨ ((B ∧ ¬ D) ∧ o = none ∧ m = I c2) ∨ ((B ∧ D) ∧ o = some ll ∧ m = I 0)
/-- A row more, at the end. -/
theorem InX.snoc {e : Nat} {X : Frag} {ds : List Dn} {b c : Nat} {C : Array Value} {l : List Int} (h : InX e X ds) (hn : (ds.map (·.b)).Nodup) (hb : X b = none) (hN : Nums C c l) :
    InX e (X.upd b (.cells C e (0, 0))) (ds ++ [⟨b, c, C, l⟩]) ∧ ((ds ++ [(⟨b, c, C, l⟩ : Dn)]).map (·.b)).Nodup := by
  have hne : ∀ d ∈ ds, d.b ≠ b := fun d hd e1 => by rw [e1.symm, (h d hd).1] at hb; cases hb
  refine ⟨fun d hd => ?_, ?_⟩
  · rcases List.mem_append.1 hd with hd | hd
    · exact ⟨by rw [Frag.upd_ne _ _ (hne d hd)]; exact (h d hd).1, (h d hd).2⟩
    · have : d = ⟨b, c, C, l⟩ := by simpa using hd
      subst this
      exact ⟨Frag.upd_same _ _ _, hN⟩
  · rw [List.map_append, List.nodup_append]
    refine ⟨hn, by simp, fun x hx y hy => ?_⟩
    obtain ⟨d, hd, rfl⟩ := List.mem_map.1 hx
    have : y = b := by simpa using hy
    rw [this]; exact hne d hd
/-- Known rows, in the order ds, hold ll. -/
structure NeD (e : Nat) (ds : List Dn) (X : Frag) (ll : List (List Int)) : Prop where
  inx : InX e X ds
  nd : (ds.map (·.b)).Nodup
  ls : ds.map (·.l) = ll
theorem NeD.nil (e : Nat) (X : Frag) : NeD e [] X [] := ⟨fun d hd => (by cases hd), by simp, rfl⟩
theorem NeD.snoc {e : Nat} {ds : List Dn} {X : Frag} {ll : List (List Int)} (h : NeD e ds X ll) {b c : Nat} {C : Array Value} {l : List Int} (hb : X b = none) (hN : Nums C c l) : NeD e (ds ++ [⟨b, c, C, l⟩]) (X.upd b (.cells C e (0, 0))) (ll ++ [l]) :=
  let ⟨h1, h2⟩ := h.inx.snoc h.nd hb hN
  ⟨h1, h2, by rw [List.map_append, h.ls]; rfl⟩
theorem NeD.cast {e : Nat} {ds : List Dn} {X : Frag} {ll ll' : List (List Int)} (h : NeD e ds X ll) (e1 : ll = ll') : NeD e ds X ll' := e1 ▸ h
theorem NeD.len {e : Nat} {ds : List Dn} {X : Frag} {ll : List (List Int)} (h : NeD e ds X ll) : (rawE ds).length = ll.length := by rw [← h.ls]; simp [rawE]
theorem rawE_snoc (ds : List Dn) (d : Dn) : rawE (ds ++ [d]) = rawE ds ++ [[.raw d.hdr]] := by simp [rawE]
theorem cat_all {α : Type} {p : α → Prop} {g : Int → List α} (h : ∀ i, ∀ x ∈ g i, p x) {n : Int} (hn : 0 ≤ n) : ∀ x ∈ cat g n, p x :=
  it_inv (f := fun l i => l ++ g i) (fun _ l => ∀ x ∈ l, p x) (fun x hx => by cases hx) (N := n) (fun m l m0 m1 hq x hx => by
    rcases List.mem_append.1 hx with h' | h'
    · exact hq x h'
    · exact h m x h') hn (Int.le_refl _)
theorem Deep.nestL {st : St} {x : Operand} {ds : List Dn} {e : Nat} {ll : List (List Int)} (hx : st.ev x = .p (.view 1 (rawE ds))) (h : InX e st.x ds) (hl : ds.map (·.l) = ll) : Deep st x (.view 1 (ll.map encL)) := by
  subst hl; exact Deep.nest hx h
theorem Deep.nestM {st : St} {x : Operand} {ds ds' : List Dn} {e : Nat} {k : Int} {X X' : Frag} {ll : List (List Int)} (hx : st.ev x = .p (.view 1 (rawE ds))) (hM : MarkI e X ds k ds.length ds' X') (h : InX e st.x ds') (hl : ds.map (·.l) = ll) : Deep st x (.view 1 ((mkLL k ll).map encL)) := by
  refine Deep.nestL (ds := ds') (by rw [hM.raw]; exact hx) h ?_
  rw [hM.ls, hl, show ((ds.length : Int)).toNat = ds.length by omega]
  have : ll.length = ds.length := by rw [← hl]; simp
  rw [← this]; simp
theorem InX.keep {e : Nat} {X : Frag} {ds ds2 : List Dn} (h : InX e X ds) (hf : ∀ d ∈ ds2, X d.b = none) : InX e (fragU e ds2 X) ds := fun d hd => by
  obtain ⟨h1, h2⟩ := h d hd
  exact ⟨by rw [fragU_ne ds2 (fun d2 hd2 e1 => by have := hf d2 hd2; rw [← e1, h1] at this; cases this)]; exact h1, h2⟩
theorem ll_of {ds : List Dn} {ll : List (List Int)} (hl : ds.map (·.l) = ll) (h : ∀ l ∈ ll, (l.length : Int) ≤ 16) : ∀ d ∈ ds, (d.l.length : Int) ≤ 16 := fun d hd => h _ (by rw [← hl]; exact List.mem_map.2 ⟨d, hd, rfl⟩)
theorem ds_len {ds : List Dn} {ll : List (List Int)} (hl : ds.map (·.l) = ll) : ds.length = ll.length := by rw [← hl]; simp
theorem mkK_of {ds : List Dn} {ll : List (List Int)} (hl : ds.map (·.l) = ll) (k : Int) : I (mkK k (ds.map (·.l))) = I (mkK k ll) := by rw [hl]
end Go.Lo
namespace Go.Proofs.Ythjbcgdmdmfijaa
open Go.Lo
attribute [local irreducible] W Wc

end Go.Proofs.Ythjbcgdmdmfijaa
