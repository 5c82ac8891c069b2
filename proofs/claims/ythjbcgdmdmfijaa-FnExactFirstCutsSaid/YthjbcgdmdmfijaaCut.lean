/- Contracts (Cut). -/
import Derived.Test.YthjbcgdmdmfijaaLoE
import Derived.Test.YthjbcgdmdmfijaaTyRib
import Derived.Test.YthjbcgdmdmfijaaArr
set_option linter.unusedVariables false
set_option linter.unusedSimpArgs false
set_option maxRecDepth 100000
namespace Go.Lo
-- deps: LoE TyRib Arr
open Classical in
noncomputable def kx (u : List Int) (strip saw n : Int) : Int := if fstNot (fun j => ¬ ix u j + n + saw ≤ strip) u.length < 0 then u.length else fstNot (fun j => ¬ ix u j + n + saw ≤ strip) u.length
theorem kx_eq {u : List Int} {strip saw n k : Int} (h0 : 0 ≤ k) (h1 : allTo (fun j => ¬ ix u j + n + saw ≤ strip) k) (h : k = u.length ∨ (k < u.length ∧ ix u k + n + saw ≤ strip)) : kx u strip saw n = k := by
  unfold kx
  rcases h with h | ⟨h, hf⟩
  · subst h
    rw [fstNot_none h1, if_pos (by omega)]
  · rw [fstNot_some h0 h (fun hc => hc hf) h1, if_neg (by omega)]
def fcS (u : List Int) (saw n k : Int) : List Int := if k = u.length then u ++ [n] else u.set k.toNat (ix u k + (n + saw))
structure Fc where
  u : List Int
  pl : List Int
noncomputable def fcF (xs : List D.Rib) (strip saw : Int) (s : Fc) (i : Int) : Fc := ⟨fcS s.u saw (ix xs i).Length (kx s.u strip saw (ix xs i).Length), s.pl ++ [kx s.u strip saw (ix xs i).Length]⟩
noncomputable def fcL (xs : List D.Rib) (strip saw n : Int) : Fc := it (fcF xs strip saw) ⟨[], []⟩ n
theorem fcL_succ (xs : List D.Rib) (strip saw : Int) {n : Int} (h : 0 ≤ n) : fcL xs strip saw (n + 1) = fcF xs strip saw (fcL xs strip saw n) n := it_succ h
theorem kx_b (u : List Int) (strip saw n : Int) : 0 ≤ kx u strip saw n ∧ kx u strip saw n ≤ u.length ∧ (kx u strip saw n < u.length → ix u (kx u strip saw n) + n + saw ≤ strip) := by
  unfold kx
  rcases fstNot_cases (fun j => ¬ ix u j + n + saw ≤ strip) u.length with ⟨h, _⟩ | ⟨h0, h1, h2, _⟩
  · rw [if_pos (by omega)]; exact ⟨by omega, by omega, fun h => by omega⟩
  · rw [if_neg (by omega)]; exact ⟨h0, by omega, fun _ => Classical.not_not.1 h2⟩
def fcB (strip n : Int) (s : Fc) : Prop := (s.pl.length : Int) = n ∧ (s.u.length : Int) ≤ n ∧ ∀ v ∈ s.u, 1 ≤ v ∧ v ≤ strip
theorem fcS_b {u : List Int} {strip saw n k : Int} (hu : ∀ v ∈ u, 1 ≤ v ∧ v ≤ strip) (h1 : 1 ≤ n) (hn : n ≤ strip) (hs : 0 ≤ saw) (k0 : 0 ≤ k) (k1 : k ≤ u.length) (hf : k < u.length → ix u k + n + saw ≤ strip) : ((fcS u saw n k).length : Int) ≤ u.length + 1 ∧ ∀ v ∈ fcS u saw n k, 1 ≤ v ∧ v ≤ strip := by
  unfold fcS
  split
  · refine ⟨by simp, fun v hv => ?_⟩
    rcases List.mem_append.1 hv with h | h
    · exact hu v h
    · simp at h; subst h; exact ⟨h1, hn⟩
  · refine ⟨by simp; omega, fun v hv => ?_⟩
    rcases List.mem_or_eq_of_mem_set hv with h | h
    · exact hu v h
    · have hm := hu _ (ix_mem (xs := u) (n := k) k0 (by omega))
      have := hf (by omega)
      subst h; omega
abbrev stripP (strip saw : Int) : Prop := (1 ≤ strip ∧ strip ≤ 100000) ∧ 0 ≤ saw ∧ saw ≤ 100
def longC (xs : List D.Rib) (strip : Int) (i : Int) : Prop := (ix xs i).Length ≤ strip
theorem fcL_b {xs : List D.Rib} {strip saw : Int} (hB : RibsOk xs) (hs : stripP strip saw) (hl : allTo (longC xs strip) xs.length) {n : Int} (h0 : 0 ≤ n) (h1 : n ≤ xs.length) : fcB strip n (fcL xs strip saw n) :=
  it_inv (f := fcF xs strip saw) (fun n s => fcB strip n s) ⟨by simp, by simp, fun v hv => by cases hv⟩ (N := xs.length) (fun m s m0 m1 hq => by
    obtain ⟨q1, q2, q3⟩ := hq
    have hb := hB.at m0 m1
    have hlm := hl m m0 m1
    unfold RibOk at hb
    unfold longC at hlm
    unfold stripP at hs
    obtain ⟨k1, k2, k3⟩ := kx_b s.u strip saw (ix xs m).Length
    have := fcS_b (saw := saw) q3 hb.2.1.1 hlm hs.2.1 k1 k2 k3
    exact ⟨by simp [fcF]; omega, by unfold fcF; dsimp only; omega, this.2⟩) h0 h1
def frE (strip : Int) (u : List Int) : List (List PV) := (u.map (fun v => strip - v)).map encI
theorem frE_len (strip : Int) (u : List Int) : (frE strip u).length = u.length := by simp [frE]
theorem frE_get {strip : Int} {u : List Int} {k : Int} (h0 : 0 ≤ k) (h1 : k < u.length) : (frE strip u)[k.toNat]? = some [I (strip - ix u k)] := by
  have hn : k.toNat < u.length := by omega
  unfold frE
  rw [List.getElem?_map, List.getElem?_map, List.getElem?_eq_getElem hn, ← ix_get hn, Int.toNat_of_nonneg h0]
  rfl
theorem frE_set {strip : Int} (u : List Int) (k : Nat) (v : Int) : (frE strip u).set k [I (strip - v)] = frE strip (u.set k v) := by
  unfold frE; rw [List.map_set, List.map_set]; rfl
theorem frE_app {strip : Int} (u : List Int) (v : Int) : frE strip u ++ [[I (strip - v)]] = frE strip (u ++ [v]) := by simp [frE, encI]
theorem encI_app (l : List Int) (v : Int) : l.map encI ++ [[I v]] = (l ++ [v]).map encI := by simp [encI]
theorem one_pl (v : Int) : ∀ e ∈ [[I v]], ∀ m ∈ e, m.val.isSome = true := by
  intro e he m hm
  simp at he; subst he; simp at hm; subst hm; rfl
/-- Two kept slices lie apart. -/
def apart (v w : Value) : Prop := ∀ b, blkV v = some b → blkV w ≠ some b
theorem apart.symm {v w : Value} (h : apart v w) : apart w v := fun b h1 h2 => h b h2 h1
/-- The second of two kept slices is appended to. -/
theorem two_app {e b c : Nat} {X : Frag} {v w : Value} {els l l2 : List (List PV)} {C : Array Value} (hv : FV e X v els) (hw : FV e X w l) (ha : apart v w) (hb : blkV w = some b ∨ X b = none) (hC : RowC C c ⟨e, 1, l2⟩) :
    FV e (X.upd b (.cells C e (0, 0))) v els ∧ FV e (X.upd b (.cells C e (0, 0))) (.slice (some ⟨b, 0, none⟩) l2.length c) l2 ∧ apart v (.slice (some ⟨b, 0, none⟩) l2.length c) := by
  have hne : blkV v ≠ some b := fun h => by
    rcases hb with h1 | h1
    · exact ha b h h1
    · exact hv.blk h h1
  refine ⟨hv.upd hne _, FV.raw (Frag.upd_same _ _ _) hC, fun b' h1 h2 => hne ?_⟩
  have : b = b' := by simpa [blkV] using h2
  rw [this]; exact h1
def ctR (ty : Nat) (xs : List D.Rib) (strip saw : Int) (fv pv : Value) (lf mo : Int) : Row := ⟨ty, 7, [[.view 3 (xs.map D.Rib.enc), I strip, I saw, .raw fv, .raw pv, I lf, I mo]]⟩
def cTakeR (ty e : Nat) (R : Int → Int → Prop) : YCt := fun me args X K => ∃ (xs : List D.Rib) (strip saw : Int) (u pl : List Int) (fv pv : Value) (lf mo k : Int), me = .pt (ctR ty xs strip saw fv pv lf mo) ∧ args = [I k] ∧ R k u.length ∧
  FV e X fv (frE strip u) ∧ FV e X pv (pl.map encI) ∧ apart fv pv ∧ ((xs.length : Int) ≤ 8 ∧ pl.length < xs.length ∧ u.length ≤ 8) ∧ (0 ≤ k ∧ k ≤ u.length) ∧ stripP strip saw ∧
  (1 ≤ (ix xs pl.length).Length ∧ (ix xs pl.length).Length ≤ strip) ∧ (∀ v ∈ u, 1 ≤ v ∧ v ≤ strip) ∧
  (k < u.length → ¬ ix u k + (ix xs pl.length).Length + saw ≤ strip → ∀ n, K (some (ctR ty xs strip saw fv pv lf mo)) X [.p (I n), .p (.bool false)]) ∧
  ((k = u.length ∨ ix u k + (ix xs pl.length).Length + saw ≤ strip) → ∀ fv' pv' X' n, FV e X' fv' (frE strip (fcS u saw (ix xs pl.length).Length k)) → FV e X' pv' ((pl ++ [k]).map encI) → apart fv' pv' → K (some (ctR ty xs strip saw fv' pv' lf mo)) X' [.p (I n), .p (.bool true)])
abbrev cTake (ty e : Nat) : YCt := cTakeR ty e fun _ _ => True
theorem take_both {P : Program} {f ty e : Nat} (h1 : YHolds P f (cTakeR ty e (· < ·))) (h2 : YHolds P f (cTakeR ty e (· = ·))) : YHolds P f (cTake ty e) :=
  ⟨h1.1, fun me args X K ⟨xs, strip, saw, u, pl, fv, pv, lf, mo, k, e1, e2, _, a1, a2, a3, a4, a5, r⟩ => by
    rcases Int.lt_or_le k u.length with h | h
    · exact h1.2 _ _ _ _ ⟨xs, strip, saw, u, pl, fv, pv, lf, mo, k, e1, e2, h, a1, a2, a3, a4, a5, r⟩
    · exact h2.2 _ _ _ _ ⟨xs, strip, saw, u, pl, fv, pv, lf, mo, k, e1, e2, by omega, a1, a2, a3, a4, a5, r⟩⟩
def cFcI (e : Nat) : YCt := fun me args X K => me = .no ∧ X = Frag.nil ∧ ∃ (xs : List D.Rib) (strip saw : Int), args = [.view 3 (xs.map D.Rib.enc), I strip, I saw] ∧ (xs.length : Int) ≤ 1048576 ∧ (∀ x ∈ xs, x.ok) ∧ in64 strip ∧ in64 saw ∧
  ((¬ RibsOk xs ∧ K none X [.p .nil, .p (I 0), .p (I 1)]) ∨ (RibsOk xs ∧ ((¬ stripP strip saw ∧ K none X [.p .nil, .p (I 0), .p (I 2)]) ∨ (stripP strip saw ∧ ((¬ allTo (longC xs strip) xs.length ∧ K none X [.p .nil, .p (I 0), .p (I 6)]) ∨
    (allTo (longC xs strip) xs.length ∧ ∀ v X', FV e X' v ((fcL xs strip saw xs.length).pl.map encI) → K none X' [.p (.raw v), .p (I (fcL xs strip saw xs.length).u.length), .p (I 0)]))))))
def cFcS (ty : Nat) : Ct := fun args K => ∃ (xs : List D.Rib) (strip saw : Int) (rs : RV), args = [.view 3 (xs.map D.Rib.enc), I strip, I saw] ∧ (xs.length : Int) ≤ 1048576 ∧ (∀ x ∈ xs, x.ok) ∧ in64 strip ∧ in64 saw ∧
  spec3 (RibsOk xs) (stripP strip saw) (allTo (longC xs strip) xs.length) [.p .nil, .p (I 0), .p (I 1)] [.p .nil, .p (I 0), .p (I 2)] [.p .nil, .p (I 0), .p (I 6)] [.fresh ⟨ty, 1, (fcL xs strip saw xs.length).pl.map encI⟩, .p (I (fcL xs strip saw xs.length).u.length), .p (I 0)] rs ∧ K rs
def cAskF : Ct := fun args K => ∃ (xs : List D.Rib) (st sw : Int) (rs : RV), args = [.view 3 (xs.map D.Rib.enc), I st, I sw] ∧ (xs.length : Int) ≤ 1048576 ∧ (∀ x ∈ xs, x.ok) ∧
  spec2 (RibsOk xs) (stripP st sw) [.p (I 1)] [.p (I 2)] [.p (I 0)] rs ∧ K rs
def cShort : Ct := fun args K => ∃ (xs : List D.Rib) (strip : Int) (rs : RV), args = [.view 3 (xs.map D.Rib.enc), I strip] ∧ (xs.length : Int) ≤ 1048576 ∧ ((¬ allTo (longC xs strip) xs.length ∧ rs = [.p (I 6)]) ∨ (allTo (longC xs strip) xs.length ∧ rs = [.p (I 0)])) ∧ K rs
def ctQ (ty : Nat) (xs : List D.Rib) (strip saw : Int) (p q : PV) (lf mo : Int) : Row := ⟨ty, 7, [[.view 3 (xs.map D.Rib.enc), I strip, I saw, p, q, I lf, I mo]]⟩
def cLong (ty : Nat) : YCt := fun me args X K => ∃ (xs : List D.Rib) (strip saw : Int) (p q : PV) (lf mo : Int), me = .pt (ctQ ty xs strip saw p q lf mo) ∧ args = [] ∧ (xs.length : Int) ≤ 1048576 ∧
  ((¬ allTo (longC xs strip) xs.length ∧ K (some (ctQ ty xs strip saw p q lf mo)) X [.p (.bool true)]) ∨ (allTo (longC xs strip) xs.length ∧ K (some (ctQ ty xs strip saw p q lf mo)) X [.p (.bool false)]))
end Go.Lo
namespace Go.Proofs.Ythjbcgdmdmfijaa
open Go.Lo
attribute [local irreducible] W Wc

theorem h_takeA : YHolds Try.prog 53 (cTakeR 80 2 (· < ·)) := by
  refine E.mkY tt Try.func53 rfl Try.ntmps53 rfl (by kernel_rfl) ?_
  rintro _ _ X K ⟨xs, strip, saw, u, pl, fv, pv, lf, mo, k, rfl, rfl, hlt, hfF, hpF, hap, ⟨hx8, hplx, hu8⟩, ⟨hk0, hk1⟩, ⟨hs1, hs2⟩, ⟨hl1, hl2⟩, hub, hK1, hK2⟩
  have hln : (xs.map D.Rib.enc).length = xs.length := by simp
  have hlp : (pl.map encI).length = pl.length := by simp
  have hfl := frE_len strip u
  have hk10 : 0 + k.toNat * 1 = k.toNat := by omega
  have hx0 : (xs.map D.Rib.enc)[((pl.map encI).length : Int).toNat]? = some (ix xs pl.length).enc := by rw [hlp]; exact ixE (by omega) (by omega)
  refine ⟨Nat.le_of_ble_eq_true rfl, ?_⟩
  obtain ⟨fb, fc, fC, rfl, hfX, hfC⟩ := hfF.open (by rw [hfl]; omega)
  have hku : k.toNat < (frE strip u).length := by rw [hfl]; omega
  have hgk := frE_get (strip := strip) hk0 hlt
  obtain ⟨w, hw1, hw2⟩ := hfC.cell hgk
  have hw3 : w = .int .i64 (strip - ix u k) := (Option.some.inj hw2).symm
  subst hw3
  have hku2 := hfC.lt hku
  have hub2 := hub _ (ix_mem (xs := u) hk0 hlt)
  by_cases hfit : ix u k + (ix xs pl.length).Length + saw ≤ strip
  · (repeat' ((conv => whnf); first
    | refine Ixv.mk (by omega) hx0 ?_
    | refine Sd.mk (by first | omega | (unfold in64; omega) | (simp only [fitK, in64]; omega) | (simp only [fitK, in64, chunk, List.length_map, List.length_append, List.length_replicate, List.length_set, List.length_nil, List.length_cons]; omega)) ?_
    | refine Br.yes rfl ?_
    | refine Br.no rfl ?_
    | refine Br.yes (by first | (simp only [ltB_t, ltB_f, eqB_t, eqB_f, pB_t, pB_f, sEq_t, sEq_f, emp_iff, ne_eq, List.length_map, Bool.not_eq_true, Bool.not_eq_false, Bool.not_eq_eq_eq_not, Bool.not_true, Bool.not_false]; done) | (simp only [ltB_t, ltB_f, eqB_t, eqB_f, pB_t, pB_f, sEq_t, sEq_f, emp_iff, ne_eq, List.length_map, Bool.not_eq_true, Bool.not_eq_false, Bool.not_eq_eq_eq_not, Bool.not_true, Bool.not_false]; omega) | (simp only [ltB_t, ltB_f, eqB_t, eqB_f, pB_t, pB_f, sEq_t, sEq_f, emp_iff, ne_eq, List.length_map, Bool.not_eq_true, Bool.not_eq_false, Bool.not_eq_eq_eq_not, Bool.not_true, Bool.not_false]; assumption)) ?_
    | refine Br.no (by first | (simp only [ltB_t, ltB_f, eqB_t, eqB_f, pB_t, pB_f, sEq_t, sEq_f, emp_iff, ne_eq, List.length_map, Bool.not_eq_true, Bool.not_eq_false, Bool.not_eq_eq_eq_not, Bool.not_true, Bool.not_false]; done) | (simp only [ltB_t, ltB_f, eqB_t, eqB_f, pB_t, pB_f, sEq_t, sEq_f, emp_iff, ne_eq, List.length_map, Bool.not_eq_true, Bool.not_eq_false, Bool.not_eq_eq_eq_not, Bool.not_true, Bool.not_false]; omega) | (simp only [ltB_t, ltB_f, eqB_t, eqB_f, pB_t, pB_f, sEq_t, sEq_f, emp_iff, ne_eq, List.length_map, Bool.not_eq_true, Bool.not_eq_false, Bool.not_eq_eq_eq_not, Bool.not_true, Bool.not_false]; assumption)) ?_
    | (refine Br.mk ?_ ?_ <;> intro h <;> (try simp only [ltB_t, ltB_f, eqB_t, eqB_f, pB_t, pB_f, sEq_t, sEq_f, emp_iff, ne_eq, List.length_map, Bool.not_eq_true, Bool.not_eq_false, Bool.not_eq_eq_eq_not, Bool.not_true, Bool.not_false] at h))
    | refine Ixv.mk (by omega) (ixE (by omega) (by omega)) ?_
    | refine Elt.mk rfl ?_
    | refine Elt.mk (by assumption) ?_
    | refine Elt.mk (ixE (by omega) (by omega)) ?_
    | refine E.read tt (rd_lenF tt rfl rfl rfl rfl hpF) rfl ?_
    | refine E.read tt (rd_lenR tt rfl rfl rfl rfl) rfl ?_
    | refine E.read tt (rd_idxR tt (b := fb) (o := 0) (c := fc) rfl rfl rfl rfl rfl rfl (by omega) (by omega)) rfl ?_
    | refine E.read tt (rd_loadR tt (m := I (strip - ix u k)) rfl rfl rfl hfX (by rw [hk10]; exact hw1) rfl) rfl ?_
    | refine E.storeRw tt (m := I (strip - ix u k - ((ix xs pl.length).Length + saw))) (v := .int .i64 (strip - ix u k - ((ix xs pl.length).Length + saw))) rfl rfl rfl rfl rfl rfl hfX (by rw [hk10]; exact hku2) ?_
    | refine E.regionQ tt (id := 1) mixed (by decide +kernel) ?_
    | refine E.regionF tt (id := 3) 14 [0, 1, 2, 3] mixed (by decide +kernel) ?_
    | refine E.regionFY tt (id := 3) [0, 1, 2, 3, 5, 6, 7, 9, 10, 11] 9 (.nd [(4, .nd [(8, .nd [(12, .nd [(13, .nd [(14, .nd [(15, .nd [(16, .nd [(17, .nd [(18, .nd [])])])])])])])]), (12, .nd [(8, .nd [(13, .nd [(14, .nd [(15, .nd [(16, .nd [(17, .nd [(18, .nd [])])])])])])])])]), (8, .nd [(4, .nd [(12, .nd [(13, .nd [(14, .nd [(15, .nd [(16, .nd [(17, .nd [(18, .nd [])])])])])])])]), (12, .nd [(4, .nd [(13, .nd [(14, .nd [(15, .nd [(16, .nd [(17, .nd [(18, .nd [])])])])])])]), (13, .nd [(4, .nd [(14, .nd [(15, .nd [(16, .nd [(17, .nd [(18, .nd [])])])])])]), (14, .nd [(4, .nd [(15, .nd [(16, .nd [(17, .nd [(18, .nd [])])])])])])])])]), (12, .nd [(4, .nd [(8, .nd [(13, .nd [(14, .nd [(15, .nd [(16, .nd [(17, .nd [(18, .nd [])])])])])])])]), (8, .nd [(4, .nd [(13, .nd [(14, .nd [(15, .nd [(16, .nd [(17, .nd [(18, .nd [])])])])])])]), (13, .nd [(4, .nd [(14, .nd [(15, .nd [(16, .nd [(17, .nd [(18, .nd [])])])])])]), (14, .nd [(4, .nd [(15, .nd [(16, .nd [(17, .nd [(18, .nd [])])])])])])])])])]) mixed (by decide +kernel) ?_
    | refine Bo.mk ?_ ?_
    | refine E.regionT tt (id := 7) 15 mixed (by decide +kernel) ?_
    | refine E.regionFY tt (id := 7) [0, 1, 2, 4, 7, 8, 9, 10] 8 (.nd [(3, .nd [(5, .nd [(6, .nd [(11, .nd [(12, .nd [(13, .nd [(14, .nd [(15, .nd [])])])])])]), (11, .nd [(6, .nd [(12, .nd [(13, .nd [(14, .nd [(15, .nd [])])])])]), (12, .nd [(6, .nd [(13, .nd [(14, .nd [(15, .nd [])])])])])])]), (11, .nd [(5, .nd [(6, .nd [(12, .nd [(13, .nd [(14, .nd [(15, .nd [])])])])]), (12, .nd [(6, .nd [(13, .nd [(14, .nd [(15, .nd [])])])])])]), (12, .nd [(5, .nd [(6, .nd [(13, .nd [(14, .nd [(15, .nd [])])])])])])])]), (11, .nd [(3, .nd [(5, .nd [(6, .nd [(12, .nd [(13, .nd [(14, .nd [(15, .nd [])])])])]), (12, .nd [(6, .nd [(13, .nd [(14, .nd [(15, .nd [])])])])])]), (12, .nd [(5, .nd [(6, .nd [(13, .nd [(14, .nd [(15, .nd [])])])])])])]), (12, .nd [(3, .nd [(5, .nd [(6, .nd [(13, .nd [(14, .nd [(15, .nd [])])])])])])])])]) mixed (by decide +kernel) ?_
    | refine Bo.mk ?_ ?_)) <;> (try (conv => whnf))
    all_goals try (exfalso; omega)
    have hset := FV.set (e := 2) (X := X) (b := fb) (m := I (strip - ix u k - ((ix xs pl.length).Length + saw))) hfC hku rfl rfl
    have hpF1 := hpF.upd (fun h => hap fb rfl h) (.cells (fC.setIfInBounds k.toNat (.int .i64 (strip - ix u k - ((ix xs pl.length).Length + saw)))) 2 (0, 0))
    have hce : (frE strip u).set k.toNat [I (strip - ix u k - ((ix xs pl.length).Length + saw))] = frE strip (fcS u saw (ix xs pl.length).Length k) := by
      rw [show strip - ix u k - ((ix xs pl.length).Length + saw) = strip - (ix u k + ((ix xs pl.length).Length + saw)) by omega, frE_set]
      unfold fcS; rw [if_neg (by omega)]
    refine E.appFw tt (els2 := [[I k]]) rfl rfl rfl rfl rfl rfl (by rw [hk10]; exact hpF1) rfl (by simp) (one_pl k) rfl (by rw [hlp]; simp; omega) fun b2 c2 C2 hC2 hb2 => ?_
    rw [hk10] at hb2
    obtain ⟨g1, g2, g3⟩ := two_app hset hpF1 hap hb2 hC2
    (repeat' ((conv => whnf); first
    | refine Sd.mk (by first | omega | (unfold in64; omega) | (simp only [fitK, in64]; omega) | (simp only [fitK, in64, chunk, List.length_map, List.length_append, List.length_replicate, List.length_set, List.length_nil, List.length_cons]; omega)) ?_
    | refine Br.yes rfl ?_
    | refine Br.no rfl ?_
    | refine Br.yes (by first | (simp only [ltB_t, ltB_f, eqB_t, eqB_f, pB_t, pB_f, sEq_t, sEq_f, emp_iff, ne_eq, List.length_map, Bool.not_eq_true, Bool.not_eq_false, Bool.not_eq_eq_eq_not, Bool.not_true, Bool.not_false]; done) | (simp only [ltB_t, ltB_f, eqB_t, eqB_f, pB_t, pB_f, sEq_t, sEq_f, emp_iff, ne_eq, List.length_map, Bool.not_eq_true, Bool.not_eq_false, Bool.not_eq_eq_eq_not, Bool.not_true, Bool.not_false]; omega) | (simp only [ltB_t, ltB_f, eqB_t, eqB_f, pB_t, pB_f, sEq_t, sEq_f, emp_iff, ne_eq, List.length_map, Bool.not_eq_true, Bool.not_eq_false, Bool.not_eq_eq_eq_not, Bool.not_true, Bool.not_false]; assumption)) ?_
    | refine Br.no (by first | (simp only [ltB_t, ltB_f, eqB_t, eqB_f, pB_t, pB_f, sEq_t, sEq_f, emp_iff, ne_eq, List.length_map, Bool.not_eq_true, Bool.not_eq_false, Bool.not_eq_eq_eq_not, Bool.not_true, Bool.not_false]; done) | (simp only [ltB_t, ltB_f, eqB_t, eqB_f, pB_t, pB_f, sEq_t, sEq_f, emp_iff, ne_eq, List.length_map, Bool.not_eq_true, Bool.not_eq_false, Bool.not_eq_eq_eq_not, Bool.not_true, Bool.not_false]; omega) | (simp only [ltB_t, ltB_f, eqB_t, eqB_f, pB_t, pB_f, sEq_t, sEq_f, emp_iff, ne_eq, List.length_map, Bool.not_eq_true, Bool.not_eq_false, Bool.not_eq_eq_eq_not, Bool.not_true, Bool.not_false]; assumption)) ?_
    | (refine Br.mk ?_ ?_ <;> intro h <;> (try simp only [ltB_t, ltB_f, eqB_t, eqB_f, pB_t, pB_f, sEq_t, sEq_f, emp_iff, ne_eq, List.length_map, Bool.not_eq_true, Bool.not_eq_false, Bool.not_eq_eq_eq_not, Bool.not_true, Bool.not_false] at h))
    | refine Ixv.mk (by omega) (ixE (by omega) (by omega)) ?_
    | refine Elt.mk rfl ?_
    | refine Elt.mk (by assumption) ?_
    | refine Elt.mk (ixE (by omega) (by omega)) ?_
    | refine E.regionQ tt (id := 1) mixed (by decide +kernel) ?_
    | refine E.regionF tt (id := 3) 14 [0, 1, 2, 3] mixed (by decide +kernel) ?_
    | refine E.regionFY tt (id := 3) [0, 1, 2, 3, 5, 6, 7, 9, 10, 11] 9 (.nd [(4, .nd [(8, .nd [(12, .nd [(13, .nd [(14, .nd [(15, .nd [(16, .nd [(17, .nd [(18, .nd [])])])])])])])]), (12, .nd [(8, .nd [(13, .nd [(14, .nd [(15, .nd [(16, .nd [(17, .nd [(18, .nd [])])])])])])])])]), (8, .nd [(4, .nd [(12, .nd [(13, .nd [(14, .nd [(15, .nd [(16, .nd [(17, .nd [(18, .nd [])])])])])])])]), (12, .nd [(4, .nd [(13, .nd [(14, .nd [(15, .nd [(16, .nd [(17, .nd [(18, .nd [])])])])])])]), (13, .nd [(4, .nd [(14, .nd [(15, .nd [(16, .nd [(17, .nd [(18, .nd [])])])])])]), (14, .nd [(4, .nd [(15, .nd [(16, .nd [(17, .nd [(18, .nd [])])])])])])])])]), (12, .nd [(4, .nd [(8, .nd [(13, .nd [(14, .nd [(15, .nd [(16, .nd [(17, .nd [(18, .nd [])])])])])])])]), (8, .nd [(4, .nd [(13, .nd [(14, .nd [(15, .nd [(16, .nd [(17, .nd [(18, .nd [])])])])])])]), (13, .nd [(4, .nd [(14, .nd [(15, .nd [(16, .nd [(17, .nd [(18, .nd [])])])])])]), (14, .nd [(4, .nd [(15, .nd [(16, .nd [(17, .nd [(18, .nd [])])])])])])])])])]) mixed (by decide +kernel) ?_
    | refine Bo.mk ?_ ?_
    | refine E.regionT tt (id := 7) 15 mixed (by decide +kernel) ?_
    | refine E.regionFY tt (id := 7) [0, 1, 2, 4, 7, 8, 9, 10] 8 (.nd [(3, .nd [(5, .nd [(6, .nd [(11, .nd [(12, .nd [(13, .nd [(14, .nd [(15, .nd [])])])])])]), (11, .nd [(6, .nd [(12, .nd [(13, .nd [(14, .nd [(15, .nd [])])])])]), (12, .nd [(6, .nd [(13, .nd [(14, .nd [(15, .nd [])])])])])])]), (11, .nd [(5, .nd [(6, .nd [(12, .nd [(13, .nd [(14, .nd [(15, .nd [])])])])]), (12, .nd [(6, .nd [(13, .nd [(14, .nd [(15, .nd [])])])])])]), (12, .nd [(5, .nd [(6, .nd [(13, .nd [(14, .nd [(15, .nd [])])])])])])])]), (11, .nd [(3, .nd [(5, .nd [(6, .nd [(12, .nd [(13, .nd [(14, .nd [(15, .nd [])])])])]), (12, .nd [(6, .nd [(13, .nd [(14, .nd [(15, .nd [])])])])])]), (12, .nd [(5, .nd [(6, .nd [(13, .nd [(14, .nd [(15, .nd [])])])])])])]), (12, .nd [(3, .nd [(5, .nd [(6, .nd [(13, .nd [(14, .nd [(15, .nd [])])])])])])])])]) mixed (by decide +kernel) ?_
    | refine Bo.mk ?_ ?_)) <;> (try (conv => whnf))
    all_goals (exact ⟨_, ⟨rfl, rfl, rfl⟩, allSc_ok _ rfl, (fun r h => by cases h; exact ⟨_, rfl, rfl, rfl⟩), rfl, by rw [hk10]; exact hK2 (.inr hfit) _ _ _ _ (g1.cast hce) (g2.cast (encI_app _ _)) g3⟩)
  · (repeat' ((conv => whnf); first
    | refine Ixv.mk (by omega) hx0 ?_
    | refine Sd.mk (by first | omega | (unfold in64; omega) | (simp only [fitK, in64]; omega) | (simp only [fitK, in64, chunk, List.length_map, List.length_append, List.length_replicate, List.length_set, List.length_nil, List.length_cons]; omega)) ?_
    | refine Br.yes rfl ?_
    | refine Br.no rfl ?_
    | refine Br.yes (by first | (simp only [ltB_t, ltB_f, eqB_t, eqB_f, pB_t, pB_f, sEq_t, sEq_f, emp_iff, ne_eq, List.length_map, Bool.not_eq_true, Bool.not_eq_false, Bool.not_eq_eq_eq_not, Bool.not_true, Bool.not_false]; done) | (simp only [ltB_t, ltB_f, eqB_t, eqB_f, pB_t, pB_f, sEq_t, sEq_f, emp_iff, ne_eq, List.length_map, Bool.not_eq_true, Bool.not_eq_false, Bool.not_eq_eq_eq_not, Bool.not_true, Bool.not_false]; omega) | (simp only [ltB_t, ltB_f, eqB_t, eqB_f, pB_t, pB_f, sEq_t, sEq_f, emp_iff, ne_eq, List.length_map, Bool.not_eq_true, Bool.not_eq_false, Bool.not_eq_eq_eq_not, Bool.not_true, Bool.not_false]; assumption)) ?_
    | refine Br.no (by first | (simp only [ltB_t, ltB_f, eqB_t, eqB_f, pB_t, pB_f, sEq_t, sEq_f, emp_iff, ne_eq, List.length_map, Bool.not_eq_true, Bool.not_eq_false, Bool.not_eq_eq_eq_not, Bool.not_true, Bool.not_false]; done) | (simp only [ltB_t, ltB_f, eqB_t, eqB_f, pB_t, pB_f, sEq_t, sEq_f, emp_iff, ne_eq, List.length_map, Bool.not_eq_true, Bool.not_eq_false, Bool.not_eq_eq_eq_not, Bool.not_true, Bool.not_false]; omega) | (simp only [ltB_t, ltB_f, eqB_t, eqB_f, pB_t, pB_f, sEq_t, sEq_f, emp_iff, ne_eq, List.length_map, Bool.not_eq_true, Bool.not_eq_false, Bool.not_eq_eq_eq_not, Bool.not_true, Bool.not_false]; assumption)) ?_
    | (refine Br.mk ?_ ?_ <;> intro h <;> (try simp only [ltB_t, ltB_f, eqB_t, eqB_f, pB_t, pB_f, sEq_t, sEq_f, emp_iff, ne_eq, List.length_map, Bool.not_eq_true, Bool.not_eq_false, Bool.not_eq_eq_eq_not, Bool.not_true, Bool.not_false] at h))
    | refine Ixv.mk (by omega) (ixE (by omega) (by omega)) ?_
    | refine Elt.mk rfl ?_
    | refine Elt.mk (by assumption) ?_
    | refine Elt.mk (ixE (by omega) (by omega)) ?_
    | refine E.read tt (rd_lenF tt rfl rfl rfl rfl hpF) rfl ?_
    | refine E.read tt (rd_lenR tt rfl rfl rfl rfl) rfl ?_
    | refine E.read tt (rd_idxR tt (b := fb) (o := 0) (c := fc) rfl rfl rfl rfl rfl rfl (by omega) (by omega)) rfl ?_
    | refine E.read tt (rd_loadR tt (m := I (strip - ix u k)) rfl rfl rfl hfX (by rw [hk10]; exact hw1) rfl) rfl ?_
    | refine E.regionQ tt (id := 1) mixed (by decide +kernel) ?_
    | refine E.regionF tt (id := 3) 14 [0, 1, 2, 3] mixed (by decide +kernel) ?_
    | refine E.regionFY tt (id := 3) [0, 1, 2, 3, 5, 6, 7, 9, 10, 11] 9 (.nd [(4, .nd [(8, .nd [(12, .nd [(13, .nd [(14, .nd [(15, .nd [(16, .nd [(17, .nd [(18, .nd [])])])])])])])]), (12, .nd [(8, .nd [(13, .nd [(14, .nd [(15, .nd [(16, .nd [(17, .nd [(18, .nd [])])])])])])])])]), (8, .nd [(4, .nd [(12, .nd [(13, .nd [(14, .nd [(15, .nd [(16, .nd [(17, .nd [(18, .nd [])])])])])])])]), (12, .nd [(4, .nd [(13, .nd [(14, .nd [(15, .nd [(16, .nd [(17, .nd [(18, .nd [])])])])])])]), (13, .nd [(4, .nd [(14, .nd [(15, .nd [(16, .nd [(17, .nd [(18, .nd [])])])])])]), (14, .nd [(4, .nd [(15, .nd [(16, .nd [(17, .nd [(18, .nd [])])])])])])])])]), (12, .nd [(4, .nd [(8, .nd [(13, .nd [(14, .nd [(15, .nd [(16, .nd [(17, .nd [(18, .nd [])])])])])])])]), (8, .nd [(4, .nd [(13, .nd [(14, .nd [(15, .nd [(16, .nd [(17, .nd [(18, .nd [])])])])])])]), (13, .nd [(4, .nd [(14, .nd [(15, .nd [(16, .nd [(17, .nd [(18, .nd [])])])])])]), (14, .nd [(4, .nd [(15, .nd [(16, .nd [(17, .nd [(18, .nd [])])])])])])])])])]) mixed (by decide +kernel) ?_
    | refine Bo.mk ?_ ?_
    | refine E.regionT tt (id := 7) 15 mixed (by decide +kernel) ?_
    | refine E.regionFY tt (id := 7) [0, 1, 2, 4, 7, 8, 9, 10] 8 (.nd [(3, .nd [(5, .nd [(6, .nd [(11, .nd [(12, .nd [(13, .nd [(14, .nd [(15, .nd [])])])])])]), (11, .nd [(6, .nd [(12, .nd [(13, .nd [(14, .nd [(15, .nd [])])])])]), (12, .nd [(6, .nd [(13, .nd [(14, .nd [(15, .nd [])])])])])])]), (11, .nd [(5, .nd [(6, .nd [(12, .nd [(13, .nd [(14, .nd [(15, .nd [])])])])]), (12, .nd [(6, .nd [(13, .nd [(14, .nd [(15, .nd [])])])])])]), (12, .nd [(5, .nd [(6, .nd [(13, .nd [(14, .nd [(15, .nd [])])])])])])])]), (11, .nd [(3, .nd [(5, .nd [(6, .nd [(12, .nd [(13, .nd [(14, .nd [(15, .nd [])])])])]), (12, .nd [(6, .nd [(13, .nd [(14, .nd [(15, .nd [])])])])])]), (12, .nd [(5, .nd [(6, .nd [(13, .nd [(14, .nd [(15, .nd [])])])])])])]), (12, .nd [(3, .nd [(5, .nd [(6, .nd [(13, .nd [(14, .nd [(15, .nd [])])])])])])])])]) mixed (by decide +kernel) ?_
    | refine Bo.mk ?_ ?_)) <;> (try (conv => whnf))
    all_goals first
      | (exfalso; omega)
      | exact ⟨_, ⟨rfl, rfl, rfl⟩, allSc_ok _ rfl, (fun r h => by cases h; exact ⟨_, rfl, rfl, rfl⟩), rfl, hK1 hlt hfit _⟩
set_option maxHeartbeats 1000000 in
theorem h_takeB : YHolds Try.prog 53 (cTakeR 80 2 (· = ·)) := by
  refine E.mkY tt Try.func53 rfl Try.ntmps53 rfl (by kernel_rfl) ?_
  rintro _ _ X K ⟨xs, strip, saw, u, pl, fv, pv, lf, mo, k, rfl, rfl, hke, hfF, hpF, hap, ⟨hx8, hplx, hu8⟩, ⟨hk0, hk1⟩, ⟨hs1, hs2⟩, ⟨hl1, hl2⟩, hub, hK1, hK2⟩
  have hln : (xs.map D.Rib.enc).length = xs.length := by simp
  have hlp : (pl.map encI).length = pl.length := by simp
  have hfl := frE_len strip u
  have hk10 : 0 + k.toNat * 1 = k.toNat := by omega
  have hx0 : (xs.map D.Rib.enc)[((pl.map encI).length : Int).toNat]? = some (ix xs pl.length).enc := by rw [hlp]; exact ixE (by omega) (by omega)
  refine ⟨Nat.le_of_ble_eq_true rfl, ?_⟩
  (repeat' ((conv => whnf); first
    | refine Ixv.mk (by omega) hx0 ?_
    | refine Sd.mk (by first | omega | (unfold in64; omega) | (simp only [fitK, in64]; omega) | (simp only [fitK, in64, chunk, List.length_map, List.length_append, List.length_replicate, List.length_set, List.length_nil, List.length_cons]; omega)) ?_
    | refine Br.yes rfl ?_
    | refine Br.no rfl ?_
    | refine Br.yes (by first | (simp only [ltB_t, ltB_f, eqB_t, eqB_f, pB_t, pB_f, sEq_t, sEq_f, emp_iff, ne_eq, List.length_map, Bool.not_eq_true, Bool.not_eq_false, Bool.not_eq_eq_eq_not, Bool.not_true, Bool.not_false]; done) | (simp only [ltB_t, ltB_f, eqB_t, eqB_f, pB_t, pB_f, sEq_t, sEq_f, emp_iff, ne_eq, List.length_map, Bool.not_eq_true, Bool.not_eq_false, Bool.not_eq_eq_eq_not, Bool.not_true, Bool.not_false]; omega) | (simp only [ltB_t, ltB_f, eqB_t, eqB_f, pB_t, pB_f, sEq_t, sEq_f, emp_iff, ne_eq, List.length_map, Bool.not_eq_true, Bool.not_eq_false, Bool.not_eq_eq_eq_not, Bool.not_true, Bool.not_false]; assumption)) ?_
    | refine Br.no (by first | (simp only [ltB_t, ltB_f, eqB_t, eqB_f, pB_t, pB_f, sEq_t, sEq_f, emp_iff, ne_eq, List.length_map, Bool.not_eq_true, Bool.not_eq_false, Bool.not_eq_eq_eq_not, Bool.not_true, Bool.not_false]; done) | (simp only [ltB_t, ltB_f, eqB_t, eqB_f, pB_t, pB_f, sEq_t, sEq_f, emp_iff, ne_eq, List.length_map, Bool.not_eq_true, Bool.not_eq_false, Bool.not_eq_eq_eq_not, Bool.not_true, Bool.not_false]; omega) | (simp only [ltB_t, ltB_f, eqB_t, eqB_f, pB_t, pB_f, sEq_t, sEq_f, emp_iff, ne_eq, List.length_map, Bool.not_eq_true, Bool.not_eq_false, Bool.not_eq_eq_eq_not, Bool.not_true, Bool.not_false]; assumption)) ?_
    | (refine Br.mk ?_ ?_ <;> intro h <;> (try simp only [ltB_t, ltB_f, eqB_t, eqB_f, pB_t, pB_f, sEq_t, sEq_f, emp_iff, ne_eq, List.length_map, Bool.not_eq_true, Bool.not_eq_false, Bool.not_eq_eq_eq_not, Bool.not_true, Bool.not_false] at h))
    | refine Ixv.mk (by omega) (ixE (by omega) (by omega)) ?_
    | refine Elt.mk rfl ?_
    | refine Elt.mk (by assumption) ?_
    | refine Elt.mk (ixE (by omega) (by omega)) ?_
    | refine E.read tt (rd_lenF tt rfl rfl rfl rfl hpF) rfl ?_
    | refine E.read tt (rd_lenF tt rfl rfl rfl rfl hfF) rfl ?_
    | refine E.regionQ tt (id := 1) mixed (by decide +kernel) ?_
    | refine E.regionF tt (id := 3) 14 [0, 1, 2, 3] mixed (by decide +kernel) ?_
    | refine E.regionFY tt (id := 3) [0, 1, 2, 3, 5, 6, 7, 9, 10, 11] 9 (.nd [(4, .nd [(8, .nd [(12, .nd [(13, .nd [(14, .nd [(15, .nd [(16, .nd [(17, .nd [(18, .nd [])])])])])])])]), (12, .nd [(8, .nd [(13, .nd [(14, .nd [(15, .nd [(16, .nd [(17, .nd [(18, .nd [])])])])])])])])]), (8, .nd [(4, .nd [(12, .nd [(13, .nd [(14, .nd [(15, .nd [(16, .nd [(17, .nd [(18, .nd [])])])])])])])]), (12, .nd [(4, .nd [(13, .nd [(14, .nd [(15, .nd [(16, .nd [(17, .nd [(18, .nd [])])])])])])]), (13, .nd [(4, .nd [(14, .nd [(15, .nd [(16, .nd [(17, .nd [(18, .nd [])])])])])]), (14, .nd [(4, .nd [(15, .nd [(16, .nd [(17, .nd [(18, .nd [])])])])])])])])]), (12, .nd [(4, .nd [(8, .nd [(13, .nd [(14, .nd [(15, .nd [(16, .nd [(17, .nd [(18, .nd [])])])])])])])]), (8, .nd [(4, .nd [(13, .nd [(14, .nd [(15, .nd [(16, .nd [(17, .nd [(18, .nd [])])])])])])]), (13, .nd [(4, .nd [(14, .nd [(15, .nd [(16, .nd [(17, .nd [(18, .nd [])])])])])]), (14, .nd [(4, .nd [(15, .nd [(16, .nd [(17, .nd [(18, .nd [])])])])])])])])])]) mixed (by decide +kernel) ?_
    | refine Bo.mk ?_ ?_
    | refine E.regionT tt (id := 7) 15 mixed (by decide +kernel) ?_
    | refine E.regionFY tt (id := 7) [0, 1, 2, 4, 7, 8, 9, 10] 8 (.nd [(3, .nd [(5, .nd [(6, .nd [(11, .nd [(12, .nd [(13, .nd [(14, .nd [(15, .nd [])])])])])]), (11, .nd [(6, .nd [(12, .nd [(13, .nd [(14, .nd [(15, .nd [])])])])]), (12, .nd [(6, .nd [(13, .nd [(14, .nd [(15, .nd [])])])])])])]), (11, .nd [(5, .nd [(6, .nd [(12, .nd [(13, .nd [(14, .nd [(15, .nd [])])])])]), (12, .nd [(6, .nd [(13, .nd [(14, .nd [(15, .nd [])])])])])]), (12, .nd [(5, .nd [(6, .nd [(13, .nd [(14, .nd [(15, .nd [])])])])])])])]), (11, .nd [(3, .nd [(5, .nd [(6, .nd [(12, .nd [(13, .nd [(14, .nd [(15, .nd [])])])])]), (12, .nd [(6, .nd [(13, .nd [(14, .nd [(15, .nd [])])])])])]), (12, .nd [(5, .nd [(6, .nd [(13, .nd [(14, .nd [(15, .nd [])])])])])])]), (12, .nd [(3, .nd [(5, .nd [(6, .nd [(13, .nd [(14, .nd [(15, .nd [])])])])])])])])]) mixed (by decide +kernel) ?_
    | refine Bo.mk ?_ ?_)) <;> (try (conv => whnf))
  all_goals try (exfalso; omega)
  all_goals (
    refine E.appFw tt (els2 := [[I (strip + saw)]]) rfl rfl rfl rfl rfl rfl hfF rfl (by simp) (one_pl _) rfl (by rw [hfl]; simp; omega) fun fb fc fC hfC hfb => ?_
    obtain ⟨q1, q2, q3⟩ := two_app hpF hfF hap.symm hfb hfC
    have hfl2 : (frE strip u ++ [[I (strip + saw)]]).length = u.length + 1 := by simp [hfl]
    have hku : k.toNat < (frE strip u ++ [[I (strip + saw)]]).length := by rw [hfl2]; omega
    have hgk : (frE strip u ++ [[I (strip + saw)]])[k.toNat]? = some [I (strip + saw)] := by rw [List.getElem?_append_right (by rw [hfl]; omega), hfl, show k.toNat - u.length = 0 by omega]; rfl
    obtain ⟨w, hw1, hw2⟩ := hfC.cell hgk
    have hw3 : w = .int .i64 (strip + saw) := (Option.some.inj hw2).symm
    subst hw3
    have hku2 := hfC.lt hku
    have hX1 : (X.upd fb (.cells fC 2 (0, 0))) fb = some (.cells fC 2 (0, 0)) := Frag.upd_same _ _ _
    (repeat' ((conv => whnf); first
    | refine Sd.mk (by first | omega | (unfold in64; omega) | (simp only [fitK, in64]; omega) | (simp only [fitK, in64, chunk, List.length_map, List.length_append, List.length_replicate, List.length_set, List.length_nil, List.length_cons]; omega)) ?_
    | refine Br.yes rfl ?_
    | refine Br.no rfl ?_
    | refine Br.yes (by first | (simp only [ltB_t, ltB_f, eqB_t, eqB_f, pB_t, pB_f, sEq_t, sEq_f, emp_iff, ne_eq, List.length_map, Bool.not_eq_true, Bool.not_eq_false, Bool.not_eq_eq_eq_not, Bool.not_true, Bool.not_false]; done) | (simp only [ltB_t, ltB_f, eqB_t, eqB_f, pB_t, pB_f, sEq_t, sEq_f, emp_iff, ne_eq, List.length_map, Bool.not_eq_true, Bool.not_eq_false, Bool.not_eq_eq_eq_not, Bool.not_true, Bool.not_false]; omega) | (simp only [ltB_t, ltB_f, eqB_t, eqB_f, pB_t, pB_f, sEq_t, sEq_f, emp_iff, ne_eq, List.length_map, Bool.not_eq_true, Bool.not_eq_false, Bool.not_eq_eq_eq_not, Bool.not_true, Bool.not_false]; assumption)) ?_
    | refine Br.no (by first | (simp only [ltB_t, ltB_f, eqB_t, eqB_f, pB_t, pB_f, sEq_t, sEq_f, emp_iff, ne_eq, List.length_map, Bool.not_eq_true, Bool.not_eq_false, Bool.not_eq_eq_eq_not, Bool.not_true, Bool.not_false]; done) | (simp only [ltB_t, ltB_f, eqB_t, eqB_f, pB_t, pB_f, sEq_t, sEq_f, emp_iff, ne_eq, List.length_map, Bool.not_eq_true, Bool.not_eq_false, Bool.not_eq_eq_eq_not, Bool.not_true, Bool.not_false]; omega) | (simp only [ltB_t, ltB_f, eqB_t, eqB_f, pB_t, pB_f, sEq_t, sEq_f, emp_iff, ne_eq, List.length_map, Bool.not_eq_true, Bool.not_eq_false, Bool.not_eq_eq_eq_not, Bool.not_true, Bool.not_false]; assumption)) ?_
    | (refine Br.mk ?_ ?_ <;> intro h <;> (try simp only [ltB_t, ltB_f, eqB_t, eqB_f, pB_t, pB_f, sEq_t, sEq_f, emp_iff, ne_eq, List.length_map, Bool.not_eq_true, Bool.not_eq_false, Bool.not_eq_eq_eq_not, Bool.not_true, Bool.not_false] at h))
    | refine Ixv.mk (by omega) (ixE (by omega) (by omega)) ?_
    | refine Elt.mk rfl ?_
    | refine Elt.mk (by assumption) ?_
    | refine Elt.mk (ixE (by omega) (by omega)) ?_
    | refine E.read tt (rd_lenF tt rfl rfl rfl rfl q1) rfl ?_
    | refine E.read tt (rd_lenR tt rfl rfl rfl rfl) rfl ?_
    | refine E.read tt (rd_idxR tt (b := fb) (o := 0) (c := fc) rfl rfl rfl rfl rfl rfl (by omega) (by omega)) rfl ?_
    | refine E.read tt (rd_loadR tt (m := I (strip + saw)) rfl rfl rfl hX1 (by rw [hk10]; exact hw1) rfl) rfl ?_
    | refine E.storeRw tt (m := I (strip + saw - ((ix xs pl.length).Length + saw))) (v := .int .i64 (strip + saw - ((ix xs pl.length).Length + saw))) rfl rfl rfl rfl rfl rfl hX1 (by rw [hk10]; exact hku2) ?_
    | refine E.regionQ tt (id := 1) mixed (by decide +kernel) ?_
    | refine E.regionF tt (id := 3) 14 [0, 1, 2, 3] mixed (by decide +kernel) ?_
    | refine E.regionFY tt (id := 3) [0, 1, 2, 3, 5, 6, 7, 9, 10, 11] 9 (.nd [(4, .nd [(8, .nd [(12, .nd [(13, .nd [(14, .nd [(15, .nd [(16, .nd [(17, .nd [(18, .nd [])])])])])])])]), (12, .nd [(8, .nd [(13, .nd [(14, .nd [(15, .nd [(16, .nd [(17, .nd [(18, .nd [])])])])])])])])]), (8, .nd [(4, .nd [(12, .nd [(13, .nd [(14, .nd [(15, .nd [(16, .nd [(17, .nd [(18, .nd [])])])])])])])]), (12, .nd [(4, .nd [(13, .nd [(14, .nd [(15, .nd [(16, .nd [(17, .nd [(18, .nd [])])])])])])]), (13, .nd [(4, .nd [(14, .nd [(15, .nd [(16, .nd [(17, .nd [(18, .nd [])])])])])]), (14, .nd [(4, .nd [(15, .nd [(16, .nd [(17, .nd [(18, .nd [])])])])])])])])]), (12, .nd [(4, .nd [(8, .nd [(13, .nd [(14, .nd [(15, .nd [(16, .nd [(17, .nd [(18, .nd [])])])])])])])]), (8, .nd [(4, .nd [(13, .nd [(14, .nd [(15, .nd [(16, .nd [(17, .nd [(18, .nd [])])])])])])]), (13, .nd [(4, .nd [(14, .nd [(15, .nd [(16, .nd [(17, .nd [(18, .nd [])])])])])]), (14, .nd [(4, .nd [(15, .nd [(16, .nd [(17, .nd [(18, .nd [])])])])])])])])])]) mixed (by decide +kernel) ?_
    | refine Bo.mk ?_ ?_
    | refine E.regionT tt (id := 7) 15 mixed (by decide +kernel) ?_
    | refine E.regionFY tt (id := 7) [0, 1, 2, 4, 7, 8, 9, 10] 8 (.nd [(3, .nd [(5, .nd [(6, .nd [(11, .nd [(12, .nd [(13, .nd [(14, .nd [(15, .nd [])])])])])]), (11, .nd [(6, .nd [(12, .nd [(13, .nd [(14, .nd [(15, .nd [])])])])]), (12, .nd [(6, .nd [(13, .nd [(14, .nd [(15, .nd [])])])])])])]), (11, .nd [(5, .nd [(6, .nd [(12, .nd [(13, .nd [(14, .nd [(15, .nd [])])])])]), (12, .nd [(6, .nd [(13, .nd [(14, .nd [(15, .nd [])])])])])]), (12, .nd [(5, .nd [(6, .nd [(13, .nd [(14, .nd [(15, .nd [])])])])])])])]), (11, .nd [(3, .nd [(5, .nd [(6, .nd [(12, .nd [(13, .nd [(14, .nd [(15, .nd [])])])])]), (12, .nd [(6, .nd [(13, .nd [(14, .nd [(15, .nd [])])])])])]), (12, .nd [(5, .nd [(6, .nd [(13, .nd [(14, .nd [(15, .nd [])])])])])])]), (12, .nd [(3, .nd [(5, .nd [(6, .nd [(13, .nd [(14, .nd [(15, .nd [])])])])])])])])]) mixed (by decide +kernel) ?_
    | refine Bo.mk ?_ ?_)) <;> (try (conv => whnf))
    all_goals try (exfalso; omega)
    have hset := FV.set (e := 2) (X := X.upd fb (.cells fC 2 (0, 0))) (b := fb) (m := I (strip + saw - ((ix xs pl.length).Length + saw))) hfC hku rfl rfl
    have hpF1 := q1.upd (fun h => q3.symm fb rfl h) (.cells (fC.setIfInBounds k.toNat (.int .i64 (strip + saw - ((ix xs pl.length).Length + saw)))) 2 (0, 0))
    have hce : (frE strip u ++ [[I (strip + saw)]]).set k.toNat [I (strip + saw - ((ix xs pl.length).Length + saw))] = frE strip (fcS u saw (ix xs pl.length).Length k) := by
      rw [List.set_append_right _ _ (by rw [hfl]; omega), hfl, show k.toNat - u.length = 0 by omega, List.set_cons_zero, show strip + saw - ((ix xs pl.length).Length + saw) = strip - (ix xs pl.length).Length by omega, frE_app]
      unfold fcS; rw [if_pos hke]
    refine E.appFw tt (els2 := [[I k]]) rfl rfl rfl rfl rfl rfl (by rw [hk10]; exact hpF1) rfl (by simp) (one_pl k) rfl (by rw [hlp]; simp; omega) fun b2 c2 C2 hC2 hb2 => ?_
    rw [hk10] at hb2
    obtain ⟨g1, g2, g3⟩ := two_app hset hpF1 q3.symm hb2 hC2
    (repeat' ((conv => whnf); first
    | refine Sd.mk (by first | omega | (unfold in64; omega) | (simp only [fitK, in64]; omega) | (simp only [fitK, in64, chunk, List.length_map, List.length_append, List.length_replicate, List.length_set, List.length_nil, List.length_cons]; omega)) ?_
    | refine Br.yes rfl ?_
    | refine Br.no rfl ?_
    | refine Br.yes (by first | (simp only [ltB_t, ltB_f, eqB_t, eqB_f, pB_t, pB_f, sEq_t, sEq_f, emp_iff, ne_eq, List.length_map, Bool.not_eq_true, Bool.not_eq_false, Bool.not_eq_eq_eq_not, Bool.not_true, Bool.not_false]; done) | (simp only [ltB_t, ltB_f, eqB_t, eqB_f, pB_t, pB_f, sEq_t, sEq_f, emp_iff, ne_eq, List.length_map, Bool.not_eq_true, Bool.not_eq_false, Bool.not_eq_eq_eq_not, Bool.not_true, Bool.not_false]; omega) | (simp only [ltB_t, ltB_f, eqB_t, eqB_f, pB_t, pB_f, sEq_t, sEq_f, emp_iff, ne_eq, List.length_map, Bool.not_eq_true, Bool.not_eq_false, Bool.not_eq_eq_eq_not, Bool.not_true, Bool.not_false]; assumption)) ?_
    | refine Br.no (by first | (simp only [ltB_t, ltB_f, eqB_t, eqB_f, pB_t, pB_f, sEq_t, sEq_f, emp_iff, ne_eq, List.length_map, Bool.not_eq_true, Bool.not_eq_false, Bool.not_eq_eq_eq_not, Bool.not_true, Bool.not_false]; done) | (simp only [ltB_t, ltB_f, eqB_t, eqB_f, pB_t, pB_f, sEq_t, sEq_f, emp_iff, ne_eq, List.length_map, Bool.not_eq_true, Bool.not_eq_false, Bool.not_eq_eq_eq_not, Bool.not_true, Bool.not_false]; omega) | (simp only [ltB_t, ltB_f, eqB_t, eqB_f, pB_t, pB_f, sEq_t, sEq_f, emp_iff, ne_eq, List.length_map, Bool.not_eq_true, Bool.not_eq_false, Bool.not_eq_eq_eq_not, Bool.not_true, Bool.not_false]; assumption)) ?_
    | (refine Br.mk ?_ ?_ <;> intro h <;> (try simp only [ltB_t, ltB_f, eqB_t, eqB_f, pB_t, pB_f, sEq_t, sEq_f, emp_iff, ne_eq, List.length_map, Bool.not_eq_true, Bool.not_eq_false, Bool.not_eq_eq_eq_not, Bool.not_true, Bool.not_false] at h))
    | refine Ixv.mk (by omega) (ixE (by omega) (by omega)) ?_
    | refine Elt.mk rfl ?_
    | refine Elt.mk (by assumption) ?_
    | refine Elt.mk (ixE (by omega) (by omega)) ?_
    | refine E.regionQ tt (id := 1) mixed (by decide +kernel) ?_
    | refine E.regionF tt (id := 3) 14 [0, 1, 2, 3] mixed (by decide +kernel) ?_
    | refine E.regionFY tt (id := 3) [0, 1, 2, 3, 5, 6, 7, 9, 10, 11] 9 (.nd [(4, .nd [(8, .nd [(12, .nd [(13, .nd [(14, .nd [(15, .nd [(16, .nd [(17, .nd [(18, .nd [])])])])])])])]), (12, .nd [(8, .nd [(13, .nd [(14, .nd [(15, .nd [(16, .nd [(17, .nd [(18, .nd [])])])])])])])])]), (8, .nd [(4, .nd [(12, .nd [(13, .nd [(14, .nd [(15, .nd [(16, .nd [(17, .nd [(18, .nd [])])])])])])])]), (12, .nd [(4, .nd [(13, .nd [(14, .nd [(15, .nd [(16, .nd [(17, .nd [(18, .nd [])])])])])])]), (13, .nd [(4, .nd [(14, .nd [(15, .nd [(16, .nd [(17, .nd [(18, .nd [])])])])])]), (14, .nd [(4, .nd [(15, .nd [(16, .nd [(17, .nd [(18, .nd [])])])])])])])])]), (12, .nd [(4, .nd [(8, .nd [(13, .nd [(14, .nd [(15, .nd [(16, .nd [(17, .nd [(18, .nd [])])])])])])])]), (8, .nd [(4, .nd [(13, .nd [(14, .nd [(15, .nd [(16, .nd [(17, .nd [(18, .nd [])])])])])])]), (13, .nd [(4, .nd [(14, .nd [(15, .nd [(16, .nd [(17, .nd [(18, .nd [])])])])])]), (14, .nd [(4, .nd [(15, .nd [(16, .nd [(17, .nd [(18, .nd [])])])])])])])])])]) mixed (by decide +kernel) ?_
    | refine Bo.mk ?_ ?_
    | refine E.regionT tt (id := 7) 15 mixed (by decide +kernel) ?_
    | refine E.regionFY tt (id := 7) [0, 1, 2, 4, 7, 8, 9, 10] 8 (.nd [(3, .nd [(5, .nd [(6, .nd [(11, .nd [(12, .nd [(13, .nd [(14, .nd [(15, .nd [])])])])])]), (11, .nd [(6, .nd [(12, .nd [(13, .nd [(14, .nd [(15, .nd [])])])])]), (12, .nd [(6, .nd [(13, .nd [(14, .nd [(15, .nd [])])])])])])]), (11, .nd [(5, .nd [(6, .nd [(12, .nd [(13, .nd [(14, .nd [(15, .nd [])])])])]), (12, .nd [(6, .nd [(13, .nd [(14, .nd [(15, .nd [])])])])])]), (12, .nd [(5, .nd [(6, .nd [(13, .nd [(14, .nd [(15, .nd [])])])])])])])]), (11, .nd [(3, .nd [(5, .nd [(6, .nd [(12, .nd [(13, .nd [(14, .nd [(15, .nd [])])])])]), (12, .nd [(6, .nd [(13, .nd [(14, .nd [(15, .nd [])])])])])]), (12, .nd [(5, .nd [(6, .nd [(13, .nd [(14, .nd [(15, .nd [])])])])])])]), (12, .nd [(3, .nd [(5, .nd [(6, .nd [(13, .nd [(14, .nd [(15, .nd [])])])])])])])])]) mixed (by decide +kernel) ?_
    | refine Bo.mk ?_ ?_)) <;> (try (conv => whnf))
    all_goals (exact ⟨_, ⟨rfl, rfl, rfl⟩, allSc_ok _ rfl, (fun r h => by cases h; exact ⟨_, rfl, rfl, rfl⟩), rfl, by rw [hk10]; exact hK2 (.inl hke) _ _ _ _ (g1.cast hce) (g2.cast (encI_app _ _)) g3⟩))
theorem h_take : YHolds Try.prog 53 (cTake 80 2) := take_both h_takeA h_takeB
theorem h_ask : Holds Try.prog 46 cAskF := by
  refine E.mk tt Try.func46 rfl Try.ntmps46 rfl (by kernel_rfl) ?_
  rintro _ K ⟨xs, st, sw, rs, rfl, hl, hok, ⟨hB, rfl⟩ | ⟨hB, ⟨hR, rfl⟩ | ⟨hR, rfl⟩⟩, hK⟩
  all_goals (try unfold stripP at hR)
  all_goals refine ⟨Nat.le_of_ble_eq_true rfl, _, hK, ?_⟩
  all_goals ((repeat' ((conv => whnf); first
    | refine Sd.mk (by first | omega | (unfold in64; omega) | (simp only [fitK, in64]; omega) | (simp only [fitK, in64, chunk, List.length_map, List.length_append, List.length_replicate, List.length_set, List.length_nil, List.length_cons]; omega)) ?_
    | refine Br.yes rfl ?_
    | refine Br.no rfl ?_
    | refine Br.yes (by first | (simp only [ltB_t, ltB_f, eqB_t, eqB_f, pB_t, pB_f, sEq_t, sEq_f, emp_iff, ne_eq, List.length_map, Bool.not_eq_true, Bool.not_eq_false, Bool.not_eq_eq_eq_not, Bool.not_true, Bool.not_false]; done) | (simp only [ltB_t, ltB_f, eqB_t, eqB_f, pB_t, pB_f, sEq_t, sEq_f, emp_iff, ne_eq, List.length_map, Bool.not_eq_true, Bool.not_eq_false, Bool.not_eq_eq_eq_not, Bool.not_true, Bool.not_false]; omega) | (simp only [ltB_t, ltB_f, eqB_t, eqB_f, pB_t, pB_f, sEq_t, sEq_f, emp_iff, ne_eq, List.length_map, Bool.not_eq_true, Bool.not_eq_false, Bool.not_eq_eq_eq_not, Bool.not_true, Bool.not_false]; assumption)) ?_
    | refine Br.no (by first | (simp only [ltB_t, ltB_f, eqB_t, eqB_f, pB_t, pB_f, sEq_t, sEq_f, emp_iff, ne_eq, List.length_map, Bool.not_eq_true, Bool.not_eq_false, Bool.not_eq_eq_eq_not, Bool.not_true, Bool.not_false]; done) | (simp only [ltB_t, ltB_f, eqB_t, eqB_f, pB_t, pB_f, sEq_t, sEq_f, emp_iff, ne_eq, List.length_map, Bool.not_eq_true, Bool.not_eq_false, Bool.not_eq_eq_eq_not, Bool.not_true, Bool.not_false]; omega) | (simp only [ltB_t, ltB_f, eqB_t, eqB_f, pB_t, pB_f, sEq_t, sEq_f, emp_iff, ne_eq, List.length_map, Bool.not_eq_true, Bool.not_eq_false, Bool.not_eq_eq_eq_not, Bool.not_true, Bool.not_false]; assumption)) ?_
    | (refine Br.mk ?_ ?_ <;> intro h <;> (try simp only [ltB_t, ltB_f, eqB_t, eqB_f, pB_t, pB_f, sEq_t, sEq_f, emp_iff, ne_eq, List.length_map, Bool.not_eq_true, Bool.not_eq_false, Bool.not_eq_eq_eq_not, Bool.not_true, Bool.not_false] at h))
    | refine Elt.mk rfl ?_
    | refine Elt.mk (by assumption) ?_
    | refine Elt.mk (ixE (by omega) (by omega)) ?_
    | refine E.call tt h_l00In rfl rfl ⟨_, _, _, rfl, _, _, rfl, rfl, ?_⟩
    | refine E.call tt h_okRib rfl rfl ⟨_, rfl, by first | omega | (simp only [List.length_map]; omega), by assumption, _, _, rfl, rfl, ?_⟩)) <;> (try (conv => whnf)))
  all_goals first | (exact fin_p rfl rfl rfl rfl) | (exfalso; omega)



theorem h_isStrip : Holds Try.prog 51 (fun args K => ∃ st sw : Int, args = [I st, I sw] ∧ K [.p (.bool (pB (stripP st sw)))]) := by
  refine E.mk tt Try.func51 rfl Try.ntmps51 rfl (by kernel_rfl) ?_
  rintro _ K ⟨st, sw, rfl, hK⟩
  refine ⟨Nat.le_of_ble_eq_true rfl, _, hK, ?_⟩
  (repeat' ((conv => whnf); first
    | refine Sd.mk (by first | omega | (unfold in64; omega) | (simp only [fitK, in64]; omega) | (simp only [fitK, in64, chunk, List.length_map, List.length_append, List.length_replicate, List.length_set, List.length_nil, List.length_cons]; omega)) ?_
    | refine Br.yes rfl ?_
    | refine Br.no rfl ?_
    | refine Br.yes (by first | (simp only [ltB_t, ltB_f, eqB_t, eqB_f, pB_t, pB_f, sEq_t, sEq_f, emp_iff, ne_eq, List.length_map, Bool.not_eq_true, Bool.not_eq_false, Bool.not_eq_eq_eq_not, Bool.not_true, Bool.not_false]; done) | (simp only [ltB_t, ltB_f, eqB_t, eqB_f, pB_t, pB_f, sEq_t, sEq_f, emp_iff, ne_eq, List.length_map, Bool.not_eq_true, Bool.not_eq_false, Bool.not_eq_eq_eq_not, Bool.not_true, Bool.not_false]; omega) | (simp only [ltB_t, ltB_f, eqB_t, eqB_f, pB_t, pB_f, sEq_t, sEq_f, emp_iff, ne_eq, List.length_map, Bool.not_eq_true, Bool.not_eq_false, Bool.not_eq_eq_eq_not, Bool.not_true, Bool.not_false]; assumption)) ?_
    | refine Br.no (by first | (simp only [ltB_t, ltB_f, eqB_t, eqB_f, pB_t, pB_f, sEq_t, sEq_f, emp_iff, ne_eq, List.length_map, Bool.not_eq_true, Bool.not_eq_false, Bool.not_eq_eq_eq_not, Bool.not_true, Bool.not_false]; done) | (simp only [ltB_t, ltB_f, eqB_t, eqB_f, pB_t, pB_f, sEq_t, sEq_f, emp_iff, ne_eq, List.length_map, Bool.not_eq_true, Bool.not_eq_false, Bool.not_eq_eq_eq_not, Bool.not_true, Bool.not_false]; omega) | (simp only [ltB_t, ltB_f, eqB_t, eqB_f, pB_t, pB_f, sEq_t, sEq_f, emp_iff, ne_eq, List.length_map, Bool.not_eq_true, Bool.not_eq_false, Bool.not_eq_eq_eq_not, Bool.not_true, Bool.not_false]; assumption)) ?_
    | (refine Br.mk ?_ ?_ <;> intro h <;> (try simp only [ltB_t, ltB_f, eqB_t, eqB_f, pB_t, pB_f, sEq_t, sEq_f, emp_iff, ne_eq, List.length_map, Bool.not_eq_true, Bool.not_eq_false, Bool.not_eq_eq_eq_not, Bool.not_true, Bool.not_false] at h))
    | refine Elt.mk rfl ?_
    | refine Elt.mk (by assumption) ?_
    | refine Elt.mk (ixE (by omega) (by omega)) ?_
    | refine E.call tt h_within rfl rfl ⟨_, _, _, rfl, _, _, rfl, rfl, ?_⟩)) <;> (try (conv => whnf))
  all_goals (refine fin_pB rfl rfl rfl ?_; simp only [ltB_t, ltB_f, eqB_t, eqB_f, pB_t, pB_f, sEq_t, sEq_f, emp_iff, ne_eq, List.length_map, Bool.not_eq_true, Bool.not_eq_false, Bool.not_eq_eq_eq_not, Bool.not_true, Bool.not_false, true_iff, false_iff, Bool.false_eq_true, iff_true, iff_false, and_true, true_and, not_false_eq_true]; unfold stripP; omega)

theorem h_tk : Holds Try.prog 48 (fun args K => ∃ u len sw : Int, args = [I u, I len, I sw] ∧ (0 ≤ len ∧ len ≤ 100000) ∧ (0 ≤ sw ∧ sw ≤ 1000) ∧ K [.p (I (if u = 0 then len else len + sw))]) := by
  refine E.mk tt Try.func48 rfl Try.ntmps48 rfl (by kernel_rfl) ?_
  rintro _ K ⟨u, len, sw, rfl, h1, h2, hK⟩
  refine ⟨Nat.le_of_ble_eq_true rfl, _, hK, ?_⟩
  (repeat' ((conv => whnf); first
    | refine Sd.mk (by first | omega | (unfold in64; omega) | (simp only [fitK, in64]; omega) | (simp only [fitK, in64, chunk, List.length_map, List.length_append, List.length_replicate, List.length_set, List.length_nil, List.length_cons]; omega)) ?_
    | refine Br.yes rfl ?_
    | refine Br.no rfl ?_
    | refine Br.yes (by first | (simp only [ltB_t, ltB_f, eqB_t, eqB_f, pB_t, pB_f, sEq_t, sEq_f, emp_iff, ne_eq, List.length_map, Bool.not_eq_true, Bool.not_eq_false, Bool.not_eq_eq_eq_not, Bool.not_true, Bool.not_false]; done) | (simp only [ltB_t, ltB_f, eqB_t, eqB_f, pB_t, pB_f, sEq_t, sEq_f, emp_iff, ne_eq, List.length_map, Bool.not_eq_true, Bool.not_eq_false, Bool.not_eq_eq_eq_not, Bool.not_true, Bool.not_false]; omega) | (simp only [ltB_t, ltB_f, eqB_t, eqB_f, pB_t, pB_f, sEq_t, sEq_f, emp_iff, ne_eq, List.length_map, Bool.not_eq_true, Bool.not_eq_false, Bool.not_eq_eq_eq_not, Bool.not_true, Bool.not_false]; assumption)) ?_
    | refine Br.no (by first | (simp only [ltB_t, ltB_f, eqB_t, eqB_f, pB_t, pB_f, sEq_t, sEq_f, emp_iff, ne_eq, List.length_map, Bool.not_eq_true, Bool.not_eq_false, Bool.not_eq_eq_eq_not, Bool.not_true, Bool.not_false]; done) | (simp only [ltB_t, ltB_f, eqB_t, eqB_f, pB_t, pB_f, sEq_t, sEq_f, emp_iff, ne_eq, List.length_map, Bool.not_eq_true, Bool.not_eq_false, Bool.not_eq_eq_eq_not, Bool.not_true, Bool.not_false]; omega) | (simp only [ltB_t, ltB_f, eqB_t, eqB_f, pB_t, pB_f, sEq_t, sEq_f, emp_iff, ne_eq, List.length_map, Bool.not_eq_true, Bool.not_eq_false, Bool.not_eq_eq_eq_not, Bool.not_true, Bool.not_false]; assumption)) ?_
    | (refine Br.mk ?_ ?_ <;> intro h <;> (try simp only [ltB_t, ltB_f, eqB_t, eqB_f, pB_t, pB_f, sEq_t, sEq_f, emp_iff, ne_eq, List.length_map, Bool.not_eq_true, Bool.not_eq_false, Bool.not_eq_eq_eq_not, Bool.not_true, Bool.not_false] at h))
    | refine Elt.mk rfl ?_
    | refine Elt.mk (by assumption) ?_
    | refine Elt.mk (ixE (by omega) (by omega)) ?_)) <;> (try (conv => whnf))
  all_goals (refine fin_p rfl ?_ rfl rfl; first | rw [if_pos (by assumption)] | rw [if_neg (by assumption)])

theorem h_short : Holds Try.prog 47 cShort := by
  refine E.mk tt Try.func47 rfl Try.ntmps47 rfl (by kernel_rfl) ?_
  rintro _ K ⟨xs, strip, rs, rfl, hl, hrs, hK⟩
  have hln : (xs.map D.Rib.enc).length = xs.length := by simp
  refine ⟨Nat.le_of_ble_eq_true rfl, _, hK, ?_⟩
  (repeat' ((conv => whnf); first
    | refine Sd.mk (by first | omega | (unfold in64; omega) | (simp only [fitK, in64]; omega) | (simp only [fitK, in64, chunk, List.length_map, List.length_append, List.length_replicate, List.length_set, List.length_nil, List.length_cons]; omega)) ?_
    | refine Br.yes rfl ?_
    | refine Br.no rfl ?_
    | refine Br.yes (by first | (simp only [ltB_t, ltB_f, eqB_t, eqB_f, pB_t, pB_f, sEq_t, sEq_f, emp_iff, ne_eq, List.length_map, Bool.not_eq_true, Bool.not_eq_false, Bool.not_eq_eq_eq_not, Bool.not_true, Bool.not_false]; done) | (simp only [ltB_t, ltB_f, eqB_t, eqB_f, pB_t, pB_f, sEq_t, sEq_f, emp_iff, ne_eq, List.length_map, Bool.not_eq_true, Bool.not_eq_false, Bool.not_eq_eq_eq_not, Bool.not_true, Bool.not_false]; omega) | (simp only [ltB_t, ltB_f, eqB_t, eqB_f, pB_t, pB_f, sEq_t, sEq_f, emp_iff, ne_eq, List.length_map, Bool.not_eq_true, Bool.not_eq_false, Bool.not_eq_eq_eq_not, Bool.not_true, Bool.not_false]; assumption)) ?_
    | refine Br.no (by first | (simp only [ltB_t, ltB_f, eqB_t, eqB_f, pB_t, pB_f, sEq_t, sEq_f, emp_iff, ne_eq, List.length_map, Bool.not_eq_true, Bool.not_eq_false, Bool.not_eq_eq_eq_not, Bool.not_true, Bool.not_false]; done) | (simp only [ltB_t, ltB_f, eqB_t, eqB_f, pB_t, pB_f, sEq_t, sEq_f, emp_iff, ne_eq, List.length_map, Bool.not_eq_true, Bool.not_eq_false, Bool.not_eq_eq_eq_not, Bool.not_true, Bool.not_false]; omega) | (simp only [ltB_t, ltB_f, eqB_t, eqB_f, pB_t, pB_f, sEq_t, sEq_f, emp_iff, ne_eq, List.length_map, Bool.not_eq_true, Bool.not_eq_false, Bool.not_eq_eq_eq_not, Bool.not_true, Bool.not_false]; assumption)) ?_
    | (refine Br.mk ?_ ?_ <;> intro h <;> (try simp only [ltB_t, ltB_f, eqB_t, eqB_f, pB_t, pB_f, sEq_t, sEq_f, emp_iff, ne_eq, List.length_map, Bool.not_eq_true, Bool.not_eq_false, Bool.not_eq_eq_eq_not, Bool.not_true, Bool.not_false] at h))
    | refine Ixv.mk (by omega) (ixE (by omega) (by omega)) ?_
    | refine Elt.mk rfl ?_
    | refine Elt.mk (by assumption) ?_
    | refine Elt.mk (ixE (by omega) (by omega)) ?_)) <;> (try (conv => whnf))
  refine E.loop tt (fun i : Int => 0 ≤ i ∧ i ≤ xs.length ∧ allTo (longC xs strip) i) (fun i => ⟨19, 1, [(0, .p (.view 3 (xs.map D.Rib.enc))), (1, .p (I strip)), (5, .p (I i))], [], Frag.nil⟩) (fun i => (xs.length - i).toNat) 0 ⟨by omega, by omega, allTo_zero _⟩ ⟨rfl, ⟨rfl, rfl, rfl, trivial⟩, trivial, rfl, rfl, fun _ _ h => h⟩ ?_
  rintro i ⟨hi0, hi1, hinv⟩
  rcases Int.lt_or_le i xs.length with hlt | hge
  · by_cases hc : (ix xs i).Length ≤ strip
    · (repeat' ((conv => whnf); first
    | refine Sd.mk (by first | omega | (unfold in64; omega) | (simp only [fitK, in64]; omega) | (simp only [fitK, in64, chunk, List.length_map, List.length_append, List.length_replicate, List.length_set, List.length_nil, List.length_cons]; omega)) ?_
    | refine Br.yes rfl ?_
    | refine Br.no rfl ?_
    | refine Br.yes (by first | (simp only [ltB_t, ltB_f, eqB_t, eqB_f, pB_t, pB_f, sEq_t, sEq_f, emp_iff, ne_eq, List.length_map, Bool.not_eq_true, Bool.not_eq_false, Bool.not_eq_eq_eq_not, Bool.not_true, Bool.not_false]; done) | (simp only [ltB_t, ltB_f, eqB_t, eqB_f, pB_t, pB_f, sEq_t, sEq_f, emp_iff, ne_eq, List.length_map, Bool.not_eq_true, Bool.not_eq_false, Bool.not_eq_eq_eq_not, Bool.not_true, Bool.not_false]; omega) | (simp only [ltB_t, ltB_f, eqB_t, eqB_f, pB_t, pB_f, sEq_t, sEq_f, emp_iff, ne_eq, List.length_map, Bool.not_eq_true, Bool.not_eq_false, Bool.not_eq_eq_eq_not, Bool.not_true, Bool.not_false]; assumption)) ?_
    | refine Br.no (by first | (simp only [ltB_t, ltB_f, eqB_t, eqB_f, pB_t, pB_f, sEq_t, sEq_f, emp_iff, ne_eq, List.length_map, Bool.not_eq_true, Bool.not_eq_false, Bool.not_eq_eq_eq_not, Bool.not_true, Bool.not_false]; done) | (simp only [ltB_t, ltB_f, eqB_t, eqB_f, pB_t, pB_f, sEq_t, sEq_f, emp_iff, ne_eq, List.length_map, Bool.not_eq_true, Bool.not_eq_false, Bool.not_eq_eq_eq_not, Bool.not_true, Bool.not_false]; omega) | (simp only [ltB_t, ltB_f, eqB_t, eqB_f, pB_t, pB_f, sEq_t, sEq_f, emp_iff, ne_eq, List.length_map, Bool.not_eq_true, Bool.not_eq_false, Bool.not_eq_eq_eq_not, Bool.not_true, Bool.not_false]; assumption)) ?_
    | (refine Br.mk ?_ ?_ <;> intro h <;> (try simp only [ltB_t, ltB_f, eqB_t, eqB_f, pB_t, pB_f, sEq_t, sEq_f, emp_iff, ne_eq, List.length_map, Bool.not_eq_true, Bool.not_eq_false, Bool.not_eq_eq_eq_not, Bool.not_true, Bool.not_false] at h))
    | refine Ixv.mk (by omega) (ixE (by omega) (by omega)) ?_
    | refine Elt.mk rfl ?_
    | refine Elt.mk (by assumption) ?_
    | refine Elt.mk (ixE (by omega) (by omega)) ?_)) <;> (try (conv => whnf))
      all_goals (refine ⟨i + 1, ⟨by omega, by omega, allTo_succ hinv hc⟩, by dsimp only; omega, ⟨rfl, ⟨rfl, rfl, rfl, trivial⟩, trivial, rfl, rfl, fun _ _ h => h⟩⟩)
    · rcases hrs with ⟨h, rfl⟩ | ⟨h, _⟩
      · (repeat' ((conv => whnf); first
    | refine Sd.mk (by first | omega | (unfold in64; omega) | (simp only [fitK, in64]; omega) | (simp only [fitK, in64, chunk, List.length_map, List.length_append, List.length_replicate, List.length_set, List.length_nil, List.length_cons]; omega)) ?_
    | refine Br.yes rfl ?_
    | refine Br.no rfl ?_
    | refine Br.yes (by first | (simp only [ltB_t, ltB_f, eqB_t, eqB_f, pB_t, pB_f, sEq_t, sEq_f, emp_iff, ne_eq, List.length_map, Bool.not_eq_true, Bool.not_eq_false, Bool.not_eq_eq_eq_not, Bool.not_true, Bool.not_false]; done) | (simp only [ltB_t, ltB_f, eqB_t, eqB_f, pB_t, pB_f, sEq_t, sEq_f, emp_iff, ne_eq, List.length_map, Bool.not_eq_true, Bool.not_eq_false, Bool.not_eq_eq_eq_not, Bool.not_true, Bool.not_false]; omega) | (simp only [ltB_t, ltB_f, eqB_t, eqB_f, pB_t, pB_f, sEq_t, sEq_f, emp_iff, ne_eq, List.length_map, Bool.not_eq_true, Bool.not_eq_false, Bool.not_eq_eq_eq_not, Bool.not_true, Bool.not_false]; assumption)) ?_
    | refine Br.no (by first | (simp only [ltB_t, ltB_f, eqB_t, eqB_f, pB_t, pB_f, sEq_t, sEq_f, emp_iff, ne_eq, List.length_map, Bool.not_eq_true, Bool.not_eq_false, Bool.not_eq_eq_eq_not, Bool.not_true, Bool.not_false]; done) | (simp only [ltB_t, ltB_f, eqB_t, eqB_f, pB_t, pB_f, sEq_t, sEq_f, emp_iff, ne_eq, List.length_map, Bool.not_eq_true, Bool.not_eq_false, Bool.not_eq_eq_eq_not, Bool.not_true, Bool.not_false]; omega) | (simp only [ltB_t, ltB_f, eqB_t, eqB_f, pB_t, pB_f, sEq_t, sEq_f, emp_iff, ne_eq, List.length_map, Bool.not_eq_true, Bool.not_eq_false, Bool.not_eq_eq_eq_not, Bool.not_true, Bool.not_false]; assumption)) ?_
    | (refine Br.mk ?_ ?_ <;> intro h <;> (try simp only [ltB_t, ltB_f, eqB_t, eqB_f, pB_t, pB_f, sEq_t, sEq_f, emp_iff, ne_eq, List.length_map, Bool.not_eq_true, Bool.not_eq_false, Bool.not_eq_eq_eq_not, Bool.not_true, Bool.not_false] at h))
    | refine Ixv.mk (by omega) (ixE (by omega) (by omega)) ?_
    | refine Elt.mk rfl ?_
    | refine Elt.mk (by assumption) ?_
    | refine Elt.mk (ixE (by omega) (by omega)) ?_)) <;> (try (conv => whnf))
        all_goals first | (exact fin_p rfl rfl rfl rfl) | (exfalso; omega)
      · exact absurd (h i hi0 hlt) hc
  · have hie : i = xs.length := by omega
    rcases hrs with ⟨h, _⟩ | ⟨_, rfl⟩
    · rw [hie] at hinv; exact absurd hinv h
    · (repeat' ((conv => whnf); first
    | refine Sd.mk (by first | omega | (unfold in64; omega) | (simp only [fitK, in64]; omega) | (simp only [fitK, in64, chunk, List.length_map, List.length_append, List.length_replicate, List.length_set, List.length_nil, List.length_cons]; omega)) ?_
    | refine Br.yes rfl ?_
    | refine Br.no rfl ?_
    | refine Br.yes (by first | (simp only [ltB_t, ltB_f, eqB_t, eqB_f, pB_t, pB_f, sEq_t, sEq_f, emp_iff, ne_eq, List.length_map, Bool.not_eq_true, Bool.not_eq_false, Bool.not_eq_eq_eq_not, Bool.not_true, Bool.not_false]; done) | (simp only [ltB_t, ltB_f, eqB_t, eqB_f, pB_t, pB_f, sEq_t, sEq_f, emp_iff, ne_eq, List.length_map, Bool.not_eq_true, Bool.not_eq_false, Bool.not_eq_eq_eq_not, Bool.not_true, Bool.not_false]; omega) | (simp only [ltB_t, ltB_f, eqB_t, eqB_f, pB_t, pB_f, sEq_t, sEq_f, emp_iff, ne_eq, List.length_map, Bool.not_eq_true, Bool.not_eq_false, Bool.not_eq_eq_eq_not, Bool.not_true, Bool.not_false]; assumption)) ?_
    | refine Br.no (by first | (simp only [ltB_t, ltB_f, eqB_t, eqB_f, pB_t, pB_f, sEq_t, sEq_f, emp_iff, ne_eq, List.length_map, Bool.not_eq_true, Bool.not_eq_false, Bool.not_eq_eq_eq_not, Bool.not_true, Bool.not_false]; done) | (simp only [ltB_t, ltB_f, eqB_t, eqB_f, pB_t, pB_f, sEq_t, sEq_f, emp_iff, ne_eq, List.length_map, Bool.not_eq_true, Bool.not_eq_false, Bool.not_eq_eq_eq_not, Bool.not_true, Bool.not_false]; omega) | (simp only [ltB_t, ltB_f, eqB_t, eqB_f, pB_t, pB_f, sEq_t, sEq_f, emp_iff, ne_eq, List.length_map, Bool.not_eq_true, Bool.not_eq_false, Bool.not_eq_eq_eq_not, Bool.not_true, Bool.not_false]; assumption)) ?_
    | (refine Br.mk ?_ ?_ <;> intro h <;> (try simp only [ltB_t, ltB_f, eqB_t, eqB_f, pB_t, pB_f, sEq_t, sEq_f, emp_iff, ne_eq, List.length_map, Bool.not_eq_true, Bool.not_eq_false, Bool.not_eq_eq_eq_not, Bool.not_true, Bool.not_false] at h))
    | refine Ixv.mk (by omega) (ixE (by omega) (by omega)) ?_
    | refine Elt.mk rfl ?_
    | refine Elt.mk (by assumption) ?_
    | refine Elt.mk (ixE (by omega) (by omega)) ?_)) <;> (try (conv => whnf))
      all_goals first | (exact fin_p rfl rfl rfl rfl) | (exfalso; omega)


theorem h_tooLong : YHolds Try.prog 52 (cLong 80) := by
  refine E.mkY tt Try.func52 rfl Try.ntmps52 rfl (by kernel_rfl) ?_
  rintro _ _ X K ⟨xs, strip, saw, p, q, lf, mo, rfl, rfl, hl, hK⟩
  have hln : (xs.map D.Rib.enc).length = xs.length := by simp
  refine ⟨Nat.le_of_ble_eq_true rfl, ?_⟩
  (repeat' ((conv => whnf); first
    | refine Sd.mk (by first | omega | (unfold in64; omega) | (simp only [fitK, in64]; omega) | (simp only [fitK, in64, chunk, List.length_map, List.length_append, List.length_replicate, List.length_set, List.length_nil, List.length_cons]; omega)) ?_
    | refine Br.yes rfl ?_
    | refine Br.no rfl ?_
    | refine Br.yes (by first | (simp only [ltB_t, ltB_f, eqB_t, eqB_f, pB_t, pB_f, sEq_t, sEq_f, emp_iff, ne_eq, List.length_map, Bool.not_eq_true, Bool.not_eq_false, Bool.not_eq_eq_eq_not, Bool.not_true, Bool.not_false]; done) | (simp only [ltB_t, ltB_f, eqB_t, eqB_f, pB_t, pB_f, sEq_t, sEq_f, emp_iff, ne_eq, List.length_map, Bool.not_eq_true, Bool.not_eq_false, Bool.not_eq_eq_eq_not, Bool.not_true, Bool.not_false]; omega) | (simp only [ltB_t, ltB_f, eqB_t, eqB_f, pB_t, pB_f, sEq_t, sEq_f, emp_iff, ne_eq, List.length_map, Bool.not_eq_true, Bool.not_eq_false, Bool.not_eq_eq_eq_not, Bool.not_true, Bool.not_false]; assumption)) ?_
    | refine Br.no (by first | (simp only [ltB_t, ltB_f, eqB_t, eqB_f, pB_t, pB_f, sEq_t, sEq_f, emp_iff, ne_eq, List.length_map, Bool.not_eq_true, Bool.not_eq_false, Bool.not_eq_eq_eq_not, Bool.not_true, Bool.not_false]; done) | (simp only [ltB_t, ltB_f, eqB_t, eqB_f, pB_t, pB_f, sEq_t, sEq_f, emp_iff, ne_eq, List.length_map, Bool.not_eq_true, Bool.not_eq_false, Bool.not_eq_eq_eq_not, Bool.not_true, Bool.not_false]; omega) | (simp only [ltB_t, ltB_f, eqB_t, eqB_f, pB_t, pB_f, sEq_t, sEq_f, emp_iff, ne_eq, List.length_map, Bool.not_eq_true, Bool.not_eq_false, Bool.not_eq_eq_eq_not, Bool.not_true, Bool.not_false]; assumption)) ?_
    | (refine Br.mk ?_ ?_ <;> intro h <;> (try simp only [ltB_t, ltB_f, eqB_t, eqB_f, pB_t, pB_f, sEq_t, sEq_f, emp_iff, ne_eq, List.length_map, Bool.not_eq_true, Bool.not_eq_false, Bool.not_eq_eq_eq_not, Bool.not_true, Bool.not_false] at h))
    | refine Ixv.mk (by omega) (ixE (by omega) (by omega)) ?_
    | refine Elt.mk rfl ?_
    | refine Elt.mk (by assumption) ?_
    | refine Elt.mk (ixE (by omega) (by omega)) ?_
    | refine E.regionQ tt (id := 4) mixed (by decide +kernel) ?_)) <;> (try (conv => whnf))
  refine E.loop tt (fun i : Int => 0 ≤ i ∧ i ≤ xs.length ∧ allTo (longC xs strip) i) (fun i => ⟨22, 1, [(0, .loc 0 0 0), (8, .p (.view 3 (xs.map D.Rib.enc))), (9, .p (I (xs.map D.Rib.enc).length)), (10, .p (I i))], [(0, ctQ 80 xs strip saw p q lf mo)], X⟩) (fun i => (xs.length - i).toNat) 0 ⟨by omega, by omega, allTo_zero _⟩ ⟨rfl, ⟨rfl, rfl, rfl, rfl, trivial⟩, ⟨rfl, trivial⟩, rfl, rfl, fun _ _ h => h⟩ ?_
  rintro i ⟨hi0, hi1, hinv⟩
  rcases Int.lt_or_le i xs.length with hlt | hge
  · by_cases hc : (ix xs i).Length ≤ strip
    · (repeat' ((conv => whnf); first
    | refine Sd.mk (by first | omega | (unfold in64; omega) | (simp only [fitK, in64]; omega) | (simp only [fitK, in64, chunk, List.length_map, List.length_append, List.length_replicate, List.length_set, List.length_nil, List.length_cons]; omega)) ?_
    | refine Br.yes rfl ?_
    | refine Br.no rfl ?_
    | refine Br.yes (by first | (simp only [ltB_t, ltB_f, eqB_t, eqB_f, pB_t, pB_f, sEq_t, sEq_f, emp_iff, ne_eq, List.length_map, Bool.not_eq_true, Bool.not_eq_false, Bool.not_eq_eq_eq_not, Bool.not_true, Bool.not_false]; done) | (simp only [ltB_t, ltB_f, eqB_t, eqB_f, pB_t, pB_f, sEq_t, sEq_f, emp_iff, ne_eq, List.length_map, Bool.not_eq_true, Bool.not_eq_false, Bool.not_eq_eq_eq_not, Bool.not_true, Bool.not_false]; omega) | (simp only [ltB_t, ltB_f, eqB_t, eqB_f, pB_t, pB_f, sEq_t, sEq_f, emp_iff, ne_eq, List.length_map, Bool.not_eq_true, Bool.not_eq_false, Bool.not_eq_eq_eq_not, Bool.not_true, Bool.not_false]; assumption)) ?_
    | refine Br.no (by first | (simp only [ltB_t, ltB_f, eqB_t, eqB_f, pB_t, pB_f, sEq_t, sEq_f, emp_iff, ne_eq, List.length_map, Bool.not_eq_true, Bool.not_eq_false, Bool.not_eq_eq_eq_not, Bool.not_true, Bool.not_false]; done) | (simp only [ltB_t, ltB_f, eqB_t, eqB_f, pB_t, pB_f, sEq_t, sEq_f, emp_iff, ne_eq, List.length_map, Bool.not_eq_true, Bool.not_eq_false, Bool.not_eq_eq_eq_not, Bool.not_true, Bool.not_false]; omega) | (simp only [ltB_t, ltB_f, eqB_t, eqB_f, pB_t, pB_f, sEq_t, sEq_f, emp_iff, ne_eq, List.length_map, Bool.not_eq_true, Bool.not_eq_false, Bool.not_eq_eq_eq_not, Bool.not_true, Bool.not_false]; assumption)) ?_
    | (refine Br.mk ?_ ?_ <;> intro h <;> (try simp only [ltB_t, ltB_f, eqB_t, eqB_f, pB_t, pB_f, sEq_t, sEq_f, emp_iff, ne_eq, List.length_map, Bool.not_eq_true, Bool.not_eq_false, Bool.not_eq_eq_eq_not, Bool.not_true, Bool.not_false] at h))
    | refine Ixv.mk (by omega) (ixE (by omega) (by omega)) ?_
    | refine Elt.mk rfl ?_
    | refine Elt.mk (by assumption) ?_
    | refine Elt.mk (ixE (by omega) (by omega)) ?_
    | refine E.regionQ tt (id := 4) mixed (by decide +kernel) ?_)) <;> (try (conv => whnf))
      all_goals first
        | (refine ⟨i + 1, ⟨by omega, by omega, allTo_succ hinv hc⟩, by dsimp only; omega, ⟨rfl, ⟨rfl, rfl, rfl, rfl, trivial⟩, ⟨rfl, trivial⟩, rfl, rfl, fun _ _ h => h⟩⟩; done)
        | (exfalso; omega)
    · rcases hK with ⟨h, hK⟩ | ⟨h, _⟩
      · (repeat' ((conv => whnf); first
    | refine Sd.mk (by first | omega | (unfold in64; omega) | (simp only [fitK, in64]; omega) | (simp only [fitK, in64, chunk, List.length_map, List.length_append, List.length_replicate, List.length_set, List.length_nil, List.length_cons]; omega)) ?_
    | refine Br.yes rfl ?_
    | refine Br.no rfl ?_
    | refine Br.yes (by first | (simp only [ltB_t, ltB_f, eqB_t, eqB_f, pB_t, pB_f, sEq_t, sEq_f, emp_iff, ne_eq, List.length_map, Bool.not_eq_true, Bool.not_eq_false, Bool.not_eq_eq_eq_not, Bool.not_true, Bool.not_false]; done) | (simp only [ltB_t, ltB_f, eqB_t, eqB_f, pB_t, pB_f, sEq_t, sEq_f, emp_iff, ne_eq, List.length_map, Bool.not_eq_true, Bool.not_eq_false, Bool.not_eq_eq_eq_not, Bool.not_true, Bool.not_false]; omega) | (simp only [ltB_t, ltB_f, eqB_t, eqB_f, pB_t, pB_f, sEq_t, sEq_f, emp_iff, ne_eq, List.length_map, Bool.not_eq_true, Bool.not_eq_false, Bool.not_eq_eq_eq_not, Bool.not_true, Bool.not_false]; assumption)) ?_
    | refine Br.no (by first | (simp only [ltB_t, ltB_f, eqB_t, eqB_f, pB_t, pB_f, sEq_t, sEq_f, emp_iff, ne_eq, List.length_map, Bool.not_eq_true, Bool.not_eq_false, Bool.not_eq_eq_eq_not, Bool.not_true, Bool.not_false]; done) | (simp only [ltB_t, ltB_f, eqB_t, eqB_f, pB_t, pB_f, sEq_t, sEq_f, emp_iff, ne_eq, List.length_map, Bool.not_eq_true, Bool.not_eq_false, Bool.not_eq_eq_eq_not, Bool.not_true, Bool.not_false]; omega) | (simp only [ltB_t, ltB_f, eqB_t, eqB_f, pB_t, pB_f, sEq_t, sEq_f, emp_iff, ne_eq, List.length_map, Bool.not_eq_true, Bool.not_eq_false, Bool.not_eq_eq_eq_not, Bool.not_true, Bool.not_false]; assumption)) ?_
    | (refine Br.mk ?_ ?_ <;> intro h <;> (try simp only [ltB_t, ltB_f, eqB_t, eqB_f, pB_t, pB_f, sEq_t, sEq_f, emp_iff, ne_eq, List.length_map, Bool.not_eq_true, Bool.not_eq_false, Bool.not_eq_eq_eq_not, Bool.not_true, Bool.not_false] at h))
    | refine Ixv.mk (by omega) (ixE (by omega) (by omega)) ?_
    | refine Elt.mk rfl ?_
    | refine Elt.mk (by assumption) ?_
    | refine Elt.mk (ixE (by omega) (by omega)) ?_
    | refine E.regionQ tt (id := 4) mixed (by decide +kernel) ?_)) <;> (try (conv => whnf))
        all_goals first | (exact ⟨_, ⟨rfl, rfl, rfl⟩, allSc_ok _ rfl, (fun r h => by cases h; exact ⟨_, rfl, rfl, rfl⟩), rfl, hK⟩) | (exfalso; omega)
      · exact absurd (h i hi0 hlt) hc
  · have hie : i = xs.length := by omega
    rcases hK with ⟨h, _⟩ | ⟨_, hK⟩
    · rw [hie] at hinv; exact absurd hinv h
    · (repeat' ((conv => whnf); first
    | refine Sd.mk (by first | omega | (unfold in64; omega) | (simp only [fitK, in64]; omega) | (simp only [fitK, in64, chunk, List.length_map, List.length_append, List.length_replicate, List.length_set, List.length_nil, List.length_cons]; omega)) ?_
    | refine Br.yes rfl ?_
    | refine Br.no rfl ?_
    | refine Br.yes (by first | (simp only [ltB_t, ltB_f, eqB_t, eqB_f, pB_t, pB_f, sEq_t, sEq_f, emp_iff, ne_eq, List.length_map, Bool.not_eq_true, Bool.not_eq_false, Bool.not_eq_eq_eq_not, Bool.not_true, Bool.not_false]; done) | (simp only [ltB_t, ltB_f, eqB_t, eqB_f, pB_t, pB_f, sEq_t, sEq_f, emp_iff, ne_eq, List.length_map, Bool.not_eq_true, Bool.not_eq_false, Bool.not_eq_eq_eq_not, Bool.not_true, Bool.not_false]; omega) | (simp only [ltB_t, ltB_f, eqB_t, eqB_f, pB_t, pB_f, sEq_t, sEq_f, emp_iff, ne_eq, List.length_map, Bool.not_eq_true, Bool.not_eq_false, Bool.not_eq_eq_eq_not, Bool.not_true, Bool.not_false]; assumption)) ?_
    | refine Br.no (by first | (simp only [ltB_t, ltB_f, eqB_t, eqB_f, pB_t, pB_f, sEq_t, sEq_f, emp_iff, ne_eq, List.length_map, Bool.not_eq_true, Bool.not_eq_false, Bool.not_eq_eq_eq_not, Bool.not_true, Bool.not_false]; done) | (simp only [ltB_t, ltB_f, eqB_t, eqB_f, pB_t, pB_f, sEq_t, sEq_f, emp_iff, ne_eq, List.length_map, Bool.not_eq_true, Bool.not_eq_false, Bool.not_eq_eq_eq_not, Bool.not_true, Bool.not_false]; omega) | (simp only [ltB_t, ltB_f, eqB_t, eqB_f, pB_t, pB_f, sEq_t, sEq_f, emp_iff, ne_eq, List.length_map, Bool.not_eq_true, Bool.not_eq_false, Bool.not_eq_eq_eq_not, Bool.not_true, Bool.not_false]; assumption)) ?_
    | (refine Br.mk ?_ ?_ <;> intro h <;> (try simp only [ltB_t, ltB_f, eqB_t, eqB_f, pB_t, pB_f, sEq_t, sEq_f, emp_iff, ne_eq, List.length_map, Bool.not_eq_true, Bool.not_eq_false, Bool.not_eq_eq_eq_not, Bool.not_true, Bool.not_false] at h))
    | refine Ixv.mk (by omega) (ixE (by omega) (by omega)) ?_
    | refine Elt.mk rfl ?_
    | refine Elt.mk (by assumption) ?_
    | refine Elt.mk (ixE (by omega) (by omega)) ?_
    | refine E.regionQ tt (id := 4) mixed (by decide +kernel) ?_)) <;> (try (conv => whnf))
      all_goals first | (exact ⟨_, ⟨rfl, rfl, rfl⟩, allSc_ok _ rfl, (fun r h => by cases h; exact ⟨_, rfl, rfl, rfl⟩), rfl, hK⟩) | (exfalso; omega)

end Go.Proofs.Ythjbcgdmdmfijaa
