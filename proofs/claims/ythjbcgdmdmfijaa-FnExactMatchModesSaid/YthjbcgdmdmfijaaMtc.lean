/- Contracts (Mtc). -/
import Derived.Test.YthjbcgdmdmfijaaLoE
import Derived.Test.YthjbcgdmdmfijaaTyMode
import Derived.Test.YthjbcgdmdmfijaaArr
set_option linter.unusedVariables false
set_option linter.unusedSimpArgs false
set_option maxRecDepth 100000
namespace Go.Lo
-- deps: LoE TyMode Arr
structure Ms where
  nodes : Int
  full : Bool
  least : Int
  best : List Int
def msFull (s : Ms) : Ms := ⟨s.nodes, true, s.least, s.best⟩
def msUp (s : Ms) : Ms := ⟨s.nodes + 1, false, s.least, s.best⟩
open Classical in
noncomputable def msEnd (g : List Int) (sum : Int) (s : Ms) : Ms := if s.least < 0 ∨ sum < s.least then ⟨s.nodes, s.full, sum, g⟩ else s
def tdist (xs ys : List D.Mode) (i k : Int) : Int := (((ix xs i).Tone - (ix ys k).Tone).natAbs : Int)
open Classical in
noncomputable def mmF (rc : List Int → Int → Ms → Ms) (dst : Int → Int) (bud : Int) (g : List Int) (sum : Int) (s : Ms) (k : Int) : Ms :=
  if s.full = true ∨ k ∈ g then s else if s.nodes = bud then msFull s else rc (g ++ [k]) (sum + dst k) (msUp s)
noncomputable def mmR (xs ys : List D.Mode) (bud : Int) : Nat → List Int → Int → Ms → Ms
  | 0, g, sum, s => msEnd g sum s
  | d + 1, g, sum, s => it (mmF (mmR xs ys bud d) (fun k => tdist xs ys g.length k) bud g sum) s ys.length
noncomputable def mmL (xs ys : List D.Mode) (bud : Int) (d : Nat) (g : List Int) (sum : Int) (s : Ms) (k : Int) : Ms := it (mmF (mmR xs ys bud d) (fun k => tdist xs ys g.length k) bud g sum) s k
theorem mmL_zero (xs ys : List D.Mode) (bud : Int) (d : Nat) (g : List Int) (sum : Int) (s : Ms) : mmL xs ys bud d g sum s 0 = s := it_zero _ _
theorem mmL_succ {xs ys : List D.Mode} {bud : Int} {d : Nat} {g : List Int} {sum : Int} {s : Ms} {k : Int} (h : 0 ≤ k) :
    mmL xs ys bud d g sum s (k + 1) = mmF (mmR xs ys bud d) (fun k => tdist xs ys g.length k) bud g sum (mmL xs ys bud d g sum s k) k := it_succ h
theorem mmL_stop {xs ys : List D.Mode} {bud : Int} {d : Nat} {g : List Int} {sum : Int} {s : Ms} {k : Int} (h0 : 0 ≤ k) (hf : (mmL xs ys bud d g sum s k).full = true) : ∀ n : Nat, mmL xs ys bud d g sum s (k + n) = mmL xs ys bud d g sum s k
  | 0 => by simp
  | n + 1 => by
    have ih := mmL_stop h0 hf n
    rw [show k + ((n + 1 : Nat) : Int) = (k + n) + 1 by omega, mmL_succ (by omega), ih]
    unfold mmF; rw [if_pos (.inl hf)]
theorem mmR_stop {xs ys : List D.Mode} {bud : Int} {d : Nat} {g : List Int} {sum : Int} {s : Ms} {k : Int} (h0 : 0 ≤ k) (h1 : k ≤ ys.length) (hf : (mmL xs ys bud d g sum s k).full = true) : mmR xs ys bud (d + 1) g sum s = mmL xs ys bud d g sum s k := by
  have := mmL_stop h0 hf ((ys.length : Int) - k).toNat
  rw [show k + (((ys.length : Int) - k).toNat : Int) = ys.length by omega] at this
  exact this
theorem mmR_end {xs ys : List D.Mode} {bud : Int} {d : Nat} {g : List Int} {sum : Int} {s : Ms} : mmR xs ys bud (d + 1) g sum s = mmL xs ys bud d g sum s ys.length := rfl
def msB (bud : Int) (N : Nat) (s : Ms) : Prop := (0 ≤ s.nodes ∧ s.nodes ≤ bud) ∧ s.best.length ≤ N ∧ -1 ≤ s.least
theorem msB_up {bud : Int} {N : Nat} {s : Ms} (h : msB bud N s) (hn : ¬ s.nodes = bud) : msB bud N (msUp s) := by
  obtain ⟨⟨a, b⟩, c, e⟩ := h
  exact ⟨⟨by unfold msUp; dsimp only; omega, by unfold msUp; dsimp only; omega⟩, c, e⟩
theorem tdist_nn (xs ys : List D.Mode) (i k : Int) : 0 ≤ tdist xs ys i k := by unfold tdist; omega
theorem mmR_b {xs ys : List D.Mode} {bud : Int} {N : Nat} : ∀ (d : Nat) (g : List Int) (sum : Int) (s : Ms), g.length + d = N → 0 ≤ sum → msB bud N s → msB bud N (mmR xs ys bud d g sum s)
  | 0, g, sum, s, hg, hs, hb => by
    show msB bud N (msEnd g sum s)
    unfold msEnd
    split
    · exact ⟨hb.1, by dsimp only; omega, by dsimp only; omega⟩
    · exact hb
  | d + 1, g, sum, s, hg, hs, hb => it_inv (f := mmF (mmR xs ys bud d) (fun k => tdist xs ys g.length k) bud g sum) (fun _ s => msB bud N s) hb (N := ys.length) (fun n x _ _ hx => by
    unfold mmF
    split
    · exact hx
    · split
      · exact hx
      · exact mmR_b d _ _ _ (by simp; omega) (by have := tdist_nn xs ys g.length n; dsimp only; omega) (msB_up hx ‹_›)) (by omega) (by omega)
theorem mmL_b {xs ys : List D.Mode} {bud : Int} {N d : Nat} {g : List Int} {sum : Int} {s : Ms} {k : Int} (hg : g.length + (d + 1) = N) (hs : 0 ≤ sum) (hb : msB bud N s) (h0 : 0 ≤ k) (h1 : k ≤ ys.length) : msB bud N (mmL xs ys bud d g sum s k) :=
  it_inv (f := mmF (mmR xs ys bud d) (fun k => tdist xs ys g.length k) bud g sum) (fun _ s => msB bud N s) hb (N := ys.length) (fun n x _ _ hx => by
    unfold mmF
    split
    · exact hx
    · split
      · exact hx
      · exact mmR_b d _ _ _ (by simp; omega) (by have := tdist_nn xs ys g.length n; dsimp only; omega) (msB_up hx ‹_›)) h0 h1
theorem mmF_in {rc : List Int → Int → Ms → Ms} {dst : Int → Int} {bud : Int} {g : List Int} {sum : Int} {s : Ms} {k : Int} (h : k ∈ g) : mmF rc dst bud g sum s k = s := by unfold mmF; rw [if_pos (.inr h)]
theorem mmF_full {rc : List Int → Int → Ms → Ms} {dst : Int → Int} {bud : Int} {g : List Int} {sum : Int} {s : Ms} {k : Int} (h1 : s.full = false) (h : ¬ k ∈ g) (hn : s.nodes = bud) : mmF rc dst bud g sum s k = msFull s := by
  unfold mmF; rw [if_neg (by rw [h1]; simpa using h), if_pos hn]
theorem mmF_go {rc : List Int → Int → Ms → Ms} {dst : Int → Int} {bud : Int} {g : List Int} {sum : Int} {s : Ms} {k : Int} (h1 : s.full = false) (h : ¬ k ∈ g) (hn : ¬ s.nodes = bud) : mmF rc dst bud g sum s k = rc (g ++ [k]) (sum + dst k) (msUp s) := by
  unfold mmF; rw [if_neg (by rw [h1]; simpa using h), if_neg hn]
/-- Two kept slices lie apart. -/
def apart (v w : Value) : Prop := ∀ b, blkV v = some b → blkV w ≠ some b
theorem apart.symm {v w : Value} (h : apart v w) : apart w v := fun b h1 h2 => h b h2 h1
theorem apart.cut {v w : Value} {n : Nat} (h : apart v w) (e : blkV (cutV v n) = blkV v) : apart (cutV v n) w := fun b h1 => h b (by rw [← e]; exact h1)
/-- The second of two kept slices is appended to. -/
theorem two_app {e b c : Nat} {X : Frag} {v w : Value} {els l l2 : List (List PV)} {C : Array Value} (hv : FV e X v els) (hw : FV e X w l) (ha : apart v w) (hb : blkV w = some b ∨ X b = none) (hC : RowC C c ⟨e, 1, l2⟩) :
    FV e (X.upd b (.cells C e (0, 0))) v els ∧ FV e (X.upd b (.cells C e (0, 0))) (.slice (some ⟨b, 0, none⟩) l2.length c) l2 ∧ apart v (.slice (some ⟨b, 0, none⟩) l2.length c) := by
  have hne : blkV v ≠ some b := fun h => by
    rcases hb with h1 | h1
    · exact ha b h h1
    · exact hv.blk h h1
  refine ⟨hv.upd hne _, FV.raw (Frag.upd_same _ _ _) hC, fun b' h1 h2 => hne ?_⟩
  have : b = b' := by simpa [blkV] using h2
  rw [this]; exact h1
theorem rv1i {ty : Nat} {l : List Int} : ∀ r ∈ ([.fresh ⟨ty, 1, l.map encI⟩] : RV), rv1Ok r := by
  intro r hr
  have : r = .fresh ⟨ty, 1, l.map encI⟩ := by simpa using hr
  subst this
  exact sc_map encI_sc
theorem apart_fresh {e b n c : Nat} {X : Frag} {v : Value} {els : List (List PV)} (h : FV e X v els) (hx : X b = none) : apart v (.slice (some ⟨b, 0, none⟩) n c) := fun b' h1 h2 => h.fresh hx (by
  have : b = b' := by simpa [blkV] using h2
  rw [this]; exact h1)
theorem encI_app (l : List Int) (v : Int) : l.map encI ++ [[I v]] = (l ++ [v]).map encI := by simp [encI]
theorem one_pl (v : Int) : ∀ e ∈ [[I v]], ∀ m ∈ e, m.val.isSome = true := by
  intro e he m hm
  simp at he; subst he; simp at hm; subst hm; rfl
theorem take_app (g : List Int) (k : Int) : ((g ++ [k]).map encI).take (g.length : Int).toNat = g.map encI := by simp
def uE (m : Nat) (g : List Int) : List (List PV) := (List.range m).map fun k : Nat => [PV.bool (decide ((k : Int) ∈ g))]
theorem uE_len (m : Nat) (g : List Int) : (uE m g).length = m := by simp [uE]
theorem uE_get {m : Nat} {g : List Int} {k : Int} (h0 : 0 ≤ k) (h1 : k < m) : (uE m g)[k.toNat]? = some [PV.bool (decide (k ∈ g))] := by
  unfold uE
  rw [List.getElem?_map, List.getElem?_range (by omega)]
  simp [Int.toNat_of_nonneg h0]
theorem uE_set {m : Nat} {g g' : List Int} {k : Int} {b : Bool} (h0 : 0 ≤ k) (hb : decide (k ∈ g') = b) (hg : ∀ j : Int, j ≠ k → (j ∈ g ↔ j ∈ g')) : (uE m g).set k.toNat [PV.bool b] = uE m g' := by
  apply List.ext_getElem?
  intro i
  rw [List.getElem?_set]
  unfold uE
  simp only [List.getElem?_map, List.length_map, List.length_range]
  by_cases hi : i < m
  · rw [List.getElem?_range hi]
    by_cases e : k.toNat = i
    · have : (i : Int) = k := by omega
      rw [if_pos e, if_pos (by omega)]
      simp [this, hb]
    · rw [if_neg e]
      have : (i : Int) ≠ k := by omega
      simp [hg _ this]
  · rw [show (List.range m)[i]? = none by simp; omega]
    split <;> simp
    omega
def lsI (s : Ms) : Int := if s.least < 0 then 0 else s.least
def fdI (s : Ms) : Bool := decide (0 ≤ s.least)
def mrI (ty : Nat) (xs ys : List D.Mode) (bud : Int) (uv gv bv : Value) (sum : Int) (s : Ms) : Row := ⟨ty, 9, [[.view 3 (xs.map D.Mode.enc), .view 3 (ys.map D.Mode.enc), .raw uv, I (bud - s.nodes), .raw gv, I sum, .raw bv, I (lsI s), .bool (fdI s)]]⟩
def cRunI (ty e eb d : Nat) : YCt := fun me args X K => ∃ (xs ys : List D.Mode) (bud : Int) (uv gv bv : Value) (g : List Int) (sum : Int) (s : Ms), me = .pt (mrI ty xs ys bud uv gv bv sum s) ∧ args = [] ∧
  (FV eb X uv (uE ys.length g) ∧ FV e X gv (g.map encI) ∧ FV e X bv (s.best.map encI)) ∧ (apart uv gv ∧ apart uv bv ∧ apart gv bv) ∧ ModesOk xs ∧ ModesOk ys ∧ g.length + d = xs.length ∧ (0 ≤ sum ∧ sum ≤ 100000 * g.length) ∧ msB bud xs.length s ∧ bud ≤ 20000 ∧ s.full = false ∧
  ∀ uv' gv' bv' X', FV eb X' uv' (uE ys.length g) → FV e X' gv' (g.map encI) → FV e X' bv' ((mmR xs ys bud d g sum s).best.map encI) → apart uv' gv' → apart uv' bv' → apart gv' bv' →
    K (some (mrI ty xs ys bud uv' gv' bv' sum (mmR xs ys bud d g sum s))) X' [.p (.bool (!(mmR xs ys bud d g sum s).full))]
def mrS (ty : Nat) (xs ys : List D.Mode) (bud : Int) (gv bv : Value) (s : Ms) : Row := ⟨ty, 8, [[.view 3 (xs.map D.Mode.enc), .view 3 (ys.map D.Mode.enc), .raw gv, .raw bv, I s.least, I s.nodes, I bud, .bool s.full]]⟩
def cRunS (ty e d : Nat) : YCt := fun me args X K => ∃ (xs ys : List D.Mode) (bud : Int) (gv bv : Value) (g : List Int) (sum : Int) (s : Ms), me = .pt (mrS ty xs ys bud gv bv s) ∧ args = [I sum] ∧
  FV e X gv (g.map encI) ∧ FV e X bv (s.best.map encI) ∧ apart gv bv ∧ ModesOk xs ∧ ModesOk ys ∧ g.length + d = xs.length ∧ (0 ≤ sum ∧ sum ≤ 100000 * g.length) ∧ msB bud xs.length s ∧ bud ≤ 20000 ∧ s.full = false ∧
  ∀ gv' bv' X', FV e X' gv' (g.map encI) → FV e X' bv' ((mmR xs ys bud d g sum s).best.map encI) → apart gv' bv' → K (some (mrS ty xs ys bud gv' bv' (mmR xs ys bud d g sum s))) X' []
theorem tdist_le {xs ys : List D.Mode} (hX : ModesOk xs) (hY : ModesOk ys) {i k : Int} (i0 : 0 ≤ i) (i1 : i < xs.length) (k0 : 0 ≤ k) (k1 : k < ys.length) : tdist xs ys i k ≤ 100000 := by
  have h1 := hX.at i0 i1
  have h2 := hY.at k0 k1
  unfold ModeOk at h1 h2
  unfold tdist; omega
end Go.Lo
namespace Go.Proofs.Ythjbcgdmdmfijaa
open Go.Lo
attribute [local irreducible] W Wc

theorem h_l00Own : Holds Try.prog 75 (fun args K => ∃ g : List Int, args = [.view 1 (g.map encI)] ∧ (g.length : Int) ≤ 1048576 ∧ K [.fresh ⟨2, 1, g.map encI⟩]) := by
  refine E.mk tt Try.func75 rfl Try.ntmps75 rfl (by kernel_rfl) ?_
  rintro _ K ⟨g, rfl, hl, hK⟩
  have hln : (g.map encI).length = g.length := by simp
  refine ⟨Nat.le_of_ble_eq_true rfl, _, hK, ?_⟩
  (repeat' ((conv => whnf); first
    | refine Sd.mk (by first | omega | (unfold in64; omega) | (simp only [fitK, in64]; omega) | (simp only [fitK, in64, chunk, List.length_map, List.length_append, List.length_replicate, List.length_set, List.length_nil, List.length_cons]; omega)) ?_
    | refine Br.yes rfl ?_
    | refine Br.no rfl ?_
    | refine Br.yes (by first | (simp only [ltB_t, ltB_f, eqB_t, eqB_f, pB_t, pB_f, sEq_t, sEq_f, emp_iff, ne_eq, List.length_map, Bool.not_eq_true, Bool.not_eq_false, Bool.not_eq_eq_eq_not, Bool.not_true, Bool.not_false]; done) | (simp only [ltB_t, ltB_f, eqB_t, eqB_f, pB_t, pB_f, sEq_t, sEq_f, emp_iff, ne_eq, List.length_map, Bool.not_eq_true, Bool.not_eq_false, Bool.not_eq_eq_eq_not, Bool.not_true, Bool.not_false]; omega) | (simp only [ltB_t, ltB_f, eqB_t, eqB_f, pB_t, pB_f, sEq_t, sEq_f, emp_iff, ne_eq, List.length_map, Bool.not_eq_true, Bool.not_eq_false, Bool.not_eq_eq_eq_not, Bool.not_true, Bool.not_false]; assumption)) ?_
    | refine Br.no (by first | (simp only [ltB_t, ltB_f, eqB_t, eqB_f, pB_t, pB_f, sEq_t, sEq_f, emp_iff, ne_eq, List.length_map, Bool.not_eq_true, Bool.not_eq_false, Bool.not_eq_eq_eq_not, Bool.not_true, Bool.not_false]; done) | (simp only [ltB_t, ltB_f, eqB_t, eqB_f, pB_t, pB_f, sEq_t, sEq_f, emp_iff, ne_eq, List.length_map, Bool.not_eq_true, Bool.not_eq_false, Bool.not_eq_eq_eq_not, Bool.not_true, Bool.not_false]; omega) | (simp only [ltB_t, ltB_f, eqB_t, eqB_f, pB_t, pB_f, sEq_t, sEq_f, emp_iff, ne_eq, List.length_map, Bool.not_eq_true, Bool.not_eq_false, Bool.not_eq_eq_eq_not, Bool.not_true, Bool.not_false]; assumption)) ?_
    | (refine Br.mk ?_ ?_ <;> intro h <;> (try simp only [ltB_t, ltB_f, eqB_t, eqB_f, pB_t, pB_f, sEq_t, sEq_f, emp_iff, ne_eq, List.length_map, Bool.not_eq_true, Bool.not_eq_false, Bool.not_eq_eq_eq_not, Bool.not_true, Bool.not_false] at h))
    | refine Elt.mk rfl ?_
    | refine Elt.mk (by assumption) ?_
    | refine Elt.mk (ixE (by omega) (by omega)) ?_)) <;> (try (conv => whnf))
  all_goals (exact fin_p rfl rfl rfl rfl)
theorem h_abs : Holds Try.prog 113 (fun args K => ∃ n : Int, args = [I n] ∧ -1000000000 ≤ n ∧ n ≤ 1000000000 ∧ K [.p (I (n.natAbs : Int))]) := by
  refine E.mk tt Try.func113 rfl Try.ntmps113 rfl (by kernel_rfl) ?_
  rintro _ K ⟨n, rfl, h0, h1, hK⟩
  refine ⟨Nat.le_of_ble_eq_true rfl, _, hK, ?_⟩
  (repeat' ((conv => whnf); first
    | refine Sd.mk (by first | omega | (unfold in64; omega) | (simp only [fitK, in64]; omega) | (simp only [fitK, in64, chunk, List.length_map, List.length_append, List.length_replicate, List.length_set, List.length_nil, List.length_cons]; omega)) ?_
    | refine Br.yes rfl ?_
    | refine Br.no rfl ?_
    | refine Br.yes (by first | (simp only [ltB_t, ltB_f, eqB_t, eqB_f, pB_t, pB_f, sEq_t, sEq_f, emp_iff, ne_eq, List.length_map, Bool.not_eq_true, Bool.not_eq_false, Bool.not_eq_eq_eq_not, Bool.not_true, Bool.not_false]; done) | (simp only [ltB_t, ltB_f, eqB_t, eqB_f, pB_t, pB_f, sEq_t, sEq_f, emp_iff, ne_eq, List.length_map, Bool.not_eq_true, Bool.not_eq_false, Bool.not_eq_eq_eq_not, Bool.not_true, Bool.not_false]; omega) | (simp only [ltB_t, ltB_f, eqB_t, eqB_f, pB_t, pB_f, sEq_t, sEq_f, emp_iff, ne_eq, List.length_map, Bool.not_eq_true, Bool.not_eq_false, Bool.not_eq_eq_eq_not, Bool.not_true, Bool.not_false]; assumption)) ?_
    | refine Br.no (by first | (simp only [ltB_t, ltB_f, eqB_t, eqB_f, pB_t, pB_f, sEq_t, sEq_f, emp_iff, ne_eq, List.length_map, Bool.not_eq_true, Bool.not_eq_false, Bool.not_eq_eq_eq_not, Bool.not_true, Bool.not_false]; done) | (simp only [ltB_t, ltB_f, eqB_t, eqB_f, pB_t, pB_f, sEq_t, sEq_f, emp_iff, ne_eq, List.length_map, Bool.not_eq_true, Bool.not_eq_false, Bool.not_eq_eq_eq_not, Bool.not_true, Bool.not_false]; omega) | (simp only [ltB_t, ltB_f, eqB_t, eqB_f, pB_t, pB_f, sEq_t, sEq_f, emp_iff, ne_eq, List.length_map, Bool.not_eq_true, Bool.not_eq_false, Bool.not_eq_eq_eq_not, Bool.not_true, Bool.not_false]; assumption)) ?_
    | (refine Br.mk ?_ ?_ <;> intro h <;> (try simp only [ltB_t, ltB_f, eqB_t, eqB_f, pB_t, pB_f, sEq_t, sEq_f, emp_iff, ne_eq, List.length_map, Bool.not_eq_true, Bool.not_eq_false, Bool.not_eq_eq_eq_not, Bool.not_true, Bool.not_false] at h))
    | refine Elt.mk rfl ?_
    | refine Elt.mk (by assumption) ?_
    | refine Elt.mk (ixE (by omega) (by omega)) ?_
    | refine E.call tt h_l00Max rfl rfl ⟨_, _, rfl, _, _, rfl, rfl, ?_⟩)) <;> (try (conv => whnf))
  all_goals (refine fin_p rfl ?_ rfl rfl; congr 3; omega)

theorem h_has : Holds Try.prog 112 (fun args K => ∃ (g : List Int) (n : Int) (rs : RV), args = [.view 1 (g.map encI), I n] ∧ (g.length : Int) ≤ 1048576 ∧ ((n ∈ g ∧ rs = [.p (.bool true)]) ∨ (¬ n ∈ g ∧ rs = [.p (.bool false)])) ∧ K rs) := by
  refine E.mk tt Try.func112 rfl Try.ntmps112 rfl (by kernel_rfl) ?_
  rintro _ K ⟨g, n, rs, rfl, hl, hrs, hK⟩
  have hln : (g.map encI).length = g.length := by simp
  refine ⟨Nat.le_of_ble_eq_true rfl, _, hK, ?_⟩
  (repeat' ((conv => whnf); first
    | refine Sd.mk (by first | omega | (unfold in64; omega) | (simp only [fitK, in64]; omega) | (simp only [fitK, in64, chunk, List.length_map, List.length_append, List.length_replicate, List.length_set, List.length_nil, List.length_cons]; omega)) ?_
    | refine Br.yes rfl ?_
    | refine Br.no rfl ?_
    | refine Br.yes (by first | (simp only [ltB_t, ltB_f, eqB_t, eqB_f, pB_t, pB_f, sEq_t, sEq_f, emp_iff, ne_eq, List.length_map, Bool.not_eq_true, Bool.not_eq_false, Bool.not_eq_eq_eq_not, Bool.not_true, Bool.not_false]; done) | (simp only [ltB_t, ltB_f, eqB_t, eqB_f, pB_t, pB_f, sEq_t, sEq_f, emp_iff, ne_eq, List.length_map, Bool.not_eq_true, Bool.not_eq_false, Bool.not_eq_eq_eq_not, Bool.not_true, Bool.not_false]; omega) | (simp only [ltB_t, ltB_f, eqB_t, eqB_f, pB_t, pB_f, sEq_t, sEq_f, emp_iff, ne_eq, List.length_map, Bool.not_eq_true, Bool.not_eq_false, Bool.not_eq_eq_eq_not, Bool.not_true, Bool.not_false]; assumption)) ?_
    | refine Br.no (by first | (simp only [ltB_t, ltB_f, eqB_t, eqB_f, pB_t, pB_f, sEq_t, sEq_f, emp_iff, ne_eq, List.length_map, Bool.not_eq_true, Bool.not_eq_false, Bool.not_eq_eq_eq_not, Bool.not_true, Bool.not_false]; done) | (simp only [ltB_t, ltB_f, eqB_t, eqB_f, pB_t, pB_f, sEq_t, sEq_f, emp_iff, ne_eq, List.length_map, Bool.not_eq_true, Bool.not_eq_false, Bool.not_eq_eq_eq_not, Bool.not_true, Bool.not_false]; omega) | (simp only [ltB_t, ltB_f, eqB_t, eqB_f, pB_t, pB_f, sEq_t, sEq_f, emp_iff, ne_eq, List.length_map, Bool.not_eq_true, Bool.not_eq_false, Bool.not_eq_eq_eq_not, Bool.not_true, Bool.not_false]; assumption)) ?_
    | (refine Br.mk ?_ ?_ <;> intro h <;> (try simp only [ltB_t, ltB_f, eqB_t, eqB_f, pB_t, pB_f, sEq_t, sEq_f, emp_iff, ne_eq, List.length_map, Bool.not_eq_true, Bool.not_eq_false, Bool.not_eq_eq_eq_not, Bool.not_true, Bool.not_false] at h))
    | refine Ixv.mk (by omega) (ixE (by omega) (by omega)) ?_
    | refine Elt.mk rfl ?_
    | refine Elt.mk (by assumption) ?_
    | refine Elt.mk (ixE (by omega) (by omega)) ?_)) <;> (try (conv => whnf))
  refine E.loop tt (fun i : Int => 0 ≤ i ∧ i ≤ g.length ∧ allTo (fun j => ¬ ix g j = n) i) (fun i => ⟨18, 1, [(0, .p (.view 1 (g.map encI))), (1, .p (I n)), (5, .p (I i))], [], Frag.nil⟩) (fun i => (g.length - i).toNat) 0 ⟨by omega, by omega, allTo_zero _⟩ ⟨rfl, ⟨rfl, rfl, rfl, trivial⟩, trivial, rfl, rfl, fun _ _ h => h⟩ ?_
  rintro i ⟨hi0, hi1, hinv⟩
  rcases Int.lt_or_le i g.length with hlt | hge
  · by_cases hc : ix g i = n
    · rcases hrs with ⟨h, rfl⟩ | ⟨h, _⟩
      · (repeat' ((conv => whnf); first
    | refine Sd.mk (by first | omega | (unfold in64; omega) | (simp only [fitK, in64]; omega) | (simp only [fitK, in64, chunk, List.length_map, List.length_append, List.length_replicate, List.length_set, List.length_nil, List.length_cons]; omega)) ?_
    | refine Br.yes rfl ?_
    | refine Br.no rfl ?_
    | refine Br.yes (by first | (simp only [ltB_t, ltB_f, eqB_t, eqB_f, pB_t, pB_f, sEq_t, sEq_f, emp_iff, ne_eq, List.length_map, Bool.not_eq_true, Bool.not_eq_false, Bool.not_eq_eq_eq_not, Bool.not_true, Bool.not_false]; done) | (simp only [ltB_t, ltB_f, eqB_t, eqB_f, pB_t, pB_f, sEq_t, sEq_f, emp_iff, ne_eq, List.length_map, Bool.not_eq_true, Bool.not_eq_false, Bool.not_eq_eq_eq_not, Bool.not_true, Bool.not_false]; omega) | (simp only [ltB_t, ltB_f, eqB_t, eqB_f, pB_t, pB_f, sEq_t, sEq_f, emp_iff, ne_eq, List.length_map, Bool.not_eq_true, Bool.not_eq_false, Bool.not_eq_eq_eq_not, Bool.not_true, Bool.not_false]; assumption)) ?_
    | refine Br.no (by first | (simp only [ltB_t, ltB_f, eqB_t, eqB_f, pB_t, pB_f, sEq_t, sEq_f, emp_iff, ne_eq, List.length_map, Bool.not_eq_true, Bool.not_eq_false, Bool.not_eq_eq_eq_not, Bool.not_true, Bool.not_false]; done) | (simp only [ltB_t, ltB_f, eqB_t, eqB_f, pB_t, pB_f, sEq_t, sEq_f, emp_iff, ne_eq, List.length_map, Bool.not_eq_true, Bool.not_eq_false, Bool.not_eq_eq_eq_not, Bool.not_true, Bool.not_false]; omega) | (simp only [ltB_t, ltB_f, eqB_t, eqB_f, pB_t, pB_f, sEq_t, sEq_f, emp_iff, ne_eq, List.length_map, Bool.not_eq_true, Bool.not_eq_false, Bool.not_eq_eq_eq_not, Bool.not_true, Bool.not_false]; assumption)) ?_
    | (refine Br.mk ?_ ?_ <;> intro h <;> (try simp only [ltB_t, ltB_f, eqB_t, eqB_f, pB_t, pB_f, sEq_t, sEq_f, emp_iff, ne_eq, List.length_map, Bool.not_eq_true, Bool.not_eq_false, Bool.not_eq_eq_eq_not, Bool.not_true, Bool.not_false] at h))
    | refine Ixv.mk (by omega) (ixE (by omega) (by omega)) ?_
    | refine Elt.mk rfl ?_
    | refine Elt.mk (by assumption) ?_
    | refine Elt.mk (ixE (by omega) (by omega)) ?_)) <;> (try (conv => whnf))
        all_goals first | (exact fin_p rfl rfl rfl rfl) | (exfalso; omega)
      · exact absurd (by rw [← hc]; exact ix_mem hi0 hlt) h
    · (repeat' ((conv => whnf); first
    | refine Sd.mk (by first | omega | (unfold in64; omega) | (simp only [fitK, in64]; omega) | (simp only [fitK, in64, chunk, List.length_map, List.length_append, List.length_replicate, List.length_set, List.length_nil, List.length_cons]; omega)) ?_
    | refine Br.yes rfl ?_
    | refine Br.no rfl ?_
    | refine Br.yes (by first | (simp only [ltB_t, ltB_f, eqB_t, eqB_f, pB_t, pB_f, sEq_t, sEq_f, emp_iff, ne_eq, List.length_map, Bool.not_eq_true, Bool.not_eq_false, Bool.not_eq_eq_eq_not, Bool.not_true, Bool.not_false]; done) | (simp only [ltB_t, ltB_f, eqB_t, eqB_f, pB_t, pB_f, sEq_t, sEq_f, emp_iff, ne_eq, List.length_map, Bool.not_eq_true, Bool.not_eq_false, Bool.not_eq_eq_eq_not, Bool.not_true, Bool.not_false]; omega) | (simp only [ltB_t, ltB_f, eqB_t, eqB_f, pB_t, pB_f, sEq_t, sEq_f, emp_iff, ne_eq, List.length_map, Bool.not_eq_true, Bool.not_eq_false, Bool.not_eq_eq_eq_not, Bool.not_true, Bool.not_false]; assumption)) ?_
    | refine Br.no (by first | (simp only [ltB_t, ltB_f, eqB_t, eqB_f, pB_t, pB_f, sEq_t, sEq_f, emp_iff, ne_eq, List.length_map, Bool.not_eq_true, Bool.not_eq_false, Bool.not_eq_eq_eq_not, Bool.not_true, Bool.not_false]; done) | (simp only [ltB_t, ltB_f, eqB_t, eqB_f, pB_t, pB_f, sEq_t, sEq_f, emp_iff, ne_eq, List.length_map, Bool.not_eq_true, Bool.not_eq_false, Bool.not_eq_eq_eq_not, Bool.not_true, Bool.not_false]; omega) | (simp only [ltB_t, ltB_f, eqB_t, eqB_f, pB_t, pB_f, sEq_t, sEq_f, emp_iff, ne_eq, List.length_map, Bool.not_eq_true, Bool.not_eq_false, Bool.not_eq_eq_eq_not, Bool.not_true, Bool.not_false]; assumption)) ?_
    | (refine Br.mk ?_ ?_ <;> intro h <;> (try simp only [ltB_t, ltB_f, eqB_t, eqB_f, pB_t, pB_f, sEq_t, sEq_f, emp_iff, ne_eq, List.length_map, Bool.not_eq_true, Bool.not_eq_false, Bool.not_eq_eq_eq_not, Bool.not_true, Bool.not_false] at h))
    | refine Ixv.mk (by omega) (ixE (by omega) (by omega)) ?_
    | refine Elt.mk rfl ?_
    | refine Elt.mk (by assumption) ?_
    | refine Elt.mk (ixE (by omega) (by omega)) ?_)) <;> (try (conv => whnf))
      all_goals first
        | (refine ⟨i + 1, ⟨by omega, by omega, allTo_succ hinv hc⟩, by dsimp only; omega, ⟨rfl, ⟨rfl, rfl, rfl, trivial⟩, trivial, rfl, rfl, fun _ _ h => h⟩⟩; done)
        | (exfalso; omega)
  · have hie : i = g.length := by omega
    rcases hrs with ⟨h, _⟩ | ⟨_, rfl⟩
    · obtain ⟨j, hj, he⟩ := List.getElem_of_mem h
      exact absurd (by rw [ix_get hj]; exact he) (hinv (j : Int) (by omega) (by omega))
    · (repeat' ((conv => whnf); first
    | refine Sd.mk (by first | omega | (unfold in64; omega) | (simp only [fitK, in64]; omega) | (simp only [fitK, in64, chunk, List.length_map, List.length_append, List.length_replicate, List.length_set, List.length_nil, List.length_cons]; omega)) ?_
    | refine Br.yes rfl ?_
    | refine Br.no rfl ?_
    | refine Br.yes (by first | (simp only [ltB_t, ltB_f, eqB_t, eqB_f, pB_t, pB_f, sEq_t, sEq_f, emp_iff, ne_eq, List.length_map, Bool.not_eq_true, Bool.not_eq_false, Bool.not_eq_eq_eq_not, Bool.not_true, Bool.not_false]; done) | (simp only [ltB_t, ltB_f, eqB_t, eqB_f, pB_t, pB_f, sEq_t, sEq_f, emp_iff, ne_eq, List.length_map, Bool.not_eq_true, Bool.not_eq_false, Bool.not_eq_eq_eq_not, Bool.not_true, Bool.not_false]; omega) | (simp only [ltB_t, ltB_f, eqB_t, eqB_f, pB_t, pB_f, sEq_t, sEq_f, emp_iff, ne_eq, List.length_map, Bool.not_eq_true, Bool.not_eq_false, Bool.not_eq_eq_eq_not, Bool.not_true, Bool.not_false]; assumption)) ?_
    | refine Br.no (by first | (simp only [ltB_t, ltB_f, eqB_t, eqB_f, pB_t, pB_f, sEq_t, sEq_f, emp_iff, ne_eq, List.length_map, Bool.not_eq_true, Bool.not_eq_false, Bool.not_eq_eq_eq_not, Bool.not_true, Bool.not_false]; done) | (simp only [ltB_t, ltB_f, eqB_t, eqB_f, pB_t, pB_f, sEq_t, sEq_f, emp_iff, ne_eq, List.length_map, Bool.not_eq_true, Bool.not_eq_false, Bool.not_eq_eq_eq_not, Bool.not_true, Bool.not_false]; omega) | (simp only [ltB_t, ltB_f, eqB_t, eqB_f, pB_t, pB_f, sEq_t, sEq_f, emp_iff, ne_eq, List.length_map, Bool.not_eq_true, Bool.not_eq_false, Bool.not_eq_eq_eq_not, Bool.not_true, Bool.not_false]; assumption)) ?_
    | (refine Br.mk ?_ ?_ <;> intro h <;> (try simp only [ltB_t, ltB_f, eqB_t, eqB_f, pB_t, pB_f, sEq_t, sEq_f, emp_iff, ne_eq, List.length_map, Bool.not_eq_true, Bool.not_eq_false, Bool.not_eq_eq_eq_not, Bool.not_true, Bool.not_false] at h))
    | refine Ixv.mk (by omega) (ixE (by omega) (by omega)) ?_
    | refine Elt.mk rfl ?_
    | refine Elt.mk (by assumption) ?_
    | refine Elt.mk (ixE (by omega) (by omega)) ?_)) <;> (try (conv => whnf))
      all_goals first | (exact fin_p rfl rfl rfl rfl) | (exfalso; omega)
theorem h_dist : Holds Try.prog 110 (fun args K => ∃ a b : Int, args = [I a, I b] ∧ (-1000000000 ≤ a ∧ a ≤ 1000000000) ∧ (-1000000000 ≤ b ∧ b ≤ 1000000000) ∧ K [.p (I ((a - b).natAbs : Int))]) := by
  refine E.mk tt Try.func110 rfl Try.ntmps110 rfl (by kernel_rfl) ?_
  rintro _ K ⟨a, b, rfl, h0, h1, hK⟩
  refine ⟨Nat.le_of_ble_eq_true rfl, _, hK, ?_⟩
  (repeat' ((conv => whnf); first
    | refine Sd.mk (by first | omega | (unfold in64; omega) | (simp only [fitK, in64]; omega) | (simp only [fitK, in64, chunk, List.length_map, List.length_append, List.length_replicate, List.length_set, List.length_nil, List.length_cons]; omega)) ?_
    | refine Br.yes rfl ?_
    | refine Br.no rfl ?_
    | refine Br.yes (by first | (simp only [ltB_t, ltB_f, eqB_t, eqB_f, pB_t, pB_f, sEq_t, sEq_f, emp_iff, ne_eq, List.length_map, Bool.not_eq_true, Bool.not_eq_false, Bool.not_eq_eq_eq_not, Bool.not_true, Bool.not_false]; done) | (simp only [ltB_t, ltB_f, eqB_t, eqB_f, pB_t, pB_f, sEq_t, sEq_f, emp_iff, ne_eq, List.length_map, Bool.not_eq_true, Bool.not_eq_false, Bool.not_eq_eq_eq_not, Bool.not_true, Bool.not_false]; omega) | (simp only [ltB_t, ltB_f, eqB_t, eqB_f, pB_t, pB_f, sEq_t, sEq_f, emp_iff, ne_eq, List.length_map, Bool.not_eq_true, Bool.not_eq_false, Bool.not_eq_eq_eq_not, Bool.not_true, Bool.not_false]; assumption)) ?_
    | refine Br.no (by first | (simp only [ltB_t, ltB_f, eqB_t, eqB_f, pB_t, pB_f, sEq_t, sEq_f, emp_iff, ne_eq, List.length_map, Bool.not_eq_true, Bool.not_eq_false, Bool.not_eq_eq_eq_not, Bool.not_true, Bool.not_false]; done) | (simp only [ltB_t, ltB_f, eqB_t, eqB_f, pB_t, pB_f, sEq_t, sEq_f, emp_iff, ne_eq, List.length_map, Bool.not_eq_true, Bool.not_eq_false, Bool.not_eq_eq_eq_not, Bool.not_true, Bool.not_false]; omega) | (simp only [ltB_t, ltB_f, eqB_t, eqB_f, pB_t, pB_f, sEq_t, sEq_f, emp_iff, ne_eq, List.length_map, Bool.not_eq_true, Bool.not_eq_false, Bool.not_eq_eq_eq_not, Bool.not_true, Bool.not_false]; assumption)) ?_
    | (refine Br.mk ?_ ?_ <;> intro h <;> (try simp only [ltB_t, ltB_f, eqB_t, eqB_f, pB_t, pB_f, sEq_t, sEq_f, emp_iff, ne_eq, List.length_map, Bool.not_eq_true, Bool.not_eq_false, Bool.not_eq_eq_eq_not, Bool.not_true, Bool.not_false] at h))
    | refine Elt.mk rfl ?_
    | refine Elt.mk (by assumption) ?_
    | refine Elt.mk (ixE (by omega) (by omega)) ?_)) <;> (try (conv => whnf))
  all_goals (refine fin_p rfl ?_ rfl rfl; dsimp only; congr 3; omega)


theorem h_run0 : YHolds Try.prog 81 (cRunS 121 2 0) := by
  refine E.mkY tt Try.func81 rfl Try.ntmps81 rfl (by kernel_rfl) ?_
  rintro _ _ X K ⟨xs, ys, bud, gv, bv, g, sum, ⟨nd, fl, le, bs⟩, rfl, rfl, hg, hb, hap, hX, hY, hlen, hsum, hms, hbud, hfl, hK⟩
  dsimp only at hfl
  subst hfl
  have hlx : (xs.map D.Mode.enc).length = xs.length := by simp
  have hlg : (g.map encI).length = g.length := by simp
  have hxl := hX.le
  refine ⟨Nat.le_of_ble_eq_true rfl, ?_⟩
  by_cases hc : le < 0 ∨ sum < le
  · have e0 : mmR xs ys bud 0 g sum ⟨nd, false, le, bs⟩ = ⟨nd, false, sum, g⟩ := if_pos hc
    rw [e0] at hK
    (repeat' ((conv => whnf); first
    | refine Sd.mk (by first | omega | (unfold in64; omega) | (simp only [fitK, in64]; omega) | (simp only [fitK, in64, chunk, List.length_map, List.length_append, List.length_replicate, List.length_set, List.length_nil, List.length_cons]; omega)) ?_
    | refine Br.yes rfl ?_
    | refine Br.no rfl ?_
    | refine Br.yes (by first | (simp only [ltB_t, ltB_f, eqB_t, eqB_f, pB_t, pB_f, sEq_t, sEq_f, emp_iff, ne_eq, List.length_map, Bool.not_eq_true, Bool.not_eq_false, Bool.not_eq_eq_eq_not, Bool.not_true, Bool.not_false]; done) | (simp only [ltB_t, ltB_f, eqB_t, eqB_f, pB_t, pB_f, sEq_t, sEq_f, emp_iff, ne_eq, List.length_map, Bool.not_eq_true, Bool.not_eq_false, Bool.not_eq_eq_eq_not, Bool.not_true, Bool.not_false]; omega) | (simp only [ltB_t, ltB_f, eqB_t, eqB_f, pB_t, pB_f, sEq_t, sEq_f, emp_iff, ne_eq, List.length_map, Bool.not_eq_true, Bool.not_eq_false, Bool.not_eq_eq_eq_not, Bool.not_true, Bool.not_false]; assumption)) ?_
    | refine Br.no (by first | (simp only [ltB_t, ltB_f, eqB_t, eqB_f, pB_t, pB_f, sEq_t, sEq_f, emp_iff, ne_eq, List.length_map, Bool.not_eq_true, Bool.not_eq_false, Bool.not_eq_eq_eq_not, Bool.not_true, Bool.not_false]; done) | (simp only [ltB_t, ltB_f, eqB_t, eqB_f, pB_t, pB_f, sEq_t, sEq_f, emp_iff, ne_eq, List.length_map, Bool.not_eq_true, Bool.not_eq_false, Bool.not_eq_eq_eq_not, Bool.not_true, Bool.not_false]; omega) | (simp only [ltB_t, ltB_f, eqB_t, eqB_f, pB_t, pB_f, sEq_t, sEq_f, emp_iff, ne_eq, List.length_map, Bool.not_eq_true, Bool.not_eq_false, Bool.not_eq_eq_eq_not, Bool.not_true, Bool.not_false]; assumption)) ?_
    | (refine Br.mk ?_ ?_ <;> intro h <;> (try simp only [ltB_t, ltB_f, eqB_t, eqB_f, pB_t, pB_f, sEq_t, sEq_f, emp_iff, ne_eq, List.length_map, Bool.not_eq_true, Bool.not_eq_false, Bool.not_eq_eq_eq_not, Bool.not_true, Bool.not_false] at h))
    | refine Ixv.mk (by omega) (ixE (by omega) (by omega)) ?_
    | refine Elt.mk rfl ?_
    | refine Elt.mk (by assumption) ?_
    | refine Elt.mk (ixE (by omega) (by omega)) ?_
    | refine E.read tt (rd_lenF tt rfl rfl rfl rfl hg) rfl ?_
    | (fail "callY")
    | refine E.call tt h_abs rfl rfl ⟨_, rfl, by omega, by omega, _, _, rfl, rfl, ?_⟩
    | refine E.regionQ tt (id := 9) mixed (by decide +kernel) ?_
    | refine E.regionT tt (id := 13) 21 mixed (by decide +kernel) ?_)) <;> (try (conv => whnf))
    all_goals try (exfalso; omega)
    all_goals (
      refine E.callRD tt (args := [.view 1 (g.map encI)]) h_l00Own ⟨Deep.fv rfl hg, trivial⟩ rfl ⟨g, rfl, by omega, rv1i, ?_⟩
      (repeat' ((conv => whnf); first
    | refine Sd.mk (by first | omega | (unfold in64; omega) | (simp only [fitK, in64]; omega) | (simp only [fitK, in64, chunk, List.length_map, List.length_append, List.length_replicate, List.length_set, List.length_nil, List.length_cons]; omega)) ?_
    | refine Br.yes rfl ?_
    | refine Br.no rfl ?_
    | refine Br.yes (by first | (simp only [ltB_t, ltB_f, eqB_t, eqB_f, pB_t, pB_f, sEq_t, sEq_f, emp_iff, ne_eq, List.length_map, Bool.not_eq_true, Bool.not_eq_false, Bool.not_eq_eq_eq_not, Bool.not_true, Bool.not_false]; done) | (simp only [ltB_t, ltB_f, eqB_t, eqB_f, pB_t, pB_f, sEq_t, sEq_f, emp_iff, ne_eq, List.length_map, Bool.not_eq_true, Bool.not_eq_false, Bool.not_eq_eq_eq_not, Bool.not_true, Bool.not_false]; omega) | (simp only [ltB_t, ltB_f, eqB_t, eqB_f, pB_t, pB_f, sEq_t, sEq_f, emp_iff, ne_eq, List.length_map, Bool.not_eq_true, Bool.not_eq_false, Bool.not_eq_eq_eq_not, Bool.not_true, Bool.not_false]; assumption)) ?_
    | refine Br.no (by first | (simp only [ltB_t, ltB_f, eqB_t, eqB_f, pB_t, pB_f, sEq_t, sEq_f, emp_iff, ne_eq, List.length_map, Bool.not_eq_true, Bool.not_eq_false, Bool.not_eq_eq_eq_not, Bool.not_true, Bool.not_false]; done) | (simp only [ltB_t, ltB_f, eqB_t, eqB_f, pB_t, pB_f, sEq_t, sEq_f, emp_iff, ne_eq, List.length_map, Bool.not_eq_true, Bool.not_eq_false, Bool.not_eq_eq_eq_not, Bool.not_true, Bool.not_false]; omega) | (simp only [ltB_t, ltB_f, eqB_t, eqB_f, pB_t, pB_f, sEq_t, sEq_f, emp_iff, ne_eq, List.length_map, Bool.not_eq_true, Bool.not_eq_false, Bool.not_eq_eq_eq_not, Bool.not_true, Bool.not_false]; assumption)) ?_
    | (refine Br.mk ?_ ?_ <;> intro h <;> (try simp only [ltB_t, ltB_f, eqB_t, eqB_f, pB_t, pB_f, sEq_t, sEq_f, emp_iff, ne_eq, List.length_map, Bool.not_eq_true, Bool.not_eq_false, Bool.not_eq_eq_eq_not, Bool.not_true, Bool.not_false] at h))
    | refine Ixv.mk (by omega) (ixE (by omega) (by omega)) ?_
    | refine Elt.mk rfl ?_
    | refine Elt.mk (by assumption) ?_
    | refine Elt.mk (ixE (by omega) (by omega)) ?_
    | (fail "callY")
    | refine E.call tt h_abs rfl rfl ⟨_, rfl, by omega, by omega, _, _, rfl, rfl, ?_⟩
    | refine E.regionQ tt (id := 9) mixed (by decide +kernel) ?_
    | refine E.regionT tt (id := 13) 21 mixed (by decide +kernel) ?_)) <;> (try (conv => whnf))
      refine E.abs tt 40 (l := g) rfl rfl rfl fun b c C hN hx => ?_
      (repeat' ((conv => whnf); first
    | refine Sd.mk (by first | omega | (unfold in64; omega) | (simp only [fitK, in64]; omega) | (simp only [fitK, in64, chunk, List.length_map, List.length_append, List.length_replicate, List.length_set, List.length_nil, List.length_cons]; omega)) ?_
    | refine Br.yes rfl ?_
    | refine Br.no rfl ?_
    | refine Br.yes (by first | (simp only [ltB_t, ltB_f, eqB_t, eqB_f, pB_t, pB_f, sEq_t, sEq_f, emp_iff, ne_eq, List.length_map, Bool.not_eq_true, Bool.not_eq_false, Bool.not_eq_eq_eq_not, Bool.not_true, Bool.not_false]; done) | (simp only [ltB_t, ltB_f, eqB_t, eqB_f, pB_t, pB_f, sEq_t, sEq_f, emp_iff, ne_eq, List.length_map, Bool.not_eq_true, Bool.not_eq_false, Bool.not_eq_eq_eq_not, Bool.not_true, Bool.not_false]; omega) | (simp only [ltB_t, ltB_f, eqB_t, eqB_f, pB_t, pB_f, sEq_t, sEq_f, emp_iff, ne_eq, List.length_map, Bool.not_eq_true, Bool.not_eq_false, Bool.not_eq_eq_eq_not, Bool.not_true, Bool.not_false]; assumption)) ?_
    | refine Br.no (by first | (simp only [ltB_t, ltB_f, eqB_t, eqB_f, pB_t, pB_f, sEq_t, sEq_f, emp_iff, ne_eq, List.length_map, Bool.not_eq_true, Bool.not_eq_false, Bool.not_eq_eq_eq_not, Bool.not_true, Bool.not_false]; done) | (simp only [ltB_t, ltB_f, eqB_t, eqB_f, pB_t, pB_f, sEq_t, sEq_f, emp_iff, ne_eq, List.length_map, Bool.not_eq_true, Bool.not_eq_false, Bool.not_eq_eq_eq_not, Bool.not_true, Bool.not_false]; omega) | (simp only [ltB_t, ltB_f, eqB_t, eqB_f, pB_t, pB_f, sEq_t, sEq_f, emp_iff, ne_eq, List.length_map, Bool.not_eq_true, Bool.not_eq_false, Bool.not_eq_eq_eq_not, Bool.not_true, Bool.not_false]; assumption)) ?_
    | (refine Br.mk ?_ ?_ <;> intro h <;> (try simp only [ltB_t, ltB_f, eqB_t, eqB_f, pB_t, pB_f, sEq_t, sEq_f, emp_iff, ne_eq, List.length_map, Bool.not_eq_true, Bool.not_eq_false, Bool.not_eq_eq_eq_not, Bool.not_true, Bool.not_false] at h))
    | refine Ixv.mk (by omega) (ixE (by omega) (by omega)) ?_
    | refine Elt.mk rfl ?_
    | refine Elt.mk (by assumption) ?_
    | refine Elt.mk (ixE (by omega) (by omega)) ?_
    | (fail "callY")
    | refine E.call tt h_abs rfl rfl ⟨_, rfl, by omega, by omega, _, _, rfl, rfl, ?_⟩
    | refine E.regionQ tt (id := 9) mixed (by decide +kernel) ?_
    | refine E.regionT tt (id := 13) 21 mixed (by decide +kernel) ?_)) <;> (try (conv => whnf))
      all_goals (exact ⟨_, ⟨rfl, rfl, rfl⟩, allSc_ok _ rfl, (fun r h => by cases h; exact ⟨_, rfl, rfl, rfl⟩), rfl, hK _ _ _ (hg.upd (hg.fresh hx) _) (FV.marked hN rfl) (apart_fresh hg hx)⟩))
  · have e0 : mmR xs ys bud 0 g sum ⟨nd, false, le, bs⟩ = ⟨nd, false, le, bs⟩ := if_neg hc
    rw [e0] at hK
    (repeat' ((conv => whnf); first
    | refine Sd.mk (by first | omega | (unfold in64; omega) | (simp only [fitK, in64]; omega) | (simp only [fitK, in64, chunk, List.length_map, List.length_append, List.length_replicate, List.length_set, List.length_nil, List.length_cons]; omega)) ?_
    | refine Br.yes rfl ?_
    | refine Br.no rfl ?_
    | refine Br.yes (by first | (simp only [ltB_t, ltB_f, eqB_t, eqB_f, pB_t, pB_f, sEq_t, sEq_f, emp_iff, ne_eq, List.length_map, Bool.not_eq_true, Bool.not_eq_false, Bool.not_eq_eq_eq_not, Bool.not_true, Bool.not_false]; done) | (simp only [ltB_t, ltB_f, eqB_t, eqB_f, pB_t, pB_f, sEq_t, sEq_f, emp_iff, ne_eq, List.length_map, Bool.not_eq_true, Bool.not_eq_false, Bool.not_eq_eq_eq_not, Bool.not_true, Bool.not_false]; omega) | (simp only [ltB_t, ltB_f, eqB_t, eqB_f, pB_t, pB_f, sEq_t, sEq_f, emp_iff, ne_eq, List.length_map, Bool.not_eq_true, Bool.not_eq_false, Bool.not_eq_eq_eq_not, Bool.not_true, Bool.not_false]; assumption)) ?_
    | refine Br.no (by first | (simp only [ltB_t, ltB_f, eqB_t, eqB_f, pB_t, pB_f, sEq_t, sEq_f, emp_iff, ne_eq, List.length_map, Bool.not_eq_true, Bool.not_eq_false, Bool.not_eq_eq_eq_not, Bool.not_true, Bool.not_false]; done) | (simp only [ltB_t, ltB_f, eqB_t, eqB_f, pB_t, pB_f, sEq_t, sEq_f, emp_iff, ne_eq, List.length_map, Bool.not_eq_true, Bool.not_eq_false, Bool.not_eq_eq_eq_not, Bool.not_true, Bool.not_false]; omega) | (simp only [ltB_t, ltB_f, eqB_t, eqB_f, pB_t, pB_f, sEq_t, sEq_f, emp_iff, ne_eq, List.length_map, Bool.not_eq_true, Bool.not_eq_false, Bool.not_eq_eq_eq_not, Bool.not_true, Bool.not_false]; assumption)) ?_
    | (refine Br.mk ?_ ?_ <;> intro h <;> (try simp only [ltB_t, ltB_f, eqB_t, eqB_f, pB_t, pB_f, sEq_t, sEq_f, emp_iff, ne_eq, List.length_map, Bool.not_eq_true, Bool.not_eq_false, Bool.not_eq_eq_eq_not, Bool.not_true, Bool.not_false] at h))
    | refine Ixv.mk (by omega) (ixE (by omega) (by omega)) ?_
    | refine Elt.mk rfl ?_
    | refine Elt.mk (by assumption) ?_
    | refine Elt.mk (ixE (by omega) (by omega)) ?_
    | refine E.read tt (rd_lenF tt rfl rfl rfl rfl hg) rfl ?_
    | (fail "callY")
    | refine E.call tt h_abs rfl rfl ⟨_, rfl, by omega, by omega, _, _, rfl, rfl, ?_⟩
    | refine E.regionQ tt (id := 9) mixed (by decide +kernel) ?_
    | refine E.regionT tt (id := 13) 21 mixed (by decide +kernel) ?_)) <;> (try (conv => whnf))
    all_goals first
      | (exfalso; omega)
      | exact ⟨_, ⟨rfl, rfl, rfl⟩, allSc_ok _ rfl, (fun r h => by cases h; exact ⟨_, rfl, rfl, rfl⟩), rfl, hK _ _ _ hg hb hap⟩
theorem h_runS : ∀ d, YHolds Try.prog 81 (cRunS 121 2 d)
  | 0 => h_run0
  | d + 1 => by
    have ih := h_runS d
    refine E.mkY tt Try.func81 rfl Try.ntmps81 rfl (by kernel_rfl) ?_
    rintro _ _ X K ⟨xs, ys, bud, gv, bv, g, sum, s0, rfl, rfl, hg, hb, hap, hX, hY, hlen, hsum, hms, hbud, hfl, hK⟩
    have hlx : (xs.map D.Mode.enc).length = xs.length := by simp
    have hly : (ys.map D.Mode.enc).length = ys.length := by simp
    have hlg : (g.map encI).length = g.length := by simp
    have hxl := hX.le
    have hyl := hY.le
    refine ⟨Nat.le_of_ble_eq_true rfl, ?_⟩
    (repeat' ((conv => whnf); first
    | refine Sd.mk (by first | omega | (unfold in64; omega) | (simp only [fitK, in64]; omega) | (simp only [fitK, in64, chunk, List.length_map, List.length_append, List.length_replicate, List.length_set, List.length_nil, List.length_cons]; omega)) ?_
    | refine Br.yes rfl ?_
    | refine Br.no rfl ?_
    | refine Br.yes (by first | (simp only [ltB_t, ltB_f, eqB_t, eqB_f, pB_t, pB_f, sEq_t, sEq_f, emp_iff, ne_eq, List.length_map, Bool.not_eq_true, Bool.not_eq_false, Bool.not_eq_eq_eq_not, Bool.not_true, Bool.not_false]; done) | (simp only [ltB_t, ltB_f, eqB_t, eqB_f, pB_t, pB_f, sEq_t, sEq_f, emp_iff, ne_eq, List.length_map, Bool.not_eq_true, Bool.not_eq_false, Bool.not_eq_eq_eq_not, Bool.not_true, Bool.not_false]; omega) | (simp only [ltB_t, ltB_f, eqB_t, eqB_f, pB_t, pB_f, sEq_t, sEq_f, emp_iff, ne_eq, List.length_map, Bool.not_eq_true, Bool.not_eq_false, Bool.not_eq_eq_eq_not, Bool.not_true, Bool.not_false]; assumption)) ?_
    | refine Br.no (by first | (simp only [ltB_t, ltB_f, eqB_t, eqB_f, pB_t, pB_f, sEq_t, sEq_f, emp_iff, ne_eq, List.length_map, Bool.not_eq_true, Bool.not_eq_false, Bool.not_eq_eq_eq_not, Bool.not_true, Bool.not_false]; done) | (simp only [ltB_t, ltB_f, eqB_t, eqB_f, pB_t, pB_f, sEq_t, sEq_f, emp_iff, ne_eq, List.length_map, Bool.not_eq_true, Bool.not_eq_false, Bool.not_eq_eq_eq_not, Bool.not_true, Bool.not_false]; omega) | (simp only [ltB_t, ltB_f, eqB_t, eqB_f, pB_t, pB_f, sEq_t, sEq_f, emp_iff, ne_eq, List.length_map, Bool.not_eq_true, Bool.not_eq_false, Bool.not_eq_eq_eq_not, Bool.not_true, Bool.not_false]; assumption)) ?_
    | (refine Br.mk ?_ ?_ <;> intro h <;> (try simp only [ltB_t, ltB_f, eqB_t, eqB_f, pB_t, pB_f, sEq_t, sEq_f, emp_iff, ne_eq, List.length_map, Bool.not_eq_true, Bool.not_eq_false, Bool.not_eq_eq_eq_not, Bool.not_true, Bool.not_false] at h))
    | refine Ixv.mk (by omega) (ixE (by omega) (by omega)) ?_
    | refine Elt.mk rfl ?_
    | refine Elt.mk (by assumption) ?_
    | refine Elt.mk (ixE (by omega) (by omega)) ?_
    | refine E.read tt (rd_lenF tt rfl rfl rfl rfl hg) rfl ?_
    | (fail "callY")
    | refine E.call tt h_abs rfl rfl ⟨_, rfl, by omega, by omega, _, _, rfl, rfl, ?_⟩
    | refine E.regionQ tt (id := 9) mixed (by decide +kernel) ?_
    | refine E.regionT tt (id := 13) 21 mixed (by decide +kernel) ?_)) <;> (try (conv => whnf))
    all_goals try (exfalso; omega)
    refine E.loop tt (fun p : Int × Value × Value × Frag => (0 ≤ p.1 ∧ p.1 ≤ ys.length) ∧ FV 2 p.2.2.2 p.2.1 (g.map encI) ∧ FV 2 p.2.2.2 p.2.2.1 ((mmL xs ys bud d g sum s0 p.1).best.map encI) ∧ apart p.2.1 p.2.2.1) (fun p => ⟨125, 1, [(0, .loc 0 0 0), (1, .p (I sum)), (4, .p (I g.length)), (5, .p (I p.1))], [(0, mrS 121 xs ys bud p.2.1 p.2.2.1 (mmL xs ys bud d g sum s0 p.1))], p.2.2.2⟩) (fun p => (ys.length - p.1).toNat) (0, gv, bv, X) ⟨⟨by dsimp only; omega, by dsimp only; omega⟩, hg, by rw [mmL_zero]; exact hb, hap⟩ ⟨rfl, ⟨rfl, rfl, pI (by rw [hlg]), rfl, trivial⟩, ⟨(by rw [mmL_zero]; rfl), trivial⟩, rfl, rfl, fun _ _ h => h⟩ ?_
    rintro p ⟨⟨hi0, hi1⟩, hgp, hbp, happ⟩
    have hmp := mmL_b (xs := xs) (k := p.1) (by omega) hsum.1 hms hi0 hi1
    have hstop := mmR_stop (xs := xs) (ys := ys) (bud := bud) (d := d) (g := g) (sum := sum) (s := s0) hi0 hi1
    have hsu := mmL_succ (xs := xs) (ys := ys) (bud := bud) (d := d) (g := g) (sum := sum) (s := s0) hi0
    have hend : p.1 = ys.length → mmR xs ys bud (d + 1) g sum s0 = mmL xs ys bud d g sum s0 p.1 := fun h => by rw [h]; rfl
    generalize hs : mmL xs ys bud d g sum s0 p.1 = s at *
    obtain ⟨nd, fl, le, bs⟩ := s
    dsimp only at hstop
    cases fl with
    | true =>
      rw [hstop rfl] at hK
      (repeat' ((conv => whnf); first
    | refine Sd.mk (by first | omega | (unfold in64; omega) | (simp only [fitK, in64]; omega) | (simp only [fitK, in64, chunk, List.length_map, List.length_append, List.length_replicate, List.length_set, List.length_nil, List.length_cons]; omega)) ?_
    | refine Br.yes rfl ?_
    | refine Br.no rfl ?_
    | refine Br.yes (by first | (simp only [ltB_t, ltB_f, eqB_t, eqB_f, pB_t, pB_f, sEq_t, sEq_f, emp_iff, ne_eq, List.length_map, Bool.not_eq_true, Bool.not_eq_false, Bool.not_eq_eq_eq_not, Bool.not_true, Bool.not_false]; done) | (simp only [ltB_t, ltB_f, eqB_t, eqB_f, pB_t, pB_f, sEq_t, sEq_f, emp_iff, ne_eq, List.length_map, Bool.not_eq_true, Bool.not_eq_false, Bool.not_eq_eq_eq_not, Bool.not_true, Bool.not_false]; omega) | (simp only [ltB_t, ltB_f, eqB_t, eqB_f, pB_t, pB_f, sEq_t, sEq_f, emp_iff, ne_eq, List.length_map, Bool.not_eq_true, Bool.not_eq_false, Bool.not_eq_eq_eq_not, Bool.not_true, Bool.not_false]; assumption)) ?_
    | refine Br.no (by first | (simp only [ltB_t, ltB_f, eqB_t, eqB_f, pB_t, pB_f, sEq_t, sEq_f, emp_iff, ne_eq, List.length_map, Bool.not_eq_true, Bool.not_eq_false, Bool.not_eq_eq_eq_not, Bool.not_true, Bool.not_false]; done) | (simp only [ltB_t, ltB_f, eqB_t, eqB_f, pB_t, pB_f, sEq_t, sEq_f, emp_iff, ne_eq, List.length_map, Bool.not_eq_true, Bool.not_eq_false, Bool.not_eq_eq_eq_not, Bool.not_true, Bool.not_false]; omega) | (simp only [ltB_t, ltB_f, eqB_t, eqB_f, pB_t, pB_f, sEq_t, sEq_f, emp_iff, ne_eq, List.length_map, Bool.not_eq_true, Bool.not_eq_false, Bool.not_eq_eq_eq_not, Bool.not_true, Bool.not_false]; assumption)) ?_
    | (refine Br.mk ?_ ?_ <;> intro h <;> (try simp only [ltB_t, ltB_f, eqB_t, eqB_f, pB_t, pB_f, sEq_t, sEq_f, emp_iff, ne_eq, List.length_map, Bool.not_eq_true, Bool.not_eq_false, Bool.not_eq_eq_eq_not, Bool.not_true, Bool.not_false] at h))
    | refine Ixv.mk (by omega) (ixE (by omega) (by omega)) ?_
    | refine Elt.mk rfl ?_
    | refine Elt.mk (by assumption) ?_
    | refine Elt.mk (ixE (by omega) (by omega)) ?_
    | (fail "callY")
    | refine E.call tt h_abs rfl rfl ⟨_, rfl, by omega, by omega, _, _, rfl, rfl, ?_⟩
    | refine E.regionQ tt (id := 9) mixed (by decide +kernel) ?_
    | refine E.regionT tt (id := 13) 21 mixed (by decide +kernel) ?_)) <;> (try (conv => whnf))
      all_goals first
        | (exfalso; omega)
        | exact ⟨_, ⟨rfl, rfl, rfl⟩, allSc_ok _ rfl, (fun r h => by cases h; exact ⟨_, rfl, rfl, rfl⟩), rfl, hK _ _ _ hgp hbp happ⟩
    | false =>
      rcases Int.lt_or_le p.1 ys.length with hlt | hge
      · obtain ⟨⟨hn0, hn1⟩, hbl, hle1⟩ := id hmp
        dsimp only at hn0 hn1 hbl hle1
        have hx1 := hX.at (i := (g.length : Int)) (by omega) (by omega)
        have hy1 := hY.at hi0 hlt
        unfold ModeOk at hx1 hy1
        by_cases hin : p.1 ∈ g
        · rw [mmF_in hin] at hsu
          (repeat' ((conv => whnf); first
    | refine Sd.mk (by first | omega | (unfold in64; omega) | (simp only [fitK, in64]; omega) | (simp only [fitK, in64, chunk, List.length_map, List.length_append, List.length_replicate, List.length_set, List.length_nil, List.length_cons]; omega)) ?_
    | refine Br.yes rfl ?_
    | refine Br.no rfl ?_
    | refine Br.yes (by first | (simp only [ltB_t, ltB_f, eqB_t, eqB_f, pB_t, pB_f, sEq_t, sEq_f, emp_iff, ne_eq, List.length_map, Bool.not_eq_true, Bool.not_eq_false, Bool.not_eq_eq_eq_not, Bool.not_true, Bool.not_false]; done) | (simp only [ltB_t, ltB_f, eqB_t, eqB_f, pB_t, pB_f, sEq_t, sEq_f, emp_iff, ne_eq, List.length_map, Bool.not_eq_true, Bool.not_eq_false, Bool.not_eq_eq_eq_not, Bool.not_true, Bool.not_false]; omega) | (simp only [ltB_t, ltB_f, eqB_t, eqB_f, pB_t, pB_f, sEq_t, sEq_f, emp_iff, ne_eq, List.length_map, Bool.not_eq_true, Bool.not_eq_false, Bool.not_eq_eq_eq_not, Bool.not_true, Bool.not_false]; assumption)) ?_
    | refine Br.no (by first | (simp only [ltB_t, ltB_f, eqB_t, eqB_f, pB_t, pB_f, sEq_t, sEq_f, emp_iff, ne_eq, List.length_map, Bool.not_eq_true, Bool.not_eq_false, Bool.not_eq_eq_eq_not, Bool.not_true, Bool.not_false]; done) | (simp only [ltB_t, ltB_f, eqB_t, eqB_f, pB_t, pB_f, sEq_t, sEq_f, emp_iff, ne_eq, List.length_map, Bool.not_eq_true, Bool.not_eq_false, Bool.not_eq_eq_eq_not, Bool.not_true, Bool.not_false]; omega) | (simp only [ltB_t, ltB_f, eqB_t, eqB_f, pB_t, pB_f, sEq_t, sEq_f, emp_iff, ne_eq, List.length_map, Bool.not_eq_true, Bool.not_eq_false, Bool.not_eq_eq_eq_not, Bool.not_true, Bool.not_false]; assumption)) ?_
    | (refine Br.mk ?_ ?_ <;> intro h <;> (try simp only [ltB_t, ltB_f, eqB_t, eqB_f, pB_t, pB_f, sEq_t, sEq_f, emp_iff, ne_eq, List.length_map, Bool.not_eq_true, Bool.not_eq_false, Bool.not_eq_eq_eq_not, Bool.not_true, Bool.not_false] at h))
    | refine Ixv.mk (by omega) (ixE (by omega) (by omega)) ?_
    | refine Elt.mk rfl ?_
    | refine Elt.mk (by assumption) ?_
    | refine Elt.mk (ixE (by omega) (by omega)) ?_
    | (fail "callY")
    | refine E.call tt h_abs rfl rfl ⟨_, rfl, by omega, by omega, _, _, rfl, rfl, ?_⟩
    | refine E.regionQ tt (id := 9) mixed (by decide +kernel) ?_
    | refine E.regionT tt (id := 13) 21 mixed (by decide +kernel) ?_)) <;> (try (conv => whnf))
          all_goals try (exfalso; omega)
          refine E.callD tt (args := [.view 1 (g.map encI), I p.1]) h_has ⟨Deep.fv rfl hgp, Deep.rd rfl, trivial⟩ rfl ⟨g, p.1, _, rfl, by omega, .inl ⟨hin, rfl⟩, _, _, rfl, rfl, ?_⟩
          (repeat' ((conv => whnf); first
    | refine Sd.mk (by first | omega | (unfold in64; omega) | (simp only [fitK, in64]; omega) | (simp only [fitK, in64, chunk, List.length_map, List.length_append, List.length_replicate, List.length_set, List.length_nil, List.length_cons]; omega)) ?_
    | refine Br.yes rfl ?_
    | refine Br.no rfl ?_
    | refine Br.yes (by first | (simp only [ltB_t, ltB_f, eqB_t, eqB_f, pB_t, pB_f, sEq_t, sEq_f, emp_iff, ne_eq, List.length_map, Bool.not_eq_true, Bool.not_eq_false, Bool.not_eq_eq_eq_not, Bool.not_true, Bool.not_false]; done) | (simp only [ltB_t, ltB_f, eqB_t, eqB_f, pB_t, pB_f, sEq_t, sEq_f, emp_iff, ne_eq, List.length_map, Bool.not_eq_true, Bool.not_eq_false, Bool.not_eq_eq_eq_not, Bool.not_true, Bool.not_false]; omega) | (simp only [ltB_t, ltB_f, eqB_t, eqB_f, pB_t, pB_f, sEq_t, sEq_f, emp_iff, ne_eq, List.length_map, Bool.not_eq_true, Bool.not_eq_false, Bool.not_eq_eq_eq_not, Bool.not_true, Bool.not_false]; assumption)) ?_
    | refine Br.no (by first | (simp only [ltB_t, ltB_f, eqB_t, eqB_f, pB_t, pB_f, sEq_t, sEq_f, emp_iff, ne_eq, List.length_map, Bool.not_eq_true, Bool.not_eq_false, Bool.not_eq_eq_eq_not, Bool.not_true, Bool.not_false]; done) | (simp only [ltB_t, ltB_f, eqB_t, eqB_f, pB_t, pB_f, sEq_t, sEq_f, emp_iff, ne_eq, List.length_map, Bool.not_eq_true, Bool.not_eq_false, Bool.not_eq_eq_eq_not, Bool.not_true, Bool.not_false]; omega) | (simp only [ltB_t, ltB_f, eqB_t, eqB_f, pB_t, pB_f, sEq_t, sEq_f, emp_iff, ne_eq, List.length_map, Bool.not_eq_true, Bool.not_eq_false, Bool.not_eq_eq_eq_not, Bool.not_true, Bool.not_false]; assumption)) ?_
    | (refine Br.mk ?_ ?_ <;> intro h <;> (try simp only [ltB_t, ltB_f, eqB_t, eqB_f, pB_t, pB_f, sEq_t, sEq_f, emp_iff, ne_eq, List.length_map, Bool.not_eq_true, Bool.not_eq_false, Bool.not_eq_eq_eq_not, Bool.not_true, Bool.not_false] at h))
    | refine Ixv.mk (by omega) (ixE (by omega) (by omega)) ?_
    | refine Elt.mk rfl ?_
    | refine Elt.mk (by assumption) ?_
    | refine Elt.mk (ixE (by omega) (by omega)) ?_
    | (fail "callY")
    | refine E.call tt h_abs rfl rfl ⟨_, rfl, by omega, by omega, _, _, rfl, rfl, ?_⟩
    | refine E.regionQ tt (id := 9) mixed (by decide +kernel) ?_
    | refine E.regionT tt (id := 13) 21 mixed (by decide +kernel) ?_)) <;> (try (conv => whnf))
          all_goals (refine ⟨(p.1 + 1, p.2.1, p.2.2.1, p.2.2.2), ⟨⟨by dsimp only; omega, by dsimp only; omega⟩, hgp, by dsimp only; rw [hsu]; exact hbp, happ⟩, by dsimp only; omega, ⟨rfl, ⟨rfl, rfl, rfl, rfl, trivial⟩, ⟨(by rw [hsu]; rfl), trivial⟩, rfl, rfl, fun _ _ h => h⟩⟩)
        · by_cases hnb : nd = bud
          · rw [mmF_full rfl hin hnb] at hsu
            have hst2 := mmR_stop (xs := xs) (ys := ys) (bud := bud) (d := d) (g := g) (sum := sum) (s := s0) (k := p.1 + 1) (by omega) (by omega) (by rw [hsu]; rfl)
            rw [hst2, hsu] at hK
            (repeat' ((conv => whnf); first
    | refine Sd.mk (by first | omega | (unfold in64; omega) | (simp only [fitK, in64]; omega) | (simp only [fitK, in64, chunk, List.length_map, List.length_append, List.length_replicate, List.length_set, List.length_nil, List.length_cons]; omega)) ?_
    | refine Br.yes rfl ?_
    | refine Br.no rfl ?_
    | refine Br.yes (by first | (simp only [ltB_t, ltB_f, eqB_t, eqB_f, pB_t, pB_f, sEq_t, sEq_f, emp_iff, ne_eq, List.length_map, Bool.not_eq_true, Bool.not_eq_false, Bool.not_eq_eq_eq_not, Bool.not_true, Bool.not_false]; done) | (simp only [ltB_t, ltB_f, eqB_t, eqB_f, pB_t, pB_f, sEq_t, sEq_f, emp_iff, ne_eq, List.length_map, Bool.not_eq_true, Bool.not_eq_false, Bool.not_eq_eq_eq_not, Bool.not_true, Bool.not_false]; omega) | (simp only [ltB_t, ltB_f, eqB_t, eqB_f, pB_t, pB_f, sEq_t, sEq_f, emp_iff, ne_eq, List.length_map, Bool.not_eq_true, Bool.not_eq_false, Bool.not_eq_eq_eq_not, Bool.not_true, Bool.not_false]; assumption)) ?_
    | refine Br.no (by first | (simp only [ltB_t, ltB_f, eqB_t, eqB_f, pB_t, pB_f, sEq_t, sEq_f, emp_iff, ne_eq, List.length_map, Bool.not_eq_true, Bool.not_eq_false, Bool.not_eq_eq_eq_not, Bool.not_true, Bool.not_false]; done) | (simp only [ltB_t, ltB_f, eqB_t, eqB_f, pB_t, pB_f, sEq_t, sEq_f, emp_iff, ne_eq, List.length_map, Bool.not_eq_true, Bool.not_eq_false, Bool.not_eq_eq_eq_not, Bool.not_true, Bool.not_false]; omega) | (simp only [ltB_t, ltB_f, eqB_t, eqB_f, pB_t, pB_f, sEq_t, sEq_f, emp_iff, ne_eq, List.length_map, Bool.not_eq_true, Bool.not_eq_false, Bool.not_eq_eq_eq_not, Bool.not_true, Bool.not_false]; assumption)) ?_
    | (refine Br.mk ?_ ?_ <;> intro h <;> (try simp only [ltB_t, ltB_f, eqB_t, eqB_f, pB_t, pB_f, sEq_t, sEq_f, emp_iff, ne_eq, List.length_map, Bool.not_eq_true, Bool.not_eq_false, Bool.not_eq_eq_eq_not, Bool.not_true, Bool.not_false] at h))
    | refine Ixv.mk (by omega) (ixE (by omega) (by omega)) ?_
    | refine Elt.mk rfl ?_
    | refine Elt.mk (by assumption) ?_
    | refine Elt.mk (ixE (by omega) (by omega)) ?_
    | (fail "callY")
    | refine E.call tt h_abs rfl rfl ⟨_, rfl, by omega, by omega, _, _, rfl, rfl, ?_⟩
    | refine E.regionQ tt (id := 9) mixed (by decide +kernel) ?_
    | refine E.regionT tt (id := 13) 21 mixed (by decide +kernel) ?_)) <;> (try (conv => whnf))
            all_goals try (exfalso; omega)
            refine E.callD tt (args := [.view 1 (g.map encI), I p.1]) h_has ⟨Deep.fv rfl hgp, Deep.rd rfl, trivial⟩ rfl ⟨g, p.1, _, rfl, by omega, .inr ⟨hin, rfl⟩, _, _, rfl, rfl, ?_⟩
            (repeat' ((conv => whnf); first
    | refine Sd.mk (by first | omega | (unfold in64; omega) | (simp only [fitK, in64]; omega) | (simp only [fitK, in64, chunk, List.length_map, List.length_append, List.length_replicate, List.length_set, List.length_nil, List.length_cons]; omega)) ?_
    | refine Br.yes rfl ?_
    | refine Br.no rfl ?_
    | refine Br.yes (by first | (simp only [ltB_t, ltB_f, eqB_t, eqB_f, pB_t, pB_f, sEq_t, sEq_f, emp_iff, ne_eq, List.length_map, Bool.not_eq_true, Bool.not_eq_false, Bool.not_eq_eq_eq_not, Bool.not_true, Bool.not_false]; done) | (simp only [ltB_t, ltB_f, eqB_t, eqB_f, pB_t, pB_f, sEq_t, sEq_f, emp_iff, ne_eq, List.length_map, Bool.not_eq_true, Bool.not_eq_false, Bool.not_eq_eq_eq_not, Bool.not_true, Bool.not_false]; omega) | (simp only [ltB_t, ltB_f, eqB_t, eqB_f, pB_t, pB_f, sEq_t, sEq_f, emp_iff, ne_eq, List.length_map, Bool.not_eq_true, Bool.not_eq_false, Bool.not_eq_eq_eq_not, Bool.not_true, Bool.not_false]; assumption)) ?_
    | refine Br.no (by first | (simp only [ltB_t, ltB_f, eqB_t, eqB_f, pB_t, pB_f, sEq_t, sEq_f, emp_iff, ne_eq, List.length_map, Bool.not_eq_true, Bool.not_eq_false, Bool.not_eq_eq_eq_not, Bool.not_true, Bool.not_false]; done) | (simp only [ltB_t, ltB_f, eqB_t, eqB_f, pB_t, pB_f, sEq_t, sEq_f, emp_iff, ne_eq, List.length_map, Bool.not_eq_true, Bool.not_eq_false, Bool.not_eq_eq_eq_not, Bool.not_true, Bool.not_false]; omega) | (simp only [ltB_t, ltB_f, eqB_t, eqB_f, pB_t, pB_f, sEq_t, sEq_f, emp_iff, ne_eq, List.length_map, Bool.not_eq_true, Bool.not_eq_false, Bool.not_eq_eq_eq_not, Bool.not_true, Bool.not_false]; assumption)) ?_
    | (refine Br.mk ?_ ?_ <;> intro h <;> (try simp only [ltB_t, ltB_f, eqB_t, eqB_f, pB_t, pB_f, sEq_t, sEq_f, emp_iff, ne_eq, List.length_map, Bool.not_eq_true, Bool.not_eq_false, Bool.not_eq_eq_eq_not, Bool.not_true, Bool.not_false] at h))
    | refine Ixv.mk (by omega) (ixE (by omega) (by omega)) ?_
    | refine Elt.mk rfl ?_
    | refine Elt.mk (by assumption) ?_
    | refine Elt.mk (ixE (by omega) (by omega)) ?_
    | (fail "callY")
    | refine E.call tt h_abs rfl rfl ⟨_, rfl, by omega, by omega, _, _, rfl, rfl, ?_⟩
    | refine E.regionQ tt (id := 9) mixed (by decide +kernel) ?_
    | refine E.regionT tt (id := 13) 21 mixed (by decide +kernel) ?_)) <;> (try (conv => whnf))
            all_goals first
              | (exfalso; omega)
              | exact ⟨_, ⟨rfl, rfl, rfl⟩, allSc_ok _ rfl, (fun r h => by cases h; exact ⟨_, rfl, rfl, rfl⟩), rfl, hK _ _ _ hgp hbp happ⟩
          · rw [mmF_go rfl hin hnb] at hsu
            have hdl := tdist_le hX hY (i := (g.length : Int)) (by omega) (by omega) hi0 hlt
            have hdn := tdist_nn xs ys g.length p.1
            have hup := msB_up hmp hnb
            (repeat' ((conv => whnf); first
    | refine Sd.mk (by first | omega | (unfold in64; omega) | (simp only [fitK, in64]; omega) | (simp only [fitK, in64, chunk, List.length_map, List.length_append, List.length_replicate, List.length_set, List.length_nil, List.length_cons]; omega)) ?_
    | refine Br.yes rfl ?_
    | refine Br.no rfl ?_
    | refine Br.yes (by first | (simp only [ltB_t, ltB_f, eqB_t, eqB_f, pB_t, pB_f, sEq_t, sEq_f, emp_iff, ne_eq, List.length_map, Bool.not_eq_true, Bool.not_eq_false, Bool.not_eq_eq_eq_not, Bool.not_true, Bool.not_false]; done) | (simp only [ltB_t, ltB_f, eqB_t, eqB_f, pB_t, pB_f, sEq_t, sEq_f, emp_iff, ne_eq, List.length_map, Bool.not_eq_true, Bool.not_eq_false, Bool.not_eq_eq_eq_not, Bool.not_true, Bool.not_false]; omega) | (simp only [ltB_t, ltB_f, eqB_t, eqB_f, pB_t, pB_f, sEq_t, sEq_f, emp_iff, ne_eq, List.length_map, Bool.not_eq_true, Bool.not_eq_false, Bool.not_eq_eq_eq_not, Bool.not_true, Bool.not_false]; assumption)) ?_
    | refine Br.no (by first | (simp only [ltB_t, ltB_f, eqB_t, eqB_f, pB_t, pB_f, sEq_t, sEq_f, emp_iff, ne_eq, List.length_map, Bool.not_eq_true, Bool.not_eq_false, Bool.not_eq_eq_eq_not, Bool.not_true, Bool.not_false]; done) | (simp only [ltB_t, ltB_f, eqB_t, eqB_f, pB_t, pB_f, sEq_t, sEq_f, emp_iff, ne_eq, List.length_map, Bool.not_eq_true, Bool.not_eq_false, Bool.not_eq_eq_eq_not, Bool.not_true, Bool.not_false]; omega) | (simp only [ltB_t, ltB_f, eqB_t, eqB_f, pB_t, pB_f, sEq_t, sEq_f, emp_iff, ne_eq, List.length_map, Bool.not_eq_true, Bool.not_eq_false, Bool.not_eq_eq_eq_not, Bool.not_true, Bool.not_false]; assumption)) ?_
    | (refine Br.mk ?_ ?_ <;> intro h <;> (try simp only [ltB_t, ltB_f, eqB_t, eqB_f, pB_t, pB_f, sEq_t, sEq_f, emp_iff, ne_eq, List.length_map, Bool.not_eq_true, Bool.not_eq_false, Bool.not_eq_eq_eq_not, Bool.not_true, Bool.not_false] at h))
    | refine Ixv.mk (by omega) (ixE (by omega) (by omega)) ?_
    | refine Elt.mk rfl ?_
    | refine Elt.mk (by assumption) ?_
    | refine Elt.mk (ixE (by omega) (by omega)) ?_
    | (fail "callY")
    | refine E.call tt h_abs rfl rfl ⟨_, rfl, by omega, by omega, _, _, rfl, rfl, ?_⟩
    | refine E.regionQ tt (id := 9) mixed (by decide +kernel) ?_
    | refine E.regionT tt (id := 13) 21 mixed (by decide +kernel) ?_)) <;> (try (conv => whnf))
            all_goals try (exfalso; omega)
            refine E.callD tt (args := [.view 1 (g.map encI), I p.1]) h_has ⟨Deep.fv rfl hgp, Deep.rd rfl, trivial⟩ rfl ⟨g, p.1, _, rfl, by omega, .inr ⟨hin, rfl⟩, _, _, rfl, rfl, ?_⟩
            (repeat' ((conv => whnf); first
    | refine Sd.mk (by first | omega | (unfold in64; omega) | (simp only [fitK, in64]; omega) | (simp only [fitK, in64, chunk, List.length_map, List.length_append, List.length_replicate, List.length_set, List.length_nil, List.length_cons]; omega)) ?_
    | refine Br.yes rfl ?_
    | refine Br.no rfl ?_
    | refine Br.yes (by first | (simp only [ltB_t, ltB_f, eqB_t, eqB_f, pB_t, pB_f, sEq_t, sEq_f, emp_iff, ne_eq, List.length_map, Bool.not_eq_true, Bool.not_eq_false, Bool.not_eq_eq_eq_not, Bool.not_true, Bool.not_false]; done) | (simp only [ltB_t, ltB_f, eqB_t, eqB_f, pB_t, pB_f, sEq_t, sEq_f, emp_iff, ne_eq, List.length_map, Bool.not_eq_true, Bool.not_eq_false, Bool.not_eq_eq_eq_not, Bool.not_true, Bool.not_false]; omega) | (simp only [ltB_t, ltB_f, eqB_t, eqB_f, pB_t, pB_f, sEq_t, sEq_f, emp_iff, ne_eq, List.length_map, Bool.not_eq_true, Bool.not_eq_false, Bool.not_eq_eq_eq_not, Bool.not_true, Bool.not_false]; assumption)) ?_
    | refine Br.no (by first | (simp only [ltB_t, ltB_f, eqB_t, eqB_f, pB_t, pB_f, sEq_t, sEq_f, emp_iff, ne_eq, List.length_map, Bool.not_eq_true, Bool.not_eq_false, Bool.not_eq_eq_eq_not, Bool.not_true, Bool.not_false]; done) | (simp only [ltB_t, ltB_f, eqB_t, eqB_f, pB_t, pB_f, sEq_t, sEq_f, emp_iff, ne_eq, List.length_map, Bool.not_eq_true, Bool.not_eq_false, Bool.not_eq_eq_eq_not, Bool.not_true, Bool.not_false]; omega) | (simp only [ltB_t, ltB_f, eqB_t, eqB_f, pB_t, pB_f, sEq_t, sEq_f, emp_iff, ne_eq, List.length_map, Bool.not_eq_true, Bool.not_eq_false, Bool.not_eq_eq_eq_not, Bool.not_true, Bool.not_false]; assumption)) ?_
    | (refine Br.mk ?_ ?_ <;> intro h <;> (try simp only [ltB_t, ltB_f, eqB_t, eqB_f, pB_t, pB_f, sEq_t, sEq_f, emp_iff, ne_eq, List.length_map, Bool.not_eq_true, Bool.not_eq_false, Bool.not_eq_eq_eq_not, Bool.not_true, Bool.not_false] at h))
    | refine Ixv.mk (by omega) (ixE (by omega) (by omega)) ?_
    | refine Elt.mk rfl ?_
    | refine Elt.mk (by assumption) ?_
    | refine Elt.mk (ixE (by omega) (by omega)) ?_
    | (fail "callY")
    | refine E.call tt h_abs rfl rfl ⟨_, rfl, by omega, by omega, _, _, rfl, rfl, ?_⟩
    | refine E.regionQ tt (id := 9) mixed (by decide +kernel) ?_
    | refine E.regionT tt (id := 13) 21 mixed (by decide +kernel) ?_)) <;> (try (conv => whnf))
            all_goals try (exfalso; omega)
            refine E.appFw tt (els2 := [[I p.1]]) rfl rfl rfl rfl rfl rfl hgp rfl (by simp) (one_pl p.1) rfl (by rw [hlg]; simp; omega) fun b2 c2 C2 hC2 hb2 => ?_
            obtain ⟨q1, q2, q3⟩ := two_app hbp hgp happ.symm hb2 hC2
            (repeat' ((conv => whnf); first
    | refine Sd.mk (by first | omega | (unfold in64; omega) | (simp only [fitK, in64]; omega) | (simp only [fitK, in64, chunk, List.length_map, List.length_append, List.length_replicate, List.length_set, List.length_nil, List.length_cons]; omega)) ?_
    | refine Br.yes rfl ?_
    | refine Br.no rfl ?_
    | refine Br.yes (by first | (simp only [ltB_t, ltB_f, eqB_t, eqB_f, pB_t, pB_f, sEq_t, sEq_f, emp_iff, ne_eq, List.length_map, Bool.not_eq_true, Bool.not_eq_false, Bool.not_eq_eq_eq_not, Bool.not_true, Bool.not_false]; done) | (simp only [ltB_t, ltB_f, eqB_t, eqB_f, pB_t, pB_f, sEq_t, sEq_f, emp_iff, ne_eq, List.length_map, Bool.not_eq_true, Bool.not_eq_false, Bool.not_eq_eq_eq_not, Bool.not_true, Bool.not_false]; omega) | (simp only [ltB_t, ltB_f, eqB_t, eqB_f, pB_t, pB_f, sEq_t, sEq_f, emp_iff, ne_eq, List.length_map, Bool.not_eq_true, Bool.not_eq_false, Bool.not_eq_eq_eq_not, Bool.not_true, Bool.not_false]; assumption)) ?_
    | refine Br.no (by first | (simp only [ltB_t, ltB_f, eqB_t, eqB_f, pB_t, pB_f, sEq_t, sEq_f, emp_iff, ne_eq, List.length_map, Bool.not_eq_true, Bool.not_eq_false, Bool.not_eq_eq_eq_not, Bool.not_true, Bool.not_false]; done) | (simp only [ltB_t, ltB_f, eqB_t, eqB_f, pB_t, pB_f, sEq_t, sEq_f, emp_iff, ne_eq, List.length_map, Bool.not_eq_true, Bool.not_eq_false, Bool.not_eq_eq_eq_not, Bool.not_true, Bool.not_false]; omega) | (simp only [ltB_t, ltB_f, eqB_t, eqB_f, pB_t, pB_f, sEq_t, sEq_f, emp_iff, ne_eq, List.length_map, Bool.not_eq_true, Bool.not_eq_false, Bool.not_eq_eq_eq_not, Bool.not_true, Bool.not_false]; assumption)) ?_
    | (refine Br.mk ?_ ?_ <;> intro h <;> (try simp only [ltB_t, ltB_f, eqB_t, eqB_f, pB_t, pB_f, sEq_t, sEq_f, emp_iff, ne_eq, List.length_map, Bool.not_eq_true, Bool.not_eq_false, Bool.not_eq_eq_eq_not, Bool.not_true, Bool.not_false] at h))
    | refine Ixv.mk (by omega) (ixE (by omega) (by omega)) ?_
    | refine Elt.mk rfl ?_
    | refine Elt.mk (by assumption) ?_
    | refine Elt.mk (ixE (by omega) (by omega)) ?_
    | (fail "callY")
    | refine E.call tt h_abs rfl rfl ⟨_, rfl, by omega, by omega, _, _, rfl, rfl, ?_⟩
    | refine E.regionQ tt (id := 9) mixed (by decide +kernel) ?_
    | refine E.regionT tt (id := 13) 21 mixed (by decide +kernel) ?_)) <;> (try (conv => whnf))
            refine E.callYP tt ih rfl rfl rfl rfl rfl rfl ⟨xs, ys, bud, _, p.2.2.1, g ++ [p.1], sum + tdist xs ys g.length p.1, msUp ⟨nd, false, le, bs⟩, rfl, rfl, q2.cast (encI_app _ _), q1, q3.symm, hX, hY, by simp; omega, ⟨by omega, by simp; omega⟩, hup, hbud, rfl, fun gv' bv' X' g1 g2 g3 r' e _ _ => ?_⟩
            cases e
            have gl : ((g ++ [p.1]).map encI).length = g.length + 1 := by simp
            obtain ⟨k1, k2⟩ := g1.cut (n := (g.length : Int).toNat) (by rw [gl]; omega)
            rw [take_app] at k1
            obtain ⟨fb, fc, fC, rfl, hfX, hfC⟩ := g1.open (by rw [gl]; omega)
            have g1 := FV.raw hfX hfC
            (repeat' ((conv => whnf); first
    | refine Sd.mk (by first | omega | (unfold in64; omega) | (simp only [fitK, in64]; omega) | (simp only [fitK, in64, chunk, List.length_map, List.length_append, List.length_replicate, List.length_set, List.length_nil, List.length_cons]; omega)) ?_
    | refine Br.yes rfl ?_
    | refine Br.no rfl ?_
    | refine Br.yes (by first | (simp only [ltB_t, ltB_f, eqB_t, eqB_f, pB_t, pB_f, sEq_t, sEq_f, emp_iff, ne_eq, List.length_map, Bool.not_eq_true, Bool.not_eq_false, Bool.not_eq_eq_eq_not, Bool.not_true, Bool.not_false]; done) | (simp only [ltB_t, ltB_f, eqB_t, eqB_f, pB_t, pB_f, sEq_t, sEq_f, emp_iff, ne_eq, List.length_map, Bool.not_eq_true, Bool.not_eq_false, Bool.not_eq_eq_eq_not, Bool.not_true, Bool.not_false]; omega) | (simp only [ltB_t, ltB_f, eqB_t, eqB_f, pB_t, pB_f, sEq_t, sEq_f, emp_iff, ne_eq, List.length_map, Bool.not_eq_true, Bool.not_eq_false, Bool.not_eq_eq_eq_not, Bool.not_true, Bool.not_false]; assumption)) ?_
    | refine Br.no (by first | (simp only [ltB_t, ltB_f, eqB_t, eqB_f, pB_t, pB_f, sEq_t, sEq_f, emp_iff, ne_eq, List.length_map, Bool.not_eq_true, Bool.not_eq_false, Bool.not_eq_eq_eq_not, Bool.not_true, Bool.not_false]; done) | (simp only [ltB_t, ltB_f, eqB_t, eqB_f, pB_t, pB_f, sEq_t, sEq_f, emp_iff, ne_eq, List.length_map, Bool.not_eq_true, Bool.not_eq_false, Bool.not_eq_eq_eq_not, Bool.not_true, Bool.not_false]; omega) | (simp only [ltB_t, ltB_f, eqB_t, eqB_f, pB_t, pB_f, sEq_t, sEq_f, emp_iff, ne_eq, List.length_map, Bool.not_eq_true, Bool.not_eq_false, Bool.not_eq_eq_eq_not, Bool.not_true, Bool.not_false]; assumption)) ?_
    | (refine Br.mk ?_ ?_ <;> intro h <;> (try simp only [ltB_t, ltB_f, eqB_t, eqB_f, pB_t, pB_f, sEq_t, sEq_f, emp_iff, ne_eq, List.length_map, Bool.not_eq_true, Bool.not_eq_false, Bool.not_eq_eq_eq_not, Bool.not_true, Bool.not_false] at h))
    | refine Ixv.mk (by omega) (ixE (by omega) (by omega)) ?_
    | refine Elt.mk rfl ?_
    | refine Elt.mk (by assumption) ?_
    | refine Elt.mk (ixE (by omega) (by omega)) ?_
    | refine E.read tt (rd_cutF tt rfl rfl rfl rfl rfl g1 rfl (by omega) (by rw [gl]; omega)) rfl ?_
    | (fail "callY")
    | refine E.call tt h_abs rfl rfl ⟨_, rfl, by omega, by omega, _, _, rfl, rfl, ?_⟩
    | refine E.regionQ tt (id := 9) mixed (by decide +kernel) ?_
    | refine E.regionT tt (id := 13) 21 mixed (by decide +kernel) ?_)) <;> (try (conv => whnf))
            all_goals (refine ⟨(p.1 + 1, cutV (.slice (some ⟨fb, 0, none⟩) ((g ++ [p.1]).map encI).length fc) (g.length : Int).toNat, bv', X'), ⟨⟨by dsimp only; omega, by dsimp only; omega⟩, k1, by dsimp only; rw [hsu]; exact g2, g3.cut k2⟩, by dsimp only; omega, ⟨rfl, ⟨rfl, rfl, rfl, rfl, trivial⟩, ⟨(by rw [hsu]; rfl), trivial⟩, rfl, rfl, fun _ _ h => h⟩⟩)
      · have hie : p.1 = ys.length := by omega
        rw [hend hie] at hK
        (repeat' ((conv => whnf); first
    | refine Sd.mk (by first | omega | (unfold in64; omega) | (simp only [fitK, in64]; omega) | (simp only [fitK, in64, chunk, List.length_map, List.length_append, List.length_replicate, List.length_set, List.length_nil, List.length_cons]; omega)) ?_
    | refine Br.yes rfl ?_
    | refine Br.no rfl ?_
    | refine Br.yes (by first | (simp only [ltB_t, ltB_f, eqB_t, eqB_f, pB_t, pB_f, sEq_t, sEq_f, emp_iff, ne_eq, List.length_map, Bool.not_eq_true, Bool.not_eq_false, Bool.not_eq_eq_eq_not, Bool.not_true, Bool.not_false]; done) | (simp only [ltB_t, ltB_f, eqB_t, eqB_f, pB_t, pB_f, sEq_t, sEq_f, emp_iff, ne_eq, List.length_map, Bool.not_eq_true, Bool.not_eq_false, Bool.not_eq_eq_eq_not, Bool.not_true, Bool.not_false]; omega) | (simp only [ltB_t, ltB_f, eqB_t, eqB_f, pB_t, pB_f, sEq_t, sEq_f, emp_iff, ne_eq, List.length_map, Bool.not_eq_true, Bool.not_eq_false, Bool.not_eq_eq_eq_not, Bool.not_true, Bool.not_false]; assumption)) ?_
    | refine Br.no (by first | (simp only [ltB_t, ltB_f, eqB_t, eqB_f, pB_t, pB_f, sEq_t, sEq_f, emp_iff, ne_eq, List.length_map, Bool.not_eq_true, Bool.not_eq_false, Bool.not_eq_eq_eq_not, Bool.not_true, Bool.not_false]; done) | (simp only [ltB_t, ltB_f, eqB_t, eqB_f, pB_t, pB_f, sEq_t, sEq_f, emp_iff, ne_eq, List.length_map, Bool.not_eq_true, Bool.not_eq_false, Bool.not_eq_eq_eq_not, Bool.not_true, Bool.not_false]; omega) | (simp only [ltB_t, ltB_f, eqB_t, eqB_f, pB_t, pB_f, sEq_t, sEq_f, emp_iff, ne_eq, List.length_map, Bool.not_eq_true, Bool.not_eq_false, Bool.not_eq_eq_eq_not, Bool.not_true, Bool.not_false]; assumption)) ?_
    | (refine Br.mk ?_ ?_ <;> intro h <;> (try simp only [ltB_t, ltB_f, eqB_t, eqB_f, pB_t, pB_f, sEq_t, sEq_f, emp_iff, ne_eq, List.length_map, Bool.not_eq_true, Bool.not_eq_false, Bool.not_eq_eq_eq_not, Bool.not_true, Bool.not_false] at h))
    | refine Ixv.mk (by omega) (ixE (by omega) (by omega)) ?_
    | refine Elt.mk rfl ?_
    | refine Elt.mk (by assumption) ?_
    | refine Elt.mk (ixE (by omega) (by omega)) ?_
    | (fail "callY")
    | refine E.call tt h_abs rfl rfl ⟨_, rfl, by omega, by omega, _, _, rfl, rfl, ?_⟩
    | refine E.regionQ tt (id := 9) mixed (by decide +kernel) ?_
    | refine E.regionT tt (id := 13) 21 mixed (by decide +kernel) ?_)) <;> (try (conv => whnf))
        all_goals first
          | (exfalso; omega)
          | exact ⟨_, ⟨rfl, rfl, rfl⟩, allSc_ok _ rfl, (fun r h => by cases h; exact ⟨_, rfl, rfl, rfl⟩), rfl, hK _ _ _ hgp hbp happ⟩
theorem h_cloneI : Holds Try.prog 105 (fun args K => ∃ g : List Int, args = [.view 1 (g.map encI)] ∧ (g.length : Int) ≤ 1048576 ∧ K [.fresh ⟨2, 1, g.map encI⟩]) := by
  refine E.mk tt Try.func105 rfl Try.ntmps105 rfl (by kernel_rfl) ?_
  rintro _ K ⟨g, rfl, hl, hK⟩
  have hln : (g.map encI).length = g.length := by simp
  refine ⟨Nat.le_of_ble_eq_true rfl, _, hK, ?_⟩
  (repeat' ((conv => whnf); first
    | refine Sd.mk (by first | omega | (unfold in64; omega) | (simp only [fitK, in64]; omega) | (simp only [fitK, in64, chunk, List.length_map, List.length_append, List.length_replicate, List.length_set, List.length_nil, List.length_cons]; omega)) ?_
    | refine Br.yes rfl ?_
    | refine Br.no rfl ?_
    | refine Br.yes (by first | (simp only [ltB_t, ltB_f, eqB_t, eqB_f, pB_t, pB_f, sEq_t, sEq_f, emp_iff, ne_eq, List.length_map, Bool.not_eq_true, Bool.not_eq_false, Bool.not_eq_eq_eq_not, Bool.not_true, Bool.not_false]; done) | (simp only [ltB_t, ltB_f, eqB_t, eqB_f, pB_t, pB_f, sEq_t, sEq_f, emp_iff, ne_eq, List.length_map, Bool.not_eq_true, Bool.not_eq_false, Bool.not_eq_eq_eq_not, Bool.not_true, Bool.not_false]; omega) | (simp only [ltB_t, ltB_f, eqB_t, eqB_f, pB_t, pB_f, sEq_t, sEq_f, emp_iff, ne_eq, List.length_map, Bool.not_eq_true, Bool.not_eq_false, Bool.not_eq_eq_eq_not, Bool.not_true, Bool.not_false]; assumption)) ?_
    | refine Br.no (by first | (simp only [ltB_t, ltB_f, eqB_t, eqB_f, pB_t, pB_f, sEq_t, sEq_f, emp_iff, ne_eq, List.length_map, Bool.not_eq_true, Bool.not_eq_false, Bool.not_eq_eq_eq_not, Bool.not_true, Bool.not_false]; done) | (simp only [ltB_t, ltB_f, eqB_t, eqB_f, pB_t, pB_f, sEq_t, sEq_f, emp_iff, ne_eq, List.length_map, Bool.not_eq_true, Bool.not_eq_false, Bool.not_eq_eq_eq_not, Bool.not_true, Bool.not_false]; omega) | (simp only [ltB_t, ltB_f, eqB_t, eqB_f, pB_t, pB_f, sEq_t, sEq_f, emp_iff, ne_eq, List.length_map, Bool.not_eq_true, Bool.not_eq_false, Bool.not_eq_eq_eq_not, Bool.not_true, Bool.not_false]; assumption)) ?_
    | (refine Br.mk ?_ ?_ <;> intro h <;> (try simp only [ltB_t, ltB_f, eqB_t, eqB_f, pB_t, pB_f, sEq_t, sEq_f, emp_iff, ne_eq, List.length_map, Bool.not_eq_true, Bool.not_eq_false, Bool.not_eq_eq_eq_not, Bool.not_true, Bool.not_false] at h))
    | refine Elt.mk rfl ?_
    | refine Elt.mk (by assumption) ?_
    | refine Elt.mk (ixE (by omega) (by omega)) ?_
    | refine Mk.eq (by omega) (by omega) (by omega) ?_
    | refine Mk.zero (by omega) (by omega) (by omega) ?_)) <;> (try (conv => whnf))
  all_goals (exact fin_p rfl rfl rfl rfl)

theorem h_srch0 : YHolds Try.prog 84 (cRunI 127 2 4 0) := by
  refine E.mkY tt Try.func84 rfl Try.ntmps84 rfl (by kernel_rfl) ?_
  rintro _ _ X K ⟨xs, ys, bud, uv, gv, bv, g, sum, ⟨nd, fl, le, bs⟩, rfl, rfl, ⟨hu, hg, hb⟩, ⟨hug, hub, hgb⟩, hX, hY, hlen, hsum, hms, hbud, hfl, hK⟩
  dsimp only at hfl
  subst hfl
  have hlx : (xs.map D.Mode.enc).length = xs.length := by simp
  have hlg : (g.map encI).length = g.length := by simp
  have hxl := hX.le
  refine ⟨Nat.le_of_ble_eq_true rfl, ?_⟩
  have hfd : fdI ⟨nd, false, le, bs⟩ = decide (0 ≤ le) := rfl
  have hls : lsI ⟨nd, false, le, bs⟩ = if le < 0 then 0 else le := rfl
  by_cases hc : le < 0 ∨ sum < le
  · have e0 : mmR xs ys bud 0 g sum ⟨nd, false, le, bs⟩ = ⟨nd, false, sum, g⟩ := if_pos hc
    rw [e0] at hK
    have e1 : fdI ⟨nd, false, sum, g⟩ = true := decide_eq_true hsum.1
    have e2 : lsI ⟨nd, false, sum, g⟩ = sum := if_neg (by dsimp only; omega)
    unfold mrI at hK
    rw [e1, e2] at hK
    unfold mrI
    rw [hfd, hls]
    by_cases hn : le < 0
    · rw [decide_eq_false (by omega : ¬ 0 ≤ le), if_pos hn]
      (repeat' ((conv => whnf); first
    | refine Sd.mk (by first | omega | (unfold in64; omega) | (simp only [fitK, in64]; omega) | (simp only [fitK, in64, chunk, List.length_map, List.length_append, List.length_replicate, List.length_set, List.length_nil, List.length_cons]; omega)) ?_
    | refine Br.yes rfl ?_
    | refine Br.no rfl ?_
    | refine Br.yes (by first | (simp only [ltB_t, ltB_f, eqB_t, eqB_f, pB_t, pB_f, sEq_t, sEq_f, emp_iff, ne_eq, List.length_map, Bool.not_eq_true, Bool.not_eq_false, Bool.not_eq_eq_eq_not, Bool.not_true, Bool.not_false]; done) | (simp only [ltB_t, ltB_f, eqB_t, eqB_f, pB_t, pB_f, sEq_t, sEq_f, emp_iff, ne_eq, List.length_map, Bool.not_eq_true, Bool.not_eq_false, Bool.not_eq_eq_eq_not, Bool.not_true, Bool.not_false]; omega) | (simp only [ltB_t, ltB_f, eqB_t, eqB_f, pB_t, pB_f, sEq_t, sEq_f, emp_iff, ne_eq, List.length_map, Bool.not_eq_true, Bool.not_eq_false, Bool.not_eq_eq_eq_not, Bool.not_true, Bool.not_false]; assumption)) ?_
    | refine Br.no (by first | (simp only [ltB_t, ltB_f, eqB_t, eqB_f, pB_t, pB_f, sEq_t, sEq_f, emp_iff, ne_eq, List.length_map, Bool.not_eq_true, Bool.not_eq_false, Bool.not_eq_eq_eq_not, Bool.not_true, Bool.not_false]; done) | (simp only [ltB_t, ltB_f, eqB_t, eqB_f, pB_t, pB_f, sEq_t, sEq_f, emp_iff, ne_eq, List.length_map, Bool.not_eq_true, Bool.not_eq_false, Bool.not_eq_eq_eq_not, Bool.not_true, Bool.not_false]; omega) | (simp only [ltB_t, ltB_f, eqB_t, eqB_f, pB_t, pB_f, sEq_t, sEq_f, emp_iff, ne_eq, List.length_map, Bool.not_eq_true, Bool.not_eq_false, Bool.not_eq_eq_eq_not, Bool.not_true, Bool.not_false]; assumption)) ?_
    | (refine Br.mk ?_ ?_ <;> intro h <;> (try simp only [ltB_t, ltB_f, eqB_t, eqB_f, pB_t, pB_f, sEq_t, sEq_f, emp_iff, ne_eq, List.length_map, Bool.not_eq_true, Bool.not_eq_false, Bool.not_eq_eq_eq_not, Bool.not_true, Bool.not_false] at h))
    | refine Ixv.mk (by omega) (ixE (by omega) (by omega)) ?_
    | refine Elt.mk rfl ?_
    | refine Elt.mk (by assumption) ?_
    | refine Elt.mk (ixE (by omega) (by omega)) ?_
    | refine E.read tt (rd_lenF tt rfl rfl rfl rfl hg) rfl ?_
    | (fail "callR")
    | refine E.call tt h_dist rfl rfl ⟨_, _, rfl, by omega, by omega, _, _, rfl, rfl, ?_⟩
    | refine E.regionQ tt (id := 3) mixed (by decide +kernel) ?_
    | refine E.regionF tt (id := 4) 7 [0, 8, 9, 10] mixed (by decide +kernel) ?_
    | refine E.regionF tt (id := 4) 7 [0, 1, 2, 8, 9, 10] mixed (by decide +kernel) ?_
    | refine E.regionFY tt (id := 4) [0, 1, 2, 3, 4, 5, 8, 9, 10] 12 (.nd [(6, .nd [(7, .nd [(11, .nd [(12, .nd [(13, .nd [(14, .nd [(15, .nd [(16, .nd [(17, .nd [(18, .nd [(19, .nd [(20, .nd [])])])])])])])])])])]), (11, .nd [(7, .nd [(12, .nd [(13, .nd [(14, .nd [(15, .nd [(16, .nd [(17, .nd [(18, .nd [(19, .nd [(20, .nd [])])])])])])])])])])])]), (11, .nd [(6, .nd [(7, .nd [(12, .nd [(13, .nd [(14, .nd [(15, .nd [(16, .nd [(17, .nd [(18, .nd [(19, .nd [(20, .nd [])])])])])])])])])])])])]) mixed (by decide +kernel) ?_
    | refine Bo.mk ?_ ?_
    | refine E.regionQ tt (id := 13) mixed (by decide +kernel) ?_
    | refine E.regionF tt (id := 14) 12 [0, 1, 2, 4, 7, 8, 9, 14, 15, 16, 18] mixed (by decide +kernel) ?_
    | refine E.regionF tt (id := 14) 12 [0, 1, 2, 4, 5, 6, 7, 8, 9, 14, 15, 16, 18] mixed (by decide +kernel) ?_
    | refine E.regionT tt (id := 16) 20 mixed (by decide +kernel) ?_
    | refine E.regionF tt (id := 16) 20 [5, 6, 11, 17] mixed (by decide +kernel) ?_)) <;> (try (conv => whnf))
      all_goals try (exfalso; omega)
      all_goals (
        refine E.callRD tt (args := [.view 1 (g.map encI)]) h_cloneI ⟨Deep.fv rfl hg, trivial⟩ rfl ⟨g, rfl, by omega, rv1i, ?_⟩
        (repeat' ((conv => whnf); first
    | refine Sd.mk (by first | omega | (unfold in64; omega) | (simp only [fitK, in64]; omega) | (simp only [fitK, in64, chunk, List.length_map, List.length_append, List.length_replicate, List.length_set, List.length_nil, List.length_cons]; omega)) ?_
    | refine Br.yes rfl ?_
    | refine Br.no rfl ?_
    | refine Br.yes (by first | (simp only [ltB_t, ltB_f, eqB_t, eqB_f, pB_t, pB_f, sEq_t, sEq_f, emp_iff, ne_eq, List.length_map, Bool.not_eq_true, Bool.not_eq_false, Bool.not_eq_eq_eq_not, Bool.not_true, Bool.not_false]; done) | (simp only [ltB_t, ltB_f, eqB_t, eqB_f, pB_t, pB_f, sEq_t, sEq_f, emp_iff, ne_eq, List.length_map, Bool.not_eq_true, Bool.not_eq_false, Bool.not_eq_eq_eq_not, Bool.not_true, Bool.not_false]; omega) | (simp only [ltB_t, ltB_f, eqB_t, eqB_f, pB_t, pB_f, sEq_t, sEq_f, emp_iff, ne_eq, List.length_map, Bool.not_eq_true, Bool.not_eq_false, Bool.not_eq_eq_eq_not, Bool.not_true, Bool.not_false]; assumption)) ?_
    | refine Br.no (by first | (simp only [ltB_t, ltB_f, eqB_t, eqB_f, pB_t, pB_f, sEq_t, sEq_f, emp_iff, ne_eq, List.length_map, Bool.not_eq_true, Bool.not_eq_false, Bool.not_eq_eq_eq_not, Bool.not_true, Bool.not_false]; done) | (simp only [ltB_t, ltB_f, eqB_t, eqB_f, pB_t, pB_f, sEq_t, sEq_f, emp_iff, ne_eq, List.length_map, Bool.not_eq_true, Bool.not_eq_false, Bool.not_eq_eq_eq_not, Bool.not_true, Bool.not_false]; omega) | (simp only [ltB_t, ltB_f, eqB_t, eqB_f, pB_t, pB_f, sEq_t, sEq_f, emp_iff, ne_eq, List.length_map, Bool.not_eq_true, Bool.not_eq_false, Bool.not_eq_eq_eq_not, Bool.not_true, Bool.not_false]; assumption)) ?_
    | (refine Br.mk ?_ ?_ <;> intro h <;> (try simp only [ltB_t, ltB_f, eqB_t, eqB_f, pB_t, pB_f, sEq_t, sEq_f, emp_iff, ne_eq, List.length_map, Bool.not_eq_true, Bool.not_eq_false, Bool.not_eq_eq_eq_not, Bool.not_true, Bool.not_false] at h))
    | refine Ixv.mk (by omega) (ixE (by omega) (by omega)) ?_
    | refine Elt.mk rfl ?_
    | refine Elt.mk (by assumption) ?_
    | refine Elt.mk (ixE (by omega) (by omega)) ?_
    | (fail "callR")
    | refine E.call tt h_dist rfl rfl ⟨_, _, rfl, by omega, by omega, _, _, rfl, rfl, ?_⟩
    | refine E.regionQ tt (id := 3) mixed (by decide +kernel) ?_
    | refine E.regionF tt (id := 4) 7 [0, 8, 9, 10] mixed (by decide +kernel) ?_
    | refine E.regionF tt (id := 4) 7 [0, 1, 2, 8, 9, 10] mixed (by decide +kernel) ?_
    | refine E.regionFY tt (id := 4) [0, 1, 2, 3, 4, 5, 8, 9, 10] 12 (.nd [(6, .nd [(7, .nd [(11, .nd [(12, .nd [(13, .nd [(14, .nd [(15, .nd [(16, .nd [(17, .nd [(18, .nd [(19, .nd [(20, .nd [])])])])])])])])])])]), (11, .nd [(7, .nd [(12, .nd [(13, .nd [(14, .nd [(15, .nd [(16, .nd [(17, .nd [(18, .nd [(19, .nd [(20, .nd [])])])])])])])])])])])]), (11, .nd [(6, .nd [(7, .nd [(12, .nd [(13, .nd [(14, .nd [(15, .nd [(16, .nd [(17, .nd [(18, .nd [(19, .nd [(20, .nd [])])])])])])])])])])])])]) mixed (by decide +kernel) ?_
    | refine Bo.mk ?_ ?_
    | refine E.regionQ tt (id := 13) mixed (by decide +kernel) ?_
    | refine E.regionF tt (id := 14) 12 [0, 1, 2, 4, 7, 8, 9, 14, 15, 16, 18] mixed (by decide +kernel) ?_
    | refine E.regionF tt (id := 14) 12 [0, 1, 2, 4, 5, 6, 7, 8, 9, 14, 15, 16, 18] mixed (by decide +kernel) ?_
    | refine E.regionT tt (id := 16) 20 mixed (by decide +kernel) ?_
    | refine E.regionF tt (id := 16) 20 [5, 6, 11, 17] mixed (by decide +kernel) ?_)) <;> (try (conv => whnf))
        refine E.abs tt 43 (l := g) rfl rfl rfl fun b c C hN hx => ?_
        (repeat' ((conv => whnf); first
    | refine Sd.mk (by first | omega | (unfold in64; omega) | (simp only [fitK, in64]; omega) | (simp only [fitK, in64, chunk, List.length_map, List.length_append, List.length_replicate, List.length_set, List.length_nil, List.length_cons]; omega)) ?_
    | refine Br.yes rfl ?_
    | refine Br.no rfl ?_
    | refine Br.yes (by first | (simp only [ltB_t, ltB_f, eqB_t, eqB_f, pB_t, pB_f, sEq_t, sEq_f, emp_iff, ne_eq, List.length_map, Bool.not_eq_true, Bool.not_eq_false, Bool.not_eq_eq_eq_not, Bool.not_true, Bool.not_false]; done) | (simp only [ltB_t, ltB_f, eqB_t, eqB_f, pB_t, pB_f, sEq_t, sEq_f, emp_iff, ne_eq, List.length_map, Bool.not_eq_true, Bool.not_eq_false, Bool.not_eq_eq_eq_not, Bool.not_true, Bool.not_false]; omega) | (simp only [ltB_t, ltB_f, eqB_t, eqB_f, pB_t, pB_f, sEq_t, sEq_f, emp_iff, ne_eq, List.length_map, Bool.not_eq_true, Bool.not_eq_false, Bool.not_eq_eq_eq_not, Bool.not_true, Bool.not_false]; assumption)) ?_
    | refine Br.no (by first | (simp only [ltB_t, ltB_f, eqB_t, eqB_f, pB_t, pB_f, sEq_t, sEq_f, emp_iff, ne_eq, List.length_map, Bool.not_eq_true, Bool.not_eq_false, Bool.not_eq_eq_eq_not, Bool.not_true, Bool.not_false]; done) | (simp only [ltB_t, ltB_f, eqB_t, eqB_f, pB_t, pB_f, sEq_t, sEq_f, emp_iff, ne_eq, List.length_map, Bool.not_eq_true, Bool.not_eq_false, Bool.not_eq_eq_eq_not, Bool.not_true, Bool.not_false]; omega) | (simp only [ltB_t, ltB_f, eqB_t, eqB_f, pB_t, pB_f, sEq_t, sEq_f, emp_iff, ne_eq, List.length_map, Bool.not_eq_true, Bool.not_eq_false, Bool.not_eq_eq_eq_not, Bool.not_true, Bool.not_false]; assumption)) ?_
    | (refine Br.mk ?_ ?_ <;> intro h <;> (try simp only [ltB_t, ltB_f, eqB_t, eqB_f, pB_t, pB_f, sEq_t, sEq_f, emp_iff, ne_eq, List.length_map, Bool.not_eq_true, Bool.not_eq_false, Bool.not_eq_eq_eq_not, Bool.not_true, Bool.not_false] at h))
    | refine Ixv.mk (by omega) (ixE (by omega) (by omega)) ?_
    | refine Elt.mk rfl ?_
    | refine Elt.mk (by assumption) ?_
    | refine Elt.mk (ixE (by omega) (by omega)) ?_
    | (fail "callR")
    | refine E.call tt h_dist rfl rfl ⟨_, _, rfl, by omega, by omega, _, _, rfl, rfl, ?_⟩
    | refine E.regionQ tt (id := 3) mixed (by decide +kernel) ?_
    | refine E.regionF tt (id := 4) 7 [0, 8, 9, 10] mixed (by decide +kernel) ?_
    | refine E.regionF tt (id := 4) 7 [0, 1, 2, 8, 9, 10] mixed (by decide +kernel) ?_
    | refine E.regionFY tt (id := 4) [0, 1, 2, 3, 4, 5, 8, 9, 10] 12 (.nd [(6, .nd [(7, .nd [(11, .nd [(12, .nd [(13, .nd [(14, .nd [(15, .nd [(16, .nd [(17, .nd [(18, .nd [(19, .nd [(20, .nd [])])])])])])])])])])]), (11, .nd [(7, .nd [(12, .nd [(13, .nd [(14, .nd [(15, .nd [(16, .nd [(17, .nd [(18, .nd [(19, .nd [(20, .nd [])])])])])])])])])])])]), (11, .nd [(6, .nd [(7, .nd [(12, .nd [(13, .nd [(14, .nd [(15, .nd [(16, .nd [(17, .nd [(18, .nd [(19, .nd [(20, .nd [])])])])])])])])])])])])]) mixed (by decide +kernel) ?_
    | refine Bo.mk ?_ ?_
    | refine E.regionQ tt (id := 13) mixed (by decide +kernel) ?_
    | refine E.regionF tt (id := 14) 12 [0, 1, 2, 4, 7, 8, 9, 14, 15, 16, 18] mixed (by decide +kernel) ?_
    | refine E.regionF tt (id := 14) 12 [0, 1, 2, 4, 5, 6, 7, 8, 9, 14, 15, 16, 18] mixed (by decide +kernel) ?_
    | refine E.regionT tt (id := 16) 20 mixed (by decide +kernel) ?_
    | refine E.regionF tt (id := 16) 20 [5, 6, 11, 17] mixed (by decide +kernel) ?_)) <;> (try (conv => whnf))
        all_goals (exact ⟨_, ⟨rfl, rfl, rfl⟩, allSc_ok _ rfl, (fun r h => by cases h; exact ⟨_, rfl, rfl, rfl⟩), rfl, hK _ _ _ _ (hu.upd (hu.fresh hx) _) (hg.upd (hg.fresh hx) _) (FV.marked hN rfl) hug (apart_fresh hu hx) (apart_fresh hg hx)⟩))
    · rw [decide_eq_true (by omega : 0 ≤ le), if_neg hn]
      (repeat' ((conv => whnf); first
    | refine Sd.mk (by first | omega | (unfold in64; omega) | (simp only [fitK, in64]; omega) | (simp only [fitK, in64, chunk, List.length_map, List.length_append, List.length_replicate, List.length_set, List.length_nil, List.length_cons]; omega)) ?_
    | refine Br.yes rfl ?_
    | refine Br.no rfl ?_
    | refine Br.yes (by first | (simp only [ltB_t, ltB_f, eqB_t, eqB_f, pB_t, pB_f, sEq_t, sEq_f, emp_iff, ne_eq, List.length_map, Bool.not_eq_true, Bool.not_eq_false, Bool.not_eq_eq_eq_not, Bool.not_true, Bool.not_false]; done) | (simp only [ltB_t, ltB_f, eqB_t, eqB_f, pB_t, pB_f, sEq_t, sEq_f, emp_iff, ne_eq, List.length_map, Bool.not_eq_true, Bool.not_eq_false, Bool.not_eq_eq_eq_not, Bool.not_true, Bool.not_false]; omega) | (simp only [ltB_t, ltB_f, eqB_t, eqB_f, pB_t, pB_f, sEq_t, sEq_f, emp_iff, ne_eq, List.length_map, Bool.not_eq_true, Bool.not_eq_false, Bool.not_eq_eq_eq_not, Bool.not_true, Bool.not_false]; assumption)) ?_
    | refine Br.no (by first | (simp only [ltB_t, ltB_f, eqB_t, eqB_f, pB_t, pB_f, sEq_t, sEq_f, emp_iff, ne_eq, List.length_map, Bool.not_eq_true, Bool.not_eq_false, Bool.not_eq_eq_eq_not, Bool.not_true, Bool.not_false]; done) | (simp only [ltB_t, ltB_f, eqB_t, eqB_f, pB_t, pB_f, sEq_t, sEq_f, emp_iff, ne_eq, List.length_map, Bool.not_eq_true, Bool.not_eq_false, Bool.not_eq_eq_eq_not, Bool.not_true, Bool.not_false]; omega) | (simp only [ltB_t, ltB_f, eqB_t, eqB_f, pB_t, pB_f, sEq_t, sEq_f, emp_iff, ne_eq, List.length_map, Bool.not_eq_true, Bool.not_eq_false, Bool.not_eq_eq_eq_not, Bool.not_true, Bool.not_false]; assumption)) ?_
    | (refine Br.mk ?_ ?_ <;> intro h <;> (try simp only [ltB_t, ltB_f, eqB_t, eqB_f, pB_t, pB_f, sEq_t, sEq_f, emp_iff, ne_eq, List.length_map, Bool.not_eq_true, Bool.not_eq_false, Bool.not_eq_eq_eq_not, Bool.not_true, Bool.not_false] at h))
    | refine Ixv.mk (by omega) (ixE (by omega) (by omega)) ?_
    | refine Elt.mk rfl ?_
    | refine Elt.mk (by assumption) ?_
    | refine Elt.mk (ixE (by omega) (by omega)) ?_
    | refine E.read tt (rd_lenF tt rfl rfl rfl rfl hg) rfl ?_
    | (fail "callR")
    | refine E.call tt h_dist rfl rfl ⟨_, _, rfl, by omega, by omega, _, _, rfl, rfl, ?_⟩
    | refine E.regionQ tt (id := 3) mixed (by decide +kernel) ?_
    | refine E.regionF tt (id := 4) 7 [0, 8, 9, 10] mixed (by decide +kernel) ?_
    | refine E.regionF tt (id := 4) 7 [0, 1, 2, 8, 9, 10] mixed (by decide +kernel) ?_
    | refine E.regionFY tt (id := 4) [0, 1, 2, 3, 4, 5, 8, 9, 10] 12 (.nd [(6, .nd [(7, .nd [(11, .nd [(12, .nd [(13, .nd [(14, .nd [(15, .nd [(16, .nd [(17, .nd [(18, .nd [(19, .nd [(20, .nd [])])])])])])])])])])]), (11, .nd [(7, .nd [(12, .nd [(13, .nd [(14, .nd [(15, .nd [(16, .nd [(17, .nd [(18, .nd [(19, .nd [(20, .nd [])])])])])])])])])])])]), (11, .nd [(6, .nd [(7, .nd [(12, .nd [(13, .nd [(14, .nd [(15, .nd [(16, .nd [(17, .nd [(18, .nd [(19, .nd [(20, .nd [])])])])])])])])])])])])]) mixed (by decide +kernel) ?_
    | refine Bo.mk ?_ ?_
    | refine E.regionQ tt (id := 13) mixed (by decide +kernel) ?_
    | refine E.regionF tt (id := 14) 12 [0, 1, 2, 4, 7, 8, 9, 14, 15, 16, 18] mixed (by decide +kernel) ?_
    | refine E.regionF tt (id := 14) 12 [0, 1, 2, 4, 5, 6, 7, 8, 9, 14, 15, 16, 18] mixed (by decide +kernel) ?_
    | refine E.regionT tt (id := 16) 20 mixed (by decide +kernel) ?_
    | refine E.regionF tt (id := 16) 20 [5, 6, 11, 17] mixed (by decide +kernel) ?_)) <;> (try (conv => whnf))
      all_goals try (exfalso; omega)
      all_goals (
        refine E.callRD tt (args := [.view 1 (g.map encI)]) h_cloneI ⟨Deep.fv rfl hg, trivial⟩ rfl ⟨g, rfl, by omega, rv1i, ?_⟩
        (repeat' ((conv => whnf); first
    | refine Sd.mk (by first | omega | (unfold in64; omega) | (simp only [fitK, in64]; omega) | (simp only [fitK, in64, chunk, List.length_map, List.length_append, List.length_replicate, List.length_set, List.length_nil, List.length_cons]; omega)) ?_
    | refine Br.yes rfl ?_
    | refine Br.no rfl ?_
    | refine Br.yes (by first | (simp only [ltB_t, ltB_f, eqB_t, eqB_f, pB_t, pB_f, sEq_t, sEq_f, emp_iff, ne_eq, List.length_map, Bool.not_eq_true, Bool.not_eq_false, Bool.not_eq_eq_eq_not, Bool.not_true, Bool.not_false]; done) | (simp only [ltB_t, ltB_f, eqB_t, eqB_f, pB_t, pB_f, sEq_t, sEq_f, emp_iff, ne_eq, List.length_map, Bool.not_eq_true, Bool.not_eq_false, Bool.not_eq_eq_eq_not, Bool.not_true, Bool.not_false]; omega) | (simp only [ltB_t, ltB_f, eqB_t, eqB_f, pB_t, pB_f, sEq_t, sEq_f, emp_iff, ne_eq, List.length_map, Bool.not_eq_true, Bool.not_eq_false, Bool.not_eq_eq_eq_not, Bool.not_true, Bool.not_false]; assumption)) ?_
    | refine Br.no (by first | (simp only [ltB_t, ltB_f, eqB_t, eqB_f, pB_t, pB_f, sEq_t, sEq_f, emp_iff, ne_eq, List.length_map, Bool.not_eq_true, Bool.not_eq_false, Bool.not_eq_eq_eq_not, Bool.not_true, Bool.not_false]; done) | (simp only [ltB_t, ltB_f, eqB_t, eqB_f, pB_t, pB_f, sEq_t, sEq_f, emp_iff, ne_eq, List.length_map, Bool.not_eq_true, Bool.not_eq_false, Bool.not_eq_eq_eq_not, Bool.not_true, Bool.not_false]; omega) | (simp only [ltB_t, ltB_f, eqB_t, eqB_f, pB_t, pB_f, sEq_t, sEq_f, emp_iff, ne_eq, List.length_map, Bool.not_eq_true, Bool.not_eq_false, Bool.not_eq_eq_eq_not, Bool.not_true, Bool.not_false]; assumption)) ?_
    | (refine Br.mk ?_ ?_ <;> intro h <;> (try simp only [ltB_t, ltB_f, eqB_t, eqB_f, pB_t, pB_f, sEq_t, sEq_f, emp_iff, ne_eq, List.length_map, Bool.not_eq_true, Bool.not_eq_false, Bool.not_eq_eq_eq_not, Bool.not_true, Bool.not_false] at h))
    | refine Ixv.mk (by omega) (ixE (by omega) (by omega)) ?_
    | refine Elt.mk rfl ?_
    | refine Elt.mk (by assumption) ?_
    | refine Elt.mk (ixE (by omega) (by omega)) ?_
    | (fail "callR")
    | refine E.call tt h_dist rfl rfl ⟨_, _, rfl, by omega, by omega, _, _, rfl, rfl, ?_⟩
    | refine E.regionQ tt (id := 3) mixed (by decide +kernel) ?_
    | refine E.regionF tt (id := 4) 7 [0, 8, 9, 10] mixed (by decide +kernel) ?_
    | refine E.regionF tt (id := 4) 7 [0, 1, 2, 8, 9, 10] mixed (by decide +kernel) ?_
    | refine E.regionFY tt (id := 4) [0, 1, 2, 3, 4, 5, 8, 9, 10] 12 (.nd [(6, .nd [(7, .nd [(11, .nd [(12, .nd [(13, .nd [(14, .nd [(15, .nd [(16, .nd [(17, .nd [(18, .nd [(19, .nd [(20, .nd [])])])])])])])])])])]), (11, .nd [(7, .nd [(12, .nd [(13, .nd [(14, .nd [(15, .nd [(16, .nd [(17, .nd [(18, .nd [(19, .nd [(20, .nd [])])])])])])])])])])])]), (11, .nd [(6, .nd [(7, .nd [(12, .nd [(13, .nd [(14, .nd [(15, .nd [(16, .nd [(17, .nd [(18, .nd [(19, .nd [(20, .nd [])])])])])])])])])])])])]) mixed (by decide +kernel) ?_
    | refine Bo.mk ?_ ?_
    | refine E.regionQ tt (id := 13) mixed (by decide +kernel) ?_
    | refine E.regionF tt (id := 14) 12 [0, 1, 2, 4, 7, 8, 9, 14, 15, 16, 18] mixed (by decide +kernel) ?_
    | refine E.regionF tt (id := 14) 12 [0, 1, 2, 4, 5, 6, 7, 8, 9, 14, 15, 16, 18] mixed (by decide +kernel) ?_
    | refine E.regionT tt (id := 16) 20 mixed (by decide +kernel) ?_
    | refine E.regionF tt (id := 16) 20 [5, 6, 11, 17] mixed (by decide +kernel) ?_)) <;> (try (conv => whnf))
        refine E.abs tt 43 (l := g) rfl rfl rfl fun b c C hN hx => ?_
        (repeat' ((conv => whnf); first
    | refine Sd.mk (by first | omega | (unfold in64; omega) | (simp only [fitK, in64]; omega) | (simp only [fitK, in64, chunk, List.length_map, List.length_append, List.length_replicate, List.length_set, List.length_nil, List.length_cons]; omega)) ?_
    | refine Br.yes rfl ?_
    | refine Br.no rfl ?_
    | refine Br.yes (by first | (simp only [ltB_t, ltB_f, eqB_t, eqB_f, pB_t, pB_f, sEq_t, sEq_f, emp_iff, ne_eq, List.length_map, Bool.not_eq_true, Bool.not_eq_false, Bool.not_eq_eq_eq_not, Bool.not_true, Bool.not_false]; done) | (simp only [ltB_t, ltB_f, eqB_t, eqB_f, pB_t, pB_f, sEq_t, sEq_f, emp_iff, ne_eq, List.length_map, Bool.not_eq_true, Bool.not_eq_false, Bool.not_eq_eq_eq_not, Bool.not_true, Bool.not_false]; omega) | (simp only [ltB_t, ltB_f, eqB_t, eqB_f, pB_t, pB_f, sEq_t, sEq_f, emp_iff, ne_eq, List.length_map, Bool.not_eq_true, Bool.not_eq_false, Bool.not_eq_eq_eq_not, Bool.not_true, Bool.not_false]; assumption)) ?_
    | refine Br.no (by first | (simp only [ltB_t, ltB_f, eqB_t, eqB_f, pB_t, pB_f, sEq_t, sEq_f, emp_iff, ne_eq, List.length_map, Bool.not_eq_true, Bool.not_eq_false, Bool.not_eq_eq_eq_not, Bool.not_true, Bool.not_false]; done) | (simp only [ltB_t, ltB_f, eqB_t, eqB_f, pB_t, pB_f, sEq_t, sEq_f, emp_iff, ne_eq, List.length_map, Bool.not_eq_true, Bool.not_eq_false, Bool.not_eq_eq_eq_not, Bool.not_true, Bool.not_false]; omega) | (simp only [ltB_t, ltB_f, eqB_t, eqB_f, pB_t, pB_f, sEq_t, sEq_f, emp_iff, ne_eq, List.length_map, Bool.not_eq_true, Bool.not_eq_false, Bool.not_eq_eq_eq_not, Bool.not_true, Bool.not_false]; assumption)) ?_
    | (refine Br.mk ?_ ?_ <;> intro h <;> (try simp only [ltB_t, ltB_f, eqB_t, eqB_f, pB_t, pB_f, sEq_t, sEq_f, emp_iff, ne_eq, List.length_map, Bool.not_eq_true, Bool.not_eq_false, Bool.not_eq_eq_eq_not, Bool.not_true, Bool.not_false] at h))
    | refine Ixv.mk (by omega) (ixE (by omega) (by omega)) ?_
    | refine Elt.mk rfl ?_
    | refine Elt.mk (by assumption) ?_
    | refine Elt.mk (ixE (by omega) (by omega)) ?_
    | (fail "callR")
    | refine E.call tt h_dist rfl rfl ⟨_, _, rfl, by omega, by omega, _, _, rfl, rfl, ?_⟩
    | refine E.regionQ tt (id := 3) mixed (by decide +kernel) ?_
    | refine E.regionF tt (id := 4) 7 [0, 8, 9, 10] mixed (by decide +kernel) ?_
    | refine E.regionF tt (id := 4) 7 [0, 1, 2, 8, 9, 10] mixed (by decide +kernel) ?_
    | refine E.regionFY tt (id := 4) [0, 1, 2, 3, 4, 5, 8, 9, 10] 12 (.nd [(6, .nd [(7, .nd [(11, .nd [(12, .nd [(13, .nd [(14, .nd [(15, .nd [(16, .nd [(17, .nd [(18, .nd [(19, .nd [(20, .nd [])])])])])])])])])])]), (11, .nd [(7, .nd [(12, .nd [(13, .nd [(14, .nd [(15, .nd [(16, .nd [(17, .nd [(18, .nd [(19, .nd [(20, .nd [])])])])])])])])])])])]), (11, .nd [(6, .nd [(7, .nd [(12, .nd [(13, .nd [(14, .nd [(15, .nd [(16, .nd [(17, .nd [(18, .nd [(19, .nd [(20, .nd [])])])])])])])])])])])])]) mixed (by decide +kernel) ?_
    | refine Bo.mk ?_ ?_
    | refine E.regionQ tt (id := 13) mixed (by decide +kernel) ?_
    | refine E.regionF tt (id := 14) 12 [0, 1, 2, 4, 7, 8, 9, 14, 15, 16, 18] mixed (by decide +kernel) ?_
    | refine E.regionF tt (id := 14) 12 [0, 1, 2, 4, 5, 6, 7, 8, 9, 14, 15, 16, 18] mixed (by decide +kernel) ?_
    | refine E.regionT tt (id := 16) 20 mixed (by decide +kernel) ?_
    | refine E.regionF tt (id := 16) 20 [5, 6, 11, 17] mixed (by decide +kernel) ?_)) <;> (try (conv => whnf))
        all_goals (exact ⟨_, ⟨rfl, rfl, rfl⟩, allSc_ok _ rfl, (fun r h => by cases h; exact ⟨_, rfl, rfl, rfl⟩), rfl, hK _ _ _ _ (hu.upd (hu.fresh hx) _) (hg.upd (hg.fresh hx) _) (FV.marked hN rfl) hug (apart_fresh hu hx) (apart_fresh hg hx)⟩))
  · have e0 : mmR xs ys bud 0 g sum ⟨nd, false, le, bs⟩ = ⟨nd, false, le, bs⟩ := if_neg hc
    rw [e0] at hK
    unfold mrI at hK
    rw [hfd, hls] at hK
    unfold mrI
    rw [hfd, hls]
    rw [decide_eq_true (by omega : 0 ≤ le), if_neg (by omega : ¬ le < 0)] at *
    (repeat' ((conv => whnf); first
    | refine Sd.mk (by first | omega | (unfold in64; omega) | (simp only [fitK, in64]; omega) | (simp only [fitK, in64, chunk, List.length_map, List.length_append, List.length_replicate, List.length_set, List.length_nil, List.length_cons]; omega)) ?_
    | refine Br.yes rfl ?_
    | refine Br.no rfl ?_
    | refine Br.yes (by first | (simp only [ltB_t, ltB_f, eqB_t, eqB_f, pB_t, pB_f, sEq_t, sEq_f, emp_iff, ne_eq, List.length_map, Bool.not_eq_true, Bool.not_eq_false, Bool.not_eq_eq_eq_not, Bool.not_true, Bool.not_false]; done) | (simp only [ltB_t, ltB_f, eqB_t, eqB_f, pB_t, pB_f, sEq_t, sEq_f, emp_iff, ne_eq, List.length_map, Bool.not_eq_true, Bool.not_eq_false, Bool.not_eq_eq_eq_not, Bool.not_true, Bool.not_false]; omega) | (simp only [ltB_t, ltB_f, eqB_t, eqB_f, pB_t, pB_f, sEq_t, sEq_f, emp_iff, ne_eq, List.length_map, Bool.not_eq_true, Bool.not_eq_false, Bool.not_eq_eq_eq_not, Bool.not_true, Bool.not_false]; assumption)) ?_
    | refine Br.no (by first | (simp only [ltB_t, ltB_f, eqB_t, eqB_f, pB_t, pB_f, sEq_t, sEq_f, emp_iff, ne_eq, List.length_map, Bool.not_eq_true, Bool.not_eq_false, Bool.not_eq_eq_eq_not, Bool.not_true, Bool.not_false]; done) | (simp only [ltB_t, ltB_f, eqB_t, eqB_f, pB_t, pB_f, sEq_t, sEq_f, emp_iff, ne_eq, List.length_map, Bool.not_eq_true, Bool.not_eq_false, Bool.not_eq_eq_eq_not, Bool.not_true, Bool.not_false]; omega) | (simp only [ltB_t, ltB_f, eqB_t, eqB_f, pB_t, pB_f, sEq_t, sEq_f, emp_iff, ne_eq, List.length_map, Bool.not_eq_true, Bool.not_eq_false, Bool.not_eq_eq_eq_not, Bool.not_true, Bool.not_false]; assumption)) ?_
    | (refine Br.mk ?_ ?_ <;> intro h <;> (try simp only [ltB_t, ltB_f, eqB_t, eqB_f, pB_t, pB_f, sEq_t, sEq_f, emp_iff, ne_eq, List.length_map, Bool.not_eq_true, Bool.not_eq_false, Bool.not_eq_eq_eq_not, Bool.not_true, Bool.not_false] at h))
    | refine Ixv.mk (by omega) (ixE (by omega) (by omega)) ?_
    | refine Elt.mk rfl ?_
    | refine Elt.mk (by assumption) ?_
    | refine Elt.mk (ixE (by omega) (by omega)) ?_
    | refine E.read tt (rd_lenF tt rfl rfl rfl rfl hg) rfl ?_
    | (fail "callR")
    | refine E.call tt h_dist rfl rfl ⟨_, _, rfl, by omega, by omega, _, _, rfl, rfl, ?_⟩
    | refine E.regionQ tt (id := 3) mixed (by decide +kernel) ?_
    | refine E.regionF tt (id := 4) 7 [0, 8, 9, 10] mixed (by decide +kernel) ?_
    | refine E.regionF tt (id := 4) 7 [0, 1, 2, 8, 9, 10] mixed (by decide +kernel) ?_
    | refine E.regionFY tt (id := 4) [0, 1, 2, 3, 4, 5, 8, 9, 10] 12 (.nd [(6, .nd [(7, .nd [(11, .nd [(12, .nd [(13, .nd [(14, .nd [(15, .nd [(16, .nd [(17, .nd [(18, .nd [(19, .nd [(20, .nd [])])])])])])])])])])]), (11, .nd [(7, .nd [(12, .nd [(13, .nd [(14, .nd [(15, .nd [(16, .nd [(17, .nd [(18, .nd [(19, .nd [(20, .nd [])])])])])])])])])])])]), (11, .nd [(6, .nd [(7, .nd [(12, .nd [(13, .nd [(14, .nd [(15, .nd [(16, .nd [(17, .nd [(18, .nd [(19, .nd [(20, .nd [])])])])])])])])])])])])]) mixed (by decide +kernel) ?_
    | refine Bo.mk ?_ ?_
    | refine E.regionQ tt (id := 13) mixed (by decide +kernel) ?_
    | refine E.regionF tt (id := 14) 12 [0, 1, 2, 4, 7, 8, 9, 14, 15, 16, 18] mixed (by decide +kernel) ?_
    | refine E.regionF tt (id := 14) 12 [0, 1, 2, 4, 5, 6, 7, 8, 9, 14, 15, 16, 18] mixed (by decide +kernel) ?_
    | refine E.regionT tt (id := 16) 20 mixed (by decide +kernel) ?_
    | refine E.regionF tt (id := 16) 20 [5, 6, 11, 17] mixed (by decide +kernel) ?_)) <;> (try (conv => whnf))
    all_goals first
      | (exfalso; omega)
      | exact ⟨_, ⟨rfl, rfl, rfl⟩, allSc_ok _ rfl, (fun r h => by cases h; exact ⟨_, rfl, rfl, rfl⟩), rfl, hK _ _ _ _ hu hg hb hug hub hgb⟩

end Go.Proofs.Ythjbcgdmdmfijaa
