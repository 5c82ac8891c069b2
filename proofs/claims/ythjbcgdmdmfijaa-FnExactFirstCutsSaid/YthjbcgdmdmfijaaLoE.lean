/- A logical layer over the walk, fifth part: regions that draw their order beside a write. -/
import Derived.Test.YthjbcgdmdmfijaaLoD
set_option linter.unusedVariables false
set_option linter.unusedSimpArgs false
set_option maxRecDepth 100000
namespace Go.Lo
open Go.RowKit

def otFB (ops : Array Oper) (F : List Nat) (g : Nat) (t : OT) : Bool :=
  Region.noSelect ops && floatL .any ops F (Array.replicate ops.size false) && otB ops g (setAll (Array.replicate ops.size false) F) t && Nat.beq (F.length + g) ops.size

theorem E.regionFY {P : Program} {Q : Exit → St → Prop} {st : St} (tt : Tab P) {id : Nat} {l : List Oper} (F : List Nat) (g : Nat) (t : OT) (hm : P.follows .mixedOrders = true) (hB : otFB l.toArray F g t = true)
    (h : wf tt.l l.toArray (wy P l.toArray tt.l (Q .normal) g t) F st) : Wc P (.region id l.toArray true) Q st := fun w0 a w Qr hs hq => by
  simp only [otFB, Bool.and_eq_true] at hB
  obtain ⟨⟨⟨hsel, hfl⟩, ht⟩, hlen⟩ := hB
  have hlen' := Nat.eq_of_beq_eq_true hlen
  refine wp_region_noPanic (wp_region_any hm ?_)
  have key := wf_sound (md := .any) (Q := NoPanic Qr) (g := g) tt hsel (fun c a w hq => hq) F _ st a hfl (hs.grow (Ext.drew w)) h (fun st' a' hT hs1 =>
    wy_sound (w0 := w0) (Qr := NoPanic Qr) tt (fun st'' a'' w'' h1 h2 => NoPanic.normal (hq _ _ _ _ h1 h2)) g _ t st' a' _ ht hT hs1)
  rw [hlen'] at key
  exact key
end Go.Lo
namespace Go.Lo
open Go.RowKit
section
variable {q : Bool} {P : Program} {ops : Array Oper} {rest l0 : List Oper} {T : St → Prop} {st : St} {d : Nat} {ty : TypeId} {pos : String} {aft : Array Edge}
def St.wx (st : St) (x : Frag) : St := ⟨st.n, st.nk, st.t, st.rows, x⟩
theorem E.appFw (tt : Tab P) {x y : Operand} {t e : Nat} {ti ei : TyI} {v : Value} {els els2 : List (List PV)} (h : tt.l.get t = some ti) (hel : ti.el = some (e, 1)) (ha : ti.agg = false) (he : tt.l.get e = some ei)
    (hzz : (Nat.beq ei.zero.length ei.sz && !Nat.beq ei.sz 0 && Nat.beq ei.sz 1 && Nat.ble ei.bytes 32768) = true)
    (hx : st.ev x = .p (.raw v)) (hF : FV e st.x v els) (hy : rdA st (st.ev y) = some (.view 1 els2)) (hne : els2 ≠ []) (hpl : ∀ e ∈ els2, ∀ m ∈ e, m.val.isSome = true) (hd : Nat.blt d st.n = true) (hn : els.length + els2.length ≤ 4294967296)
    (kk : ∀ b' c' C', RowC C' c' ⟨e, 1, els ++ els2⟩ → (blkV v = some b' ∨ st.x b' = none) → wl false P ops tt.l T rest ((st.wx (st.x.upd b' (.cells C' e (0, 0)))).put d (.p (.raw (.slice (some ⟨b', 0, none⟩) (els ++ els2).length c'))))) :
    W false P ops (⟨some d, .call { callee := .builtin .append, args := #[x, y], argTypes := #[t, t] }, ty, pos, aft, none⟩ :: rest) T st :=
  E.appF tt h hel ha he hzz hx hF hy hne hpl hd hn kk
theorem E.storeRw (tt : Tab P) {x y : Operand} {t ty b o e : Nat} {i : TyI} {C : Array Value} {v : Value} {m : PV} (h : tt.l.get t = some i) (hsz : i.sz = 1) (hx : st.ev x = .p (.raw (.pointer (some ⟨b, o, none⟩)))) (hy : st.ev y = .p m) (hm : m.val = some v) (hv : v.oneCell' = true) (hb : st.x b = some (.cells C e (0, 0))) (ho : o < C.size)
    (kk : wl false P ops tt.l T rest (st.wx (st.x.upd b (.cells (C.setIfInBounds o v) e (0, 0))))) : W false P ops (⟨none, .store t x y, ty, pos, aft, none⟩ :: rest) T st :=
  E.storeR tt h hsz hx hy hm hv hb ho kk
end
end Go.Lo
namespace Go.Lo
open Go.RowKit
def mrg (x y : Frag) : Frag := fun b => match y b with
  | some o => some o
  | none => x b
theorem mrg_r {x y : Frag} {b : Nat} {o : Obj} (h : y b = some o) : mrg x y b = some o := by unfold mrg; rw [h]
theorem mrg_l {x y : Frag} {b : Nat} (h : y b = none) : mrg x y b = x b := by unfold mrg; rw [h]
theorem mrg_some {x y : Frag} {b : Nat} {o : Obj} (h : mrg x y b = some o) : y b = some o ∨ (y b = none ∧ x b = some o) := by
  unfold mrg at h
  cases e : y b with
  | none => rw [e] at h; exact .inr ⟨rfl, h⟩
  | some o' => rw [e] at h; exact .inl h
theorem FV.mrgR {e : Nat} {x y : Frag} {v : Value} {els : List (List PV)} (h : FV e y v els) : FV e (mrg x y) v els := by
  rcases h with h | ⟨b, c, C, h1, h2, h3⟩
  · exact .inl h
  · exact .inr ⟨b, c, C, h1, mrg_r h2, h3⟩
theorem FV.mrgL {e : Nat} {x y : Frag} {v : Value} {els : List (List PV)} (h : FV e x v els) (hd : ∀ b, y b ≠ none → x b = none) : FV e (mrg x y) v els := by
  rcases h with h | ⟨b, c, C, h1, h2, h3⟩
  · exact .inl h
  · refine .inr ⟨b, c, C, h1, ?_, h3⟩
    have hn : y b = none := by
      cases e : y b with
      | none => rfl
      | some o => have := hd b (by rw [e]; intro h; cases h); rw [h2] at this; cases this
    rw [mrg_l hn]; exact h2
theorem FV.marked {e : Nat} {X : Frag} {b c n : Nat} {C : Array Value} {l : List Int} (h : Nums C c l) (hl : l.length = n) : FV e (X.upd b (.cells C e (0, 0))) (.slice (some ⟨b, 0, none⟩) n c) (l.map encN) := by
  subst hl
  exact .inr ⟨b, c, C, by simp, Frag.upd_same _ _ _, h.rowC⟩
section
variable {P : Program} {ops : Array Oper} {rest : List Oper} {T : St → Prop} {st : St} {d : Nat} {ty : TypeId} {pos : String} {aft : Array Edge} {f : Nat} {xs : Array Operand} {ats : Array TypeId} {args : List PV} {c : YCt}
theorem E.callY0 (tt : Tab P) (hH : YHolds P f c) (ha : rdArgs st xs.toList = some args) (hd : Nat.blt d st.n = true)
    (hk : c .no args Frag.nil (fun _ X' rs => (∀ b, X' b ≠ none → st.x b = none) → wl false P ops tt.l T rest (((st.wx (mrg st.x X')).bound rs).put d (bindM st.nk rs)))) :
    W false P ops (⟨some d, .call { callee := .value (.func f), args := xs, argTypes := ats }, ty, pos, aft, none⟩ :: rest) T st := by
  have hd' : d < st.n := by simpa [Nat.blt_eq] using hd
  intro w0 a w Qr hs hT
  obtain ⟨L, cp, sz, ln, s⟩ := hs
  obtain ⟨hl, hall⟩ := s.rdArgs _ _ ha
  have hA : ArgsR w (fun _ => True) args (xs.map a.eval) := ⟨by simp [hl], fun i m u hm hu => hall i m u hm (by simpa using hu)⟩
  simp only [wpList, wanted_none, if_true]
  refine .inl ?_
  unfold Oper.wp
  rw [call_run hH.1 a.eval rfl _ rfl]
  simp only [Oper.upon]
  have hc := hH.2 _ _ _ _ hk w (fun _ => True) 0 0 (xs.map a.eval) (fun b o h => by cases h) (fun b hb => rfl) (fun r h => by cases h) hA
  have he : meVals .no 0 0 ++ xs.map a.eval = xs.map a.eval := by simp [meVals]
  rw [he] at hc
  refine hc.mono ?_
  rintro e w' ⟨v, me', X', rs, bl, bc, rfl, hK, hun, hX', _, hrr, hfx, hpl⟩
  have hun' : ∀ b, b < w.heap.size → w'.heap[b]? = w.heap[b]? := fun b hb => hun.block b hb (fun h => h.elim (fun h => h rfl) (fun h => by cases h.1))
  have hdis : ∀ b, X' b ≠ none → st.x b = none := fun b hb => by
    cases e : X' b with
    | none => exact absurd e hb
    | some o => exact s.frag_none ((hX' b o e).2.elim (fun h => absurd rfl h) id)
  obtain ⟨L', cp', sz', ln', s', hm⟩ := s.afterY (me := none) (X' := mrg st.x X') ⟨hun.os, hun.tape, hun.output, hun.size, fun b hb _ => hun' b hb⟩ (fun b o h => by
    rcases mrg_some h with h | ⟨_, h⟩
    · exact ⟨(hX' b o h).1, .inr ((hX' b o h).2.elim (fun h => absurd rfl h) id)⟩
    · have hh := (s.frag b o h).1
      have hlt : b < w.heap.size := (Array.getElem?_eq_some_iff.1 hh).1
      exact ⟨by rw [hun' b hlt]; exact hh, .inl (by rw [h]; intro h; cases h)⟩) (fun p hp => by cases hp) hrr (fun i hi => by
    obtain ⟨r, hr⟩ := hi
    rw [mrg_l (hfx i ⟨r, hr⟩)]
    exact s.frag_none (hrr.fresh i r hr).1) hpl
  exact wl_sound tt (hK hdis) w0 _ w' Qr ⟨L', cp', sz', ln', s'.put (d := d) hd' hm⟩ hT
end
end Go.Lo
