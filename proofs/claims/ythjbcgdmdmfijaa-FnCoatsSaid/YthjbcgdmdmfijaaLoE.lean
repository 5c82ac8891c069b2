/- A logical layer over the walk, fifth part: regions that draw their order beside a write. -/
import Derived.Test.YthjbcgdmdmfijaaLoD
import Derived.OrdersHeld
set_option linter.unusedVariables false
set_option linter.unusedSimpArgs false
set_option maxRecDepth 100000
namespace Go.Lo
open Go.RowKit

def otFB (ops : Array Oper) (F : List Nat) (g : Nat) (t : OT) : Bool :=
  Region.noSelect ops && floatL .any ops F (Array.replicate ops.size false) && otB ops g (setAll (Array.replicate ops.size false) F) t && Nat.beq (F.length + g) ops.size

theorem E.regionFY {P : Program} {Q : Exit → St → Prop} {st : St} (tt : Tab P) {id : Nat} {l : List Oper} (F : List Nat) (g : Nat) (t : OT) (hm : P.follows .mixedOrders = true) (hB : otFB l.toArray F g t = true)
    (h : wf tt.l l.toArray (wy P l.toArray tt.l (Q .normal) g t) F st) : Wc P (.region id l.toArray true) Q st := fun w0 a w Qr hs hq => by
  simp only [otFB, Bool.and_eq_true] at hB
  obtain ⟨⟨⟨hsel, hfl⟩, ht⟩, hlen⟩ := hB
  have hlen' := Nat.eq_of_beq_eq_true hlen
  refine wp_region_noPanic (wp_region_any hm ?_)
  have key := wf_sound (md := .any) (Q := NoPanic Qr) (g := g) tt hsel (fun c a w hq => hq) F _ st a hfl (hs.grow (Ext.drew w)) h (fun st' a' hT hs1 =>
    wy_sound (w0 := w0) (Qr := NoPanic Qr) tt (fun st'' a'' w'' h1 h2 => NoPanic.normal (hq _ _ _ _ h1 h2)) g _ t st' a' _ ht hT hs1)
  rw [hlen'] at key
  exact key
end Go.Lo
namespace Go.Lo
open Go.RowKit
section
variable {q : Bool} {P : Program} {ops : Array Oper} {rest l0 : List Oper} {T : St → Prop} {st : St} {d : Nat} {ty : TypeId} {pos : String} {aft : Array Edge}
def St.wx (st : St) (x : Frag) : St := ⟨st.n, st.nk, st.t, st.rows, x⟩
theorem E.appFw (tt : Tab P) {x y : Operand} {t e : Nat} {ti ei : TyI} {v : Value} {els els2 : List (List PV)} (h : tt.l.get t = some ti) (hel : ti.el = some (e, 1)) (ha : ti.agg = false) (he : tt.l.get e = some ei)
    (hzz : (Nat.beq ei.zero.length ei.sz && !Nat.beq ei.sz 0 && Nat.beq ei.sz 1 && Nat.ble ei.bytes 32768) = true)
    (hx : st.ev x = .p (.raw v)) (hF : FV e st.x v els) (hy : rdA st (st.ev y) = some (.view 1 els2)) (hne : els2 ≠ []) (hpl : ∀ e ∈ els2, ∀ m ∈ e, m.val.isSome = true) (hd : Nat.blt d st.n = true) (hn : els.length + els2.length ≤ 4294967296)
    (kk : ∀ b' c' C', RowC C' c' ⟨e, 1, els ++ els2⟩ → (blkV v = some b' ∨ st.x b' = none) → wl false P ops tt.l T rest ((st.wx (st.x.upd b' (.cells C' e (0, 0)))).put d (.p (.raw (.slice (some ⟨b', 0, none⟩) (els ++ els2).length c'))))) :
    W false P ops (⟨some d, .call { callee := .builtin .append, args := #[x, y], argTypes := #[t, t] }, ty, pos, aft, none⟩ :: rest) T st :=
  E.appF tt h hel ha he hzz hx hF hy hne hpl hd hn kk
theorem E.storeRw (tt : Tab P) {x y : Operand} {t ty b o e : Nat} {i : TyI} {C : Array Value} {v : Value} {m : PV} (h : tt.l.get t = some i) (hsz : i.sz = 1) (hx : st.ev x = .p (.raw (.pointer (some ⟨b, o, none⟩)))) (hy : st.ev y = .p m) (hm : m.val = some v) (hv : v.oneCell' = true) (hb : st.x b = some (.cells C e (0, 0))) (ho : o < C.size)
    (kk : wl false P ops tt.l T rest (st.wx (st.x.upd b (.cells (C.setIfInBounds o v) e (0, 0))))) : W false P ops (⟨none, .store t x y, ty, pos, aft, none⟩ :: rest) T st :=
  E.storeR tt h hsz hx hy hm hv hb ho kk
end
end Go.Lo
namespace Go.Lo
open Go.RowKit
def mrg (x y : Frag) : Frag := fun b => match y b with
  | some o => some o
  | none => x b
theorem mrg_r {x y : Frag} {b : Nat} {o : Obj} (h : y b = some o) : mrg x y b = some o := by unfold mrg; rw [h]
theorem mrg_l {x y : Frag} {b : Nat} (h : y b = none) : mrg x y b = x b := by unfold mrg; rw [h]
theorem mrg_some {x y : Frag} {b : Nat} {o : Obj} (h : mrg x y b = some o) : y b = some o ∨ (y b = none ∧ x b = some o) := by
  unfold mrg at h
  cases e : y b with
  | none => rw [e] at h; exact .inr ⟨rfl, h⟩
  | some o' => rw [e] at h; exact .inl h
theorem FV.mrgR {e : Nat} {x y : Frag} {v : Value} {els : List (List PV)} (h : FV e y v els) : FV e (mrg x y) v els := by
  rcases h with h | ⟨b, c, C, h1, h2, h3⟩
  · exact .inl h
  · exact .inr ⟨b, c, C, h1, mrg_r h2, h3⟩
theorem FV.mrgL {e : Nat} {x y : Frag} {v : Value} {els : List (List PV)} (h : FV e x v els) (hd : ∀ b, y b ≠ none → x b = none) : FV e (mrg x y) v els := by
  rcases h with h | ⟨b, c, C, h1, h2, h3⟩
  · exact .inl h
  · refine .inr ⟨b, c, C, h1, ?_, h3⟩
    have hn : y b = none := by
      cases e : y b with
      | none => rfl
      | some o => have := hd b (by rw [e]; intro h; cases h); rw [h2] at this; cases this
    rw [mrg_l hn]; exact h2
theorem FV.marked {e : Nat} {X : Frag} {b c n : Nat} {C : Array Value} {l : List Int} (h : Nums C c l) (hl : l.length = n) : FV e (X.upd b (.cells C e (0, 0))) (.slice (some ⟨b, 0, none⟩) n c) (l.map encN) := by
  subst hl
  exact .inr ⟨b, c, C, by simp, Frag.upd_same _ _ _, h.rowC⟩
section
variable {P : Program} {ops : Array Oper} {rest : List Oper} {T : St → Prop} {st : St} {d : Nat} {ty : TypeId} {pos : String} {aft : Array Edge} {f : Nat} {xs : Array Operand} {ats : Array TypeId} {args : List PV} {c : YCt}
theorem E.callY0 (tt : Tab P) (hH : YHolds P f c) (ha : rdArgs st xs.toList = some args) (hd : Nat.blt d st.n = true)
    (hk : c .no args Frag.nil (fun _ X' rs => (∀ b, X' b ≠ none → st.x b = none) → wl false P ops tt.l T rest (((st.wx (mrg st.x X')).bound rs).put d (bindM st.nk rs)))) :
    W false P ops (⟨some d, .call { callee := .value (.func f), args := xs, argTypes := ats }, ty, pos, aft, none⟩ :: rest) T st := by
  have hd' : d < st.n := by simpa [Nat.blt_eq] using hd
  intro w0 a w Qr hs hT
  obtain ⟨L, cp, sz, ln, s⟩ := hs
  obtain ⟨hl, hall⟩ := s.rdArgs _ _ ha
  have hA : ArgsR w (fun _ => True) args (xs.map a.eval) := ⟨by simp [hl], fun i m u hm hu => hall i m u hm (by simpa using hu)⟩
  simp only [wpList, wanted_none, if_true]
  refine .inl ?_
  unfold Oper.wp
  rw [call_run hH.1 a.eval rfl _ rfl]
  simp only [Oper.upon]
  have hc := hH.2 _ _ _ _ hk w (fun _ => True) 0 0 (xs.map a.eval) (fun b o h => by cases h) (fun b hb => rfl) (fun r h => by cases h) hA
  have he : meVals .no 0 0 ++ xs.map a.eval = xs.map a.eval := by simp [meVals]
  rw [he] at hc
  refine hc.mono ?_
  rintro e w' ⟨v, me', X', rs, bl, bc, rfl, hK, hun, hX', _, hrr, hfx, hpl⟩
  have hun' : ∀ b, b < w.heap.size → w'.heap[b]? = w.heap[b]? := fun b hb => hun.block b hb (fun h => h.elim (fun h => h rfl) (fun h => by cases h.1))
  have hdis : ∀ b, X' b ≠ none → st.x b = none := fun b hb => by
    cases e : X' b with
    | none => exact absurd e hb
    | some o => exact s.frag_none ((hX' b o e).2.elim (fun h => absurd rfl h) id)
  obtain ⟨L', cp', sz', ln', s', hm⟩ := s.afterY (me := none) (X' := mrg st.x X') ⟨hun.os, hun.tape, hun.output, hun.size, fun b hb _ => hun' b hb⟩ (fun b o h => by
    rcases mrg_some h with h | ⟨_, h⟩
    · exact ⟨(hX' b o h).1, .inr ((hX' b o h).2.elim (fun h => absurd rfl h) id)⟩
    · have hh := (s.frag b o h).1
      have hlt : b < w.heap.size := (Array.getElem?_eq_some_iff.1 hh).1
      exact ⟨by rw [hun' b hlt]; exact hh, .inl (by rw [h]; intro h; cases h)⟩) (fun p hp => by cases hp) hrr (fun i hi => by
    obtain ⟨r, hr⟩ := hi
    rw [mrg_l (hfx i ⟨r, hr⟩)]
    exact s.frag_none (hrr.fresh i r hr).1) hpl
  exact wl_sound tt (hK hdis) w0 _ w' Qr ⟨L', cp', sz', ln', s'.put (d := d) hd' hm⟩ hT
end
end Go.Lo
namespace Go.Lo
open Go.RowKit

section
variable {P : Program} {ops : Array Oper} {md : Region.Mode} {Q : Exit → Act → World → Prop} {S : World → Prop} {kp : Nat → Bool}
def wpAnyK (P : Program) (md : Region.Mode) (ops : Array Oper) (Q : Exit → Act → World → Prop) (S : World → Prop) (kp : Nat → Bool) : Nat → Array Bool → Act → World → Prop
  | 0, listed, a, w => Region.ready md ops listed = [] ∧ Q .normal a w
  | f + 1, listed, a, w => (Region.ready md ops listed = [] → Q .normal a w) ∧
    ∀ i ∈ Region.ready md ops listed, wpOp P ops Q i (fun a' w' => (kp i = true → S w → S w') ∧ wpAnyK P md ops Q S kp f (listed.setIfInBounds i true) a' w') a w
theorem wpAny_of_K : ∀ (f : Nat) (listed : Array Bool) (a : Act) (w : World), wpAnyK P md ops Q S kp f listed a w → wpAny P md ops Q f listed a w
  | 0, _, _, _, h => h
  | f + 1, _, _, _, h => ⟨h.1, fun i hi => wpOp_mono (fun a' w' h' => wpAny_of_K f _ a' w' h'.2) (h.2 i hi)⟩

theorem wpAnyK_first {i : Nat} {oi : Oper} {v : Value} (hi : ops[i]? = some oi) (hsel : ∀ (j : Nat) (o : Oper) cs b, ops[j]? = some o → o.op ≠ .select cs b)
    (hQ : ∀ c a w, Q (.panic c) (a.put oi.dst v) w → Q (.panic c) a w) :
    ∀ (f : Nat) (listed : Array Bool) (a : Act) (w : World),
      (∀ j oj, ops[j]? = some oj → j ≠ i → listed.getD j true = false → (∀ e ∈ oj.after, Region.binds md e = true → e.on ≠ i) → oi.apart ops oj = true ∧ kp j = true) →
      i ∈ Region.ready md ops listed → YieldsIf P ops S oi v a → S w →
      wpAnyK P md ops Q S kp f (listed.setIfInBounds i true) (a.put oi.dst v) w → wpAnyK P md ops Q S kp (f + 1) listed a w := by
  intro f
  induction f with
  | zero =>
    intro listed a w _ hr hy hS H
    refine ⟨fun h => (by rw [h] at hr; cases hr), fun j hj => ?_⟩
    by_cases hji : j = i
    · subst hji; exact hy.wpOp hi hS ⟨fun _ h => h, H⟩
    · have := ready_mono hj hji
      rw [H.1] at this
      cases this
  | succ f ih =>
    intro listed a w hfree hr hy hS H
    have hun := (mem_ready.1 hr).1
    refine ⟨fun h => (by rw [h] at hr; cases hr), fun j hj => ?_⟩
    by_cases hji : j = i
    · subst hji; exact hy.wpOp hi hS ⟨fun _ h => h, H⟩
    · have h1 := H.2 j (ready_mono hj hji)
      obtain ⟨hjun, oj, hoj, hall⟩ := mem_ready.1 hj
      have hnot : ∀ e ∈ oj.after, Region.binds md e = true → e.on ≠ i := fun e he hb heq => by
        have h1 := hall e he hb
        rw [heq, getD_both hun] at h1
        cases h1
      obtain ⟨hap, hkj⟩ := hfree j oj hoj hji hjun hnot
      have h2 := wpOp_putIf hoj hap (fun cs b => hsel i oi cs b hi) (fun cs b => hsel j oj cs b hoj) hQ hy h1
      refine wpOp_mono (fun a' w' h3 => ?_) h2
      have hS' := h3.2.1 hkj hS
      refine ⟨fun _ _ => hS', ih (listed.setIfInBounds j true) a' w' (fun k ok hk hki hun' hno => ?_) (ready_mono hr (Ne.symm hji)) h3.1 hS' ?_⟩
      · refine hfree k ok hk hki ?_ hno
        by_cases hjk : j = k
        · subst hjk; exact hjun
        · rw [getD_set_ne true hjk] at hun'; exact hun'
      · rw [Array.setIfInBounds_comm _ _ hji]
        exact h3.2.2
theorem wpAnyK_firstP {i : Nat} {oi : Oper} {v : Value} (hi : ops[i]? = some oi) (hsel : ∀ (j : Nat) (o : Oper) cs b, ops[j]? = some o → o.op ≠ .select cs b)
    (hQ : ∀ c a w, Q (.panic c) (a.put oi.dst v) w → Q (.panic c) a w) :
    ∀ (f : Nat) (listed : Array Bool) (a : Act) (w : World),
      (∀ j oj, ops[j]? = some oj → j ≠ i → listed.getD j true = false → (∀ e ∈ oj.after, Region.binds md e = true → e.on ≠ i) → oi.apart ops oj = true) →
      i ∈ Region.ready md ops listed → YieldsIf P ops (fun _ => True) oi v a →
      wpAnyK P md ops Q S kp f (listed.setIfInBounds i true) (a.put oi.dst v) w → wpAnyK P md ops Q S kp (f + 1) listed a w := by
  intro f
  induction f with
  | zero =>
    intro listed a w _ hr hy H
    refine ⟨fun h => (by rw [h] at hr; cases hr), fun j hj => ?_⟩
    by_cases hji : j = i
    · subst hji; exact hy.wpOp hi trivial ⟨fun _ h => h, H⟩
    · have := ready_mono hj hji
      rw [H.1] at this
      cases this
  | succ f ih =>
    intro listed a w hfree hr hy H
    have hun := (mem_ready.1 hr).1
    refine ⟨fun h => (by rw [h] at hr; cases hr), fun j hj => ?_⟩
    by_cases hji : j = i
    · subst hji; exact hy.wpOp hi trivial ⟨fun _ h => h, H⟩
    · have h1 := H.2 j (ready_mono hj hji)
      obtain ⟨hjun, oj, hoj, hall⟩ := mem_ready.1 hj
      have hnot : ∀ e ∈ oj.after, Region.binds md e = true → e.on ≠ i := fun e he hb heq => by
        have h1 := hall e he hb
        rw [heq, getD_both hun] at h1
        cases h1
      have hap := hfree j oj hoj hji hjun hnot
      have h2 := wpOp_putIf hoj hap (fun cs b => hsel i oi cs b hi) (fun cs b => hsel j oj cs b hoj) hQ hy h1
      refine wpOp_mono (fun a' w' h3 => ?_) h2
      refine ⟨h3.2.1, ih (listed.setIfInBounds j true) a' w' (fun k ok hk hki hun' hno => ?_) (ready_mono hr (Ne.symm hji)) h3.1 ?_⟩
      · refine hfree k ok hk hki ?_ hno
        by_cases hjk : j = k
        · subst hjk; exact hjun
        · rw [getD_set_ne true hjk] at hun'; exact hun'
      · rw [Array.setIfInBounds_comm _ _ hji]
        exact h3.2.2
end

def keepL (e : List PV) : List (Nat × Value) → Prop
  | [] => True
  | (j, v) :: cs => (e[j]?).bind PV.val = some v ∧ keepL e cs
theorem keepL_mem {e : List PV} : ∀ {cs : List (Nat × Value)}, keepL e cs → ∀ p ∈ cs, (e[p.1]?).bind PV.val = some p.2
  | [], _, p, hp => by cases hp
  | (j, v) :: cs, h, p, hp => by
    cases hp with
    | head => exact h.1
    | tail _ hp => exact keepL_mem h.2 p hp
def KeepP (cs : List (Nat × Value)) (st : St) : Prop := ∃ r e, look st.rows 0 = some r ∧ r.els[0]? = some e ∧ keepL e cs
def Sof (b0 : Nat) (cs : List (Nat × Value)) (w : World) : Prop := ∀ p ∈ cs, w.cell? ⟨b0, p.1, none⟩ = some p.2
theorem KeepP.sof {cs : List (Nat × Value)} {st : St} {w0 : Bs} {a : Act} {w : World} {L cp sz ln : Nat → Nat} (h : KeepP cs st) (s : SRL w0 st a w L cp sz ln) : Sof (L 0) cs w := fun p hp => by
  obtain ⟨r, e, hr, he, hk⟩ := h
  obtain ⟨m, hm, hv⟩ := Option.bind_eq_some_iff.1 (keepL_mem hk p hp)
  obtain ⟨u, hu, _, hvr⟩ := s.rowCell hr he hm
  have e1 := VR.of_val hv hvr
  subst e1
  rw [show (0 * sz 0 + p.1) = p.1 by omega] at hu
  exact hu
@[irreducible] def Kq (cs : List (Nat × Value)) (st : St) (x : Prop) : Prop := KeepP cs st ∧ x
theorem Kq.out {cs : List (Nat × Value)} {st : St} {x : Prop} (h : Kq cs st x) : KeepP cs st ∧ x := by unfold Kq at h; exact h
theorem Kq.mk {cs : List (Nat × Value)} {st : St} {x : Prop} {r : Row} {e : List PV} (h1 : look st.rows 0 = some r) (h2 : r.els[0]? = some e) (h3 : keepL e cs) (h4 : x) : Kq cs st x := by unfold Kq; exact ⟨⟨r, e, h1, h2, h3⟩, h4⟩

def wsK (P : Program) (ops : Array Oper) (tt : Tr) (cs : List (Nat × Value)) (n0 : Nat) (T : St → Prop) : List Nat → St → Prop
  | [], st => T st
  | k :: ks, st => match ops[k]? with
    | some o => wl false P ops tt (fun st' => bif Nat.blt k n0 then Kq cs st' (wsK P ops tt cs n0 T ks st') else wsK P ops tt cs n0 T ks st') [o] st
    | none => False

theorem wsK_sound {P : Program} {ops : Array Oper} {T : St → Prop} (tt : Tab P) {cs : List (Nat × Value)} {n0 b0 c0 : Nat} {w0 : Bs} {Qr : Exit → Act → World → Prop} (hpin : w0.pin = some (b0, c0)) (hT : ∀ st' a' w', T st' → SR w0 st' a' w' → Qr .normal a' w') :
    ∀ (ks : List Nat) (listed : Array Bool) (st : St) (a : Act) (w : World), seqL .any ops ks listed = true → wsK P ops tt.l cs n0 T ks st → SR w0 st a w → wpAnyK P .any ops Qr (Sof b0 cs) (fun k => Nat.blt k n0) ks.length listed a w
  | [], listed, st, a, w, hB, h, s => ⟨by simpa [seqL] using hB, hT _ _ _ h s⟩
  | k :: ks, listed, st, a, w, hB, h, s => by
    simp only [seqL, Bool.and_eq_true, decide_eq_true_eq] at hB
    refine ⟨fun h1 => (by rw [hB.1] at h1; cases h1), fun i hi => ?_⟩
    rw [hB.1] at hi
    have hik : i = k := by simpa using hi
    subst hik
    unfold wsK at h
    cases ho : ops[i]? with
    | none => rw [ho] at h; exact h.elim
    | some o =>
      rw [ho] at h
      have hw := wl_sound tt h w0 a w (fun e a' w' => match e with | .normal => ((fun k => Nat.blt k n0) i = true → Sof b0 cs w → Sof b0 cs w') ∧ wpAnyK P .any ops Qr (Sof b0 cs) (fun k => Nat.blt k n0) ks.length (listed.setIfInBounds i true) a' w' | e => Qr e a' w') s (fun st' a' w' h1 h2 => by
        dsimp only
        cases hb : Nat.blt i n0 with
        | true =>
          rw [hb] at h1
          obtain ⟨hk, h1⟩ := Kq.out (show Kq cs st' _ from h1)
          refine ⟨fun _ _ => ?_, wsK_sound tt hpin hT ks _ st' a' w' hB.2 h1 h2⟩
          obtain ⟨L, cp, sz, ln, sL⟩ := h2
          have := hk.sof sL
          rw [(sL.pin _ _ hpin).1] at this
          exact this
        | false =>
          rw [hb] at h1
          exact ⟨fun h _ => (by cases h), wsK_sound tt hpin hT ks _ st' a' w' hB.2 h1 h2⟩)
      unfold wpOp
      rw [ho]
      simp only [wpList] at hw
      split at hw
      · rename_i hwant
        dsimp only
        rw [if_pos hwant]
        rcases hw with hw | hw
        · left
          unfold Oper.wp at *
          revert hw
          generalize (execOp a.eval o).run P w = r
          intro hw
          cases r with
          | ok n w' => cases n <;> exact hw
          | halt hh w' => cases hh <;> exact hw
        · right; exact hw
      · rename_i hwant
        dsimp only
        rw [if_neg hwant]
        exact hw

@[irreducible] def Rx (P : Program) (op : Op) (ty : TypeId) (st : St) (k : MV → Prop) : Prop := ∃ m, ReadOp P op ty st m ∧ k m
theorem Rx.out {P : Program} {op : Op} {ty : TypeId} {st : St} {k : MV → Prop} (h : Rx P op ty st k) : ∃ m, ReadOp P op ty st m ∧ k m := by unfold Rx at h; exact h
theorem Rx.mk {P : Program} {op : Op} {ty : TypeId} {st : St} {k : MV → Prop} {m : MV} (h : ReadOp P op ty st m) (hk : k m) : Rx P op ty st k := by unfold Rx; exact ⟨m, h, hk⟩
def wfK (P : Program) (tt : Tr) (ops : Array Oper) (cs : List (Nat × Value)) (T : St → Prop) : List Nat → St → Prop
  | [], st => T st
  | k :: ks, st => match ops[k]? with
    | some ⟨some d, op, ty, _, _, none⟩ => bif Nat.blt d st.n then (bif pureB op then (match rdo tt st op with
        | .val m => fk m fun m => wfK P tt ops cs T ks (st.put d m)
        | .side c m => Sd c (wfK P tt ops cs T ks (st.put d m))
        | .idx els i => Ixv els i fun e => wfK P tt ops cs T ks (st.put d (.p (.ref e)))
        | .none => Rx P op ty st fun m => wfK P tt ops cs T ks (st.put d m)
        | _ => False)
      else (match op with
        | .load t x => (match tt.get t with
          | some i => (match st.ev x with
            | .loc k0 ei j => bif Nat.beq k0 0 && Nat.beq ei 0 && !i.agg && cs.any (fun p => Nat.beq p.1 j) then (match look st.rows 0 with
              | some r => (match r.els[0]? with
                | some e => (match e[j]? with
                  | some m => fk (.p m) fun m => wfK P tt ops cs T ks (st.put d m)
                  | none => False)
                | none => False)
              | none => False) else False
            | _ => False)
          | none => False)
        | _ => False)) else False
    | _ => False

def kpOk (md : Region.Mode) (ops : Array Oper) (n0 k : Nat) (listed : Array Bool) : Bool :=
  (List.range ops.size).all fun j => Nat.beq j k || listed.getD j true || Nat.blt j n0 || Region.waitsFor md ops j k
def pureAt (ops : Array Oper) (k : Nat) : Bool := match ops[k]? with
  | some o => pureB o.op
  | none => false
def floatK (md : Region.Mode) (ops : Array Oper) (n0 : Nat) : List Nat → Array Bool → Bool
  | [], _ => true
  | k :: ks, listed => (Region.ready md ops listed).contains k && Region.free md ops listed k && (pureAt ops k || kpOk md ops n0 k listed) && floatK md ops n0 ks (listed.setIfInBounds k true)

theorem wfK_sound {P : Program} {ops : Array Oper} {md : Region.Mode} {Q : Exit → Act → World → Prop} {g n0 b0 c0 : Nat} {cs : List (Nat × Value)} (tt : Tab P) {T : St → Prop} {w0 : Bs} {w : World} (hpin : w0.pin = some (b0, c0)) (hsel : Region.noSelect ops = true) (hQ : ∀ c a w, ¬ Q (.panic c) a w) :
    ∀ (F : List Nat) (listed : Array Bool) (st : St) (a : Act), floatK md ops n0 F listed = true → SR w0 st a w → KeepP cs st → wfK P tt.l ops cs T F st →
    (∀ st' a', T st' → SR w0 st' a' w → wpAnyK P md ops Q (Sof b0 cs) (fun k => Nat.blt k n0) g (setAll listed F) a' w) → wpAnyK P md ops Q (Sof b0 cs) (fun k => Nat.blt k n0) (F.length + g) listed a w
  | [], listed, st, a, _, s, _, h, hk => by simpa [setAll] using hk st a h s
  | k :: F, listed, st, a, hB, s, hkeep, h, hk => by
    simp only [floatK, Bool.and_eq_true] at hB
    obtain ⟨⟨⟨hr, hf⟩, hkp⟩, hB'⟩ := hB
    have hr' : k ∈ Region.ready md ops listed := by simpa using hr
    unfold wfK at h
    split at h
    · rename_i d op ty pos aft h0
      cases hd0 : Nat.blt d st.n with
      | false => rw [hd0] at h; exact h.elim
      | true =>
        rw [hd0] at h
        have hd' : d < st.n := by simpa [Nat.blt_eq] using hd0
        rw [show (k :: F).length + g = (F.length + g) + 1 by simp; omega]
        have hfree0 := Region.free_spec h0 hf
        have hfree : pureB op = false → ∀ j oj, ops[j]? = some oj → j ≠ k → listed.getD j true = false → (∀ e ∈ oj.after, Region.binds md e = true → e.on ≠ k) → Oper.apart ops (⟨some d, op, ty, pos, aft, none⟩ : Oper) oj = true ∧ (fun k => Nat.blt k n0) j = true := fun hnp j oj hj hjk hun hno => by
          refine ⟨hfree0 j oj hj hjk hun hno, ?_⟩
          have hpa : pureAt ops k = false := by unfold pureAt; rw [h0]; exact hnp
          rw [hpa, Bool.false_or] at hkp
          have h1 := List.all_eq_true.1 hkp j (List.mem_range.2 (Array.getElem?_eq_some_iff.1 hj).1)
          simp only [Bool.or_eq_true] at h1
          rcases h1 with ((h1 | h1) | h1) | h1
          · exact absurd (Nat.eq_of_beq_eq_true h1) hjk
          · rw [hun] at h1; cases h1
          · exact h1
          · obtain ⟨oj', hoj', e, he, hb, hon⟩ := Region.waitsFor_spec h1
            have : oj' = oj := Option.some.inj (hoj'.symm.trans hj)
            subst this
            exact absurd hon (hno e he hb)
        have hkeep' : ∀ m, KeepP cs (st.put d m) := fun m => hkeep
        obtain ⟨L, cp, sz, ln, sl⟩ := s
        have hS := hkeep.sof sl
        rw [(sl.pin _ _ hpin).1] at hS
        have goP : ∀ (m : MV) (v : Value), MR st.nk w.heap (stab w0 st.rows st.x L w.heap) L cp sz ln m v → (∀ w', (execOp a.eval (⟨some d, op, ty, pos, aft, none⟩ : Oper)).run P w' = .ok (.value v) w') → wfK P tt.l ops cs T F (st.put d m) →
            wpAnyK P md ops Q (Sof b0 cs) (fun k => Nat.blt k n0) (F.length + g + 1) listed a w := fun m v hv hrun hw => by
          refine wpAnyK_firstP h0 (Region.noSelect_spec hsel) (fun c a w hq => absurd hq (hQ _ _ _)) _ listed a w hfree0 hr' (v := v) (.inl ⟨rfl, fun w' _ => hrun w'⟩) ?_
          exact wfK_sound tt hpin hsel hQ F _ _ _ hB' (SR.put sl hd' hv) (hkeep' m) hw (fun st' a' h1 h2 => by have := hk st' a' h1 h2; simpa [setAll] using this)
        have go : pureB op = false → ∀ (m : MV) (v : Value), MR st.nk w.heap (stab w0 st.rows st.x L w.heap) L cp sz ln m v → (∀ w', Sof b0 cs w' → (execOp a.eval (⟨some d, op, ty, pos, aft, none⟩ : Oper)).run P w' = .ok (.value v) w') → wfK P tt.l ops cs T F (st.put d m) →
            wpAnyK P md ops Q (Sof b0 cs) (fun k => Nat.blt k n0) (F.length + g + 1) listed a w := fun hnp m v hv hrun hw => by
          refine wpAnyK_first h0 (Region.noSelect_spec hsel) (fun c a w hq => absurd hq (hQ _ _ _)) _ listed a w (hfree hnp) hr' (v := v) (.inl ⟨rfl, hrun⟩) hS ?_
          exact wfK_sound tt hpin hsel hQ F _ _ _ hB' (SR.put sl hd' hv) (hkeep' m) hw (fun st' a' h1 h2 => by have := hk st' a' h1 h2; simpa [setAll] using this)
        cases hb : pureB op with
        | true =>
          rw [hb] at h
          have step : ∀ m, ReadOp P op ty st m → wfK P tt.l ops cs T F (st.put d m) → wpAnyK P md ops Q (Sof b0 cs) (fun k => Nat.blt k n0) (F.length + g + 1) listed a w := fun m hm hw => by
            obtain ⟨v, hv, hrun⟩ := hm w0 a w L cp sz ln sl
            exact goP m v hv (fun w' => hrun _ w' rfl rfl (.inl hb)) hw
          have hro := rdo_ok (ty := ty) (st := st) tt op
          dsimp only [cond_true] at h
          cases he : rdo tt.l st op with
          | val m => rw [he] at h hro; dsimp only at h; rw [fk_eq] at h; exact step m hro h
          | side c m => rw [he] at h hro; exact step m (hro h.out.1) h.out.2
          | idx els i =>
            rw [he] at h hro
            obtain ⟨h0, e, hel, hh⟩ := h.out
            exact step _ (hro h0 e hel) hh
          | elt els i f => rw [he] at h; exact h.elim
          | br b x y => rw [he] at h; exact h.elim
          | none => rw [he] at h; obtain ⟨m, hm, hw⟩ := h.out; exact step m hm hw
        | false =>
          rw [hb] at h
          dsimp only [cond_true, cond_false] at h
          split at h
          · rename_i t x
            cases hT : tt.l.get t with
            | none => rw [hT] at h; exact h.elim
            | some i =>
              rw [hT] at h
              dsimp only at h
              split at h
              · rename_i k0 ei j hev
                cases hc : (Nat.beq k0 0 && Nat.beq ei 0 && !i.agg && cs.any (fun p => Nat.beq p.1 j)) with
                | false => rw [hc] at h; exact h.elim
                | true =>
                  rw [hc] at h
                  dsimp only [cond_true] at h
                  simp only [Bool.and_eq_true, Bool.not_eq_true'] at hc
                  obtain ⟨⟨⟨hk0, hei⟩, hag⟩, hany⟩ := hc
                  have hk0' := Nat.eq_of_beq_eq_true hk0
                  have hei' := Nat.eq_of_beq_eq_true hei
                  subst hk0' hei'
                  obtain ⟨pc, hpc, hpj⟩ := List.any_eq_true.1 hany
                  have hpj' := Nat.eq_of_beq_eq_true hpj
                  subst hpj'
                  obtain ⟨r, e, hr0, he0, hkl⟩ := hkeep
                  rw [hr0] at h
                  dsimp only at h
                  rw [he0] at h
                  dsimp only at h
                  obtain ⟨m, hm, hv⟩ := Option.bind_eq_some_iff.1 (keepL_mem hkl pc hpc)
                  rw [hm] at h
                  dsimp only at h
                  rw [fk_eq] at h
                  refine go rfl (.p m) pc.2 (VR.of_val_mk hv) (fun w' hw' => ?_) h
                  have hc := hw' pc hpc
                  have hev' := (sl.ev_loc hev).1
                  rw [(sl.pin _ _ hpin).1, show (0 * sz 0 + pc.1) = pc.1 by omega] at hev'
                  simp [execOp, hev', loadAt_one tt hT hag hc]
              · exact h.elim
          · exact h.elim
    · exact h.elim

def regKB (ops : Array Oper) (F ks : List Nat) (n0 : Nat) : Bool :=
  Region.noSelect ops && floatK .any ops n0 F (Array.replicate ops.size false) && seqL .any ops ks (setAll (Array.replicate ops.size false) F) && Nat.beq (F.length + ks.length) ops.size

theorem E.regionK {P : Program} {Q : Exit → St → Prop} {st : St} (tt : Tab P) {id : Nat} {l : List Oper} (F ks : List Nat) (n0 : Nat) (cs : List (Nat × Value)) (hm : P.follows .mixedOrders = true) (hB : regKB l.toArray F ks n0 = true)
    (h : Kq cs st (wfK P tt.l l.toArray cs (wsK P l.toArray tt.l cs n0 (Q .normal) ks) F st)) : Wc P (.region id l.toArray true) Q st := fun w0 a w Qr hs hq => by
  simp only [regKB, Bool.and_eq_true] at hB
  obtain ⟨⟨⟨hsel, hfl⟩, hsq⟩, hlen⟩ := hB
  have hlen' := Nat.eq_of_beq_eq_true hlen
  obtain ⟨hkeep, h⟩ := h.out
  obtain ⟨L, cp, sz, ln, s⟩ := hs
  have hp : w0.pin = none ∨ w0.pin = some (L 0, cp 0) := by
    cases e : w0.pin with
    | none => exact .inl rfl
    | some p => obtain ⟨b, c⟩ := p; obtain ⟨h1, h2⟩ := s.pin b c e; rw [h1, h2]; exact .inr rfl
  have s' : SRL ⟨w0.w, w0.S, w0.M, some (L 0, cp 0)⟩ st a w L cp sz ln :=
    ⟨s.defers, s.size, s.tmps, s.rows, s.inj, s.keys, ⟨s.below.os, s.below.tape, s.below.output, s.below.size, s.below.block⟩, s.pos, fun b c h => by cases h; exact ⟨rfl, rfl⟩, s.frag⟩
  have back : ∀ st a w, SR ⟨w0.w, w0.S, w0.M, some (L 0, cp 0)⟩ st a w → SR w0 st a w := fun st a w ⟨L', cp', sz', ln', s⟩ =>
    ⟨L', cp', sz', ln', ⟨s.defers, s.size, s.tmps, s.rows, s.inj, s.keys, ⟨s.below.os, s.below.tape, s.below.output, s.below.size, s.below.block⟩, s.pos, fun b c h => s.pin b c (by rcases hp with e | e <;> rw [e] at h; cases h; exact h), s.frag⟩⟩
  refine wp_region_noPanic (wp_region_any hm (wpAny_of_K (S := Sof (L 0) cs) (kp := fun k => Nat.blt k n0) _ _ _ _ ?_))
  have key := wfK_sound (md := .any) (Q := NoPanic Qr) (g := ks.length) (n0 := n0) (cs := cs) (b0 := L 0) (c0 := cp 0) tt (w0 := ⟨w0.w, w0.S, w0.M, some (L 0, cp 0)⟩) rfl hsel (fun c a w hq => hq) F _ st a hfl (SR.grow ⟨L, cp, sz, ln, s'⟩ (Ext.drew w)) hkeep h (fun st' a' hT hs1 =>
    wsK_sound (Qr := NoPanic Qr) (w0 := ⟨w0.w, w0.S, w0.M, some (L 0, cp 0)⟩) tt rfl (fun st'' a'' w'' h1 h2 => NoPanic.normal (hq _ _ _ _ h1 (back _ _ _ h2))) ks _ st' a' _ hsq hT hs1)
  rw [hlen'] at key
  exact key
end Go.Lo
