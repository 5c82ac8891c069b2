/- A logical layer over the walk, sixth part: words of 64 bits, pointers to new structs, known blocks handed back. -/
import Derived.Test.YthjbcgdmdmfijaaLoE
set_option linter.unusedVariables false
set_option linter.unusedSimpArgs false
set_option maxRecDepth 100000
namespace Go.Lo
open Go.RowKit

/-! ### Words of 64 bits -/
def u64 (n : Int) : Int := n % 18446744073709551616
theorem u64_wrap (n : Int) : IntKind.u64.wrap n = u64 n := by simp [IntKind.wrap, IntKind.signed, IntKind.bits, u64]
theorem u64_bd (n : Int) : 0 ≤ u64 n ∧ u64 n ≤ 18446744073709551615 := by unfold u64; omega
section
variable {P : Program} {st : St} {x y : Operand} {t t' ty : Nat} {m n : Int}
theorem rd_umul (hx : st.ev x = .p (.int .u64 m)) (hy : st.ev y = .p (.int .u64 n)) : ReadOp P (.binOp .mul t x y t') ty st (.p (.int .u64 (u64 (m * n)))) :=
  bin_int hx hy rfl (fun _ _ => .int) fun w' => by simp [binOp, Op.intArith, u64_wrap]
theorem rd_uadd (hx : st.ev x = .p (.int .u64 m)) (hy : st.ev y = .p (.int .u64 n)) : ReadOp P (.binOp .add t x y t') ty st (.p (.int .u64 (u64 (m + n)))) :=
  bin_int hx hy rfl (fun _ _ => .int) fun w' => by simp [binOp, Op.intArith, u64_wrap]
theorem rd_ushr (hx : st.ev x = .p (.int .u64 m)) (hy : st.ev y = .p (.int .u64 40)) (h0 : 0 ≤ m) (h1 : m ≤ 18446744073709551615) : ReadOp P (.binOp .shr t x y t') ty st (.p (.int .u64 (m / 1099511627776))) := fun w0 a w L cp sz ln s => by
  refine ⟨.int .u64 (m / 1099511627776), VR.int, fun o w' ho _ _ => ?_⟩
  have hg : (eqGuard .shr t x y (.int .u64 m) (.int .u64 40)).run P w' = .ok () w' := by unfold eqGuard; split <;> simp
  have hf : m.fdiv (2 ^ min 40 IntKind.u64.bits) = m / 1099511627776 := by
    have : min 40 IntKind.u64.bits = 40 := rfl
    rw [this, Int.fdiv_eq_ediv_of_nonneg _ (by decide)]; rfl
  simp [execOp, ho, s.ev_int hx, s.ev_int hy, hg, binOp, Op.shift, hf]
theorem and255 {m : Int} (h0 : 0 ≤ m) (h1 : m ≤ 18446744073709551615) : ((BitVec.ofInt 64 m &&& BitVec.ofInt 64 255).toNat : Int) = m % 256 := by
  obtain ⟨k, rfl⟩ := Int.eq_ofNat_of_zero_le h0
  have e1 : (BitVec.ofInt 64 (k : Int)).toNat = k := by simp; omega
  have e2 : (BitVec.ofInt 64 255).toNat = 2 ^ 8 - 1 := by decide
  rw [BitVec.toNat_and, e1, e2, Nat.and_two_pow_sub_one_eq_mod]; rfl
theorem rd_uand (hx : st.ev x = .p (.int .u64 m)) (hy : st.ev y = .p (.int .u64 255)) (h0 : 0 ≤ m) (h1 : m ≤ 18446744073709551615) : ReadOp P (.binOp .and t x y t') ty st (.p (.int .u64 (m % 256))) :=
  bin_int hx hy rfl (fun _ _ => .int) fun w' => by
    have hw : IntKind.u64.wrap (m % 256) = m % 256 := by simp [IntKind.wrap, IntKind.signed, IntKind.bits]; omega
    have := and255 h0 h1
    simp only [binOp, Op.intBits]
    show ((pure (Value.int .u64 (IntKind.u64.wrap ((BitVec.ofInt 64 m &&& BitVec.ofInt 64 255).toNat : Int))) : Sem Value).run P w') = _
    rw [this, hw]; rfl
end

/-! ### Known blocks handed back as what they hold -/
theorem DeepV.vrS {X : Frag} {h : Array Obj} {S : Nat → Prop} (hX : ∀ b o, X b = some o → h[b]? = some o ∧ S b) {v : Value} {m : PV} (hd : DeepV X v m) : VR h S m v := by
  induction hd with
  | val hm => exact VR.of_val_mk hm
  | @view sz els b n c e C U hx hn hc hsz hU _ ih =>
    obtain ⟨hb, hS⟩ := hX _ _ hx
    refine VR.view U hn hc hS hsz (fun i e j m he hm => ?_) ih
    obtain ⟨h1, h2⟩ := hU i e j m he hm
    exact ⟨by simp [hcell, hb, h1], h2⟩
theorem RowR.deepS {X : Frag} {h : Array Obj} {S S' : Nat → Prop} {b c : Nat} {r : Row} {els' : List (List PV)} (g : RowR h S b c r) (hX : ∀ b o, X b = some o → h[b]? = some o ∧ S' b) (hS : ∀ b, S b → S' b) (hr : RfE X r.els els') : RowR h S' b c ⟨r.ty, r.sz, els'⟩ := by
  obtain ⟨C, h1, h2, h3, h4, h5, h6⟩ := g
  refine ⟨C, h1, h2, by rw [← hr.1]; exact h3, h4, hr.wid h5, fun i e' j m' he hm => ?_⟩
  obtain ⟨e, m, q1, q2, q3⟩ := hr.get he hm
  obtain ⟨u, u1, u2, u3⟩ := h6 i e j m q1 q2
  refine ⟨u, u1, u2, ?_⟩
  rcases q3 with rfl | ⟨v, rfl, hv⟩
  · exact u3.mono fun b hb => ⟨hS b hb, rfl⟩
  · have : u = v := VR.of_val (u := v) rfl u3
    subst this
    exact hv.vrS hX
/-- The known blocks are given up; an own row that names them reads through them. Where nothing that was handed in may be written. -/
theorem SR.unX {st : St} {w0 : Bs} {a : Act} {w : World} (hM : ∀ b, ¬ w0.M b) (hs : SR w0 st a w) {k : Nat} {r : Row} {els' : List (List PV)} (hk : look st.rows k = some r) (hr : RfE st.x r.els els') :
    SR w0 { st with rows := (k, ⟨r.ty, r.sz, els'⟩) :: st.rows, x := Frag.nil } a w := by
  obtain ⟨L, cp, sz, ln, s⟩ := hs
  refine ⟨L, cp, sz, ln, ?_⟩
  obtain ⟨g1, hge, hsk, hlk⟩ := s.rows k r hk
  have hlive : ∀ x, liveIn ((k, (⟨r.ty, r.sz, els'⟩ : Row)) :: st.rows) x ↔ liveIn st.rows x := fun x => by
    unfold liveIn; rw [look_cons]
    by_cases h : k = x
    · subst h; rw [if_pos rfl, hk]; simp
    · rw [if_neg h]
  have hb1 : ∀ b, stab w0 st.rows st.x L w.heap b → stab w0 ((k, (⟨r.ty, r.sz, els'⟩ : Row)) :: st.rows) Frag.nil L w.heap b := fun b hb =>
    ⟨hb.1, ⟨hb.2.1.1, rfl⟩, fun x hx => hb.2.2 x ((hlive x).1 hx)⟩
  have hb : ∀ b, stab w0 st.rows st.x L w.heap b → stab w0 ((k, (⟨r.ty, r.sz, els'⟩ : Row)) :: st.rows) Frag.nil L w.heap b ∧ w.heap[b]? = w.heap[b]? := fun b h => ⟨hb1 b h, rfl⟩
  have hX : ∀ b o, st.x b = some o → w.heap[b]? = some o ∧ stab w0 ((k, (⟨r.ty, r.sz, els'⟩ : Row)) :: st.rows) Frag.nil L w.heap b := fun b o hx => by
    obtain ⟨f1, f2, f3⟩ := s.frag b o hx
    refine ⟨f1, lt_of_get f1, ⟨.inr (f2.resolve_right (hM b)), rfl⟩, fun x hxl => f3 x ((hlive x).1 hxl)⟩
  refine ⟨s.defers, s.size, fun t => (s.tmps t).mono hb, fun x rx hx => ?_, fun x y hx hy => s.inj x y ((hlive x).1 hx) ((hlive y).1 hy), fun x hx => s.keys x ((hlive x).1 hx), s.below, s.pos, s.pin, fun b o hx => by cases hx⟩
  rw [look_cons] at hx
  by_cases h : k = x
  · subst h
    rw [if_pos rfl] at hx; cases hx
    exact ⟨g1.deepS hX hb1 hr, hge, hsk, by rw [hlk]; exact hr.1⟩
  · rw [if_neg h] at hx
    obtain ⟨q1, q2, q3, q4⟩ := s.rows x rx hx
    exact ⟨q1.mono hb rfl, q2, q3, q4⟩
/-- A function whose results are known by a law alone; they may be read through the blocks that it made. -/
def UO (P : Program) (f : FuncId) (args : List PV) (K : RV → Prop) : Prop :=
  ∀ w S vals, ArgsR w S args vals → Calls P f vals w (fun e w' => ∃ v rs, e = .returned v ∧ K rs ∧ RR w w' S rs v ∧ Ext w w')
def UHolds (P : Program) (f : FuncId) (c : Ct) : Prop := CallOk P f ∧ ∀ args K, c args K → UO P f args K
def FinU {P : Program} (tt : Tab P) (rl : List ResultVar) (K : RV → Prop) (e : Exit) (st : St) : Prop :=
  ∃ rs st2, K rs ∧ (∀ w0 a w, (∀ b, ¬ w0.M b) → SR w0 st a w → SR w0 st2 a w) ∧ Fin tt rl rs e st2
theorem E.mkU {P : Program} {f : Nat} {fn : Func} {code : Code} {N : Nat} {rl : List ResultVar} {c : Ct} (tt : Tab P) (hf : P.funcs[f]? = some fn) (hb : fn.body = some code) (hn : fn.ntmps = N) (hr : fn.results = rl.toArray)
    (hname : (fn.name == "runtime.NumGoroutine") = false) (h : ∀ args K, c args K → args.length ≤ N ∧ wcl P tt.l code (FinU tt rl K) (init N args)) : UHolds P f c := by
  refine ⟨⟨fn, hf, hname, by rw [hb]; rfl⟩, fun args K hc => ?_⟩
  obtain ⟨hN, hW⟩ := h args K hc
  refine fun w S vals hA => ?_
  refine calls_of_wp hf hb ?_
  rw [hn]
  refine wcl_sound tt code hW _ _ w _ (SR.init hA hN) fun e st' a' w' hQ hs => ?_
  obtain ⟨rs, st2, hK, hconv, hQ⟩ := hQ
  have hs := hconv _ _ _ (fun b h => h) hs
  cases e with
  | ret =>
    obtain ⟨h1, v, h2, h3, h4⟩ := Fin.post (fn := fn) hr hQ hs
    exact ⟨h1, v, h2, v, rs, rfl, hK, h3, h4⟩
  | normal =>
    obtain ⟨h1, v, h2, h3, h4⟩ := Fin.post (fn := fn) hr hQ hs
    exact ⟨h1, v, h2, v, rs, rfl, hK, h3, h4⟩
  | exit id => exact hQ.elim
  | goto l => exact hQ.elim
  | panic ch => exact hQ.elim
  | outgrown => exact hQ.elim
/-- The fresh row that it hands back is frozen at once. -/
theorem E.callUF {P : Program} {ops : Array Oper} {rest : List Oper} {T : St → Prop} {st : St} {d : Nat} {ty : TypeId} {pos : String} {aft : Array Edge} {f : Nat} {xs : Array Operand} {ats : Array TypeId} {args : List PV} {c : Ct}
    (tt : Tab P) (hH : UHolds P f c) (ha : rdArgs st xs.toList = some args) (hp : argsP st xs.toList = true) (hd : Nat.blt d st.n = true) (h0 : Nat.beq st.nk 0 = false)
    (hk : c args (fun rs => ∃ r, rs = [.fresh r] ∧ wl false P ops tt.l T rest (((st.bound rs).put d (bindM st.nk rs)).frz st.nk r))) :
    W false P ops (⟨some d, .call { callee := .value (.func f), args := xs, argTypes := ats }, ty, pos, aft, none⟩ :: rest) T st := by
  have hd' : d < st.n := by simpa [Nat.blt_eq] using hd
  intro w0 a w Qr hs hT
  obtain ⟨L, cp, sz, ln, s⟩ := hs
  obtain ⟨hl, hall⟩ := s.rdArgsP _ _ hp ha
  have hA : ArgsR w (stab w0 st.rows st.x L w.heap) args (xs.map a.eval) := ⟨by simp [hl], fun i m u hm hu => hall i m u hm (by simpa using hu)⟩
  simp only [wpList, wanted_none, if_true]
  refine .inl ?_
  unfold Oper.wp
  rw [call_run hH.1 a.eval rfl _ rfl]
  simp only [Oper.upon]
  refine ((hH.2 _ _ hk) w _ _ hA).mono ?_
  rintro e w' ⟨v, rs, rfl, ⟨r, rfl, hK⟩, hr, hex⟩
  obtain ⟨L', cp', sz', ln', s', hm⟩ := s.bound hex hr (.inl fun b hb _ => hb)
  have hW : W false P ops rest T ((st.bound [.fresh r]).put d (bindM st.nk [.fresh r])) := W.frz (k := st.nk) (r := r) (by simp [St.bound, St.put, bindRows, look, Nat.beq_refl]) h0 (wl_sound tt hK)
  exact hW w0 _ w' Qr ⟨L', cp', sz', ln', s'.put (d := d) (show d < (st.bound [.fresh r]).n from hd') hm⟩ hT

/-! ### A function that hands back a pointer to a new struct -/
abbrev PCt := List PV → (Row → Prop) → Prop
def PO (P : Program) (f : FuncId) (args : List PV) (r : Row) : Prop :=
  ∀ w S vals, ArgsR w S args vals → Calls P f vals w (fun e w' => ∃ b cp, e = .returned (.pointer (some ⟨b, 0, none⟩)) ∧ RRL w w' S [.fresh r] (.slice (some ⟨b, 0, none⟩) r.els.length cp) (fun _ => b) (fun _ => cp) ∧ Ext w w')
def PHolds (P : Program) (f : FuncId) (c : PCt) : Prop := CallOk P f ∧ ∀ args K, c args K → ∃ r, PO P f args r ∧ K r
def FinP (t : Nat) (r : Row) : Exit → St → Prop
  | .ret, st => ∃ k, st.get t = .loc k 0 0 ∧ look st.rows k = some r
  | .normal, st => ∃ k, st.get t = .loc k 0 0 ∧ look st.rows k = some r
  | _, _ => False
theorem E.mkP {P : Program} {f : Nat} {fn : Func} {code : Code} {N : Nat} {t : Nat} {c : PCt} (tt : Tab P) (hf : P.funcs[f]? = some fn) (hb : fn.body = some code) (hn : fn.ntmps = N) (hr : fn.results = [ResultVar.tmp t].toArray)
    (hname : (fn.name == "runtime.NumGoroutine") = false) (h : ∀ args K, c args K → args.length ≤ N ∧ ∃ r, K r ∧ wcl P tt.l code (FinP t r) (init N args)) : PHolds P f c := by
  refine ⟨⟨fn, hf, hname, by rw [hb]; rfl⟩, fun args K hc => ?_⟩
  obtain ⟨hN, r, hK, hW⟩ := h args K hc
  refine ⟨r, fun w S vals hA => ?_, hK⟩
  refine calls_of_wp hf hb ?_
  rw [hn]
  refine wcl_sound tt code hW _ _ w _ (SR.init hA hN) fun e st' a' w' hQ hs => ?_
  have key : (∃ k, st'.get t = .loc k 0 0 ∧ look st'.rows k = some r) → a'.defers = [] ∧ ∃ v, (Go.results fn a'.tmps).run P w' = .ok v w' ∧ ∃ b cp, Ending.returned v = Ending.returned (.pointer (some ⟨b, 0, none⟩)) ∧ RRL w w' S [.fresh r] (.slice (some ⟨b, 0, none⟩) r.els.length cp) (fun _ => b) (fun _ => cp) ∧ Ext w w' := by
    rintro ⟨k, hk, hrow⟩
    obtain ⟨L, cp, sz, ln, s⟩ := hs
    have hm := s.tmps t
    rw [hk] at hm
    have hv : a'.tmps.getD t Go.undef = .pointer (some ⟨L k, 0, none⟩) := by
      have := hm.1; simpa using this
    obtain ⟨g1, g2, _⟩ := s.rows k r hrow
    have hrun := results_run (P := P) hr (a := a') (w := w') (vs := [.pointer (some ⟨L k, 0, none⟩)]) rfl (fun i x v hx hv' => by
      match i, hx, hv' with
      | 0, hx, hv' =>
        simp at hx hv'; subst hx; subst hv'
        unfold res1
        simp [hv])
    refine ⟨s.defers, _, hrun, L k, cp k, rfl, ⟨fun i r' hi => ?_, fun i j hi hj _ => ?_, fun r' hr' => ?_, fun h => absurd rfl h⟩, ⟨s.below.os, s.below.tape, s.below.output, s.below.size, fun b hb => s.below.block b hb (fun h => h)⟩⟩
    · match i, hi with
      | 0, hi =>
        simp at hi; subst hi
        refine ⟨g2.resolve_right (fun h => h.2), g1.mono (fun b hb => ⟨⟨hb.1, hb.2.1.1, fun i _ => hb.2.2 k (by unfold liveIn; rw [hrow]; rfl)⟩, rfl⟩) rfl⟩
    · obtain ⟨r1, h1⟩ := hi
      obtain ⟨r2, h2⟩ := hj
      have a1 := (List.getElem?_eq_some_iff.1 h1).1
      have a2 := (List.getElem?_eq_some_iff.1 h2).1
      simp at a1 a2; omega
    · simp at hr'; subst hr'; rfl
  cases e with
  | ret =>
    obtain ⟨h1, v, h2, h3⟩ := key hQ
    exact ⟨h1, v, h2, h3⟩
  | normal =>
    obtain ⟨h1, v, h2, h3⟩ := key hQ
    exact ⟨h1, v, h2, h3⟩
  | exit id => exact hQ.elim
  | goto l => exact hQ.elim
  | panic ch => exact hQ.elim
  | outgrown => exact hQ.elim
section
variable {P : Program} {ops : Array Oper} {rest : List Oper} {T : St → Prop} {st : St} {d : Nat} {ty : TypeId} {pos : String} {aft : Array Edge} {f : Nat} {xs : Array Operand} {ats : Array TypeId} {args : List PV}
theorem E.callP {c : PCt} (tt : Tab P) (hH : PHolds P f c) (ha : rdArgs st xs.toList = some args) (hp : argsP st xs.toList = true) (hd : Nat.blt d st.n = true)
    (hk : c args (fun r => wl false P ops tt.l T rest ((st.bound [.fresh r]).put d (.loc st.nk 0 0)))) :
    W false P ops (⟨some d, .call { callee := .value (.func f), args := xs, argTypes := ats }, ty, pos, aft, none⟩ :: rest) T st := by
  have hd' : d < st.n := by simpa [Nat.blt_eq] using hd
  intro w0 a w Qr hs hT
  obtain ⟨L, cp, sz, ln, s⟩ := hs
  obtain ⟨r, hro, hK⟩ := hH.2 _ _ hk
  obtain ⟨hl, hall⟩ := s.rdArgsP _ _ hp ha
  have hA : ArgsR w (stab w0 st.rows st.x L w.heap) args (xs.map a.eval) := ⟨by simp [hl], fun i m u hm hu => hall i m u hm (by simpa using hu)⟩
  simp only [wpList, wanted_none, if_true]
  refine .inl ?_
  unfold Oper.wp
  rw [call_run hH.1 a.eval rfl _ rfl]
  simp only [Oper.upon]
  refine (hro w _ _ hA).mono ?_
  rintro e w' ⟨b, bc, rfl, hr, hex⟩
  obtain ⟨L', cp', sz', ln', s', hm⟩ := s.bound hex ⟨_, _, hr⟩ (.inl fun b hb _ => hb)
  have hb : L' st.nk = b ∧ st.nk < (st.bound [.fresh r]).nk := by
    have h1 := hm.1
    simp only [Value.slice.injEq, Option.some.injEq] at h1
    exact ⟨by have := h1.1; cases this; rfl, hm.2⟩
  refine wl_sound tt hK w0 _ w' Qr ⟨L', cp', sz', ln', s'.put (d := d) (show d < (st.bound [.fresh r]).n from hd') ?_⟩ hT
  show MR1 (st.bound [.fresh r]).nk w'.heap (stab w0 (st.bound [.fresh r]).rows st.x L' w'.heap) L' cp' sz' ln' (.loc st.nk 0 0) (.pointer (some ⟨b, 0, none⟩))
  exact ⟨by simp [hb.1], hb.2⟩
end

/-! ### Bytes that were handed in -/
def encB (n : Int) : List PV := [.int .u8 n]
theorem reads_int8 {P : Program} {t : TypeId} (ht : P.underlying t = some (.int .u8)) : Reads P t 1 (fun pvs => ∃ n : Int, pvs = encB n ∧ (0 ≤ n ∧ n ≤ 255)) := fun H enc w fuel cs x h => by
  obtain ⟨n, rfl, _, hw⟩ := DataW.trod_int ht h
  refine ⟨[.int .u8 n], rfl, rfl, (fun u hu => by simp at hu; subst hu; rfl), one_vr .int, n, rfl, ?_⟩
  simp [Lit.wf, IntKind.min, IntKind.max, IntKind.signed, IntKind.bits] at hw
  omega
end Go.Lo
