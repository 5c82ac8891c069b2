/- A logical layer over the walk, third part: more operations, an engine that computes what a text asks, readings of arguments. -/
import Derived.Test.YthjbcgdmdmfijaaLoB
import Derived.Laws.CopyRow
import Derived.Deep.RegionHeld3
import Derived.MapKept
import Derived.Deep.Slices
import Derived.OpenShut
set_option linter.unusedVariables false
set_option linter.unusedSimpArgs false
set_option maxRecDepth 100000
namespace Go.Lo
open Go.RowKit
variable {P : Program} {st : St}

/-! ### Struct literals -/
theorem Tab.struct {P : Program} (tt : Tab P) {t : Nat} {i : TyI} (h : tt.l.get t = some i) (ha : i.agg = true) (he : i.el = none) :
    ∃ fs, P.underlying t = some (.struct fs) ∧ i.fs = fs.toList.map fun f => (f.offset, szOf P f.type) := by
  obtain ⟨inf, d, h1, h2, h3, h4, h5, h6, h7, _⟩ := ty_parts (tt.ty h)
  rw [ha] at h5; rw [he] at h7; rw [h6]
  cases d with
  | struct fs => exact ⟨fs, h2, rfl⟩
  | array n e => cases h7
  | _ => cases h5

def nzB : List (Nat × Nat) → Bool
  | [] => true
  | p :: r => !Nat.beq p.2 0 && nzB r

theorem run_places (P : Program) (w : World) : ∀ (fs : List Field), nzB (fs.map fun f => (f.offset, szOf P f.type)) = true →
    (fs.mapM fun f => (do pure (f.offset, ← sizeOf f.type) : Sem (Nat × Nat))).run P w = .ok (fs.map fun f => (f.offset, szOf P f.type)) w
  | [], _ => by simp
  | f :: fs, h => by
    simp only [List.map_cons, nzB, Bool.and_eq_true] at h
    have ih := run_places P w fs h.2
    have hne : szOf P f.type ≠ 0 := fun e => by rw [e] at h; simp at h
    have hi : ∃ inf, P.info? f.type = some inf ∧ inf.size = szOf P f.type := by
      unfold szOf at hne ⊢
      cases hi : P.info? f.type with
      | none => rw [hi] at hne; simp at hne
      | some inf => exact ⟨inf, rfl, by simp⟩
    obtain ⟨inf, hi, hs⟩ := hi
    have h1 : ((do pure (f.offset, ← sizeOf f.type) : Sem (Nat × Nat))).run P w = .ok (f.offset, szOf P f.type) w := by simp [run_sizeOf hi, hs]
    simp only [List.mapM_cons, Sem.run_bind, h1, ih, Result.andThen_ok, Sem.run_pure, List.map_cons]

theorem rd_build {t ty : Nat} {parts : Array (Nat × Operand)} {i : TyI} {F : List PV} (tt : Tab P) (h : tt.l.get t = some i) (ha : i.agg = true) (he : i.el = none) (hn : (Nat.beq i.zero.length i.sz && !Nat.beq i.sz 0 && nzB i.fs) = true)
    (hF : fillL (fun k => i.fs[k]?) st i.zero parts.toList = some F) : ReadOp P (.build t parts) ty st (.p (.agg F)) := fun w0 a w L cp sz ln s => by
  simp only [Bool.and_eq_true, Bool.not_eq_true'] at hn
  obtain ⟨⟨n1, n2⟩, n3⟩ := hn
  obtain ⟨fs, hu, hfs⟩ := tt.struct h ha he
  obtain ⟨inf, v, i1, i2, i3, i4, i5, i6⟩ := tt.zero h n1 n2
  obtain ⟨g1, g2, g3⟩ := cellsPV_vr (h := w.heap) (S := stab w0 st.rows st.x L w.heap) _ _ i5
  obtain ⟨C, hC, hCa, hCf⟩ := fill_run s (place' := fun k => (fs.toList.map fun f => (f.offset, szOf P f.type))[k]?) (fun k p hp => by rw [← hfs]; exact hp) parts.toList i.zero F v.cells ⟨g1, g2⟩ g3 hF
  refine ⟨.agg C, VR.agg (by simpa using hCa.1) (fun j c u hc hu => hCa.2 j c u hc (by simpa using hu)), fun o w' ho _ _ => ?_⟩
  have hpl : (fs.mapM fun f => (do pure (f.offset, ← sizeOf f.type) : Sem (Nat × Nat))).run P w' = .ok (fs.toList.map fun f => (f.offset, szOf P f.type)).toArray w' := by
    have := run_places P w' fs.toList (by rw [← hfs]; exact n3)
    rw [← Array.toArray_toList (xs := fs), List.mapM_toArray]
    simp only [Sem.run_map, this, Result.andThen_ok]
  have hparts : (parts.map fun (p : Nat × Operand) => (p.1, a.eval p.2)).toList = parts.toList.map fun p => (p.1, a.eval p.2) := by simp
  have hC' : Instr.fill (fun k => ((fs.toList.map fun f => (f.offset, szOf P f.type)).toArray)[k]?) v.cells (parts.map fun (p : Nat × Operand) => (p.1, a.eval p.2)).toList = some C := by
    rw [hparts, ← hC]; congr 1; funext k; simp
  simp only [execOp, ho, Instr.build, zeroValue, typeInfo, program, underlying, Sem.run, Sem.run_bind, Result.andThen_ok, i1, i4, hu, hpl, hC', Sem.run_pure]

/-! ### Fields of values -/
theorem rd_fld {x : Operand} {t f off ty : Nat} {i : TyI} {cs : List PV} {m : PV} (tt : Tab P) (h : tt.l.get t = some i) (hf : i.fs[f]? = some (off, 1)) {ft : Nat} {fi : TyI} (hft : ∀ fs fld, P.underlying t = some (.struct fs) → fs[f]? = some fld → fld.type = ft) (hfi : tt.l.get ft = some fi) (ha : fi.agg = false)
    (hx : st.ev x = .p (.agg cs)) (hm : cs[off]? = some m) : ReadOp P (.field t x f) ty st (.p m) := fun w0 a w L cp sz ln s => by
  obtain ⟨fs, fld, h1, h2, h3, h4⟩ := tt.field h hf
  have e := hft fs fld h1 h2
  have hv := s.ev_p hx
  generalize hval : a.eval x = v at *
  cases hv with
  | @agg _ us hlu hvu =>
    have hlt : off < us.size := by rw [← hlu]; exact (List.getElem?_eq_some_iff.1 hm).1
    refine ⟨us[off], hvu off m us[off] hm (by simp [hlt]), fun o w' ho _ _ => ?_⟩
    have hag : (isAgg ft).run P w' = .ok false w' := by rw [tt.isAgg hfi, ha]
    have hp : (part ft us off).run P w' = .ok us[off] w' := by simp [part, hag, hlt]
    simp [execOp, ho, hval, Instr.field, underlying, program, Sem.run, h1, h2, asAgg, e, h3, hp]

theorem rd_fld_agg {x : Operand} {t f off z ty : Nat} {i : TyI} {cs : List PV} (tt : Tab P) (h : tt.l.get t = some i) (hf : i.fs[f]? = some (off, z)) {ft : Nat} {fi : TyI} (hft : ∀ fs fld, P.underlying t = some (.struct fs) → fs[f]? = some fld → fld.type = ft) (hfi : tt.l.get ft = some fi) (ha : fi.agg = true) (hz : fi.sz = z)
    (hx : st.ev x = .p (.agg cs)) (hm : Nat.ble (off + z) cs.length = true) : ReadOp P (.field t x f) ty st (.p (.agg ((cs.drop off).take z))) := fun w0 a w L cp sz ln s => by
  obtain ⟨fs, fld, h1, h2, h3, h4⟩ := tt.field h hf
  have e := hft fs fld h1 h2
  have hle := Nat.le_of_ble_eq_true hm
  have hv := s.ev_p hx
  generalize hval : a.eval x = v at *
  cases hv with
  | @agg _ us hlu hvu =>
    refine ⟨.agg (us.extract off (off + z)), VR.agg (by simp; omega) (fun j c u hc hu => ?_), fun o w' ho _ _ => ?_⟩
    · have hj : j < z := by
        rcases Nat.lt_or_ge j z with h' | h'
        · exact h'
        · simp [List.getElem?_take, Nat.not_lt.2 h'] at hc
      rw [List.getElem?_take, if_pos hj, List.getElem?_drop] at hc
      have hlt : off + j < us.size := by omega
      have hu' : us[off + j]? = some u := by
        rw [Array.getElem?_extract] at hu
        split at hu
        · exact hu
        · cases hu
      exact hvu _ c u hc hu'
    · obtain ⟨inf, q1, q2, _⟩ := tt.info hfi
      have hag : (isAgg ft).run P w' = .ok true w' := by rw [tt.isAgg hfi, ha]
      have hp : (part ft us off).run P w' = .ok (.agg (us.extract off (off + z))) w' := by simp [part, hag, run_sizeOf q1, q2, hz]
      simp [execOp, ho, hval, Instr.field, underlying, program, Sem.run, h1, h2, asAgg, e, h3, hp]

/-! ### Bools -/
theorem bool_eq_run {t : Nat} (hT : P.underlying t = some .bool) (b c : Bool) (w : World) : (Op.equal t (.bool b) (.bool c)).run P w = .ok (b == c) w := by
  unfold Op.equal Op.maxDepth Op.equalIn
  simp [underlying, program, Sem.run, hT]
theorem rd_beql {x y : Operand} {t t' ty : Nat} {b c : Bool} (hT : P.underlying t = some .bool) (hx : st.ev x = .p (.bool b)) (hy : st.ev y = .p (.bool c)) : ReadOp P (.binOp .eql t x y t') ty st (.p (.bool (b == c))) := fun w0 a w L cp sz ln s => by
  refine ⟨.bool (b == c), VR.bool, fun o w' ho _ _ => ?_⟩
  have hg : (eqGuard .eql t x y (.bool b) (.bool c)).run P w' = .ok () w' := by unfold eqGuard; split <;> simp
  simp [execOp, ho, s.ev_bool hx, s.ev_bool hy, hg, binOp, bool_eq_run hT]
theorem rd_bneq {x y : Operand} {t t' ty : Nat} {b c : Bool} (hT : P.underlying t = some .bool) (hx : st.ev x = .p (.bool b)) (hy : st.ev y = .p (.bool c)) : ReadOp P (.binOp .neq t x y t') ty st (.p (.bool (!(b == c)))) := fun w0 a w L cp sz ln s => by
  refine ⟨.bool (!(b == c)), VR.bool, fun o w' ho _ _ => ?_⟩
  have hg : (eqGuard .neq t x y (.bool b) (.bool c)).run P w' = .ok () w' := by unfold eqGuard; split <;> simp
  simp [execOp, ho, s.ev_bool hx, s.ev_bool hy, hg, binOp, bool_eq_run hT]

/-! ### Least and greatest -/
theorem two_core {b : Builtin} {x y : Operand} {ty : Nat} {ats : Array TypeId} {m n r : Int} (hx : st.ev x = .p (.int .i64 m)) (hy : st.ev y = .p (.int .i64 n))
    (hrun : ∀ w' cs, (builtin b ats ty cs #[.int .i64 m, .int .i64 n]).run P w' = .ok (.value (.int .i64 r)) w') :
    ReadOp P (.call { callee := .builtin b, args := #[x, y], argTypes := ats }) ty st (.p (.int .i64 r)) := fun w0 a w L cp sz ln s => by
  refine ⟨.int .i64 r, VR.int, fun o w' ho hty _ => ?_⟩
  subst hty
  simp [execOp, ho, s.ev_int hx, s.ev_int hy, resolve, invoke, hrun]
theorem rd_min {x y : Operand} {ty : Nat} {ats : Array TypeId} {m n : Int} (hx : st.ev x = .p (.int .i64 m)) (hy : st.ev y = .p (.int .i64 n)) :
    ReadOp P (.call { callee := .builtin .min, args := #[x, y], argTypes := ats }) ty st (.p (.int .i64 (min m n))) :=
  two_core hx hy fun w' cs => by
    have : (if n < m then n else m) = min m n := by split <;> omega
    simp [builtin, Builtin.min_, Builtin.min2, this]
theorem rd_max {x y : Operand} {ty : Nat} {ats : Array TypeId} {m n : Int} (hx : st.ev x = .p (.int .i64 m)) (hy : st.ev y = .p (.int .i64 n)) :
    ReadOp P (.call { callee := .builtin .max, args := #[x, y], argTypes := ats }) ty st (.p (.int .i64 (max m n))) :=
  two_core hx hy fun w' cs => by
    have h2 : (if m < n then n else m) = max m n := by split <;> omega
    simp [builtin, Builtin.max_, Builtin.max2, h2]

/-! ### Shifts -/
theorem rd_shl {x y : Operand} {t t' ty : Nat} {k : IntKind} {m n : Int} (hx : st.ev x = .p (.int .i64 m)) (hy : st.ev y = .p (.int k n)) (h0 : 0 ≤ n) (h1 : n ≤ 64) (h : in64 (m * 2 ^ n.toNat)) :
    ReadOp P (.binOp .shl t x y t') ty st (.p (.int .i64 (m * 2 ^ n.toNat))) := fun w0 a w L cp sz ln s => by
  refine ⟨.int .i64 (m * 2 ^ n.toNat), VR.int, fun o w' ho _ _ => ?_⟩
  have hg : (eqGuard .shl t x y (.int .i64 m) (.int k n)).run P w' = .ok () w' := by unfold eqGuard; split <;> simp
  have hmin : min n.toNat IntKind.i64.bits = n.toNat := by
    have : IntKind.i64.bits = 64 := rfl
    rw [this]; omega
  have hn : ¬ n < 0 := by omega
  simp [execOp, ho, s.ev_int hx, s.ev_int hy, hg, binOp, Op.shift, hn, hmin, wrap_in64 h]

/-! ### Strings -/
theorem rd_sadd {x y : Operand} {t t' ty : Nat} {m n : ByteArray} (hx : st.ev x = .p (.str m)) (hy : st.ev y = .p (.str n)) (h : ((m.size + n.size : Nat) : Int) ≤ 9223372036854775807) :
    ReadOp P (.binOp .add t x y t') ty st (.p (.str (m ++ n))) := fun w0 a w L cp sz ln s => by
  refine ⟨.string (m ++ n), VR.str, fun o w' ho _ _ => ?_⟩
  have hg : (eqGuard .add t x y (.string m) (.string n)).run P w' = .ok () w' := by unfold eqGuard; split <;> simp
  have hm : ¬ (((m.size + n.size : Nat) : Int) > IntKind.i64.max) := by
    have : IntKind.i64.max = 9223372036854775807 := by decide
    rw [this]; omega
  simp only [execOp, ho, s.ev_str hx, s.ev_str hy, hg, binOp, Op.stringOp, hm, if_false, Sem.run_bind, Result.andThen_ok, Sem.run_pure]

/-- string(b), b one byte of the call's own. -/
theorem rd_b2s {x : Operand} {t t' ty e k z : Nat} {n : Int} {r : Row} {ti ti' ei : TyI} (tt : Tab P) (h : tt.l.get t = some ti) (hel : ti.el = some (e, z)) (ha : ti.agg = false) (he : tt.l.get e = some ei) (hk : ei.ik = some .u8) (h' : tt.l.get t' = some ti') (hs : ti'.str = true)
    (hx : st.ev x = .own k) (hr : look st.rows k = some r) (hre : r.els = [[.int .u8 n]]) : ReadOp P (.convert t t' x) ty st (.p (.str ⟨#[UInt8.ofNat n.toNat]⟩)) := fun w0 a w L cp sz ln s => by
  refine ⟨.string ⟨#[UInt8.ofNat n.toNat]⟩, VR.str, fun o w' ho _ ex => ?_⟩
  obtain ⟨u, hu, hone, hv⟩ := s.rowCell (i := 0) (j := 0) (e := [.int .u8 n]) (m := .int .u8 n) hr (by rw [hre]; rfl) rfl
  cases hv
  have hln : ln k = 1 := by rw [(s.rows k r hr).2.2.2, hre]; rfl
  have hc : w'.cell? ⟨L k, 0, none⟩ = some (.int .u8 n) := by rw [(ex.resolve_left (by simp [pureB])).cell (s.live_lt (by simp [liveIn, hr]))]; simpa using hu
  have hu1 := (tt.slice h hel ha).1
  have hu2 := tt.int he hk
  have hu3 := tt.string h' hs
  have hadd : Addr.add ⟨L k, 0, none⟩ 0 = ⟨L k, 0, none⟩ := by rw [add_mk]
  have hload : (loadCells ⟨L k, 0, none⟩ 1).run P w' = .ok #[.int .u8 n] w' := by
    simp [loadCells, loadCellsFrom, hadd, hc]
  simp [execOp, ho, (s.ev_own hx).1, hln, convert, underlying, program, Sem.run, hu1, hu2, hu3, Conv.bytesToString, hload]
  rfl

/-! ### Slices of slices -/
theorem VR.cut {h : Array Obj} {S : Nat → Prop} {z : Nat} {els : List (List PV)} {ao : Option Addr} {n c : Nat} (hv : VR h S (.view z els) (.slice ao n c)) {lo hi : Nat} (h1 : lo ≤ hi) (h2 : hi ≤ els.length) :
    VR h S (.view z ((els.take hi).drop lo)) (.slice (if c = lo then ao else ao.map (·.add (lo * z))) (hi - lo) (c - lo)) := by
  generalize hv' : Value.slice ao n c = v at hv
  cases hv with
  | view0 =>
    cases hv'
    have : lo = 0 := by simp at h2; omega
    have : hi = 0 := by simp at h2; omega
    subst this; subst_vars
    simp
    exact .view0
  | @view _ _ b off n' c' U hn hc hS hsz hU hV =>
    cases hv'
    have hlen : ((els.take hi).drop lo).length = hi - lo := by simp; omega
    by_cases he : hi = lo
    · subst he
      have : (els.take hi).drop hi = [] := List.drop_eq_nil_of_le (by simp; omega)
      rw [this, Nat.sub_self]
      exact .view0
    · have hcl : ¬ c = lo := by omega
      rw [if_neg hcl]
      simp only [Option.map_some, add_mk]
      have hget : ∀ (i : Nat) e, ((els.take hi).drop lo)[i]? = some e → els[lo + i]? = some e := fun i e hi' => by
        rw [List.getElem?_drop, List.getElem?_take] at hi'
        split at hi'
        · exact hi'
        · cases hi'
      refine .view (fun i j => U (lo + i) j) hlen (by omega) hS (fun e he' => hsz e (List.mem_of_mem_take (List.mem_of_mem_drop he'))) (fun i e j m hi' hm => ?_) (fun i e j m hi' hm => hV (lo + i) e j m (hget i e hi') hm)
      have := hU (lo + i) e j m (hget i e hi') hm
      rwa [show off + lo * z + (i * z + j) = off + ((lo + i) * z + j) by rw [Nat.add_mul]; omega]

theorem sliceBounds_run {len cap : Nat} {lo hi : Option Int} {k k' : IntKind} (w : World) (h0 : 0 ≤ lo.getD 0) (h1 : lo.getD 0 ≤ hi.getD len) (h2 : hi.getD len ≤ cap) :
    (Instr.sliceBounds true len cap (lo.map (.int k)) (hi.map (.int k')) none).run P w = .ok ((lo.getD 0).toNat, (hi.getD len).toNat, cap) w := by
  cases lo with
  | none =>
    cases hi with
    | none => simp [Instr.sliceBounds]
    | some b => simp at h1 h2; simp [Instr.sliceBounds, Instr.sliceBound, asIntOf, h1, h2]
  | some a =>
    cases hi with
    | none => simp at h0 h1 h2; simp [Instr.sliceBounds, Instr.sliceBound, asIntOf, h0, h1]
    | some b =>
      simp at h0 h1 h2
      have : 0 ≤ b := by omega
      have h3 : ¬ max b 0 < a := by omega
      simp [Instr.sliceBounds, Instr.sliceBound, asIntOf, h0, this, h2, h3]

theorem cut_core {x : Operand} {t e z ty : Nat} {ti : TyI} {lo hi : Option Operand} {lo' hi' : Option Int} {k k' : IntKind} {els : List (List PV)} (tt : Tab P) (h : tt.l.get t = some ti) (hel : ti.el = some (e, z)) (ha : ti.agg = false) (hz : Nat.beq z 0 = false)
    (hx : st.ev x = .p (.view z els)) (hlo : ∀ w0 a w L cp sz ln, SRL w0 st a w L cp sz ln → lo.map a.eval = lo'.map (.int k)) (hhi : ∀ w0 a w L cp sz ln, SRL w0 st a w L cp sz ln → hi.map a.eval = hi'.map (.int k'))
    (h0 : 0 ≤ lo'.getD 0) (h1 : lo'.getD 0 ≤ hi'.getD els.length) (h2 : hi'.getD els.length ≤ els.length) :
    ReadOp P (.slice t x lo hi none) ty st (.p (.view z ((els.take (hi'.getD els.length).toNat).drop (lo'.getD 0).toNat))) := fun w0 a w L cp sz ln s => by
  have hv := s.ev_p hx
  obtain ⟨ao, c, hs⟩ := hv.view_shape
  rw [hs] at hv
  have hc : els.length ≤ c := by
    cases hv with
    | view0 => exact Nat.zero_le _
    | view U hn hc hS hsz hU hV => omega
  obtain ⟨hu, hse⟩ := tt.slice h hel ha
  have hz' : z ≠ 0 := fun e => by subst e; cases hz
  have hi2 : ∃ inf, P.info? e = some inf ∧ inf.size = z := by
    unfold szOf at hse
    cases hi : P.info? e with
    | none => rw [hi] at hse; exact absurd hse.symm hz'
    | some inf => rw [hi] at hse; exact ⟨inf, rfl, hse⟩
  obtain ⟨inf, hi3, hi4⟩ := hi2
  refine ⟨_, hv.cut (lo := (lo'.getD 0).toNat) (hi := (hi'.getD els.length).toNat) (by omega) (by omega), fun o w' ho _ _ => ?_⟩
  have hb := sliceBounds_run (P := P) (len := els.length) (cap := c) (lo := lo') (hi := hi') (k := k) (k' := k') w' h0 h1 (by omega)
  simp only [execOp, ho, hs, hlo _ _ _ _ _ _ _ s, hhi _ _ _ _ _ _ _ s, Option.map_none]
  simp [Instr.sliceAt, Instr.slice, underlying, program, Sem.run, hu, hb, run_sizeOf hi3, hi4]

theorem rd_cut {x lo hi : Operand} {t e z ty : Nat} {ti : TyI} {k k' : IntKind} {m n : Int} {els : List (List PV)} (tt : Tab P) (h : tt.l.get t = some ti) (hel : ti.el = some (e, z)) (ha : ti.agg = false) (hz : Nat.beq z 0 = false)
    (hx : st.ev x = .p (.view z els)) (hlo : st.ev lo = .p (.int k m)) (hhi : st.ev hi = .p (.int k' n)) (h0 : 0 ≤ m) (h1 : m ≤ n) (h2 : n ≤ els.length) :
    ReadOp P (.slice t x (some lo) (some hi) none) ty st (.p (.view z ((els.take n.toNat).drop m.toNat))) :=
  cut_core (lo' := some m) (hi' := some n) (k := k) (k' := k') tt h hel ha hz hx (fun w0 a w L cp sz ln s => by simp [s.ev_int hlo]) (fun w0 a w L cp sz ln s => by simp [s.ev_int hhi]) h0 h1 h2
theorem rd_cut_hi {x hi : Operand} {t e z ty : Nat} {ti : TyI} {k' : IntKind} {n : Int} {els : List (List PV)} (tt : Tab P) (h : tt.l.get t = some ti) (hel : ti.el = some (e, z)) (ha : ti.agg = false) (hz : Nat.beq z 0 = false)
    (hx : st.ev x = .p (.view z els)) (hhi : st.ev hi = .p (.int k' n)) (h1 : 0 ≤ n) (h2 : n ≤ els.length) :
    ReadOp P (.slice t x none (some hi) none) ty st (.p (.view z (els.take n.toNat))) := by
  have := cut_core (P := P) (ty := ty) (lo := none) (hi := some hi) (lo' := none) (hi' := some n) (k := k') (k' := k') tt h hel ha hz hx (fun w0 a w L cp sz ln s => rfl) (fun w0 a w L cp sz ln s => by simp [s.ev_int hhi]) (by simp) (by simpa using h1) (by simpa using h2)
  simpa using this
theorem rd_cut_lo {x lo : Operand} {t e z ty : Nat} {ti : TyI} {k : IntKind} {m : Int} {els : List (List PV)} (tt : Tab P) (h : tt.l.get t = some ti) (hel : ti.el = some (e, z)) (ha : ti.agg = false) (hz : Nat.beq z 0 = false)
    (hx : st.ev x = .p (.view z els)) (hlo : st.ev lo = .p (.int k m)) (h0 : 0 ≤ m) (h1 : m ≤ els.length) :
    ReadOp P (.slice t x (some lo) none none) ty st (.p (.view z (els.drop m.toNat))) := by
  have := cut_core (P := P) (ty := ty) (lo := some lo) (hi := none) (lo' := some m) (hi' := none) (k := k) (k' := k) tt h hel ha hz hx (fun w0 a w L cp sz ln s => by simp [s.ev_int hlo]) (fun w0 a w L cp sz ln s => rfl) (by simpa using h0) (by simpa using h1) (by simp)
  simpa using this

/-! ### Calls where nil stands for an empty slice -/
def nilV : List Nat → List PV → List PV
  | z :: zs, .nil :: r => .view z [] :: nilV zs r
  | _ :: zs, x :: r => x :: nilV zs r
  | [], r => r
  | _ :: _, [] => []

theorem nilV_vr {h : Array Obj} {S : Nat → Prop} : ∀ (zs : List Nat) (args : List PV) (vals : List Value), args.length = vals.length → (∀ (i : Nat) m u, args[i]? = some m → vals[i]? = some u → VR h S m u) →
    (nilV zs args).length = vals.length ∧ ∀ (i : Nat) m u, (nilV zs args)[i]? = some m → vals[i]? = some u → VR h S m u
  | [], args, vals, hl, hv => by cases args <;> exact ⟨hl, hv⟩
  | z :: zs, [], vals, hl, hv => ⟨hl, hv⟩
  | z :: zs, x :: args, [], hl, hv => by simp at hl
  | z :: zs, x :: args, u :: vals, hl, hv => by
    obtain ⟨h1, h2⟩ := nilV_vr zs args vals (by simpa using hl) (fun i m u hm hu => hv (i + 1) m u (by simpa using hm) (by simpa using hu))
    have h0 := hv 0 x u rfl rfl
    have key : ∀ y, VR h S y u → (y :: nilV zs args).length = (u :: vals).length ∧ ∀ (i : Nat) m v, (y :: nilV zs args)[i]? = some m → (u :: vals)[i]? = some v → VR h S m v := fun y hy => by
      refine ⟨by simp [h1], fun i m v hm hv' => ?_⟩
      cases i with
      | zero => simp at hm hv'; subst hm; subst hv'; exact hy
      | succ i => exact h2 i m v (by simpa using hm) (by simpa using hv')
    cases x with
    | nil => exact key _ (h0.nil_view z)
    | int k n => exact key _ h0
    | bool b => exact key _ h0
    | str s => exact key _ h0
    | agg cs => exact key _ h0
    | view s e => exact key _ h0
    | ref cs => exact key _ h0
    | any => exact key _ h0
    | clo f cs => exact key _ h0
    | raw v => exact key _ h0

theorem RO.nilV {f : Nat} {args : List PV} {rs : RV} (zs : List Nat) (h : RO P f (nilV zs args) rs) : RO P f args rs := fun w S vals hA => by
  refine h w S vals ?_
  obtain ⟨h1, h2⟩ := nilV_vr zs args vals.toList (by simpa using hA.1) (fun i m u hm hu => hA.2 i m u hm (by simpa using hu))
  exact ⟨by simpa using h1, fun i m u hm hu => h2 i m u hm (by simpa using hu)⟩

theorem Holds.nilV {f : Nat} {c : Ct} (h : Holds P f c) (zs : List Nat) : Holds P f (fun args K => c (Lo.nilV zs args) K) :=
  ⟨h.1, fun args K hc => let ⟨rs, h1, h2⟩ := h.2 _ _ hc; ⟨rs, h1.nilV zs, h2⟩⟩

/-! ### make with a capacity -/
theorem W.makeC {ops : Array Oper} {rest : List Oper} {T : St → Prop} {d : Nat} {ty : TypeId} {pos : String} {aft : Array Edge} {x y : Operand} {t e z : Nat} {ti ei : TyI} {kx ky : IntKind} {n : Int} (tt : Tab P) (h : tt.l.get t = some ti) (hel : ti.el = some (e, z)) (ha : ti.agg = false) (he : tt.l.get e = some ei) (hl : Nat.beq ei.zero.length ei.sz = true) (hz : Nat.beq ei.sz 0 = false)
    (hx : st.ev x = .p (.int kx 0)) (hy : st.ev y = .p (.int ky n)) (hd : Nat.blt d st.n = true) (hby : Nat.ble ei.bytes 65536 = true) (h0 : 0 ≤ n) (hb : n ≤ 4294967296)
    (k : W false P ops rest T ((st.addRow ⟨e, ei.sz, []⟩).put d (.own st.nk))) : W false P ops (⟨some d, .makeSlice t x y, ty, pos, aft, none⟩ :: rest) T st := by
  obtain ⟨hu, hse⟩ := tt.slice h hel ha
  obtain ⟨inf, v, i1, i2, i3, i4, i5, i6⟩ := tt.zero he hl hz
  have hbb : (ei.bytes : Int) ≤ 65536 := by have := Nat.le_of_ble_eq_true hby; omega
  have hprod : (ei.bytes : Int) * n ≤ 281474976710656 := by
    have h1 : (ei.bytes : Int) * n ≤ 65536 * n := Int.mul_le_mul_of_nonneg_right hbb h0
    omega
  refine W.new_core (r := ⟨e, ei.sz, []⟩) (m := .own st.nk) (mk := fun b c => .slice (some ⟨b, 0, none⟩) 0 c) hd (fun w0 a w L cp sz ln s => ?_) (fun h S L cp sz ln e1 _ => ⟨by rw [e1]; simp, by omega⟩) k
  refine ⟨madeCells v.cells (n.toNat * ei.sz), n.toNat, by simp [madeCells], by simp, by unfold maxLen; omega, (fun e' he' => by cases he'), (fun i e' j m he' hm => by cases he'), fun o ho hty => ?_⟩
  have hr := run_make (P := P) w t e inf v hu i1 i4 kx ky 0 n (Int.le_refl _) h0 (by rw [i3]; exact hprod) (by omega)
  rw [i2] at hr
  simp [execOp, ho, s.ev_int hx, s.ev_int hy, hr]

/-! ### Structs of two cells, compared -/
theorem part_one {t : Nat} (hT : (∃ k, P.underlying t = some (.int k)) ∨ P.underlying t = some .string) {us : Array Value} {o : Nat} {u : Value} (hu : us[o]? = some u) (w : World) : (part t us o).run P w = .ok u w := by
  have hag : (isAgg t).run P w = .ok false w := by
    rcases hT with ⟨k, h⟩ | h <;> simp [isAgg, underlying, program, Sem.run, h]
  simp [part, hag, hu]

theorem equalIn_two {d t : Nat} {f1 f2 : Field} {xs ys : Array Value} {x1 x2 y1 y2 : Value} {b1 b2 : Bool} {w : World} (hT : P.underlying t = some (.struct #[f1, f2])) (hs : P.stoodInHeld t = false) (n1 : f1.name ≠ "_") (n2 : f2.name ≠ "_")
    (p1 : (part f1.type xs f1.offset).run P w = .ok x1 w) (p2 : (part f2.type xs f2.offset).run P w = .ok x2 w) (q1 : (part f1.type ys f1.offset).run P w = .ok y1 w) (q2 : (part f2.type ys f2.offset).run P w = .ok y2 w)
    (e1 : (Op.equalIn d f1.type x1 y1).run P w = .ok b1 w) (e2 : (Op.equalIn d f2.type x2 y2).run P w = .ok b2 w) : (Op.equalIn (d + 1) t (.agg xs) (.agg ys)).run P w = .ok (b1 && b2) w := by
  unfold Op.equalIn
  cases b1 <;> cases b2 <;> simp [underlying, program, Sem.run, hT, hs, n1, n2, p1, p2, q1, q2, e1, e2]

theorem equalIn_int {d t : Nat} {k k' : IntKind} (hT : P.underlying t = some (.int k')) (a b : Int) (w : World) : (Op.equalIn (d + 1) t (.int k a) (.int k b)).run P w = .ok (a == b) w := by
  unfold Op.equalIn
  simp [underlying, program, Sem.run, hT]
theorem equalIn_str {d t : Nat} (hT : P.underlying t = some .string) (a b : ByteArray) (w : World) : (Op.equalIn (d + 1) t (.string a) (.string b)).run P w = .ok (a == b) w := by
  unfold Op.equalIn
  simp [underlying, program, Sem.run, hT]

/-- A struct type of two fields, each one cell. -/
structure Two (P : Program) (t : Nat) (f1 f2 : Field) : Prop where
  ty : P.underlying t = some (.struct #[f1, f2])
  held : P.stoodInHeld t = false
  guard : P.eqGuardType P.depth t = false
  n1 : f1.name ≠ "_"
  n2 : f2.name ≠ "_"
  o1 : f1.offset = 0
  o2 : f2.offset = 1

theorem eq2_core {x y : Operand} {t t' ty : Nat} {f1 f2 : Field} {m1 m2 m3 m4 : PV} {v1 v2 v3 v4 : Value} {p q : Prop} (T2 : Two P t f1 f2) (ht1 : (∃ k, P.underlying f1.type = some (.int k)) ∨ P.underlying f1.type = some .string) (ht2 : (∃ k, P.underlying f2.type = some (.int k)) ∨ P.underlying f2.type = some .string)
    (h1 : m1.val = some v1) (h2 : m2.val = some v2) (h3 : m3.val = some v3) (h4 : m4.val = some v4)
    (e1 : ∀ w, ∃ b, (Op.equalIn 9999 f1.type v1 v3).run P w = .ok b w ∧ (b = true ↔ p)) (e2 : ∀ w, ∃ b, (Op.equalIn 9999 f2.type v2 v4).run P w = .ok b w ∧ (b = true ↔ q))
    (hx : st.ev x = .p (.agg [m1, m2])) (hy : st.ev y = .p (.agg [m3, m4])) :
    ReadOp P (.binOp .eql t x y t') ty st (.p (.bool (pB (p ∧ q)))) ∧ ReadOp P (.binOp .neq t x y t') ty st (.p (.bool (!pB (p ∧ q)))) := by
  have key : ∀ (w0 : Bs) (a : Act) (w : World) (L cp sz ln : Nat → Nat), SRL w0 st a w L cp sz ln → a.eval x = .agg #[v1, v2] ∧ a.eval y = .agg #[v3, v4] := fun w0 a w L cp sz ln s => by
    have hv := s.ev_p hx
    have hv' := s.ev_p hy
    generalize a.eval x = v at *
    generalize a.eval y = v' at *
    have two : ∀ (n1 n2 : PV) (u1 u2 v : Value), n1.val = some u1 → n2.val = some u2 → VR w.heap (stab w0 st.rows st.x L w.heap) (.agg [n1, n2]) v → v = .agg #[u1, u2] := by
      intro n1 n2 u1 u2 v g1 g2 hv
      cases hv with
      | @agg _ us hl hall =>
        have hl' : us.size = 2 := by simpa using hl.symm
        obtain ⟨ul⟩ := us
        match ul, hl' with
        | [p1, p2], _ =>
          rw [VR.of_val g1 (hall 0 n1 p1 rfl rfl), VR.of_val g2 (hall 1 n2 p2 rfl rfl)]
    exact ⟨two _ _ _ _ _ h1 h2 hv, two _ _ _ _ _ h3 h4 hv'⟩
  have heq : ∀ w, (Op.equal t (.agg #[v1, v2]) (.agg #[v3, v4])).run P w = .ok (pB (p ∧ q)) w := fun w => by
    obtain ⟨b1, r1, i1⟩ := e1 w
    obtain ⟨b2, r2, i2⟩ := e2 w
    have := equalIn_two (P := P) (d := 9999) (xs := #[v1, v2]) (ys := #[v3, v4]) (x1 := v1) (x2 := v2) (y1 := v3) (y2 := v4) (w := w) T2.ty T2.held T2.n1 T2.n2 (part_one ht1 (by rw [T2.o1]; rfl) w) (part_one ht2 (by rw [T2.o2]; rfl) w) (part_one ht1 (by rw [T2.o1]; rfl) w) (part_one ht2 (by rw [T2.o2]; rfl) w) r1 r2
    unfold Op.equal Op.maxDepth
    rw [this]
    congr 1
    exact pB_eq (by rw [Bool.and_eq_true, i1, i2])
  constructor
  · intro w0 a w L cp sz ln s
    obtain ⟨k1, k2⟩ := key w0 a w L cp sz ln s
    refine ⟨.bool (pB (p ∧ q)), VR.bool, fun o w' ho _ _ => ?_⟩
    have hg : (eqGuard .eql t x y (.agg #[v1, v2]) (.agg #[v3, v4])).run P w' = .ok () w' := by
      unfold eqGuard; split <;> simp [program, Sem.run, T2.guard]
    simp [execOp, ho, k1, k2, hg, binOp, heq]
  · intro w0 a w L cp sz ln s
    obtain ⟨k1, k2⟩ := key w0 a w L cp sz ln s
    refine ⟨.bool (!pB (p ∧ q)), VR.bool, fun o w' ho _ _ => ?_⟩
    have hg : (eqGuard .neq t x y (.agg #[v1, v2]) (.agg #[v3, v4])).run P w' = .ok () w' := by
      unfold eqGuard; split <;> simp [program, Sem.run, T2.guard]
    simp [execOp, ho, k1, k2, hg, binOp, heq]

theorem rd_eqII {x y : Operand} {t t' ty : Nat} {f1 f2 : Field} {a b c d : Int} (T2 : Two P t f1 f2) (ht1 : P.underlying f1.type = some (.int .i64)) (ht2 : P.underlying f2.type = some (.int .i64))
    (hx : st.ev x = .p (.agg [.int .i64 a, .int .i64 b])) (hy : st.ev y = .p (.agg [.int .i64 c, .int .i64 d])) : ReadOp P (.binOp .eql t x y t') ty st (.p (.bool (pB (a = c ∧ b = d)))) :=
  (eq2_core T2 (.inl ⟨_, ht1⟩) (.inl ⟨_, ht2⟩) rfl rfl rfl rfl (fun w => ⟨_, equalIn_int ht1 a c w, by simp⟩) (fun w => ⟨_, equalIn_int ht2 b d w, by simp⟩) hx hy).1
theorem rd_neII {x y : Operand} {t t' ty : Nat} {f1 f2 : Field} {a b c d : Int} (T2 : Two P t f1 f2) (ht1 : P.underlying f1.type = some (.int .i64)) (ht2 : P.underlying f2.type = some (.int .i64))
    (hx : st.ev x = .p (.agg [.int .i64 a, .int .i64 b])) (hy : st.ev y = .p (.agg [.int .i64 c, .int .i64 d])) : ReadOp P (.binOp .neq t x y t') ty st (.p (.bool (!pB (a = c ∧ b = d)))) :=
  (eq2_core T2 (.inl ⟨_, ht1⟩) (.inl ⟨_, ht2⟩) rfl rfl rfl rfl (fun w => ⟨_, equalIn_int ht1 a c w, by simp⟩) (fun w => ⟨_, equalIn_int ht2 b d w, by simp⟩) hx hy).2
theorem ba_beq {a b : ByteArray} : (a == b) = true ↔ a = b := by
  constructor
  · intro h
    have : a.data == b.data := h
    cases a; cases b; simpa using this
  · intro h; subst h
    show (a.data == a.data) = true
    simp
theorem rd_neSI {x y : Operand} {t t' ty : Nat} {f1 f2 : Field} {a c : ByteArray} {b d : Int} (T2 : Two P t f1 f2) (ht1 : P.underlying f1.type = some .string) (ht2 : P.underlying f2.type = some (.int .i64))
    (hx : st.ev x = .p (.agg [.str a, .int .i64 b])) (hy : st.ev y = .p (.agg [.str c, .int .i64 d])) : ReadOp P (.binOp .neq t x y t') ty st (.p (.bool (!pB (a = c ∧ b = d)))) :=
  (eq2_core T2 (.inr ht1) (.inl ⟨_, ht2⟩) rfl rfl rfl rfl (fun w => ⟨_, equalIn_str ht1 a c w, ba_beq⟩) (fun w => ⟨_, equalIn_int ht2 b d w, by simp⟩) hx hy).2
end Go.Lo
namespace Go.Lo
open Go.RowKit

def capsP (st : St) : List Operand → Option (List PV)
  | [] => some []
  | x :: xs => match st.ev x with
    | .p m => match capsP st xs with
      | some ms => some (m :: ms)
      | none => none
    | _ => none

section
variable {P : Program} {st : St}

theorem SRL.capsP {w0 : Bs} {a : Act} {w : World} {L cp sz ln : Nat → Nat} (s : SRL w0 st a w L cp sz ln) : ∀ (xs : List Operand) (ms : List PV), Lo.capsP st xs = some ms →
    ms.length = xs.length ∧ ∀ (i : Nat) m u, ms[i]? = some m → (xs.map a.eval)[i]? = some u → VR w.heap (stab w0 st.rows st.x L w.heap) m u
  | [], ms, h => by cases h; exact ⟨rfl, fun i m u hm => by cases hm⟩
  | x :: xs, ms, h => by
    simp only [Lo.capsP] at h
    split at h
    · rename_i m0 hm0
      split at h
      · rename_i ms0 hms
        cases h
        obtain ⟨hl, hall⟩ := s.capsP xs ms0 hms
        refine ⟨by simp [hl], fun i m u hm hu => ?_⟩
        cases i with
        | zero => simp at hm hu; subst hm; subst hu; exact s.ev_p hm0
        | succ i => exact hall i m u (by simpa using hm) (by simpa using hu)
      · cases h
    · cases h

/-- func literals. -/
theorem rd_mkf {f : Nat} {first caps : Array Operand} {ty : Nat} {ms : List PV} (h1 : first.toList = []) (h : capsP st caps.toList = some ms) : ReadOp P (.makeFunc (.func f) first caps) ty st (.p (.clo f ms)) := fun w0 a w L cp sz ln s => by
  obtain ⟨hl, hall⟩ := s.capsP _ _ h
  have e1 : first = #[] := by cases first; simpa using h1
  subst e1
  refine ⟨.func (.func f) #[] (caps.map a.eval), VR.clo (by simp [hl]) (fun i m u hm hu => hall i m u hm (by simpa using hu)), fun o w' ho _ _ => ?_⟩
  simp [execOp, ho, Instr.makeFunc]

theorem callV_run {f : Nat} (hc : CallOk P f) {g : Operand} {xs : Array Operand} {ats : Array TypeId} (ρ : Operand → Value) {caps : Array Value} (hρ : ρ g = .func (.func f) #[] caps) (o : Oper) (ho : o.op = .call { callee := .value g, args := xs, argTypes := ats }) (w : World) :
    (execOp ρ o).run P w = .ok (.enter f (xs.map ρ ++ caps)) w := by
  obtain ⟨fn, h1, h2, h3⟩ := hc
  have hcf : (callFunc f (xs.map ρ ++ caps)).run P w = .ok (.enter f (xs.map ρ ++ caps)) w := by
    simp only [callFunc, program, Sem.run, Sem.run_bind, Result.andThen_ok, h1, h2, h3, Bool.false_eq_true, if_false, Sem.run_pure]
  simp [execOp, ho, resolve, hρ, Deferred.ofValue, invoke, hcf]

theorem SRL.ev_clo {w0 : Bs} {a : Act} {w : World} {L cp sz ln : Nat → Nat} (s : SRL w0 st a w L cp sz ln) {x : Operand} {f : Nat} {cs : List PV} (h : st.ev x = .p (.clo f cs)) :
    ∃ av : Array Value, a.eval x = .func (.func f) #[] av ∧ cs.length = av.size ∧ ∀ (i : Nat) c u, cs[i]? = some c → av[i]? = some u → VR w.heap (stab w0 st.rows st.x L w.heap) c u := by
  have hv := s.ev_p h
  generalize a.eval x = v at *
  cases hv with
  | clo hl hv => exact ⟨_, rfl, hl, hv⟩

/-- The call of a function value. -/
theorem W.callV {q : Bool} {ops : Array Oper} {rest : List Oper} {T : St → Prop} {d : Nat} {ty : TypeId} {pos : String} {aft : Array Edge} {f : Nat} {g : Operand} {xs : Array Operand} {ats : Array TypeId} {c : Ct} {args caps : List PV}
    (hH : Holds P f c) (hg : st.ev g = .p (.clo f caps)) (ha : rdArgs st xs.toList = some args) (hd : Nat.blt d st.n = true)
    (hk : c (args ++ caps) (fun rs => ∃ m v, rs = [.p m] ∧ m.val = some v ∧ W q P ops rest T (st.put d (.p m)))) :
    W q P ops (⟨some d, .call { callee := .value g, args := xs, argTypes := ats }, ty, pos, aft, none⟩ :: rest) T st := by
  have hd' : d < st.n := by simpa [Nat.blt_eq] using hd
  obtain ⟨rs, hro, m, v, hrs, hv, hK⟩ := hH.2 _ _ hk
  subst hrs
  have hcall : ∀ (w0 : Bs) (a : Act) (w w' : World) (L cp sz ln : Nat → Nat) (av : Array Value), SRL w0 st a w L cp sz ln → Ext w w' → a.eval g = .func (.func f) #[] av →
      Calls P f (xs.map a.eval ++ av) w' (fun e w'' => e = .returned v ∧ Ext w w'') := by
    intro w0 a w w' L cp sz ln av s hex hav
    have s' := s.grow hex
    obtain ⟨hl, hall⟩ := s'.rdArgs _ _ ha
    obtain ⟨av', h1, h2, h3⟩ := s'.ev_clo hg
    rw [hav] at h1
    cases h1
    have hA : ArgsR w' (fun _ => True) (args ++ caps) (xs.map a.eval ++ av) := ⟨by simp [hl, h2], fun i m u hm hu => by
      by_cases hi : i < args.length
      · rw [List.getElem?_append_left hi] at hm
        rw [Array.getElem?_append_left (by simpa [hl] using hi)] at hu
        exact hall i m u hm (by simpa using hu)
      · rw [List.getElem?_append_right (by omega)] at hm
        rw [Array.getElem?_append_right (by simp; rw [hl] at hi; simpa using hi)] at hu
        have e : (xs.map a.eval).size = args.length := by simp [hl]
        rw [e] at hu
        exact (h3 _ m u hm hu).mono fun b hb => ⟨⟨hb.1, trivial⟩, rfl⟩⟩
    refine (hro w' _ _ hA).mono ?_
    rintro e w'' ⟨u, rfl, ⟨bl, cp, hr⟩, hex'⟩
    have := hr.one _ rfl
    simp only [R1] at this
    have := VR.of_val hv this
    subst this
    exact ⟨rfl, hex.trans hex'⟩
  cases q
  · intro w0 a w Qr hs hT
    obtain ⟨L, cp, sz, ln, s⟩ := hs
    obtain ⟨av, hav, _, _⟩ := s.ev_clo hg
    simp only [wpList, wanted_none, if_true]
    refine .inl ?_
    unfold Oper.wp
    rw [callV_run hH.1 a.eval hav _ rfl]
    simp only [Oper.upon]
    refine (hcall w0 a w w L cp sz ln av s (Ext.refl w) hav).mono ?_
    rintro e w' ⟨rfl, hex⟩
    exact hK w0 _ w' Qr (SR.put (s.grow hex) hd' (VR.of_val_mk hv)) hT
  · intro w0 a w Kr hs hT
    obtain ⟨L, cp, sz, ln, s⟩ := hs
    obtain ⟨av, hav, _, _⟩ := s.ev_clo hg
    simp only [wpQuiet, wanted_none, if_true]
    refine ⟨v, fun w' hw' => ?_, hK w0 _ w Kr (SR.put s hd' (VR.of_val_mk hv)) hT⟩
    unfold Oper.quietAt
    rw [callV_run hH.1 a.eval hav _ rfl]
    exact ⟨rfl, hcall w0 a w w' L cp sz ln av s hw' hav⟩

/-! ### Windows -/
theorem win_core {x : Operand} {t e z ty : Nat} {ti : TyI} {lo hi : Option Operand} {lo' hi' : Option Int} {k k' : IntKind} {rk : Nat} {r : Row} (tt : Tab P) (h : tt.l.get t = some ti) (hel : ti.el = some (e, z)) (ha : ti.agg = false) (hz : Nat.beq z 0 = false)
    (hx : st.ev x = .own rk) (hr : look st.rows rk = some r) (hrz : r.sz = z) (hlo : ∀ w0 a w L cp sz ln, SRL w0 st a w L cp sz ln → lo.map a.eval = lo'.map (.int k)) (hhi : ∀ w0 a w L cp sz ln, SRL w0 st a w L cp sz ln → hi.map a.eval = hi'.map (.int k'))
    (h0 : 0 ≤ lo'.getD 0) (h1 : lo'.getD 0 ≤ hi'.getD r.els.length) (h2 : hi'.getD r.els.length ≤ r.els.length) :
    ReadOp P (.slice t x lo hi none) ty st (.win rk (lo'.getD 0).toNat ((hi'.getD r.els.length).toNat - (lo'.getD 0).toNat)) := fun w0 a w L cp sz ln s => by
  obtain ⟨hv, hkn⟩ := s.ev_own hx
  obtain ⟨g1, _, hsz, hln⟩ := s.rows rk r hr
  obtain ⟨C, q1, q2, q3, q4, _⟩ := g1
  obtain ⟨hu, hse⟩ := tt.slice h hel ha
  have hz' : z ≠ 0 := fun e => by subst e; cases hz
  have hi2 : ∃ inf, P.info? e = some inf ∧ inf.size = z := by
    unfold szOf at hse
    cases hi : P.info? e with
    | none => rw [hi] at hse; exact absurd hse.symm hz'
    | some inf => rw [hi] at hse; exact ⟨inf, rfl, hse⟩
  obtain ⟨inf, hi3, hi4⟩ := hi2
  refine ⟨_, ⟨rfl, hkn⟩, fun o w' ho _ _ => ?_⟩
  have hb := sliceBounds_run (P := P) (len := r.els.length) (cap := cp rk) (lo := lo') (hi := hi') (k := k) (k' := k') w' h0 h1 (by omega)
  simp only [execOp, ho, hv, hln, hlo _ _ _ _ _ _ _ s, hhi _ _ _ _ _ _ _ s, Option.map_none]
  simp [Instr.sliceAt, Instr.slice, underlying, program, Sem.run, hu, hb, run_sizeOf hi3, hi4, hsz, hrz]
  split
  · rfl
  · rw [add_mk]; simp

/-- A list with a part laid anew. -/
def mid {α : Type} (X Z : List α) (a : Nat) : List α := X.take a ++ Z ++ X.drop (a + Z.length)
theorem mid_length {α : Type} {X Z : List α} {a : Nat} (h : a + Z.length ≤ X.length) : (mid X Z a).length = X.length := by
  unfold mid; simp; omega
theorem mid_get {α : Type} {X Z : List α} {a : Nat} (h : a + Z.length ≤ X.length) (p : Nat) : (mid X Z a)[p]? = if a ≤ p ∧ p < a + Z.length then Z[p - a]? else X[p]? := by
  unfold mid
  have hta : (X.take a).length = a := by simp; omega
  by_cases h1 : p < a
  · rw [if_neg (by omega), List.append_assoc, List.getElem?_append_left (by omega), List.getElem?_take, if_pos h1]
  · by_cases h2 : p < a + Z.length
    · rw [if_pos ⟨by omega, h2⟩, List.append_assoc, List.getElem?_append_right (by omega), hta, List.getElem?_append_left (by omega)]
    · rw [if_neg (by omega), List.getElem?_append_right (by simp; omega), List.getElem?_drop]
      congr 1
      simp; omega

theorem W.clear {ops : Array Oper} {rest : List Oper} {T : St → Prop} {ty : TypeId} {pos : String} {aft : Array Edge} {x : Operand} {t e z rk i n : Nat} {ti ei : TyI} {r : Row} (tt : Tab P) (h : tt.l.get t = some ti) (hel : ti.el = some (e, z)) (ha : ti.agg = false) (he : tt.l.get e = some ei)
    (hzz : (Nat.beq ei.zero.length ei.sz && !Nat.beq ei.sz 0 && Nat.beq ei.sz z) = true) (hx : st.ev x = .win rk i n) (hr : look st.rows rk = some r) (hrz : Nat.beq r.sz z = true) (hle : i + n ≤ r.els.length)
    (kk : W false P ops rest T { st with rows := (rk, ⟨r.ty, r.sz, mid r.els (List.replicate n ei.zero) i⟩) :: st.rows }) :
    W false P ops (⟨none, .call { callee := .builtin .clear, args := #[x], argTypes := #[t] }, ty, pos, aft, none⟩ :: rest) T st := by
  simp only [Bool.and_eq_true, Bool.not_eq_true'] at hzz
  obtain ⟨⟨z1, z2⟩, z3⟩ := hzz
  have hz3 := Nat.eq_of_beq_eq_true z3
  have hrz' := Nat.eq_of_beq_eq_true hrz
  have hne : ei.sz ≠ 0 := fun e => by rw [e] at z2; cases z2
  subst hz3
  obtain ⟨hu, hse⟩ := tt.slice h hel ha
  obtain ⟨inf, v, i1, i2, i3, i4, i5, i6⟩ := tt.zero he z1 z2
  obtain ⟨c1, c2, c3⟩ := cellsPV_vr (h := #[]) (S := fun _ => False) _ _ i5
  intro w0 a w Qr hs hT
  obtain ⟨L, cp, sz, ln, s⟩ := hs
  obtain ⟨⟨C, g1, g2, g3, g4, g5, g6⟩, hge, hsk, hlk⟩ := s.rows rk r hr
  have hxv : a.eval x = .slice (some ⟨L rk, if cp rk = i then 0 else i * sz rk, none⟩) n (cp rk - i) := by
    have := s.ev x; rw [hx] at this; exact this.1
  have hZl : (Builtin.zeroCells v.cells n).toList.length = n * ei.sz := by simp [Builtin.zeroCells, i6]
  have hZg : ∀ q j, q < n → j < ei.sz → (Builtin.zeroCells v.cells n).toList[q * ei.sz + j]? = some (v.cells[j]!) := fun q j hq hj => by
    have hlt : q * ei.sz + j < n * ei.sz := by
      have : (q + 1) * ei.sz ≤ n * ei.sz := Nat.mul_le_mul_right _ hq
      rw [Nat.add_mul] at this; omega
    have hmd : (q * ei.sz + j) % ei.sz = j := by rw [Nat.mul_comm, Nat.mul_add_mod]; exact Nat.mod_eq_of_lt hj
    simp [Builtin.zeroCells, i6, hlt, hmd]
  have hvone : ∀ j, j < ei.sz → ∀ m, ei.zero[j]? = some m → ∀ (hh : Array Obj) (S : Nat → Prop), VR hh S m (v.cells[j]!) ∧ (v.cells[j]!).oneCell' = true := fun j hj m hm hh S => by
    obtain ⟨d1, d2, d3⟩ := cellsPV_vr (h := hh) (S := S) _ _ i5
    have hjv : j < v.cells.size := by rw [i6]; exact hj
    have hget : v.cells.toList[j]? = some (v.cells[j]!) := by simp [hjv]
    have hvr := d2 j m _ hm hget
    exact ⟨hvr, hvr.one (List.all_eq_true.1 d3 m (List.mem_of_getElem? hm))⟩
  have hszr : i * r.sz + n * r.sz ≤ r.els.length * r.sz := by rw [← Nat.add_mul]; exact Nat.mul_le_mul_right _ hle
  have hszc : r.els.length * r.sz ≤ cp rk * r.sz := Nat.mul_le_mul_right _ g3
  have hmidl : i * r.sz + (Builtin.zeroCells v.cells n).toList.length ≤ C.toList.length := by rw [hZl, Array.length_toList, g2, ← hrz']; omega
  let C' := (mid C.toList (Builtin.zeroCells v.cells n).toList (i * r.sz)).toArray
  have hrun : (Builtin.clear_ #[t] ty #[a.eval x]).run P w = .ok (.tuple #[]) (w.setRow (L rk) C') := by
    rw [hxv]
    by_cases hn : n = 0
    · subst hn
      have : C' = C := by
        have hz0 : (Builtin.zeroCells v.cells 0).toList = [] := List.eq_nil_of_length_eq_zero (by simpa using hZl)
        simp only [C', mid, hz0]; simp
      rw [this, setRow_self w (L rk) C _ _ g1]
      simp [Builtin.clear_, underlying, program, Sem.run, hu]
    · have hci : ¬ cp rk = i := by omega
      have hst := run_storeCells_at (P := P) (L rk) (i * sz rk) r.ty (Builtin.zeroCells v.cells n).toList 0 C w g1 (by rw [hsk]; simpa using hmidl) (fun u hu => by
        obtain ⟨p, hp, rfl⟩ := List.mem_iff_getElem.1 hu
        rw [hZl] at hp
        have hq : p / ei.sz < n := Nat.div_lt_of_lt_mul (by rw [Nat.mul_comm]; exact hp)
        have hj : p % ei.sz < ei.sz := Nat.mod_lt _ (by omega)
        have hh := hZg _ _ hq hj
        rw [show p / ei.sz * ei.sz + p % ei.sz = p by rw [Nat.mul_comm]; exact Nat.div_add_mod p ei.sz] at hh
        have h2 : (Builtin.zeroCells v.cells n).toList[p]? = some ((Builtin.zeroCells v.cells n).toList[p]'(by rw [hZl]; exact hp)) := List.getElem?_eq_getElem _
        rw [h2] at hh
        rw [Option.some.inj hh]
        have hzl : p % ei.sz < ei.zero.length := by rw [Nat.eq_of_beq_eq_true z1]; exact hj
        exact (hvone _ hj _ (List.getElem?_eq_getElem hzl) w.heap (fun _ => True)).2)
      have hzv : (zeroValue e).run P w = .ok v w := by simp [zeroValue, typeInfo, program, Sem.run, i1, i4]
      rw [if_neg hci]
      cases n with
      | zero => exact absurd rfl hn
      | succ n =>
        have hst' : (storeCells ⟨L rk, i * sz rk, none⟩ (Builtin.zeroCells v.cells (n + 1)).toList).run P w = .ok () (w.setRow (L rk) C') := by
          rw [hst]; simp only [C', mid, Nat.add_zero, hsk]
        simp [Builtin.clear_, underlying, program, Sem.run, hu, hzv, hst']
  have hmid := mid_length (X := r.els) (Z := List.replicate n ei.zero) (a := i) (by simpa using hle)
  have s' := s.stored (r' := ⟨r.ty, r.sz, mid r.els (List.replicate n ei.zero) i⟩) hr rfl rfl hmid (C' := C') (by
      have := mid_length hmidl
      simp only [C', List.size_toArray, this, Array.length_toList]; exact g2) (fun e' he' => by
      unfold mid at he'
      simp only [List.mem_append] at he'
      rcases he' with (h' | h') | h'
      · exact g5 e' (List.mem_of_mem_take h')
      · rw [(List.mem_replicate.1 h').2, Nat.eq_of_beq_eq_true z1, hrz']
      · exact g5 e' (List.mem_of_mem_drop h')) (fun p e' j m he' hm => by
      have he'' : (mid r.els (List.replicate n ei.zero) i)[p]? = some e' := he'
      rw [mid_get (by simpa using hle)] at he''
      simp only [List.length_replicate] at he''
      by_cases hin : i ≤ p ∧ p < i + n
      · rw [if_pos hin, List.getElem?_replicate, if_pos (by omega)] at he''
        cases he''
        have hj : j < ei.sz := by rw [← Nat.eq_of_beq_eq_true z1]; exact (List.getElem?_eq_some_iff.1 hm).1
        obtain ⟨v1, v2⟩ := hvone j hj m hm w.heap (stab w0 st.rows st.x L w.heap)
        refine ⟨v.cells[j]!, ?_, v2, v1⟩
        show C'[p * r.sz + j]? = _
        have hpz : p * ei.sz + j = i * ei.sz + ((p - i) * ei.sz + j) := by rw [Nat.sub_mul]; have : i * ei.sz ≤ p * ei.sz := Nat.mul_le_mul_right _ hin.1; omega
        have hlt : (p - i) * ei.sz + j < n * ei.sz := by
          have : (p - i + 1) * ei.sz ≤ n * ei.sz := Nat.mul_le_mul_right _ (by omega)
          rw [Nat.add_mul] at this; omega
        simp only [C', List.getElem?_toArray]
        rw [mid_get hmidl, hZl, hrz', if_pos ⟨by omega, by omega⟩, hpz, Nat.add_sub_cancel_left]
        exact hZg _ _ (by omega) hj
      · rw [if_neg hin] at he''
        obtain ⟨u, hu, hone, hvr⟩ := g6 p e' j m he'' hm
        refine ⟨u, ?_, hone, hvr⟩
        have hj : j < r.sz := by rw [← g5 e' (List.mem_of_getElem? he'')]; exact (List.getElem?_eq_some_iff.1 hm).1
        simp only [C', List.getElem?_toArray]
        rw [mid_get hmidl, hZl, if_neg ?_]
        · simpa using hu
        · rw [← hrz']
          rintro ⟨a1, a2⟩
          rcases Nat.lt_or_ge p i with hp | hp
          · have : (p + 1) * r.sz ≤ i * r.sz := Nat.mul_le_mul_right _ hp
            rw [Nat.add_mul] at this; omega
          · have : (i + n) * r.sz ≤ p * r.sz := Nat.mul_le_mul_right _ (by omega)
            rw [Nat.add_mul] at this; omega)
  simp only [wpList, wanted_none, if_true]
  refine .inl ?_
  unfold Oper.wp
  have hex : (execOp a.eval ⟨none, .call { callee := .builtin .clear, args := #[x], argTypes := #[t] }, ty, pos, aft, none⟩).run P w = .ok (.value (.tuple #[])) (w.setRow (L rk) C') := by
    simp [execOp, resolve, invoke, builtin, hrun]
  rw [hex]
  simp only [Oper.upon]
  exact kk w0 _ _ Qr ⟨L, cp, sz, ln, s'⟩ hT

theorem SRL.ev_win {w0 : Bs} {a : Act} {w : World} {L cp sz ln : Nat → Nat} (s : SRL w0 st a w L cp sz ln) {x : Operand} {k i n : Nat} (h : st.ev x = .win k i n) : a.eval x = .slice (some ⟨L k, if cp k = i then 0 else i * sz k, none⟩) n (cp k - i) ∧ k < st.nk := by
  have := s.ev x; rw [h] at this; exact this
theorem rd_len_win {x : Operand} {ty t e ez k i n : Nat} (tt : Tab P) {ti : TyI} (hT0 : tt.l.get t = some ti) (hT1 : ti.el = some (e, ez)) (hT2 : ti.agg = false) (hx : st.ev x = .win k i n) :
    ReadOp P (.call { callee := .builtin .len, args := #[x], argTypes := #[t] }) ty st (.p (.int .i64 n)) :=
  len_slice (tt.slice hT0 hT1 hT2).1 fun w0 a w L cp sz ln s => ⟨_, _, (s.ev_win hx).1⟩
/-- A window of a window; it may reach beyond its end. -/
theorem winW_core {x lo hi : Operand} {t e z ty k n : Nat} {ti : TyI} {m q : Int} {kk kk' : IntKind} {r : Row} (tt : Tab P) (h : tt.l.get t = some ti) (hel : ti.el = some (e, z)) (ha : ti.agg = false) (hz : Nat.beq z 0 = false)
    (hx : st.ev x = .win k 0 n) (hr : look st.rows k = some r) (hrz : r.sz = z) (hlo : st.ev lo = .p (.int kk m)) (hhi : st.ev hi = .p (.int kk' q)) (h0 : 0 ≤ m) (h1 : m ≤ q) (h2 : q ≤ r.els.length) :
    ReadOp P (.slice t x (some lo) (some hi) none) ty st (.win k m.toNat (q.toNat - m.toNat)) := fun w0 a w L cp sz ln s => by
  obtain ⟨hv, hkn⟩ := s.ev_win hx
  obtain ⟨g1, _, hsz, hln⟩ := s.rows k r hr
  obtain ⟨C, q1, q2, q3, q4, _⟩ := g1
  obtain ⟨hu, hse⟩ := tt.slice h hel ha
  have hz' : z ≠ 0 := fun e => by subst e; cases hz
  have hi2 : ∃ inf, P.info? e = some inf ∧ inf.size = z := by
    unfold szOf at hse
    cases hi : P.info? e with
    | none => rw [hi] at hse; exact absurd hse.symm hz'
    | some inf => rw [hi] at hse; exact ⟨inf, rfl, hse⟩
  obtain ⟨inf, hi3, hi4⟩ := hi2
  refine ⟨_, ⟨rfl, hkn⟩, fun o w' ho _ _ => ?_⟩
  have hb := sliceBounds_run (P := P) (len := n) (cap := cp k) (lo := some m) (hi := some q) (k := kk) (k' := kk') w' h0 h1 (by simp; omega)
  have hv' : a.eval x = .slice (some ⟨L k, 0, none⟩) n (cp k) := by rw [hv]; simp
  simp only [execOp, ho, hv', Option.map_some, s.ev_int hlo, s.ev_int hhi, Option.map_none]
  simp only [Option.map_some, Option.getD_some] at hb
  simp [Instr.sliceAt, Instr.slice, underlying, program, Sem.run, hu, hb, run_sizeOf hi3, hi4, hsz, hrz]
  split
  · rfl
  · rw [add_mk]; simp
/-- s[lo:hi:max], looked at for its bounds. -/
theorem rd_slice3 {x lo hi mx : Operand} {t e z ty k : Nat} {ti : TyI} {m q u : Int} {k1 k2 k3 : IntKind} {r : Row} (tt : Tab P) (h : tt.l.get t = some ti) (hel : ti.el = some (e, z)) (ha : ti.agg = false) (hz : Nat.beq z 0 = false)
    (hx : st.ev x = .own k) (hr : look st.rows k = some r) (hlo : st.ev lo = .p (.int k1 m)) (hhi : st.ev hi = .p (.int k2 q)) (hmx : st.ev mx = .p (.int k3 u)) (h0 : 0 ≤ m) (h1 : m ≤ q) (h2 : q ≤ u) (h3 : u ≤ r.els.length) :
    ReadOp P (.slice t x (some lo) (some hi) (some mx)) ty st (.p .any) := fun w0 a w L cp sz ln s => by
  obtain ⟨hv, hkn⟩ := s.ev_own hx
  obtain ⟨g1, _, hsz, hln⟩ := s.rows k r hr
  obtain ⟨C, q1, q2, q3, q4, _⟩ := g1
  obtain ⟨hu, hse⟩ := tt.slice h hel ha
  have hz' : z ≠ 0 := fun e => by subst e; cases hz
  have hi2 : ∃ inf, P.info? e = some inf ∧ inf.size = z := by
    unfold szOf at hse
    cases hi : P.info? e with
    | none => rw [hi] at hse; exact absurd hse.symm hz'
    | some inf => rw [hi] at hse; exact ⟨inf, rfl, hse⟩
  obtain ⟨inf, hi3, hi4⟩ := hi2
  have hb : ∀ w', (Instr.sliceBounds true r.els.length (cp k) (some (.int k1 m)) (some (.int k2 q)) (some (.int k3 u))).run P w' = .ok (m.toNat, q.toNat, u.toNat) w' := fun w' => by
    have a1 : 0 ≤ u ∧ u ≤ (cp k : Int) := by omega
    have a2 : 0 ≤ q ∧ q ≤ ((u.toNat : Nat) : Int) := by omega
    have a3 : 0 ≤ m ∧ m ≤ ((q.toNat : Nat) : Int) := by omega
    simp only [Instr.sliceBounds, Instr.sliceBound, asIntOf, Sem.run_bind, Sem.run_pure, Result.andThen_ok, a1, a2, a3, and_self, if_true, Option.isSome_some]
  refine ⟨.slice (if u.toNat = m.toNat then some ⟨L k, 0, none⟩ else (some ⟨L k, 0, none⟩ : Option Addr).map (·.add (m.toNat * z))) (q.toNat - m.toNat) (u.toNat - m.toNat), VR.any, fun o w' ho _ _ => ?_⟩
  simp only [execOp, ho, hv, hln, Option.map_some, s.ev_int hlo, s.ev_int hhi, s.ev_int hmx]
  simp [Instr.sliceAt, Instr.slice, underlying, program, Sem.run, hu, hb, run_sizeOf hi3, hi4]

/-! ### A function that hands back its argument's row, shorter -/
def FinW (rl : List ResultVar) (r' : Row) : Exit → St → Prop
  | .ret, st => ∃ t r, rl = [.tmp t] ∧ look st.rows 0 = some r ∧ ((st.get t = .own 0 ∧ r' = r) ∨ ∃ n, st.get t = .win 0 0 n ∧ n ≤ r.els.length ∧ r' = ⟨r.ty, r.sz, r.els.take n⟩)
  | .normal, st => ∃ t r, rl = [.tmp t] ∧ look st.rows 0 = some r ∧ ((st.get t = .own 0 ∧ r' = r) ∨ ∃ n, st.get t = .win 0 0 n ∧ n ≤ r.els.length ∧ r' = ⟨r.ty, r.sz, r.els.take n⟩)
  | _, _ => False

theorem RowR.take {h : Array Obj} {S : Nat → Prop} {b cp : Nat} {r : Row} (hr : RowR h S b cp r) (n : Nat) : RowR h S b cp ⟨r.ty, r.sz, r.els.take n⟩ := by
  obtain ⟨C, h1, h2, h3, h4, h5, h6⟩ := hr
  refine ⟨C, h1, h2, by simp; omega, h4, fun e he => h5 e (List.mem_of_mem_take he), fun i e j m he hm => h6 i e j m ?_ hm⟩
  rw [List.getElem?_take] at he
  split at he
  · exact he
  · cases he

theorem MHolds.mkW {f : Nat} {fn : Func} {code : Code} {N : Nat} {rl : List ResultVar} {c : MCt} (hf : P.funcs[f]? = some fn) (hb : fn.body = some code) (hn : fn.ntmps = N) (hr : fn.results = rl.toArray)
    (hname : (fn.name == "runtime.NumGoroutine") = false) (h : ∀ r args K, c r args K → args.length + 1 ≤ N ∧ ∃ r', K r' .self ∧ Wc P code (FinW rl r') (initM N r args)) : MHolds P f c := by
  refine ⟨⟨fn, hf, hname, by rw [hb]; rfl⟩, fun r args K hc => ?_⟩
  obtain ⟨hN, r', hK, hW⟩ := h r args K hc
  refine ⟨r', .self, fun w S b cp vals hSb hRow hA => ?_, hK⟩
  refine calls_of_wp hf hb ?_
  rw [hn]
  refine hW _ _ w _ (SR.initM hSb hRow hA hN) fun e st' a' w' hQ hs => ?_
  have key : (∃ t r, rl = [.tmp t] ∧ look st'.rows 0 = some r ∧ ((st'.get t = .own 0 ∧ r' = r) ∨ ∃ n, st'.get t = .win 0 0 n ∧ n ≤ r.els.length ∧ r' = ⟨r.ty, r.sz, r.els.take n⟩)) → a'.defers = [] ∧ ∃ v, (results fn a'.tmps).run P w' = .ok v w' ∧ ∃ v', v = v ∧ v' = v ∧
      RowR w'.heap (fun x => x < w'.heap.size ∧ (S x ∨ w.heap.size ≤ x)) b cp r' ∧ RMok b cp r' .self v ∧ Under ⟨w, S, (· = b), none⟩ w' := by
    rintro ⟨t, r1, rfl, h1, h2⟩
    obtain ⟨L, cp', sz, ln, s⟩ := hs
    obtain ⟨e1, e2⟩ := s.pin b cp rfl
    obtain ⟨g1, g2, g3, g4⟩ := s.rows 0 r1 h1
    rw [e1, e2] at g1
    have hrow : RowR w'.heap (fun x => x < w'.heap.size ∧ (S x ∨ w.heap.size ≤ x)) b cp r1 := g1.mono (fun x hx => ⟨⟨hx.1, hx.2.1.1⟩, rfl⟩) rfl
    have hun : Under ⟨w, S, (· = b), none⟩ w' := ⟨s.below.os, s.below.tape, s.below.output, s.below.size, s.below.block⟩
    refine ⟨s.defers, ?_⟩
    have hval : RowR w'.heap (fun x => x < w'.heap.size ∧ (S x ∨ w.heap.size ≤ x)) b cp r' ∧ a'.tmps.getD t Go.undef = .slice (some ⟨b, 0, none⟩) r'.els.length cp := by
      have hv := s.tmps t
      rcases h2 with ⟨hg, rfl⟩ | ⟨n, hg, hn, rfl⟩
      · rw [hg] at hv
        have hval := hv.1
        rw [e1, e2, g4] at hval
        exact ⟨hrow, hval⟩
      · rw [hg] at hv
        have hval := hv.1
        rw [e1, e2] at hval
        refine ⟨hrow.take n, ?_⟩
        rw [hval]
        simp [hn]
    have := results_run (P := P) (fn := fn) hr (a := a') (w := w') (vs := [.slice (some ⟨b, 0, none⟩) r'.els.length cp]) rfl (fun i x v hx hv' => by
      match i, hx, hv' with
      | 0, hx, hv' => simp at hx hv'; subst hx; subst hv'; simp only [res1, hval.2]; rfl)
    exact ⟨_, this, _, rfl, rfl, hval.1, rfl, hun⟩
  cases e with
  | ret =>
    obtain ⟨h1, v, h2, v', _, rfl, h3⟩ := key hQ
    exact ⟨h1, v', h2, v', rfl, h3⟩
  | normal =>
    obtain ⟨h1, v, h2, v', _, rfl, h3⟩ := key hQ
    exact ⟨h1, v', h2, v', rfl, h3⟩
  | exit id => exact hQ.elim
  | goto l => exact hQ.elim
  | panic ch => exact hQ.elim
  | outgrown => exact hQ.elim

/-! ### Shifts to the right -/
theorem rd_shr1 {x y : Operand} {t t' ty : Nat} {m : Int} (hx : st.ev x = .p (.int .u64 m)) (hy : st.ev y = .p (.int .u64 1)) (h0 : 0 ≤ m) (h1 : m ≤ 9223372036854775807) :
    ReadOp P (.binOp .shr t x y t') ty st (.p (.int .u64 (m / 2))) := fun w0 a w L cp sz ln s => by
  refine ⟨.int .u64 (m / 2), VR.int, fun o w' ho _ _ => ?_⟩
  have hg : (eqGuard .shr t x y (.int .u64 m) (.int .u64 1)).run P w' = .ok () w' := by unfold eqGuard; split <;> simp
  have hw : IntKind.u64.wrap (m / 2) = m / 2 := by simp [IntKind.wrap, IntKind.signed, IntKind.bits]; omega
  have hw2 : IntKind.u64.wrap m = m := by simp [IntKind.wrap, IntKind.signed, IntKind.bits]; omega
  have hf : m.fdiv (2 ^ min 1 IntKind.u64.bits) = m / 2 := by
    have : min 1 IntKind.u64.bits = 1 := rfl
    rw [this, Int.fdiv_eq_ediv_of_nonneg _ (by decide)]; rfl
  simp [execOp, ho, s.ev_int hx, s.ev_int hy, hg, binOp, Op.shift, hf, hw]
end
end Go.Lo
namespace Go.Lo
open Go.RowKit
theorem out_of {i m p jj z : Nat} (hj : jj < z) (h : ¬ (i ≤ p ∧ p < i + m)) : ¬ (i * z ≤ p * z + jj ∧ p * z + jj < i * z + m * z) := by
  rintro ⟨a1, a2⟩
  rcases Nat.lt_or_ge p i with hp | hp
  · have : (p + 1) * z ≤ i * z := Nat.mul_le_mul_right _ hp
    rw [Nat.add_mul] at this; omega
  · have : (i + m) * z ≤ p * z := Nat.mul_le_mul_right _ (by omega)
    rw [Nat.add_mul] at this; omega
section
variable {P : Program} {st : St}
/-- append(s[:i], s[j:j+m]...), in its place. -/
theorem W.appW {ops : Array Oper} {rest : List Oper} {T : St → Prop} {d : Nat} {ty : TypeId} {pos : String} {aft : Array Edge} {x y : Operand} {t e z rk i j m : Nat} {ti ei : TyI} {r : Row} (tt : Tab P) (h : tt.l.get t = some ti) (hel : ti.el = some (e, z)) (ha : ti.agg = false) (he : tt.l.get e = some ei)
    (hzz : (Nat.beq ei.zero.length ei.sz && !Nat.beq ei.sz 0 && Nat.beq ei.sz z) = true) (hx : st.ev x = .win rk 0 i) (hy : st.ev y = .win rk j m) (hr : look st.rows rk = some r) (hrt : (Nat.beq r.ty e && Nat.beq r.sz z) = true) (hd : Nat.blt d st.n = true) (hi : i + m ≤ r.els.length) (hj : j + m ≤ r.els.length)
    (kk : W false P ops rest T (({ st with rows := (rk, ⟨r.ty, r.sz, mid r.els ((r.els.drop j).take m) i⟩) :: st.rows } : St).put d (.win rk 0 (i + m)))) :
    W false P ops (⟨some d, .call { callee := .builtin .append, args := #[x, y], argTypes := #[t, t] }, ty, pos, aft, none⟩ :: rest) T st := by
  have hd' : d < st.n := by simpa [Nat.blt_eq] using hd
  simp only [Bool.and_eq_true, Bool.not_eq_true'] at hzz hrt
  obtain ⟨⟨z1, z2⟩, z3⟩ := hzz
  have hrt1 := Nat.eq_of_beq_eq_true hrt.1
  have hrz' := Nat.eq_of_beq_eq_true hrt.2
  have hz3 := Nat.eq_of_beq_eq_true z3
  have hne : ei.sz ≠ 0 := fun e => by rw [e] at z2; cases z2
  subst hz3
  obtain ⟨hu, hse⟩ := tt.slice h hel ha
  obtain ⟨inf, v, i1, i2, i3, i4, i5, i6⟩ := tt.zero he z1 z2
  intro w0 a w Qr hs hT
  obtain ⟨L, cp, sz, ln, s⟩ := hs
  obtain ⟨⟨C, g1, g2, g3, g4, g5, g6⟩, hge, hsk, hlk⟩ := s.rows rk r hr
  have hxv : a.eval x = .slice (some ⟨L rk, 0, none⟩) i (cp rk) := by rw [(s.ev_win hx).1]; simp
  obtain ⟨hyv, hkn⟩ := s.ev_win hy
  have hszc : r.els.length * r.sz ≤ cp rk * r.sz := Nat.mul_le_mul_right _ g3
  have hjm : j * r.sz + m * r.sz ≤ r.els.length * r.sz := by rw [← Nat.add_mul]; exact Nat.mul_le_mul_right _ hj
  have him : i * r.sz + m * r.sz ≤ r.els.length * r.sz := by rw [← Nat.add_mul]; exact Nat.mul_le_mul_right _ hi
  let news := (C.toList.drop (j * r.sz)).take (m * r.sz)
  have hnl : news.length = m * r.sz := by simp only [news, List.length_take, List.length_drop, Array.length_toList, g2]; omega
  have hng : ∀ q, q < m * r.sz → news[q]? = C[j * r.sz + q]? := fun q hq => by
    simp only [news, List.getElem?_take, if_pos hq, List.getElem?_drop]; simp
  have hnone : ∀ u ∈ news, u.oneCell' = true := fun u hu => by
    obtain ⟨q, hq, rfl⟩ := List.mem_iff_getElem.1 hu
    have hq' : q < m * r.sz := by rw [← hnl]; exact hq
    have hqi : q / r.sz < m := Nat.div_lt_of_lt_mul (by rw [Nat.mul_comm]; exact hq')
    have hrs : 0 < r.sz := by rw [hrz']; omega
    have hel : j + q / r.sz < r.els.length := by omega
    have hjl : q % r.sz < (r.els[j + q / r.sz]).length := by rw [g5 _ (List.getElem_mem hel)]; exact Nat.mod_lt _ hrs
    obtain ⟨u, hu1, hu2, _⟩ := g6 (j + q / r.sz) r.els[j + q / r.sz] (q % r.sz) (r.els[j + q / r.sz])[q % r.sz] (by simp [hel]) (by simp [hjl])
    have hidx : (j + q / r.sz) * r.sz + q % r.sz = j * r.sz + q := by
      rw [Nat.add_mul, Nat.add_assoc, show q / r.sz * r.sz + q % r.sz = q by rw [Nat.mul_comm]; exact Nat.div_add_mod q r.sz]
    rw [hidx] at hu1
    have h2 := hng q hq'
    rw [hu1, List.getElem?_eq_getElem hq] at h2
    rw [Option.some.inj h2]; exact hu2
  have hmidl : i * r.sz + news.length ≤ C.toList.length := by rw [hnl, Array.length_toList, g2]; omega
  let C' := (mid C.toList news (i * r.sz)).toArray
  have hrun : (Builtin.append_ #[t, t] ty #[a.eval x, a.eval y]).run P w = .ok (.slice (some ⟨L rk, 0, none⟩) (i + m) (cp rk)) (w.setRow (L rk) C') := by
    rw [hxv, hyv]
    have hfit : i * inf.size + news.length ≤ C.size := by rw [i2, ← hrz', ← Array.length_toList]; exact hmidl
    have hrn := run_append_room (P := P) w t ty e inf hu i1 (L rk) i (cp rk) C (by rw [← hrt1]; exact g1) ⟨L rk, if cp rk = j then 0 else j * sz rk, none⟩ m (cp rk - j) news (by rw [i2, ← hrz']; exact hnl) (fun q u hq => by
      have hq' : q < m * r.sz := by rw [← hnl]; exact (List.getElem?_eq_some_iff.1 hq).1
      have hcj : ¬ cp rk = j := fun hc => by
        have : m = 0 := by omega
        rw [this, Nat.zero_mul] at hq'; omega
      rw [if_neg hcj, add_mk, cell?_eq, hsk]
      simp only [hcell, g1]
      rw [← hng q hq']; exact hq) hnone (by omega) hfit
    rw [i2, ← hrz'] at hrn
    exact hrn
  have hZl : ((r.els.drop j).take m).length = m := by simp; omega
  have hmid := mid_length (X := r.els) (Z := (r.els.drop j).take m) (a := i) (by rw [hZl]; exact hi)
  have s' := s.stored (r' := ⟨r.ty, r.sz, mid r.els ((r.els.drop j).take m) i⟩) hr rfl rfl hmid (C' := C') (by
      have := mid_length hmidl
      simp only [C', List.size_toArray, this, Array.length_toList]; exact g2) (fun e' he' => by
      unfold mid at he'
      simp only [List.mem_append] at he'
      rcases he' with (h' | h') | h'
      · exact g5 e' (List.mem_of_mem_take h')
      · exact g5 e' (List.mem_of_mem_drop (List.mem_of_mem_take h'))
      · exact g5 e' (List.mem_of_mem_drop h')) (fun p e' jj mm he' hm => by
      have he'' : (mid r.els ((r.els.drop j).take m) i)[p]? = some e' := he'
      rw [mid_get (by rw [hZl]; exact hi), hZl] at he''
      by_cases hin : i ≤ p ∧ p < i + m
      · rw [if_pos hin, List.getElem?_take, if_pos (by omega), List.getElem?_drop] at he''
        obtain ⟨u, hu, hone, hvr⟩ := g6 _ e' jj mm he'' hm
        have hjj : jj < r.sz := by rw [← g5 e' (List.mem_of_getElem? he'')]; exact (List.getElem?_eq_some_iff.1 hm).1
        refine ⟨u, ?_, hone, hvr⟩
        have hpz : p * r.sz + jj = i * r.sz + ((p - i) * r.sz + jj) := by rw [Nat.sub_mul]; have : i * r.sz ≤ p * r.sz := Nat.mul_le_mul_right _ hin.1; omega
        have hlt : (p - i) * r.sz + jj < m * r.sz := by
          have : (p - i + 1) * r.sz ≤ m * r.sz := Nat.mul_le_mul_right _ (by omega)
          rw [Nat.add_mul] at this; omega
        show C'[p * r.sz + jj]? = _
        simp only [C', List.getElem?_toArray]
        rw [mid_get hmidl, hnl, if_pos ⟨by omega, by omega⟩, hpz, Nat.add_sub_cancel_left, hng _ hlt]
        rw [show j * r.sz + ((p - i) * r.sz + jj) = (j + (p - i)) * r.sz + jj by rw [Nat.add_mul]; omega]
        exact hu
      · rw [if_neg hin] at he''
        obtain ⟨u, hu, hone, hvr⟩ := g6 p e' jj mm he'' hm
        refine ⟨u, ?_, hone, hvr⟩
        have hjj : jj < r.sz := by rw [← g5 e' (List.mem_of_getElem? he'')]; exact (List.getElem?_eq_some_iff.1 hm).1
        show C'[p * r.sz + jj]? = _
        simp only [C', List.getElem?_toArray]
        rw [mid_get hmidl, hnl, if_neg ?_]
        · simpa using hu
        · exact out_of hjj hin)
  simp only [wpList, wanted_none, if_true]
  refine .inl ?_
  unfold Oper.wp
  have hex : (execOp a.eval ⟨some d, .call { callee := .builtin .append, args := #[x, y], argTypes := #[t, t] }, ty, pos, aft, none⟩).run P w = .ok (.value (.slice (some ⟨L rk, 0, none⟩) (i + m) (cp rk))) (w.setRow (L rk) C') := by
    simp [execOp, resolve, invoke, builtin, hrun]
  rw [hex]
  simp only [Oper.upon]
  exact kk w0 _ _ Qr ⟨L, cp, sz, ln, s'.put (d := d) (m := .win rk 0 (i + m)) hd' ⟨by simp, hkn⟩⟩ hT

end
end Go.Lo
namespace Go.Lo
open Go.RowKit

@[irreducible] def Sd (c k : Prop) : Prop := c ∧ k
theorem Sd.mk {c k : Prop} (h : c) (hk : k) : Sd c k := by unfold Sd; exact ⟨h, hk⟩
theorem Sd.out {c k : Prop} (h : Sd c k) : c ∧ k := by unfold Sd at h; exact h
@[irreducible] def Br (b want : Bool) (x y : Prop) : Prop := (b = want → x) ∧ (b = (!want) → y)
theorem Br.mk {b want : Bool} {x y : Prop} (h1 : b = want → x) (h2 : b = (!want) → y) : Br b want x y := by unfold Br; exact ⟨h1, h2⟩
theorem Br.out {b want : Bool} {x y : Prop} (h : Br b want x y) : (b = want → x) ∧ (b = (!want) → y) := by unfold Br at h; exact h
theorem Br.yes {b want : Bool} {x y : Prop} (h : b = want) (hx : x) : Br b want x y := Br.mk (fun _ => hx) (fun e => by rw [h] at e; cases want <;> cases e)
theorem Br.no {b want : Bool} {x y : Prop} (h : b = (!want)) (hy : y) : Br b want x y := Br.mk (fun e => by rw [h] at e; cases want <;> cases e) (fun _ => hy)
@[irreducible] def Ixv (els : List (List PV)) (i : Int) (k : List PV → Prop) : Prop := 0 ≤ i ∧ ∃ e, els[i.toNat]? = some e ∧ k e
theorem Ixv.mk {els : List (List PV)} {i : Int} {k : List PV → Prop} {e : List PV} (h0 : 0 ≤ i) (he : els[i.toNat]? = some e) (hk : k e) : Ixv els i k := by unfold Ixv; exact ⟨h0, e, he, hk⟩
theorem Ixv.out {els : List (List PV)} {i : Int} {k : List PV → Prop} (h : Ixv els i k) : 0 ≤ i ∧ ∃ e, els[i.toNat]? = some e ∧ k e := by unfold Ixv at h; exact h
@[irreducible] def Elt (els : List (List PV)) (i : Nat) (k : List PV → Prop) : Prop := ∃ e, els[i]? = some e ∧ k e
theorem Elt.mk {els : List (List PV)} {i : Nat} {k : List PV → Prop} {e : List PV} (he : els[i]? = some e) (hk : k e) : Elt els i k := by unfold Elt; exact ⟨e, he, hk⟩
theorem Elt.out {els : List (List PV)} {i : Nat} {k : List PV → Prop} (h : Elt els i k) : ∃ e, els[i]? = some e ∧ k e := by unfold Elt at h; exact h

@[irreducible] def Mk (m n : Int) (x y : Prop) : Prop := 0 ≤ n ∧ n ≤ 4294967296 ∧ ((m = n ∧ x) ∨ (m = 0 ∧ y))
theorem Mk.eq {m n : Int} {x y : Prop} (h : m = n) (h0 : 0 ≤ n) (h1 : n ≤ 4294967296) (k : x) : Mk m n x y := by unfold Mk; exact ⟨h0, h1, .inl ⟨h, k⟩⟩
theorem Mk.zero {m n : Int} {x y : Prop} (h : m = 0) (h0 : 0 ≤ n) (h1 : n ≤ 4294967296) (k : y) : Mk m n x y := by unfold Mk; exact ⟨h0, h1, .inr ⟨h, k⟩⟩
theorem Mk.out {m n : Int} {x y : Prop} (h : Mk m n x y) : 0 ≤ n ∧ n ≤ 4294967296 ∧ ((m = n ∧ x) ∨ (m = 0 ∧ y)) := by unfold Mk at h; exact h

/-- A value, its head laid open. -/
def fk (m : MV) (k : MV → Prop) : Prop := match m with
  | .p (.int a b) => k (.p (.int a b))
  | .p (.bool b) => k (.p (.bool b))
  | .p (.str s) => k (.p (.str s))
  | .p (.agg cs) => k (.p (.agg cs))
  | .p (.view z e) => k (.p (.view z e))
  | .p (.ref cs) => k (.p (.ref cs))
  | .p .nil => k (.p .nil)
  | .p .any => k (.p .any)
  | .p (.clo f cs) => k (.p (.clo f cs))
  | .p (.raw v) => k (.p (.raw v))
  | .own x => k (.own x)
  | .loc x i j => k (.loc x i j)
  | .win x i j => k (.win x i j)
  | .undef => k .undef
  | .tup xs => k (.tup xs)
theorem fk_eq (m : MV) (k : MV → Prop) : fk m k = k m := by
  unfold fk; split <;> rfl

inductive RdR where
  | val (m : MV)
  | side (c : Prop) (m : MV)
  | idx (els : List (List PV)) (i : Int)
  | elt (els : List (List PV)) (i : Nat) (f : List PV → Option MV)
  | br (b : Bool) (x y : MV)
  | none

def RdOk (P : Program) (op : Op) (ty : TypeId) (st : St) : RdR → Prop
  | .val m => ReadOp P op ty st m
  | .side c m => c → ReadOp P op ty st m
  | .idx els i => 0 ≤ i → ∀ e, els[i.toNat]? = some e → ReadOp P op ty st (.p (.ref e))
  | .elt els i f => ∀ e m, els[i]? = some e → f e = some m → ReadOp P op ty st m
  | .br b x y => (b = true → ReadOp P op ty st x) ∧ (b = false → ReadOp P op ty st y)
  | .none => True

def fitK : IntKind → Int → Prop
  | .i64, m => in64 m
  | .u8, m => 0 ≤ m ∧ m ≤ 255
  | .u64, m => 0 ≤ m ∧ m ≤ 9223372036854775807
  | _, _ => False
theorem fitK_wrap {k : IntKind} {m : Int} (h : fitK k m) : k.wrap m = m := by
  cases k <;> first | exact wrap_in64 h | exact h.elim | skip
  · obtain ⟨h0, h1⟩ := h
    simp [IntKind.wrap, IntKind.signed, IntKind.bits]; omega
  · obtain ⟨h0, h1⟩ := h
    simp [IntKind.wrap, IntKind.signed, IntKind.bits]; omega

section
variable {P : Program} {st : St} {ty : TypeId}

def rField (tt : Tr) (st : St) (t : Nat) (x : Operand) (f : Nat) : RdR := match tt.get t with
  | some i => match i.fs[f]? with
    | some (off, z) => bif Nat.beq z 0 then .none else match st.ev x with
      | .p (.ref cs) => .val (.p (.ref (cs.drop off)))
      | .loc k e j => .val (.loc k e (j + off))
      | _ => .none
    | none => .none
  | none => .none
theorem rField_ok (tt : Tab P) {t : Nat} {x : Operand} {f : Nat} : RdOk P (.fieldAddr t x f) ty st (rField tt.l st t x f) := by
  unfold rField
  cases h : tt.l.get t with
  | none => trivial
  | some i =>
    dsimp only
    cases hf : i.fs[f]? with
    | none => trivial
    | some p =>
      obtain ⟨off, z⟩ := p
      dsimp only
      cases hz : Nat.beq z 0 with
      | true => trivial
      | false =>
        dsimp only [cond_false]
        split
        · rename_i cs hx; exact rd_field tt h hf hz hx
        · rename_i k e j hx; exact rd_field_loc tt h hf hz hx
        · trivial

def rLoad (tt : Tr) (st : St) (t : Nat) (x : Operand) : RdR := match tt.get t with
  | some i => match i.agg with
    | true => match st.ev x with
      | .p (.ref cs) => bif Nat.beq cs.length i.sz then .val (.p (.agg cs)) else bif Nat.beq (cs.take i.sz).length i.sz then .val (.p (.agg (cs.take i.sz))) else .none
      | .loc k ei j => match look st.rows k with
        | some ⟨_, _, els⟩ => bif Nat.beq j 0 then .elt els ei (fun e => bif Nat.beq e.length i.sz then some (.p (.agg e)) else bif Nat.beq (e.take i.sz).length i.sz then some (.p (.agg (e.take i.sz))) else none)
            else .elt els ei (fun e => bif Nat.beq ((e.drop j).take i.sz).length i.sz then some (.p (.agg ((e.drop j).take i.sz))) else none)
        | none => .none
      | _ => .none
    | false => match st.ev x with
      | .p (.ref cs) => match cs[0]? with
        | some m => .val (.p m)
        | none => .none
      | .loc k ei j => match look st.rows k with
        | some ⟨_, _, els⟩ => .elt els ei (fun e => match e[j]? with | some m => some (.p m) | none => none)
        | none => .none
      | _ => .none
  | none => .none
theorem rLoad_ok (tt : Tab P) {t : Nat} {x : Operand} : RdOk P (.load t x) ty st (rLoad tt.l st t x) := by
  unfold rLoad
  cases h : tt.l.get t with
  | none => trivial
  | some i =>
    dsimp only
    cases ha : i.agg with
    | true =>
      dsimp only
      split
      · rename_i cs hx
        cases h1 : Nat.beq cs.length i.sz with
        | true => exact rd_load_all tt h ha hx h1
        | false =>
          dsimp only [cond_false]
          cases h2 : Nat.beq (cs.take i.sz).length i.sz with
          | true => exact rd_load_agg tt h ha hx (Nat.eq_of_beq_eq_true h2)
          | false => trivial
      · rename_i k ei j hx
        cases hr : look st.rows k with
        | none => trivial
        | some r =>
          obtain ⟨rty, rsz, els⟩ := r
          dsimp only
          cases hj : Nat.beq j 0 with
          | true =>
            have := Nat.eq_of_beq_eq_true hj; subst this
            intro e m he hm
            cases h1 : Nat.beq e.length i.sz with
            | true => simp only [h1, cond_true, Option.some.injEq] at hm; subst hm; exact rd_load_loc_all tt h ha hx hr he h1
            | false =>
              simp only [h1, cond_false] at hm
              cases h2 : Nat.beq (e.take i.sz).length i.sz with
              | true => simp only [h2, cond_true, Option.some.injEq] at hm; subst hm; exact rd_load_loc_agg (j := 0) tt h ha hx hr he (by simpa using Nat.eq_of_beq_eq_true h2)
              | false => simp only [h2, cond_false] at hm; cases hm
          | false =>
            intro e m he hm
            cases h2 : Nat.beq ((e.drop j).take i.sz).length i.sz with
            | true => simp only [h2, cond_true, Option.some.injEq] at hm; subst hm; exact rd_load_loc_agg tt h ha hx hr he (Nat.eq_of_beq_eq_true h2)
            | false => simp only [h2, cond_false] at hm; cases hm
      · trivial
    | false =>
      dsimp only
      split
      · rename_i cs hx
        cases hm : cs[0]? with
        | none => trivial
        | some m => exact rd_load tt h ha hx hm
      · rename_i k ei j hx
        cases hr : look st.rows k with
        | none => trivial
        | some r =>
          obtain ⟨rty, rsz, els⟩ := r
          intro e m he hm
          cases hv : e[j]? with
          | none => simp only [hv] at hm; cases hm
          | some v => simp only [hv, Option.some.injEq] at hm; subst hm; exact rd_load_loc tt h ha hx hr he hv
      · trivial

def rNil (st : St) (x : Operand) : RdR := match st.ev x with
  | .p (.ref cs) => .val (.p (.ref cs))
  | .loc k e j => .val (.loc k e j)
  | _ => .none
theorem rNil_ok {x : Operand} : RdOk P (.nilCheck x) ty st (rNil st x) := by
  unfold rNil; split
  · rename_i h; exact rd_nil h
  · rename_i h; exact rd_nil_loc h
  · trivial

def rPick (st : St) (c x y : Operand) : RdR := match st.ev c with
  | .p (.bool b) => .br b (st.ev x) (st.ev y)
  | _ => .none
theorem rPick_ok {c x y : Operand} : RdOk P (.pick c x y) ty st (rPick st c x y) := by
  unfold rPick; split
  · rename_i b h
    exact ⟨fun e => by subst e; exact rd_pick_t h, fun e => by subst e; exact rd_pick_f h⟩
  · trivial

def rBinI (op : BinOp) (m n : Int) : RdR := match op with
  | .lss => .val (.p (.bool (ltB m n)))
  | .gtr => .val (.p (.bool (ltB n m)))
  | .leq => .val (.p (.bool (!ltB n m)))
  | .geq => .val (.p (.bool (!ltB m n)))
  | .eql => .val (.p (.bool (eqB m n)))
  | .neq => .val (.p (.bool (!eqB m n)))
  | _ => .none
def rBinA (op : BinOp) (m n : Int) : RdR := match op with
  | .add => .side (in64 (m + n)) (.p (.int .i64 (m + n)))
  | .sub => .side (in64 (m - n)) (.p (.int .i64 (m - n)))
  | .mul => .side (in64 (m * n)) (.p (.int .i64 (m * n)))
  | .quo => .side (n ≠ 0 ∧ in64 (m.tdiv n)) (.p (.int .i64 (m.tdiv n)))
  | .rem => .side (n ≠ 0) (.p (.int .i64 (m.tmod n)))
  | _ => rBinI op m n
def rBinS (op : BinOp) (m n : ByteArray) : RdR := match op with
  | .lss => .val (.p (.bool (sLt m n)))
  | .geq => .val (.p (.bool (!sLt m n)))
  | .leq => .val (.p (.bool (sLt m n || sEq m n)))
  | .gtr => .val (.p (.bool (!(sLt m n || sEq m n))))
  | .eql => .val (.p (.bool (sEq m n)))
  | .neq => .val (.p (.bool (!sEq m n)))
  | .add => .side (((m.size + n.size : Nat) : Int) ≤ 9223372036854775807) (.p (.str (m ++ n)))
  | _ => .none
def rBinU (op : BinOp) (m n : Int) : RdR := match op with
  | .shr => match n with
    | .ofNat 1 => .side (0 ≤ m ∧ m ≤ 9223372036854775807) (.p (.int .u64 (m / 2)))
    | _ => .none
  | _ => rBinI op m n
def rBin (st : St) (op : BinOp) (x y : Operand) : RdR := match st.ev x with
  | .p (.int .i64 m) => match st.ev y with
    | .p (.int .i64 n) => rBinA op m n
    | _ => .none
  | .p (.int .u8 m) => match st.ev y with
    | .p (.int .u8 n) => rBinI op m n
    | _ => .none
  | .p (.int .u64 m) => match st.ev y with
    | .p (.int .u64 n) => rBinU op m n
    | _ => .none
  | .p (.str m) => match st.ev y with
    | .p (.str n) => rBinS op m n
    | _ => .none
  | _ => .none
theorem rBinI_ok {op : BinOp} {t t' : Nat} {x y : Operand} {k : IntKind} {m n : Int} (hx : st.ev x = .p (.int k m)) (hy : st.ev y = .p (.int k n)) : RdOk P (.binOp op t x y t') ty st (rBinI op m n) := by
  cases op <;> first | trivial | exact rd_lss hx hy | exact rd_gtr hx hy | exact rd_leq hx hy | exact rd_geq hx hy | exact rd_eql hx hy | exact rd_neq hx hy
theorem rBin_ok {op : BinOp} {t t' : Nat} {x y : Operand} : RdOk P (.binOp op t x y t') ty st (rBin st op x y) := by
  unfold rBin
  split
  · rename_i m hx
    split
    · rename_i n hy
      unfold rBinA
      split
      · exact fun h => rd_add hx hy h
      · exact fun h => rd_sub hx hy h
      · exact fun h => rd_mul hx hy h
      · exact fun h => rd_quo hx hy h.1 h.2
      · exact fun h => rd_rem hx hy h
      · exact rBinI_ok hx hy
    · trivial
  · rename_i m hx
    split
    · rename_i n hy; exact rBinI_ok hx hy
    · trivial
  · rename_i m hx
    split
    · rename_i n hy
      unfold rBinU
      split
      · split
        · exact fun h => rd_shr1 hx hy h.1 h.2
        · trivial
      · exact rBinI_ok hx hy
    · trivial
  · rename_i m hx
    split
    · rename_i n hy
      cases op <;> first | trivial | exact rd_slss hx hy | exact rd_sgeq hx hy | exact rd_sleq hx hy | exact rd_sgtr hx hy | exact rd_seql hx hy | exact rd_sneq hx hy | exact fun h => rd_sadd hx hy h
    · trivial
  · trivial

def rUn (st : St) (op : UnOp) (x : Operand) : RdR := match op with
  | .not => match st.ev x with
    | .p (.bool b) => .val (.p (.bool (!b)))
    | _ => .none
  | .neg => match st.ev x with
    | .p (.int .i64 m) => .side (in64 (-m)) (.p (.int .i64 (-m)))
    | _ => .none
  | _ => .none
theorem rUn_ok {op : UnOp} {t : Nat} {x : Operand} : RdOk P (.unOp op t x) ty st (rUn st op x) := by
  unfold rUn
  split
  · split
    · rename_i h; exact rd_not h
    · trivial
  · split
    · rename_i h; exact fun hs => rd_neg h hs
    · trivial
  · trivial

def rConv (tt : Tr) (st : St) (t t' : Nat) (x : Operand) : RdR := match tt.get t with
  | some _ => match tt.get t' with
    | some i' => match i'.ik with
      | some k' => match st.ev x with
        | .p (.int _ m) => .side (fitK k' m) (.p (.int k' m))
        | _ => .none
      | none => .none
    | none => .none
  | none => .none
theorem rConv_ok (tt : Tab P) {t t' : Nat} {x : Operand} : RdOk P (.convert t t' x) ty st (rConv tt.l st t t' x) := by
  unfold rConv
  cases h : tt.l.get t with
  | none => trivial
  | some i =>
    dsimp only
    cases h' : tt.l.get t' with
    | none => trivial
    | some i' =>
      dsimp only
      cases hk : i'.ik with
      | none => trivial
      | some k' =>
        dsimp only
        split
        · rename_i hx; exact fun hf => rd_conv tt h h' hk hx (fitK_wrap hf)
        · trivial

def rIndex (tt : Tr) (st : St) (t : Nat) (x y : Operand) : RdR := match tt.get t with
  | some i => match i.str with
    | true => match st.ev x with
      | .p (.str s) => match st.ev y with
        | .p (.int _ n) => .side (0 ≤ n ∧ n < s.size) (.p (.int .u8 (sAt s n).toNat))
        | _ => .none
      | _ => .none
    | false => .none
  | none => .none
theorem rIndex_ok (tt : Tab P) {t : Nat} {x y : Operand} : RdOk P (.index t x y) ty st (rIndex tt.l st t x y) := by
  unfold rIndex
  cases h : tt.l.get t with
  | none => trivial
  | some i =>
    dsimp only
    cases hs : i.str with
    | false => trivial
    | true =>
      dsimp only
      split
      · rename_i hx
        split
        · rename_i hy; exact fun hh => rd_sidx tt h hs hx hy hh.1 (sixE hh.1 hh.2)
        · trivial
      · trivial

def rAt (tt : Tr) (st : St) (t : Nat) (x y : Operand) : RdR := match tt.get t with
  | some i => match i.agg with
    | true => .none
    | false => match i.el with
      | some (e, z) => bif Nat.beq z 0 then .none else match st.ev y with
        | .p (.int _ n) => match st.ev x with
          | .p (.view z' els) => bif Nat.beq z' z then .idx els n else .none
          | .own k => match look st.rows k with
            | some ⟨_, rsz, els⟩ => bif Nat.beq rsz z then .side (0 ≤ n ∧ n < els.length) (.loc k n.toNat 0) else .none
            | none => .none
          | _ => .none
        | _ => .none
      | none => .none
  | none => .none
theorem rAt_ok (tt : Tab P) {t : Nat} {x y : Operand} : RdOk P (.indexAddr t x y) ty st (rAt tt.l st t x y) := by
  unfold rAt
  cases h : tt.l.get t with
  | none => trivial
  | some i =>
    dsimp only
    cases ha : i.agg with
    | true => trivial
    | false =>
      dsimp only
      cases hel : i.el with
      | none => trivial
      | some p =>
        obtain ⟨e, z⟩ := p
        dsimp only
        cases hz : Nat.beq z 0 with
        | true => trivial
        | false =>
          dsimp only [cond_false]
          split
          · rename_i n hy
            split
            · rename_i z' els hx
              cases hzz : Nat.beq z' z with
              | false => trivial
              | true =>
                have := Nat.eq_of_beq_eq_true hzz; subst this
                exact fun h0 e he => rd_index tt h hel ha hz hx hy h0 he
            · rename_i k hx
              cases hr : look st.rows k with
              | none => trivial
              | some r =>
                obtain ⟨rty, rsz, els⟩ := r
                dsimp only
                cases hzz : Nat.beq rsz z with
                | false => trivial
                | true => exact fun hh => rd_index_own tt h hel ha hz hx hr (Nat.eq_of_beq_eq_true hzz) hy hh.1 hh.2
            · trivial
          · trivial

def rLen (tt : Tr) (st : St) (t : Nat) (x : Operand) : RdR := match tt.get t with
  | some i => match i.str with
    | true => match st.ev x with
      | .p (.str s) => .val (.p (.int .i64 s.size))
      | _ => .none
    | false => match i.agg with
      | true => .none
      | false => match i.el with
        | some _ => match st.ev x with
          | .p (.view _ els) => .val (.p (.int .i64 els.length))
          | .p .nil => .val (.p (.int .i64 0))
          | .own k => match look st.rows k with
            | some ⟨_, _, els⟩ => .val (.p (.int .i64 els.length))
            | none => .none
          | .win _ _ n => .val (.p (.int .i64 n))
          | _ => .none
        | none => .none
  | none => .none
theorem rLen_ok (tt : Tab P) {t : Nat} {x : Operand} : RdOk P (.call { callee := .builtin .len, args := #[x], argTypes := #[t] }) ty st (rLen tt.l st t x) := by
  unfold rLen
  cases h : tt.l.get t with
  | none => trivial
  | some i =>
    dsimp only
    cases hs : i.str with
    | true =>
      dsimp only
      split
      · rename_i hx; exact rd_len_str tt h hs hx
      · trivial
    | false =>
      dsimp only
      cases ha : i.agg with
      | true => trivial
      | false =>
        dsimp only
        cases hel : i.el with
        | none => trivial
        | some p =>
          obtain ⟨e, z⟩ := p
          dsimp only
          split
          · rename_i hx; exact rd_len_view tt h hel ha hx
          · rename_i hx; exact rd_len_nil tt h hel ha hx
          · rename_i k hx
            cases hr : look st.rows k with
            | none => trivial
            | some r => obtain ⟨rty, rsz, els⟩ := r; exact rd_len_own tt h hel ha hx hr
          · rename_i hx; exact rd_len_win tt h hel ha hx
          · trivial

def rMM (st : St) (mx : Bool) (x y : Operand) : RdR := match st.ev x with
  | .p (.int .i64 m) => match st.ev y with
    | .p (.int .i64 n) => .val (.p (.int .i64 (match mx with | true => max m n | false => min m n)))
    | _ => .none
  | _ => .none

def rCall (tt : Tr) (st : St) (c : Call) : RdR := match c.callee with
  | .builtin .len => match c.args.toList, c.argTypes.toList with
    | [x], [t] => rLen tt st t x
    | _, _ => .none
  | .builtin .min => match c.args.toList with
    | [x, y] => rMM st false x y
    | _ => .none
  | .builtin .max => match c.args.toList with
    | [x, y] => rMM st true x y
    | _ => .none
  | _ => .none
theorem rCall_ok (tt : Tab P) {c : Call} : RdOk P (.call c) ty st (rCall tt.l st c) := by
  obtain ⟨cl, ar, at_⟩ := c
  unfold rCall
  dsimp only
  split
  · split
    · rename_i x t h1 h2
      have e1 : ar = #[x] := by cases ar; simpa using h1
      have e2 : at_ = #[t] := by cases at_; simpa using h2
      subst e1; subst e2
      exact rLen_ok tt
    · trivial
  · split
    · rename_i x y h1
      have e1 : ar = #[x, y] := by cases ar; simpa using h1
      subst e1
      unfold rMM
      split
      · rename_i hx
        split
        · rename_i hy; exact rd_min hx hy
        · trivial
      · trivial
    · trivial
  · split
    · rename_i x y h1
      have e1 : ar = #[x, y] := by cases ar; simpa using h1
      subst e1
      unfold rMM
      split
      · rename_i hx
        split
        · rename_i hy; exact rd_max hx hy
        · trivial
      · trivial
    · trivial
  · trivial

def rExt (st : St) (x : Operand) (ix : Nat) : RdR := match st.ev x with
  | .tup xs => match xs[ix]? with
    | some m => .val m
    | none => .none
  | _ => .none
theorem rExt_ok {x : Operand} {ix : Nat} : RdOk P (.extract x ix) ty st (rExt st x ix) := by
  unfold rExt
  split
  · rename_i xs hx
    cases hm : xs[ix]? with
    | none => trivial
    | some m => exact rd_extract hx hm
  · trivial

def rBuild (tt : Tr) (st : St) (t : Nat) (parts : Array (Nat × Operand)) : RdR := match tt.get t with
  | some i => match i.agg with
    | true => match i.el with
      | none => bif Nat.beq i.zero.length i.sz && !Nat.beq i.sz 0 && nzB i.fs then (match fillL (fun k => i.fs[k]?) st i.zero parts.toList with
        | some F => .val (.p (.agg F))
        | none => .none) else .none
      | some _ => .none
    | false => .none
  | none => .none
theorem rBuild_ok (tt : Tab P) {t : Nat} {parts : Array (Nat × Operand)} : RdOk P (.build t parts) ty st (rBuild tt.l st t parts) := by
  unfold rBuild
  cases h : tt.l.get t with
  | none => trivial
  | some i =>
    dsimp only
    cases ha : i.agg with
    | false => trivial
    | true =>
      dsimp only
      cases hel : i.el with
      | some p => trivial
      | none =>
        dsimp only
        cases hn : (Nat.beq i.zero.length i.sz && !Nat.beq i.sz 0 && nzB i.fs) with
        | false => trivial
        | true =>
          dsimp only [cond_true]
          cases hF : fillL (fun k => i.fs[k]?) st i.zero parts.toList with
          | none => trivial
          | some F => exact rd_build tt h ha hel hn hF

def rCut (tt : Tr) (st : St) (t : Nat) (x : Operand) (lo hi : Option Operand) : RdR := match tt.get t with
  | some i => match i.agg with
    | true => .none
    | false => match i.el with
      | some (e, z) => bif Nat.beq z 0 then .none else match st.ev x with
        | .p (.view z' els) => bif Nat.beq z' z then (match lo with
          | none => match hi with
            | none => .none
            | some h => match st.ev h with
              | .p (.int _ n) => .side (0 ≤ n ∧ n ≤ els.length) (.p (.view z (els.take n.toNat)))
              | _ => .none
          | some l => match st.ev l with
            | .p (.int _ m) => match hi with
              | none => .side (0 ≤ m ∧ m ≤ els.length) (.p (.view z (els.drop m.toNat)))
              | some h => match st.ev h with
                | .p (.int _ n) => .side (0 ≤ m ∧ m ≤ n ∧ n ≤ els.length) (.p (.view z ((els.take n.toNat).drop m.toNat)))
                | _ => .none
            | _ => .none) else .none
        | .own rk => match look st.rows rk with
          | some ⟨_, rsz, els⟩ => bif Nat.beq rsz z then (match lo with
            | none => match hi with
              | none => .none
              | some h => match st.ev h with
                | .p (.int _ n) => .side (0 ≤ n ∧ n ≤ els.length) (.win rk 0 n.toNat)
                | _ => .none
            | some l => match st.ev l with
              | .p (.int _ m) => match hi with
                | none => .side (0 ≤ m ∧ m ≤ els.length) (.win rk m.toNat (els.length - m.toNat))
                | some h => match st.ev h with
                  | .p (.int _ n) => .side (0 ≤ m ∧ m ≤ n ∧ n ≤ els.length) (.win rk m.toNat (n.toNat - m.toNat))
                  | _ => .none
              | _ => .none) else .none
          | none => .none
        | .win rk 0 _ => match look st.rows rk with
          | some ⟨_, rsz, els⟩ => bif Nat.beq rsz z then (match lo with
            | none => .none
            | some l => match st.ev l with
              | .p (.int _ m) => match hi with
                | none => .none
                | some h => match st.ev h with
                  | .p (.int _ n) => .side (0 ≤ m ∧ m ≤ n ∧ n ≤ els.length) (.win rk m.toNat (n.toNat - m.toNat))
                  | _ => .none
              | _ => .none) else .none
          | none => .none
        | _ => .none
      | none => .none
  | none => .none
theorem rCut_ok (tt : Tab P) {t : Nat} {x : Operand} {lo hi : Option Operand} : RdOk P (.slice t x lo hi none) ty st (rCut tt.l st t x lo hi) := by
  unfold rCut
  cases h : tt.l.get t with
  | none => trivial
  | some i =>
    dsimp only
    cases ha : i.agg with
    | true => trivial
    | false =>
      dsimp only
      cases hel : i.el with
      | none => trivial
      | some p =>
        obtain ⟨e, z⟩ := p
        dsimp only
        cases hz : Nat.beq z 0 with
        | true => trivial
        | false =>
          dsimp only [cond_false]
          split
          · rename_i z' els hx
            cases hzz : Nat.beq z' z with
            | false => trivial
            | true =>
              have := Nat.eq_of_beq_eq_true hzz; subst this
              dsimp only [cond_true]
              cases lo with
              | none =>
                cases hi with
                | none => trivial
                | some hh =>
                  dsimp only
                  split
                  · rename_i hy; exact fun g => rd_cut_hi tt h hel ha hz hx hy g.1 g.2
                  · trivial
              | some l =>
                dsimp only
                split
                · rename_i hl
                  cases hi with
                  | none => exact fun g => rd_cut_lo tt h hel ha hz hx hl g.1 g.2
                  | some hh =>
                    dsimp only
                    split
                    · rename_i hy; exact fun g => rd_cut tt h hel ha hz hx hl hy g.1 g.2.1 g.2.2
                    · trivial
                · trivial
          · rename_i rk hx
            cases hr : look st.rows rk with
            | none => trivial
            | some r =>
              obtain ⟨rty, rsz, els⟩ := r
              dsimp only
              cases hzz : Nat.beq rsz z with
              | false => trivial
              | true =>
                have hrz := Nat.eq_of_beq_eq_true hzz
                dsimp only [cond_true]
                cases lo with
                | none =>
                  cases hi with
                  | none => trivial
                  | some hh =>
                    dsimp only
                    split
                    · rename_i k' n hy
                      exact fun g => by simpa using win_core (P := P) (ty := ty) (lo := none) (hi := some hh) (lo' := none) (hi' := some n) (k := k') (k' := k') tt h hel ha hz hx hr hrz (fun w0 a w L cp sz ln s => rfl) (fun w0 a w L cp sz ln s => by simp [s.ev_int hy]) (by simp) (by simpa using g.1) (by simpa using g.2)
                    · trivial
                | some l =>
                  dsimp only
                  split
                  · rename_i k m hl
                    cases hi with
                    | none => exact fun g => by simpa using win_core (P := P) (ty := ty) (lo := some l) (hi := none) (lo' := some m) (hi' := none) (k := k) (k' := k) tt h hel ha hz hx hr hrz (fun w0 a w L cp sz ln s => by simp [s.ev_int hl]) (fun w0 a w L cp sz ln s => rfl) (by simpa using g.1) (by simpa using g.2) (by simp)
                    | some hh =>
                      dsimp only
                      split
                      · rename_i k' n hy
                        exact fun g => by simpa using win_core (P := P) (ty := ty) (lo := some l) (hi := some hh) (lo' := some m) (hi' := some n) (k := k) (k' := k') tt h hel ha hz hx hr hrz (fun w0 a w L cp sz ln s => by simp [s.ev_int hl]) (fun w0 a w L cp sz ln s => by simp [s.ev_int hy]) (by simpa using g.1) (by simpa using g.2.1) (by simpa using g.2.2)
                      · trivial
                  · trivial
          · rename_i rk n0 hx
            cases hr : look st.rows rk with
            | none => trivial
            | some r =>
              obtain ⟨rty, rsz, els⟩ := r
              dsimp only
              cases hzz : Nat.beq rsz z with
              | false => trivial
              | true =>
                have hrz := Nat.eq_of_beq_eq_true hzz
                dsimp only [cond_true]
                cases lo with
                | none => trivial
                | some l =>
                  dsimp only
                  split
                  · rename_i k m hl
                    cases hi with
                    | none => trivial
                    | some hh =>
                      dsimp only
                      split
                      · rename_i k' n hy
                        exact fun g => winW_core tt h hel ha hz hx hr hrz hl hy g.1 g.2.1 g.2.2
                      · trivial
                  · trivial
          · trivial

def rCut3 (tt : Tr) (st : St) (t : Nat) (x lo hi mx : Operand) : RdR := match tt.get t with
  | some i => match i.agg with
    | true => .none
    | false => match i.el with
      | some (e, z) => bif Nat.beq z 0 then .none else match st.ev x with
        | .own k => match look st.rows k with
          | some ⟨_, _, els⟩ => match st.ev lo with
            | .p (.int _ m) => match st.ev hi with
              | .p (.int _ q) => match st.ev mx with
                | .p (.int _ u) => .side (0 ≤ m ∧ m ≤ q ∧ q ≤ u ∧ u ≤ els.length) (.p .any)
                | _ => .none
              | _ => .none
            | _ => .none
          | none => .none
        | _ => .none
      | none => .none
  | none => .none
theorem rCut3_ok (tt : Tab P) {t : Nat} {x lo hi mx : Operand} : RdOk P (.slice t x (some lo) (some hi) (some mx)) ty st (rCut3 tt.l st t x lo hi mx) := by
  unfold rCut3
  cases h : tt.l.get t with
  | none => trivial
  | some i =>
    dsimp only
    cases ha : i.agg with
    | true => trivial
    | false =>
      dsimp only
      cases hel : i.el with
      | none => trivial
      | some p =>
        obtain ⟨e, z⟩ := p
        dsimp only
        cases hz : Nat.beq z 0 with
        | true => trivial
        | false =>
          dsimp only [cond_false]
          split
          · rename_i k hx
            cases hr : look st.rows k with
            | none => trivial
            | some r =>
              obtain ⟨rty, rsz, els⟩ := r
              dsimp only
              split
              · rename_i hl
                split
                · rename_i hh
                  split
                  · rename_i hm; exact fun g => rd_slice3 tt h hel ha hz hx hr hl hh hm g.1 g.2.1 g.2.2.1 g.2.2.2
                  · trivial
                · trivial
              · trivial
          · trivial

def rdo (tt : Tr) (st : St) (op : Op) : RdR := match op with
  | .move x => .val (st.ev x)
  | .assign x => .val (st.ev x)
  | .pick c x y => rPick st c x y
  | .fieldAddr t x f => rField tt st t x f
  | .load t x => rLoad tt st t x
  | .nilCheck x => rNil st x
  | .binOp op _ x y _ => rBin st op x y
  | .unOp op _ x => rUn st op x
  | .convert t t' x => rConv tt st t t' x
  | .index t x y => rIndex tt st t x y
  | .indexAddr t x y => rAt tt st t x y
  | .call c => rCall tt st c
  | .extract x ix => rExt st x ix
  | .build t parts => rBuild tt st t parts
  | .slice t x lo hi none => rCut tt st t x lo hi
  | .slice t x (some lo) (some hi) (some mx) => rCut3 tt st t x lo hi mx
  | .makeFunc (.func f) first caps => match first.toList with
    | [] => match capsP st caps.toList with
      | some ms => .val (.p (.clo f ms))
      | none => .none
    | _ :: _ => .none
  | _ => .none
theorem rdo_ok (tt : Tab P) (op : Op) : RdOk P op ty st (rdo tt.l st op) := by
  unfold rdo
  split
  · exact rd_move
  · exact rd_assign
  · exact rPick_ok
  · exact rField_ok tt
  · exact rLoad_ok tt
  · exact rNil_ok
  · exact rBin_ok
  · exact rUn_ok
  · exact rConv_ok tt
  · exact rIndex_ok tt
  · exact rAt_ok tt
  · exact rCall_ok tt
  · exact rExt_ok
  · exact rBuild_ok tt
  · exact rCut_ok tt
  · exact rCut3_ok tt
  · split
    · rename_i h1
      split
      · rename_i ms h2; exact rd_mkf h1 h2
      · trivial
    · trivial
  · trivial
end

/-! ### Operations that write -/
/-- What a write asks: the state behind it (and the slot's value), under a condition. -/
inductive WrR where
  | to (st : St)
  | side (c : Prop) (st : St)
  | elt (els : List (List PV)) (i : Nat) (f : List PV → Option St)
  | mk (m n : Int) (x y : St)
  | none

def wBox (st : St) (d : Nat) (t : Nat) (x : Operand) : WrR := match st.ev x with
  | .p (.agg cs) => bif cs.all PV.flat then .to ((st.addRow ⟨t, cs.length, [cs]⟩).put d (.loc st.nk 0 0)) else .none
  | .p .any => .none
  | .p m => bif m.flat then .to ((st.addRow ⟨t, 1, [[m]]⟩).put d (.loc st.nk 0 0)) else .none
  | _ => .none
def wAlloc (tt : Tr) (st : St) (d : Nat) (t : Nat) : WrR := match tt.get t with
  | some i => bif Nat.beq i.zero.length i.sz && !Nat.beq i.sz 0 then .to ((st.addRow ⟨t, i.sz, [i.zero]⟩).put d (.loc st.nk 0 0)) else .none
  | none => .none
def wStore (tt : Tr) (st : St) (t : Nat) (x y : Operand) : WrR := match tt.get t with
  | some i => match st.ev x with
    | .loc k ei j => match look st.rows k with
      | some ⟨rty, rsz, els⟩ => match st.ev y with
        | .p (.agg cs) => bif cs.all PV.flat && Nat.beq cs.length i.sz then .elt els ei (fun e =>
            bif Nat.beq j 0 && Nat.beq cs.length e.length then some { st with rows := (k, ⟨rty, rsz, els.set ei cs⟩) :: st.rows }
            else bif Nat.ble (j + cs.length) e.length then some { st with rows := (k, ⟨rty, rsz, els.set ei (spl e j cs)⟩) :: st.rows } else none) else .none
        | .p m => bif m.flat && Nat.beq i.sz 1 then .elt els ei (fun e => bif Nat.blt j e.length then some { st with rows := (k, ⟨rty, rsz, els.set ei (e.set j m)⟩) :: st.rows } else none) else .none
        | _ => .none
      | none => .none
    | _ => .none
  | none => .none
def wMake (tt : Tr) (st : St) (d : Nat) (t : Nat) (x y : Operand) : WrR := match tt.get t with
  | some ti => match ti.agg with
    | true => .none
    | false => match ti.el with
      | some (e, z) => match tt.get e with
        | some ei => bif Nat.beq ei.zero.length ei.sz && !Nat.beq ei.sz 0 && Nat.ble ei.bytes 65536 then (match st.ev x with
          | .p (.int _ m) => match st.ev y with
            | .p (.int _ n) => .mk m n ((st.addRow ⟨e, ei.sz, List.replicate n.toNat ei.zero⟩).put d (.own st.nk)) ((st.addRow ⟨e, ei.sz, []⟩).put d (.own st.nk))
            | _ => .none
          | _ => .none) else .none
        | none => .none
      | none => .none
  | none => .none
def wLit (tt : Tr) (st : St) (d : Nat) (t len : Nat) (parts : Array (Nat × Operand)) : WrR := match tt.get t with
  | some ti => match ti.agg with
    | true => .none
    | false => match ti.el with
      | some (e, z) => match tt.get e with
        | some ei => bif Nat.beq ei.zero.length ei.sz && !Nat.beq ei.sz 0 && Nat.beq ei.sz z && Nat.ble (len * z) 16777216 then (match fillL (fun i => some (i * z, z)) st (zeroFlat ei.zero z len) parts.toList with
          | some F => .to ((st.addRow ⟨e, z, chunk z len F⟩).put d (.own st.nk))
          | none => .none) else .none
        | none => .none
      | none => .none
  | none => .none
def wApp (tt : Tr) (st : St) (d : Nat) (c : Call) : WrR := match c.callee, c.args.toList, c.argTypes.toList with
  | .builtin .append, [x, y], [t, t'] => bif Nat.beq t t' then (match tt.get t with
    | some ti => match ti.agg with
      | true => .none
      | false => match ti.el with
        | some (e, z) => match tt.get e with
          | some ei => bif Nat.beq ei.zero.length ei.sz && !Nat.beq ei.sz 0 && Nat.beq ei.sz z && Nat.ble ei.bytes 32768 then (match st.ev x with
            | .own rk => bif Nat.beq rk 0 then .none else match look st.rows rk with
              | some ⟨rty, rsz, els⟩ => bif Nat.beq rty e && Nat.beq rsz z then (match st.ev y with
                | .p (.view z' els2) => bif Nat.beq z' z then .side (els.length + els2.length ≤ 4294967296) { n := st.n, nk := st.nk, t := (d, .own rk) :: killT rk st.t, rows := (rk, ⟨rty, rsz, els ++ els2⟩) :: st.rows, x := st.x } else .none
                | .own k2 => match look st.rows k2 with
                  | some ⟨_, z', els2⟩ => bif Nat.beq z' z then .side (els.length + els2.length ≤ 4294967296) { n := st.n, nk := st.nk, t := (d, .own rk) :: killT rk st.t, rows := (rk, ⟨rty, rsz, els ++ els2⟩) :: st.rows, x := st.x } else .none
                  | none => .none
                | _ => .none) else .none
              | none => .none
            | .win rk 0 i => match st.ev y with
              | .win rk2 j m => bif Nat.beq rk2 rk then (match look st.rows rk with
                | some ⟨rty, rsz, els⟩ => bif Nat.beq rty e && Nat.beq rsz z then .side (i + m ≤ els.length ∧ j + m ≤ els.length) (({ st with rows := (rk, ⟨rty, rsz, mid els ((els.drop j).take m) i⟩) :: st.rows } : St).put d (.win rk 0 (i + m))) else .none
                | none => .none) else .none
              | _ => .none
            | _ => .none) else .none
          | none => .none
        | none => .none
    | none => .none) else .none
  | _, _, _ => .none

def wClr (tt : Tr) (st : St) (c : Call) : WrR := match c.callee, c.args.toList, c.argTypes.toList with
  | .builtin .clear, [x], [t] => match tt.get t with
    | some ti => match ti.agg with
      | true => .none
      | false => match ti.el with
        | some (e, z) => match tt.get e with
          | some ei => bif Nat.beq ei.zero.length ei.sz && !Nat.beq ei.sz 0 && Nat.beq ei.sz z then (match st.ev x with
            | .win rk i n => match look st.rows rk with
              | some ⟨rty, rsz, els⟩ => bif Nat.beq rsz z then .side (i + n ≤ els.length) { st with rows := (rk, ⟨rty, rsz, mid els (List.replicate n ei.zero) i⟩) :: st.rows } else .none
              | none => .none
            | _ => .none) else .none
          | none => .none
        | none => .none
    | none => .none
  | _, _, _ => .none

def wro (tt : Tr) (st : St) (dst : Option Nat) (op : Op) : WrR := match dst with
  | some d => bif Nat.blt d st.n then (match op with
    | .box t x => wBox st d t x
    | .alloc t => wAlloc tt st d t
    | .makeSlice t x y => wMake tt st d t x y
    | .buildSlice t len parts => wLit tt st d t len parts
    | .call c => wApp tt st d c
    | _ => .none) else .none
  | none => match op with
    | .store t x y => wStore tt st t x y
    | .call c => wClr tt st c
    | _ => .none

def WrOk (P : Program) (ops : Array Oper) (rest : List Oper) (T : St → Prop) (dst : Option Nat) (op : Op) (ty : TypeId) (pos : String) (aft : Array Edge) (st : St) : WrR → Prop
  | .to st' => W false P ops rest T st' → W false P ops (⟨dst, op, ty, pos, aft, none⟩ :: rest) T st
  | .side c st' => c → W false P ops rest T st' → W false P ops (⟨dst, op, ty, pos, aft, none⟩ :: rest) T st
  | .elt els i f => ∀ e st', els[i]? = some e → f e = some st' → W false P ops rest T st' → W false P ops (⟨dst, op, ty, pos, aft, none⟩ :: rest) T st
  | .mk m n x y => 0 ≤ n → n ≤ 4294967296 → ((m = n ∧ W false P ops rest T x) ∨ (m = 0 ∧ W false P ops rest T y)) → W false P ops (⟨dst, op, ty, pos, aft, none⟩ :: rest) T st
  | .none => True

section
variable {P : Program} {ops : Array Oper} {rest : List Oper} {T : St → Prop} {st : St} {ty : TypeId} {pos : String} {aft : Array Edge}

theorem wro_ok (tt : Tab P) (dst : Option Nat) (op : Op) : WrOk P ops rest T dst op ty pos aft st (wro tt.l st dst op) := by
  unfold wro
  cases dst with
  | none =>
    dsimp only
    split
    · rename_i t x y
      unfold wStore
      cases h : tt.l.get t with
      | none => trivial
      | some i =>
        dsimp only
        split
        · rename_i k ei j hx
          cases hr : look st.rows k with
          | none => trivial
          | some r =>
            obtain ⟨rty, rsz, els⟩ := r
            dsimp only
            split
            · rename_i cs hy
              cases hc : (cs.all PV.flat && Nat.beq cs.length i.sz) with
              | false => trivial
              | true =>
                simp only [Bool.and_eq_true] at hc
                intro e st' he hf
                dsimp only at hf
                cases h1 : (Nat.beq j 0 && Nat.beq cs.length e.length) with
                | true =>
                  rw [h1] at hf; simp only [cond_true, Option.some.injEq] at hf; subst hf
                  simp only [Bool.and_eq_true] at h1
                  have := Nat.eq_of_beq_eq_true h1.1; subst this
                  exact fun k => W.storeE tt h hx hy hc.1 hr he (Nat.eq_of_beq_eq_true h1.2) (Nat.eq_of_beq_eq_true hc.2) k
                | false =>
                  rw [h1] at hf; simp only [cond_false] at hf
                  cases h2 : Nat.ble (j + cs.length) e.length with
                  | false => rw [h2] at hf; cases hf
                  | true =>
                    rw [h2] at hf; simp only [cond_true, Option.some.injEq] at hf; subst hf
                    exact fun k => W.storeP tt h hx hy hc.1 hr he h2 (Nat.eq_of_beq_eq_true hc.2) k
            · rename_i m _ hy
              cases hc : (m.flat && Nat.beq i.sz 1) with
              | false => trivial
              | true =>
                simp only [Bool.and_eq_true] at hc
                intro e st' he hf
                dsimp only at hf
                cases h1 : Nat.blt j e.length with
                | false => rw [h1] at hf; cases hf
                | true =>
                  rw [h1] at hf; simp only [cond_true, Option.some.injEq] at hf; subst hf
                  exact fun k => W.store1 tt h (Nat.eq_of_beq_eq_true hc.2) hx hy hc.1 hr he h1 k
            · trivial
        · trivial
    · rename_i c
      obtain ⟨cl, ar, at_⟩ := c
      unfold wClr
      dsimp only
      split
      · rename_i x t h1 h2
        have e1 : ar = #[x] := by cases ar; simpa using h1
        have e2 : at_ = #[t] := by cases at_; simpa using h2
        subst e1; subst e2
        cases h : tt.l.get t with
        | none => trivial
        | some ti =>
          dsimp only
          cases ha : ti.agg with
          | true => trivial
          | false =>
            dsimp only
            cases hel : ti.el with
            | none => trivial
            | some p =>
              obtain ⟨e, z⟩ := p
              dsimp only
              cases he : tt.l.get e with
              | none => trivial
              | some ei =>
                dsimp only
                cases hc : (Nat.beq ei.zero.length ei.sz && !Nat.beq ei.sz 0 && Nat.beq ei.sz z) with
                | false => trivial
                | true =>
                  dsimp only [cond_true]
                  split
                  · rename_i rk i n hx
                    cases hr : look st.rows rk with
                    | none => trivial
                    | some r =>
                      obtain ⟨rty, rsz, els⟩ := r
                      dsimp only
                      cases hzz : Nat.beq rsz z with
                      | false => trivial
                      | true => exact fun hle k => W.clear tt h hel ha he hc hx hr hzz hle k
                  · trivial
      · trivial
    · trivial
  | some d =>
    dsimp only
    cases hd : Nat.blt d st.n with
    | false => trivial
    | true =>
      dsimp only [cond_true]
      split
      · rename_i t x
        unfold wBox
        split
        · rename_i cs hx
          cases hf : cs.all PV.flat with
          | false => trivial
          | true => exact fun k => W.box_agg hx hf hd k
        · trivial
        · rename_i m _ _ hx
          cases hf : m.flat with
          | false => trivial
          | true => exact fun k => W.box_one hx hf hd k
        · trivial
      · rename_i t
        unfold wAlloc
        cases h : tt.l.get t with
        | none => trivial
        | some i =>
          dsimp only
          cases hc : (Nat.beq i.zero.length i.sz && !Nat.beq i.sz 0) with
          | false => trivial
          | true =>
            simp only [Bool.and_eq_true, Bool.not_eq_true'] at hc
            exact fun k => W.alloc tt h hc.1 hc.2 hd k
      · rename_i t x y
        unfold wMake
        cases h : tt.l.get t with
        | none => trivial
        | some ti =>
          dsimp only
          cases ha : ti.agg with
          | true => trivial
          | false =>
            dsimp only
            cases hel : ti.el with
            | none => trivial
            | some p =>
              obtain ⟨e, z⟩ := p
              dsimp only
              cases he : tt.l.get e with
              | none => trivial
              | some ei =>
                dsimp only
                cases hc : (Nat.beq ei.zero.length ei.sz && !Nat.beq ei.sz 0 && Nat.ble ei.bytes 65536) with
                | false => trivial
                | true =>
                  simp only [Bool.and_eq_true, Bool.not_eq_true'] at hc
                  dsimp only [cond_true]
                  split
                  · rename_i m hx
                    split
                    · rename_i n hy
                      rintro h0 h1 (⟨e, k⟩ | ⟨e, k⟩)
                      · subst e; exact W.make tt h hel ha he hc.1.1 hc.1.2 hx hy hd hc.2 h0 h1 k
                      · subst e; exact W.makeC tt h hel ha he hc.1.1 hc.1.2 hx hy hd hc.2 h0 h1 k
                    · trivial
                  · trivial
      · rename_i t len parts
        unfold wLit
        cases h : tt.l.get t with
        | none => trivial
        | some ti =>
          dsimp only
          cases ha : ti.agg with
          | true => trivial
          | false =>
            dsimp only
            cases hel : ti.el with
            | none => trivial
            | some p =>
              obtain ⟨e, z⟩ := p
              dsimp only
              cases he : tt.l.get e with
              | none => trivial
              | some ei =>
                dsimp only
                cases hc : (Nat.beq ei.zero.length ei.sz && !Nat.beq ei.sz 0 && Nat.beq ei.sz z && Nat.ble (len * z) 16777216) with
                | false => trivial
                | true =>
                  dsimp only [cond_true]
                  split
                  · rename_i F hF
                    exact fun k => W.lit tt h hel ha he hc hF hd k
                  · trivial
      · rename_i c
        obtain ⟨cl, ar, at_⟩ := c
        unfold wApp
        dsimp only
        split
        · rename_i x y t t' h1 h2
          have e1 : ar = #[x, y] := by cases ar; simpa using h1
          have e2 : at_ = #[t, t'] := by cases at_; simpa using h2
          subst e1; subst e2
          cases htt : Nat.beq t t' with
          | false => trivial
          | true =>
            have := Nat.eq_of_beq_eq_true htt; subst this
            dsimp only [cond_true]
            cases h : tt.l.get t with
            | none => trivial
            | some ti =>
              dsimp only
              cases ha : ti.agg with
              | true => trivial
              | false =>
                dsimp only
                cases hel : ti.el with
                | none => trivial
                | some p =>
                  obtain ⟨e, z⟩ := p
                  dsimp only
                  cases he : tt.l.get e with
                  | none => trivial
                  | some ei =>
                    dsimp only
                    cases hc : (Nat.beq ei.zero.length ei.sz && !Nat.beq ei.sz 0 && Nat.beq ei.sz z && Nat.ble ei.bytes 32768) with
                    | false => trivial
                    | true =>
                      dsimp only [cond_true]
                      split
                      · rename_i rk hx
                        cases hk0 : Nat.beq rk 0 with
                        | true => trivial
                        | false =>
                          dsimp only [cond_false]
                          cases hr : look st.rows rk with
                          | none => trivial
                          | some r =>
                            obtain ⟨rty, rsz, els⟩ := r
                            dsimp only
                            cases hrt : (Nat.beq rty e && Nat.beq rsz z) with
                            | false => trivial
                            | true =>
                              dsimp only [cond_true]
                              split
                              · rename_i z' els2 hy
                                cases hzz : Nat.beq z' z with
                                | false => trivial
                                | true =>
                                  have := Nat.eq_of_beq_eq_true hzz; subst this
                                  exact fun hn k => W.append tt h hel ha he hc hx hr hrt (by rw [hy]; rfl) hd hk0 hn k
                              · rename_i k2 hy
                                cases hr2 : look st.rows k2 with
                                | none => trivial
                                | some r2 =>
                                  obtain ⟨_, z', els2⟩ := r2
                                  dsimp only
                                  cases hzz : Nat.beq z' z with
                                  | false => trivial
                                  | true =>
                                    have := Nat.eq_of_beq_eq_true hzz; subst this
                                    exact fun hn k => W.append tt h hel ha he hc hx hr hrt (by rw [hy]; simp only [rdA, hr2]; rfl) hd hk0 hn k
                              · trivial
                      · rename_i rk i hx
                        split
                        · rename_i rk2 j m hy
                          cases hrr : Nat.beq rk2 rk with
                          | false => trivial
                          | true =>
                            have := Nat.eq_of_beq_eq_true hrr; subst this
                            dsimp only [cond_true]
                            cases hr : look st.rows rk2 with
                            | none => trivial
                            | some r =>
                              obtain ⟨rty, rsz, els⟩ := r
                              dsimp only
                              cases hrt : (Nat.beq rty e && Nat.beq rsz z) with
                              | false => trivial
                              | true =>
                                simp only [Bool.and_eq_true] at hc
                                exact fun hn k => W.appW tt h hel ha he (by simp only [Bool.and_eq_true]; exact hc.1) hx hy hr hrt hd hn.1 hn.2 k
                        · trivial
                      · trivial
        · trivial
      · trivial
end

/-! ### The engine over a list of operations -/
section
variable (q : Bool) (P : Program) (ops : Array Oper) (tt : Tr) (T : St → Prop)

/-- One operation without a guard; k: what comes behind it. -/
def wl1 (o : Oper) (rest : List Oper) (st : St) (k : St → Prop) : Prop := match o.dst with
  | some d => bif Nat.blt d st.n then (match rdo tt st o.op with
    | .val m => fk m fun m => k (st.put d m)
    | .side c m => Sd c (k (st.put d m))
    | .idx els i => Ixv els i fun e => k (st.put d (.p (.ref e)))
    | .elt els i f => Elt els i fun e => match f e with
      | some m => fk m fun m => k (st.put d m)
      | none => False
    | .br b x y => Br b true (fk x fun m => k (st.put d m)) (fk y fun m => k (st.put d m))
    | .none => match q with
      | true => W q P ops (⟨o.dst, o.op, o.type, o.pos, o.after, none⟩ :: rest) T st
      | false => match wro tt st (some d) o.op with
        | .to st' => k st'
        | .side c st' => Sd c (k st')
        | .elt els i f => Elt els i fun e => match f e with
          | some st' => k st'
          | none => False
        | .mk m n x y => Mk m n (k x) (k y)
        | .none => W q P ops (⟨o.dst, o.op, o.type, o.pos, o.after, none⟩ :: rest) T st) else False
  | none => match q with
    | true => W q P ops (⟨o.dst, o.op, o.type, o.pos, o.after, none⟩ :: rest) T st
    | false => match wro tt st none o.op with
      | .to st' => k st'
      | .side c st' => Sd c (k st')
      | .elt els i f => Elt els i fun e => match f e with
        | some st' => k st'
        | none => False
      | .mk m n x y => Mk m n (k x) (k y)
      | .none => W q P ops (⟨o.dst, o.op, o.type, o.pos, o.after, none⟩ :: rest) T st

def wl : List Oper → St → Prop
  | [], st => T st
  | o :: rest, st => match o.guard with
    | none => wl1 q P ops tt T o rest st (wl rest)
    | some (j, want) => match (ops[j]?).bind (·.dst), o.dst with
      | some g, some d => bif Nat.blt g st.n && Nat.blt d st.n then (match st.get g with
        | .p (.bool b) => Br b want (wl1 q P ops tt T o rest (st.put g (.p (.bool want))) (wl rest)) (wl rest ((st.put g (.p (.bool (!want)))).put d .undef))
        | .undef => wl rest (st.put d .undef)
        | _ => False) else False
      | _, _ => False
end

theorem wl1_sound {q : Bool} {P : Program} {ops : Array Oper} {T : St → Prop} (tt : Tab P) {o : Oper} {rest : List Oper} {st : St} {k : St → Prop} (hk : ∀ st', k st' → W q P ops rest T st')
    (h : wl1 q P ops tt.l T o rest st k) : W q P ops (⟨o.dst, o.op, o.type, o.pos, o.after, none⟩ :: rest) T st := by
  unfold wl1 at h
  cases hd : o.dst with
  | some d =>
    rw [hd] at h
    dsimp only at h
    cases hb : Nat.blt d st.n with
    | false => rw [hb] at h; exact h.elim
    | true =>
      rw [hb] at h
      dsimp only [cond_true] at h
      have hr := rdo_ok (ty := o.type) (st := st) tt o.op
      cases he : rdo tt.l st o.op with
      | val m => rw [he] at h hr; dsimp only at h; rw [fk_eq] at h; exact W.read hr hb (hk _ h)
      | side c m => rw [he] at h hr; exact W.read (hr h.out.1) hb (hk _ h.out.2)
      | idx els i =>
        rw [he] at h hr
        obtain ⟨h0, e, hel, hh⟩ := h.out
        exact W.read (hr h0 e hel) hb (hk _ hh)
      | elt els i f =>
        rw [he] at h hr
        obtain ⟨e, hel, hh⟩ := h.out
        cases hf : f e with
        | none => rw [hf] at hh; exact hh.elim
        | some m => rw [hf] at hh; dsimp only at hh; rw [fk_eq] at hh; exact W.read (hr e m hel hf) hb (hk _ hh)
      | br b x y =>
        rw [he] at h hr
        dsimp only at h
        rw [fk_eq, fk_eq] at h
        obtain ⟨h1, h2⟩ := h.out
        cases b with
        | true => exact W.read (hr.1 rfl) hb (hk _ (h1 rfl))
        | false => exact W.read (hr.2 rfl) hb (hk _ (h2 rfl))
      | none =>
        rw [he] at h
        dsimp only at h
        cases q with
        | true => simpa only [hd] using h
        | false =>
          dsimp only at h
          have hw := wro_ok (P := P) (ops := ops) (rest := rest) (T := T) (st := st) (ty := o.type) (pos := o.pos) (aft := o.after) tt (some d) o.op
          cases hwr : wro tt.l st (some d) o.op with
          | to st' => rw [hwr] at h hw; exact hw (hk _ h)
          | side c st' => rw [hwr] at h hw; exact hw h.out.1 (hk _ h.out.2)
          | elt els i f =>
            rw [hwr] at h hw
            obtain ⟨e, hel, hh⟩ := h.out
            cases hf : f e with
            | none => rw [hf] at hh; exact hh.elim
            | some st' => rw [hf] at hh; exact hw e st' hel hf (hk _ hh)
          | mk m n x y =>
            rw [hwr] at h hw
            obtain ⟨h0, h1, h2⟩ := h.out
            exact hw h0 h1 (h2.imp (fun p => ⟨p.1, hk _ p.2⟩) (fun p => ⟨p.1, hk _ p.2⟩))
          | none => rw [hwr] at h; simpa only [hd] using h
  | none =>
    rw [hd] at h
    dsimp only at h
    cases q with
    | true => simpa only [hd] using h
    | false =>
      dsimp only at h
      have hw := wro_ok (P := P) (ops := ops) (rest := rest) (T := T) (st := st) (ty := o.type) (pos := o.pos) (aft := o.after) tt none o.op
      cases hwr : wro tt.l st none o.op with
      | to st' => rw [hwr] at h hw; exact hw (hk _ h)
      | side c st' => rw [hwr] at h hw; exact hw h.out.1 (hk _ h.out.2)
      | elt els i f =>
        rw [hwr] at h hw
        obtain ⟨e, hel, hh⟩ := h.out
        cases hf : f e with
        | none => rw [hf] at hh; exact hh.elim
        | some st' => rw [hf] at hh; exact hw e st' hel hf (hk _ hh)
      | mk m n x y =>
        rw [hwr] at h hw
        obtain ⟨h0, h1, h2⟩ := h.out
        exact hw h0 h1 (h2.imp (fun p => ⟨p.1, hk _ p.2⟩) (fun p => ⟨p.1, hk _ p.2⟩))
      | none => rw [hwr] at h; simpa only [hd] using h

theorem wl_sound {q : Bool} {P : Program} {ops : Array Oper} {T : St → Prop} (tt : Tab P) : ∀ {l : List Oper} {st : St}, wl q P ops tt.l T l st → W q P ops l T st
  | [], st, h => W.nil h
  | o :: rest, st, h => by
    obtain ⟨dst, op, ty, pos, aft, g⟩ := o
    unfold wl at h
    cases g with
    | none => exact wl1_sound tt (fun st' h' => wl_sound tt h') h
    | some p =>
      obtain ⟨j, want⟩ := p
      dsimp only at h
      split at h
      · rename_i g d hj
        cases hb : (Nat.blt g st.n && Nat.blt d st.n) with
        | false => rw [hb] at h; exact h.elim
        | true =>
          rw [hb] at h
          simp only [Bool.and_eq_true] at hb
          dsimp only [cond_true] at h
          split at h
          · rename_i b hg
            obtain ⟨h1, h2⟩ := h.out
            exact W.ask hj hb.1 hg hb.2 (fun e => wl1_sound tt (fun st' h' => wl_sound tt h') (h1 e)) (fun e => wl_sound tt (h2 e))
          · rename_i hg
            exact W.never hj hb.1 hg hb.2 (wl_sound tt h)
          · exact h.elim
      · exact h.elim

/-! ### The engine over code -/
def wcl (P : Program) (tt : Tr) : Code → (Exit → St → Prop) → St → Prop
  | .skip, Q, st => Q .normal st
  | .exit id, Q, st => Q (.exit id) st
  | .ret, Q, st => Q .ret st
  | .seq x y, Q, st => wcl P tt x (thenQ (wcl P tt y Q) Q) st
  | .block id c, Q, st => wcl P tt c (blockQ id Q) st
  | .cond c x y, Q, st => match st.ev c with
    | .p (.bool b) => Br b true (wcl P tt x Q st) (wcl P tt y Q st)
    | _ => Wc P (.cond c x y) Q st
  | .region id ops false, Q, st => wl false P ops tt (Q .normal) ops.toList st
  | c, Q, st => Wc P c Q st

theorem Wc.mono {P : Program} {c : Code} {Q Q' : Exit → St → Prop} {st : St} (h : Wc P c Q st) (hq : ∀ e st, Q e st → Q' e st) : Wc P c Q' st :=
  fun w0 a w Qr hs hr => h w0 a w Qr hs fun e st' a' w' hQ hs' => hr e st' a' w' (hq e st' hQ) hs'

theorem wcl_sound {P : Program} (tt : Tab P) : ∀ (c : Code) {Q : Exit → St → Prop} {st : St}, wcl P tt.l c Q st → Wc P c Q st
  | .skip, Q, st, h => Wc.skip h
  | .exit id, Q, st, h => Wc.exit h
  | .ret, Q, st, h => Wc.ret h
  | .seq x y, Q, st, h => Wc.seq ((wcl_sound tt x h).mono fun e st' hQ => by
      cases e with
      | normal => exact wcl_sound tt y hQ
      | exit id => exact hQ
      | goto l => exact hQ
      | ret => exact hQ
      | panic ch => exact hQ
      | outgrown => exact hQ)
  | .block id c, Q, st, h => Wc.block (wcl_sound tt c h)
  | .cond c x y, Q, st, h => by
    unfold wcl at h
    split at h
    · rename_i b hb
      obtain ⟨h1, h2⟩ := h.out
      exact Wc.cond hb (fun e => wcl_sound tt x (h1 e)) (fun e => wcl_sound tt y (h2 e))
    · exact h
  | .region id ops draw, Q, st, h => by
    cases draw with
    | true => exact h
    | false =>
      have := Wc.region (id := id) (l := ops.toList) (wl_sound (ops := ops) tt h)
      simpa using this
  | .loop c, Q, st, h => h
  | .rangeFunc f ps a b, Q, st, h => h
  | .scope c, Q, st, h => h
  | .label l, Q, st, h => h
  | .goto l, Q, st, h => h
  | .refuse w, Q, st, h => h

/-! ### Rules that lead back into the engine -/
section
variable {q : Bool} {P : Program} {ops : Array Oper} {rest : List Oper} {T : St → Prop} {st : St} {d : Nat} {ty : TypeId} {pos : String} {aft : Array Edge} {f : Nat} {xs : Array Operand} {ats : Array TypeId} {c : Ct} {args : List PV} {Q : Exit → St → Prop}

theorem E.read (tt : Tab P) {op : Op} {m : MV} (h : ReadOp P op ty st m) (hd : Nat.blt d st.n = true) (k : wl q P ops tt.l T rest (st.put d m)) : W q P ops (⟨some d, op, ty, pos, aft, none⟩ :: rest) T st :=
  W.read h hd (wl_sound tt k)
theorem E.call (tt : Tab P) (hH : Holds P f c) (ha : rdArgs st xs.toList = some args) (hd : Nat.blt d st.n = true)
    (hk : c args (fun rs => ∃ m v, rs = [.p m] ∧ m.val = some v ∧ wl q P ops tt.l T rest (st.put d (.p m)))) :
    W q P ops (⟨some d, .call { callee := .value (.func f), args := xs, argTypes := ats }, ty, pos, aft, none⟩ :: rest) T st := by
  obtain ⟨rs, hro, m, v, hrs, hv, hK⟩ := hH.2 _ _ hk
  exact W.call (c := fun a K => a = args ∧ K rs) ⟨hH.1, fun a K ⟨e, h⟩ => ⟨rs, e ▸ hro, h⟩⟩ ha hd ⟨rfl, m, v, hrs, hv, wl_sound tt hK⟩
theorem E.callR (tt : Tab P) (hH : Holds P f c) (ha : rdArgs st xs.toList = some args) (hd : Nat.blt d st.n = true)
    (hk : c args (fun rs => (argsP st xs.toList = true ∨ ∀ r ∈ rs, rv1Ok r) ∧ wl false P ops tt.l T rest ((st.bound rs).put d (bindM st.nk rs)))) :
    W false P ops (⟨some d, .call { callee := .value (.func f), args := xs, argTypes := ats }, ty, pos, aft, none⟩ :: rest) T st := by
  obtain ⟨rs, hro, hor, hK⟩ := hH.2 _ _ hk
  exact W.callR (c := fun a K => a = args ∧ K rs) ⟨hH.1, fun a K ⟨e, h⟩ => ⟨rs, e ▸ hro, h⟩⟩ ha hd ⟨rfl, hor, wl_sound tt hK⟩
theorem E.callV (tt : Tab P) {g : Operand} {caps : List PV} (hH : Holds P f c) (hg : st.ev g = .p (.clo f caps)) (ha : rdArgs st xs.toList = some args) (hd : Nat.blt d st.n = true)
    (hk : c (args ++ caps) (fun rs => ∃ m v, rs = [.p m] ∧ m.val = some v ∧ wl q P ops tt.l T rest (st.put d (.p m)))) :
    W q P ops (⟨some d, .call { callee := .value g, args := xs, argTypes := ats }, ty, pos, aft, none⟩ :: rest) T st := by
  obtain ⟨rs, hro, m, v, hrs, hv, hK⟩ := hH.2 _ _ hk
  exact W.callV (c := fun a K => a = args ++ caps ∧ K rs) ⟨hH.1, fun a K ⟨e, h⟩ => ⟨rs, e ▸ hro, h⟩⟩ hg ha hd ⟨rfl, m, v, hrs, hv, wl_sound tt hK⟩
/-- A captured variable's cell, from then on only read. -/
def fstLoc (st : St) : List Operand → Option Nat
  | [] => none
  | x :: xs => match st.ev x with
    | .loc k _ _ => some k
    | _ => fstLoc st xs
theorem E.frzC (tt : Tab P) {f' : Nat} {first caps : Array Operand} {k : Nat} {r : Row} (h : fstLoc st caps.toList = some k) (hk : look st.rows k = some r) (hk0 : Nat.beq k 0 = false)
    (kk : wl q P ops tt.l T (⟨some d, .makeFunc (.func f') first caps, ty, pos, aft, none⟩ :: rest) (st.frz k r)) : W q P ops (⟨some d, .makeFunc (.func f') first caps, ty, pos, aft, none⟩ :: rest) T st := W.frz hk hk0 (wl_sound tt kk)
theorem E.regionQ (tt : Tab P) {id : Nat} {l : List Oper} (hm : P.follows .mixedOrders = true) (hB : Region.lexB .any l.toArray = true) (h : wl true P l.toArray tt.l (Q .normal) l st) : Wc P (.region id l.toArray true) Q st :=
  Wc.regionQ hm hB (wl_sound tt h)
theorem E.regionT (tt : Tab P) {id : Nat} {l : List Oper} (n : Nat) (hm : P.follows .mixedOrders = true) (hB : Region.lexTailB .any l.toArray n = true)
    (h : wl true P l.toArray tt.l (wl false P l.toArray tt.l (Q .normal) (l.drop n)) (l.take n) st) : Wc P (.region id l.toArray true) Q st := by
  refine Wc.regionT n hm hB ?_
  have := wl_sound tt h
  exact fun w0 a w Kr hs hT => this w0 a w Kr hs (fun st' a' hT' hs' => hT st' a' (wl_sound tt hT') hs')
theorem E.frz (tt : Tab P) {l : List Oper} {k : Nat} {r : Row} (hk : look st.rows k = some r) (hk0 : Nat.beq k 0 = false) (kk : wl q P ops tt.l T l (st.frz k r)) : W q P ops l T st := W.frz hk hk0 (wl_sound tt kk)
theorem E.go (tt : Tab P) {c : Code} (h : wcl P tt.l c Q st) : Wc P c Q st := wcl_sound tt c h
end
end Go.Lo
namespace Go.Lo
theorem E.loop {P : Program} (tt : Tab P) {st : St} {Q : Exit → St → Prop} {α : Type} {c : Code} (I : α → Prop) (S : α → St) (μ : α → Nat) (x0 : α) (h0 : I x0) (hle : Le st (S x0))
    (round : ∀ x, I x → wcl P tt.l c (loopQ I S μ x Q) (S x)) : Wc P (.loop c) Q st :=
  Wc.loop I S μ x0 h0 hle fun x hx => wcl_sound tt c (round x hx)
theorem E.mk {P : Program} {f : Nat} {fn : Func} {code : Code} {N : Nat} {rl : List ResultVar} {c : Ct} (tt : Tab P) (hf : P.funcs[f]? = some fn) (hb : fn.body = some code) (hn : fn.ntmps = N) (hr : fn.results = rl.toArray)
    (hname : (fn.name == "runtime.NumGoroutine") = false) (h : ∀ args K, c args K → args.length ≤ N ∧ ∃ rs, K rs ∧ wcl P tt.l code (Fin tt rl rs) (init N args)) : Holds P f c :=
  Holds.mk tt hf hb hn hr hname fun args K hc => let ⟨h1, rs, h2, h3⟩ := h args K hc; ⟨h1, rs, h2, wcl_sound tt code h3⟩
end Go.Lo
namespace Go.Lo
open Go.RowKit

section
variable {P : Program} {ops : Array Oper} {rest : List Oper} {T : St → Prop} {st : St} {d : Nat} {ty : TypeId} {pos : String} {aft : Array Edge} {f : Nat} {xs : Array Operand} {ats : Array TypeId} {args : List PV}
theorem E.callM (tt : Tab P) {x : Operand} {ys : List Operand} {k : Nat} {r : Row} {mc : MCt} (hH : MHolds P f mc) (hxs : xs.toList = x :: ys) (hx : st.ev x = .own k) (hr : look st.rows k = some r) (ha : rdArgs st ys = some args) (hp : argsP st ys = true) (hd : Nat.blt d st.n = true)
    (hk : mc r args (fun r' res => r'.sz = r.sz ∧ ∃ m, res = .p m ∧ r'.els.length = r.els.length ∧ wl false P ops tt.l T rest (({ st with rows := (k, r') :: st.rows } : St).put d (.p m)))) :
    W false P ops (⟨some d, .call { callee := .value (.func f), args := xs, argTypes := ats }, ty, pos, aft, none⟩ :: rest) T st := by
  obtain ⟨r', res, hmo, h1, m, h2, h3, h4⟩ := hH.2 _ _ _ hk
  subst h2
  exact W.callM (mc := fun r0 a K => r0 = r ∧ a = args ∧ K r' (.p m)) ⟨hH.1, fun r0 a K ⟨e1, e2, h⟩ => ⟨r', .p m, by subst e1; subst e2; exact hmo, h⟩⟩ hxs hx hr ha hp hd ⟨rfl, rfl, h1, h3, wl_sound tt h4⟩
/-- The row comes back as the result, shorter or as it was. -/
theorem E.callMS (tt : Tab P) {x : Operand} {ys : List Operand} {k : Nat} {r : Row} {mc : MCt} (hH : MHolds P f mc) (hxs : xs.toList = x :: ys) (hx : st.ev x = .own k) (hr : look st.rows k = some r) (ha : rdArgs st ys = some args) (hp : argsP st ys = true) (hd : Nat.blt d st.n = true) (hk0 : Nat.beq k 0 = false)
    (hk : mc r args (fun r' res => r'.sz = r.sz ∧ res = .self ∧ wl false P ops tt.l T rest { n := st.n, nk := st.nk, t := (d, .own k) :: killT k st.t, rows := (k, r') :: st.rows, x := st.x })) :
    W false P ops (⟨some d, .call { callee := .value (.func f), args := xs, argTypes := ats }, ty, pos, aft, none⟩ :: rest) T st := by
  obtain ⟨r', res, hmo, h1, h2, h4⟩ := hH.2 _ _ _ hk
  subst h2
  exact W.callM (mc := fun r0 a K => r0 = r ∧ a = args ∧ K r' .self) ⟨hH.1, fun r0 a K ⟨e1, e2, h⟩ => ⟨r', .self, by subst e1; subst e2; exact hmo, h⟩⟩ hxs hx hr ha hp hd ⟨rfl, rfl, h1, hk0, wl_sound tt h4⟩
end
theorem E.mkM {P : Program} {f : Nat} {fn : Func} {code : Code} {N : Nat} {rl : List ResultVar} {c : MCt} (tt : Tab P) (hf : P.funcs[f]? = some fn) (hb : fn.body = some code) (hn : fn.ntmps = N) (hr : fn.results = rl.toArray)
    (hname : (fn.name == "runtime.NumGoroutine") = false) (h : ∀ r args K, c r args K → args.length + 1 ≤ N ∧ ∃ r' res, K r' res ∧ wcl P tt.l code (FinM rl r' res) (initM N r args)) : MHolds P f c :=
  MHolds.mk hf hb hn hr hname fun r args K hc => let ⟨h1, r', res, h2, h3⟩ := h r args K hc; ⟨h1, r', res, h2, wcl_sound tt code h3⟩
theorem E.mkW {P : Program} {f : Nat} {fn : Func} {code : Code} {N : Nat} {rl : List ResultVar} {c : MCt} (tt : Tab P) (hf : P.funcs[f]? = some fn) (hb : fn.body = some code) (hn : fn.ntmps = N) (hr : fn.results = rl.toArray)
    (hname : (fn.name == "runtime.NumGoroutine") = false) (h : ∀ r args K, c r args K → args.length + 1 ≤ N ∧ ∃ r', K r' .self ∧ wcl P tt.l code (FinW rl r') (initM N r args)) : MHolds P f c :=
  MHolds.mkW hf hb hn hr hname fun r args K hc => let ⟨h1, r', h2, h3⟩ := h r args K hc; ⟨h1, r', h2, wcl_sound tt code h3⟩

/-! ### Plain words -/
def itN {σ : Type} (f : σ → Int → σ) (s : σ) : Nat → σ
  | 0 => s
  | n + 1 => f (itN f s n) n
/-- n rounds of f, the round's number its argument. -/
def it {σ : Type} (f : σ → Int → σ) (s : σ) (n : Int) : σ := itN f s n.toNat
theorem it_zero {σ : Type} (f : σ → Int → σ) (s : σ) : it f s 0 = s := rfl
theorem it_succ {σ : Type} {f : σ → Int → σ} {s : σ} {n : Int} (h : 0 ≤ n) : it f s (n + 1) = f (it f s n) n := by
  obtain ⟨k, rfl⟩ := Int.eq_ofNat_of_zero_le h
  unfold it
  rw [show ((k : Int) + 1).toNat = k + 1 by omega, Int.toNat_natCast]; rfl
/-- What holds at the start and is kept by every round holds at the end. -/
theorem it_inv {σ : Type} {f : σ → Int → σ} {s : σ} (Q : Int → σ → Prop) (h0 : Q 0 s) {N : Int} (hs : ∀ n x, 0 ≤ n → n < N → Q n x → Q (n + 1) (f x n)) {n : Int} (hn : 0 ≤ n) (hN : n ≤ N) : Q n (it f s n) := by
  obtain ⟨k, rfl⟩ := Int.eq_ofNat_of_zero_le hn
  clear hn
  induction k with
  | zero => exact h0
  | succ k ih =>
    have := hs k _ (by omega) (by omega) (ih (by omega))
    rw [show ((k + 1 : Nat) : Int) = (k : Int) + 1 by omega, it_succ (by omega)]; exact this
theorem it_congr {σ : Type} {f g : σ → Int → σ} {s : σ} {n : Int} (h : ∀ i x, 0 ≤ i → i < n → f x i = g x i) : it f s n = it g s n := by
  rcases Int.lt_or_le n 0 with hn | hn
  · unfold it; rw [show n.toNat = 0 by omega]; rfl
  obtain ⟨k, rfl⟩ := Int.eq_ofNat_of_zero_le hn
  clear hn
  induction k with
  | zero => rfl
  | succ k ih =>
    rw [show ((k + 1 : Nat) : Int) = (k : Int) + 1 by omega, it_succ (by omega), it_succ (by omega), ih (fun i x h0 h1 => h i x h0 (by omega)), h k _ (by omega) (by omega)]

/-- The lists g 0, g 1, .. one behind the other. -/
def cat {α : Type} (g : Int → List α) (n : Int) : List α := it (fun l i => l ++ g i) [] n
theorem cat_zero {α : Type} (g : Int → List α) : cat g 0 = [] := rfl
theorem cat_succ {α : Type} {g : Int → List α} {n : Int} (h : 0 ≤ n) : cat g (n + 1) = cat g n ++ g n := it_succ h
theorem cat_succ_nil {α : Type} {g : Int → List α} {n : Int} (h : 0 ≤ n) (hg : g n = []) : cat g (n + 1) = cat g n := by rw [cat_succ h, hg, List.append_nil]
theorem cat_le {α : Type} {g : Int → List α} {c : Int} (hg : ∀ i, ((g i).length : Int) ≤ c) (hc : 0 ≤ c) {n : Int} (hn : 0 ≤ n) : ((cat g n).length : Int) ≤ c * n := by
  refine it_inv (f := fun l i => l ++ g i) (fun n l => (l.length : Int) ≤ c * n) (by simp) (N := n) (fun m x h0 h1 hq => ?_) hn (Int.le_refl _)
  have := hg m
  simp only [List.length_append, Int.natCast_add]
  rw [Int.mul_add]; omega
theorem cat_congr {α : Type} {g h : Int → List α} {n : Int} (hh : ∀ i, 0 ≤ i → i < n → g i = h i) : cat g n = cat h n := it_congr (fun i x h0 h1 => by rw [hh i h0 h1])
theorem cat_one {α : Type} {g : Int → α} {n : Int} (h : 0 ≤ n) : ((cat (fun i => [g i]) n).length : Int) = n := by
  refine it_inv (f := fun l i => l ++ [g i]) (fun n l => (l.length : Int) = n) (by simp) (N := n) (fun m x h0 h1 hq => ?_) h (Int.le_refl _)
  simp only [List.length_append, List.length_singleton, Int.natCast_add]; omega
theorem cat_map {α : Type} [Inhabited α] {β : Type} (f : α → β) (xs : List α) : cat (fun i => [f (ix xs i)]) xs.length = xs.map f := by
  have key : ∀ n : Nat, n ≤ xs.length → cat (fun i => [f (ix xs i)]) (n : Int) = (xs.take n).map f := by
    intro n
    induction n with
    | zero => intro _; simp; exact cat_zero _
    | succ n ih =>
      intro h
      rw [show ((n + 1 : Nat) : Int) = (n : Int) + 1 by omega, cat_succ (by omega), ih (by omega), List.take_succ_eq_append_getElem (by omega), List.map_append]
      rw [ix_get (by omega)]; rfl
  rw [key _ (Nat.le_refl _), List.take_length]
theorem map_snoc {α : Type} {enc : α → List PV} {l : List α} {x : α} : l.map enc ++ [enc x] = (l ++ [x]).map enc := by simp

/-! Marks -/
def mkl {α : Type} (f : Int → α) (c k : Int) (n : Nat) : List α := (List.range n).map fun (j : Nat) => f (k + c * (j : Int))
def mrk {α : Type} (f : Int → α) (c k : Int) (xs : List α) (i : Int) : List α := mkl f c k i.toNat ++ xs.drop i.toNat
theorem mkl_length {α : Type} (f : Int → α) (c k : Int) (n : Nat) : (mkl f c k n).length = n := by simp [mkl]
theorem mrk_zero {α : Type} (f : Int → α) (c k : Int) (xs : List α) : mrk f c k xs 0 = xs := by simp [mrk, mkl]
theorem mrk_length {α : Type} (f : Int → α) (c k : Int) (xs : List α) {i : Int} (h1 : i ≤ xs.length) (h0 : 0 ≤ i) : (mrk f c k xs i).length = xs.length := by simp [mrk, mkl_length]; omega
theorem mrk_get {α : Type} [Inhabited α] {f : Int → α} {c k : Int} {xs : List α} {enc : α → List PV} {i : Int} (h0 : 0 ≤ i) (h1 : i < xs.length) : ((mrk f c k xs i).map enc)[i.toNat]? = some (enc (ix xs i)) := by
  have hi : i.toNat < xs.length := by omega
  rw [List.getElem?_map]
  unfold mrk
  rw [List.getElem?_append_right (by rw [mkl_length]; exact Nat.le_refl _), mkl_length, Nat.sub_self, List.getElem?_drop, Nat.add_zero]
  simp [ix, hi]
theorem mrk_set {α : Type} [Inhabited α] {f : Int → α} {c k : Int} {xs : List α} {enc : α → List PV} {i : Int} (h0 : 0 ≤ i) (h1 : i < xs.length) : ((mrk f c k xs i).map enc).set i.toNat (enc (f (k + c * i))) = (mrk f c k xs (i + 1)).map enc := by
  have hi : i.toNat < xs.length := by omega
  unfold mrk
  rw [List.map_append, List.set_append_right _ _ (by simp [mkl_length]), List.length_map, mkl_length, Nat.sub_self, List.drop_eq_getElem_cons hi, List.map_cons, List.set_cons_zero]
  rw [show (i + 1).toNat = i.toNat + 1 by omega, List.map_append]
  unfold mkl
  rw [List.range_succ, List.map_append, List.map_append, List.append_assoc]
  simp [Int.toNat_of_nonneg h0]
theorem mrk_full {α : Type} (f : Int → α) (c k : Int) (xs : List α) : mrk f c k xs xs.length = mkl f c k xs.length := by simp [mrk]
theorem ix_mkl {α : Type} [Inhabited α] {f : Int → α} {c k : Int} {n : Nat} {i : Int} (h0 : 0 ≤ i) (h1 : i < n) : ix (mkl f c k n) i = f (k + c * i) := by
  have hi : i.toNat < n := by omega
  simp [ix, mkl, hi, Int.toNat_of_nonneg h0]
theorem elt_set {els : List (List PV)} {i : Nat} {e : List PV} (h : i < els.length) : (els.set i e)[i]? = some e := List.getElem?_set_self h

/-! What markText gives -/
def mtN : Nat → ByteArray → Int → ByteArray
  | 0, out, _ => out
  | f + 1, out, k => if 0 < k then mtN f (⟨#[UInt8.ofNat (48 + k.tmod 10).toNat]⟩ ++ out) (k.tdiv 10) else out
theorem tdiv10 {k : Int} (h : 0 < k) : 0 ≤ k.tdiv 10 ∧ k.tdiv 10 < k ∧ k.tdiv 10 ≤ k - 1 := by
  rw [Int.tdiv_eq_ediv_of_nonneg (by omega)]; omega
theorem tmod10 {k : Int} (h : 0 < k) : 0 ≤ k.tmod 10 ∧ k.tmod 10 < 10 := by
  rw [Int.tmod_eq_emod_of_nonneg (by omega)]; omega
theorem mtN_fuel : ∀ (n m : Nat) (out : ByteArray) (k : Int), k.toNat ≤ n → k.toNat ≤ m → mtN n out k = mtN m out k
  | 0, 0, out, k, _, _ => rfl
  | 0, m + 1, out, k, h, _ => by simp only [mtN]; rw [if_neg (by omega)]
  | n + 1, 0, out, k, _, h => by simp only [mtN]; rw [if_neg (by omega)]
  | n + 1, m + 1, out, k, h1, h2 => by
    simp only [mtN]
    split
    · rename_i hk
      have := tdiv10 hk
      exact mtN_fuel n m _ _ (by omega) (by omega)
    · rfl
def mt (out : ByteArray) (k : Int) : ByteArray := mtN k.toNat out k
theorem mt_step {out : ByteArray} {k : Int} (h : 0 < k) : mt out k = mt (⟨#[UInt8.ofNat (48 + k.tmod 10).toNat]⟩ ++ out) (k.tdiv 10) := by
  unfold mt
  have hk : k.toNat = (k.toNat - 1) + 1 := by omega
  rw [hk]
  simp only [mtN]
  rw [if_pos h]
  have := tdiv10 h
  exact mtN_fuel _ _ _ _ (by omega) (by omega)
theorem mt_end {out : ByteArray} {k : Int} (h : k ≤ 0) : mt out k = out := by
  unfold mt
  rw [show k.toNat = 0 by omega]; rfl
def mtxt (k : Int) : ByteArray := ⟨#[109]⟩ ++ mt ⟨#[]⟩ k
theorem size_cons (b : UInt8) (s : ByteArray) : ((⟨#[b]⟩ : ByteArray) ++ s).size = s.size + 1 := by
  rw [ByteArray.size_append]
  show 1 + s.size = _
  omega
end Go.Lo
namespace Go.Lo
open Go.RowKit

section
variable {P : Program} {ops : Array Oper} {md : Region.Mode} {C : World → Prop}

def SinkF (md : Region.Mode) (ops : Array Oper) (n : Nat) (F : List Nat) : Prop := ∀ i, i < n → i ∉ F → ∃ j, i < j ∧ j ≤ n ∧ Region.waitsFor md ops j i = true
def sinkFB (md : Region.Mode) (ops : Array Oper) (n : Nat) (F : List Nat) : Bool :=
  (List.range n).all fun i => F.contains i || (List.range (n + 1)).any fun j => decide (i < j) && Region.waitsFor md ops j i
theorem sinkFB_spec {n : Nat} {F : List Nat} (h : sinkFB md ops n F = true) : SinkF md ops n F := fun i hi hF => by
  have h1 := List.all_eq_true.1 h i (List.mem_range.2 hi)
  simp only [Bool.or_eq_true] at h1
  rcases h1 with h1 | h1
  · exact absurd (by simpa using h1) hF
  · obtain ⟨j, hj, hj2⟩ := List.any_eq_true.1 h1
    simp only [Bool.and_eq_true, decide_eq_true_eq] at hj2
    exact ⟨j, hj2.1, by have := List.mem_range.1 hj; omega, hj2.2⟩

def tailsOf (F : List Nat) (n size : Nat) : List Nat := (List.range size).filter fun i => Nat.ble n i && !F.contains i
def restOf (F : List Nat) (n : Nat) : List Nat := (List.range n).filter fun i => !F.contains i
/-- Each waits for the one before it. -/
def chainL (md : Region.Mode) (ops : Array Oper) : List Nat → Bool
  | a :: b :: r => Region.waitsFor md ops b a && chainL md ops (b :: r)
  | _ => true
theorem chainL_spec : ∀ (l : List Nat), chainL md ops l = true → ∀ t ∈ l, l.head? = some t ∨ ∃ u ∈ l, Region.waitsFor md ops t u = true
  | [], _, t, ht => by cases ht
  | [a], _, t, ht => by
    have : t = a := by simpa using ht
    subst this; exact .inl rfl
  | a :: b :: r, h, t, ht => by
    simp only [chainL, Bool.and_eq_true] at h
    cases ht with
    | head => exact .inl rfl
    | tail _ ht =>
      rcases chainL_spec (b :: r) h.2 t ht with h1 | ⟨u, hu, h1⟩
      · have : b = t := by simpa using h1
        subst this
        exact .inr ⟨a, by simp, h.1⟩
      · exact .inr ⟨u, by simp at hu ⊢; exact .inr hu, h1⟩

structure HeadF (md : Region.Mode) (ops : Array Oper) (n : Nat) (F : List Nat) (listed : Array Bool) : Prop where
  size : listed.size = ops.size
  closed : ∀ j oj, ops[j]? = some oj → listed.getD j false = true → ∀ e ∈ oj.after, Region.binds md e = true → listed.getD e.on false = true
  tail : ∀ t ∈ tailsOf F n ops.size, listed.getD t true = false

theorem mem_tails {F : List Nat} {n size t : Nat} : t ∈ tailsOf F n size ↔ t < size ∧ n ≤ t ∧ t ∉ F := by
  unfold tailsOf
  rw [List.mem_filter, List.mem_range]
  simp only [Bool.and_eq_true, Bool.not_eq_true', List.contains_eq_mem, decide_eq_false_iff_not]
  constructor
  · rintro ⟨h1, h2, h3⟩; exact ⟨h1, Nat.le_of_ble_eq_true h2, h3⟩
  · rintro ⟨h1, h2, h3⟩; exact ⟨h1, by simpa using h2, h3⟩

theorem HeadF.set {n i : Nat} {F : List Nat} {listed : Array Bool} (inv : HeadF md ops n F listed) (hi : i ∈ Region.ready md ops listed) (hin : i < n ∨ i ∈ F) : HeadF md ops n F (listed.setIfInBounds i true) := by
  obtain ⟨_, oi, hoi, hall⟩ := mem_ready.1 hi
  refine ⟨by simp [inv.size], fun j oj hj hl e he hb => ?_, fun t ht => ?_⟩
  · by_cases hij : i = j
    · subst hij
      have : oj = oi := Option.some.inj (hj.symm.trans hoi)
      subst this
      exact getD_set_true (hall e he hb)
    · rw [getD_set_ne false hij] at hl
      exact getD_set_true (inv.closed j oj hj hl e he hb)
  · have hm := mem_tails.1 ht
    have hne : i ≠ t := fun e => by
      subst e
      rcases hin with h | h
      · omega
      · exact hm.2.2 h
    rw [getD_set_ne true hne]; exact inv.tail t ht

theorem tail_waitsF {n : Nat} {F : List Nat} {listed : Array Bool} (hs : SinkF md ops n F) (hc : chainL md ops (tailsOf F n ops.size) = true) (hh : (tailsOf F n ops.size).head? = some n) (inv : HeadF md ops n F listed) (hF : ∀ i ∈ F, listed.getD i false = true) :
    ∀ (d i : Nat), n - i = d → i < n → listed.getD i true = false → ∀ t ∈ tailsOf F n ops.size, t ∉ Region.ready md ops listed := by
  intro d
  induction d using Nat.strongRecOn with
  | _ d ih =>
    intro i hd hi hun t ht hr
    obtain ⟨_, ot, hot, hall⟩ := mem_ready.1 hr
    rcases chainL_spec _ hc t ht with h1 | ⟨u, hu, hw⟩
    · have htn : n = t := by rw [hh] at h1; exact Option.some.inj h1
      subst htn
      obtain ⟨j, hij, hjle, hw⟩ := hs i hi (fun hm => by have := hF i hm; rw [getD_both hun] at this; cases this)
      obtain ⟨oj, hoj, e, he, hb, hon⟩ := Region.waitsFor_spec hw
      by_cases hjt : j = n
      · subst hjt
        have : oj = ot := Option.some.inj (hoj.symm.trans hot)
        subst this
        have h2 := hall e he hb
        rw [hon, getD_both hun] at h2
        cases h2
      · cases hl : listed.getD j false with
        | true =>
          have h2 := inv.closed j oj hoj hl e he hb
          rw [hon, getD_both hun] at h2
          cases h2
        | false =>
          have hjs : j < listed.size := by rw [inv.size]; exact (Array.getElem?_eq_some_iff.1 hoj).1
          exact ih (n - j) (by omega) j rfl (by omega) (getD_in hjs hl) n ht hr
    · obtain ⟨o', ho', e, he, hb, hon⟩ := Region.waitsFor_spec hw
      have : o' = ot := Option.some.inj (ho'.symm.trans hot)
      subst this
      have h2 := hall e he hb
      rw [hon, getD_both (inv.tail u hu)] at h2
      cases h2

theorem wpAnyLC_firstF {n i : Nat} {F : List Nat} {oi : Oper} {v : Value} {L : Array Bool → Act → Prop} (hi : ops[i]? = some oi) (hsel : ∀ (j : Nat) (o : Oper) cs b, ops[j]? = some o → o.op ≠ .select cs b)
    (hs : SinkF md ops n F) (hc : chainL md ops (tailsOf F n ops.size) = true) (hh : (tailsOf F n ops.size).head? = some n) (hin : i < n)
    (hdone : ∀ listed a, L listed a → ∀ j ∈ Region.ready md ops listed, n ≤ j) :
    ∀ (f : Nat) (listed : Array Bool) (a : Act), HeadF md ops n F listed → (∀ i ∈ F, listed.getD i false = true) →
      (∀ j oj, ops[j]? = some oj → j ≠ i → listed.getD j true = false → (∀ e ∈ oj.after, Region.binds md e = true → e.on ≠ i) → oi.apart ops oj = true) →
      i ∈ Region.ready md ops listed → YieldsIn P ops C oi v a →
      wpAnyLC P md ops C n L f (listed.setIfInBounds i true) (a.put oi.dst v) → wpAnyLC P md ops C n L (f + 1) listed a := by
  intro f
  have hlt : ∀ (listed : Array Bool), HeadF md ops n F listed → (∀ i ∈ F, listed.getD i false = true) → i ∈ Region.ready md ops listed → ∀ j ∈ Region.ready md ops listed, j < n := by
    intro listed inv hF hr j hj
    have hun := (mem_ready.1 hr).1
    rcases Nat.lt_or_ge j n with h | h
    · exact h
    · obtain ⟨hjun, oj, hoj, _⟩ := mem_ready.1 hj
      have hjF : j ∉ F := fun hm => by have := hF j hm; rw [getD_both hjun] at this; cases this
      exact absurd hj (tail_waitsF hs hc hh inv hF _ i rfl hin hun j (mem_tails.2 ⟨(Array.getElem?_eq_some_iff.1 hoj).1, h, hjF⟩))
  induction f with
  | zero =>
    intro listed a inv hF _ hr hy H
    refine ⟨fun h => (by rw [h] at hr; cases hr), fun j hj => ?_⟩
    have hjn := hlt listed inv hF hr j hj
    refine ⟨hjn, ?_⟩
    by_cases hji : j = i
    · subst hji; exact hy.qOp hi H
    · have := hdone _ _ H j (ready_mono hj hji)
      omega
  | succ f ih =>
    intro listed a inv hF hfree hr hy H
    have hun := (mem_ready.1 hr).1
    refine ⟨fun h => (by rw [h] at hr; cases hr), fun j hj => ?_⟩
    have hjn := hlt listed inv hF hr j hj
    refine ⟨hjn, ?_⟩
    by_cases hji : j = i
    · subst hji; exact hy.qOp hi H
    · have h1 := (H.2 j (ready_mono hj hji)).2
      obtain ⟨hjun, oj, hoj, hall⟩ := mem_ready.1 hj
      have hnot : ∀ e ∈ oj.after, Region.binds md e = true → e.on ≠ i := fun e he hb heq => by
        have h1 := hall e he hb
        rw [heq, getD_both hun] at h1
        cases h1
      have h2 := qOp_put hoj (hfree j oj hoj hji hjun hnot) (fun cs b => hsel i oi cs b hi) (fun cs b => hsel j oj cs b hoj) hy h1
      have hfree' : ∀ k ok, ops[k]? = some ok → k ≠ i → (listed.setIfInBounds j true).getD k true = false →
          (∀ e ∈ ok.after, Region.binds md e = true → e.on ≠ i) → oi.apart ops ok = true := fun k ok hk hki hun hno => by
        refine hfree k ok hk hki ?_ hno
        by_cases hjk : j = k
        · subst hjk; exact hjun
        · rw [getD_set_ne true hjk] at hun; exact hun
      refine qOp_mono (fun a' h3 => ih (listed.setIfInBounds j true) a' (inv.set hj (.inl hjn)) (fun x hx => getD_set_true (hF x hx)) hfree' (ready_mono hr (Ne.symm hji)) h3.1 ?_) h2
      rw [Array.setIfInBounds_comm _ _ hji]
      exact h3.2

/-- The operations of these numbers. -/
def pickOps (ops : Array Oper) : List Nat → List Oper
  | [] => []
  | k :: ks => match ops[k]? with
    | some o => o :: pickOps ops ks
    | none => pickOps ops ks

def seqL (md : Region.Mode) (ops : Array Oper) : List Nat → Array Bool → Bool
  | [], listed => (Region.ready md ops listed).isEmpty
  | k :: ks, listed => decide (Region.ready md ops listed = [k]) && seqL md ops ks (listed.setIfInBounds k true)

theorem wpAny_of_seqL {Q' : Exit → Act → World → Prop} : ∀ (ks : List Nat) (listed : Array Bool) (a : Act) (w : World), seqL md ops ks listed = true → wpList P ops Q' (pickOps ops ks) a w → wpAny P md ops Q' ks.length listed a w
  | [], listed, a, w, hB, h => ⟨by simpa [seqL] using hB, h⟩
  | k :: ks, listed, a, w, hB, h => by
    simp only [seqL, Bool.and_eq_true, decide_eq_true_eq] at hB
    refine ⟨fun h1 => (by rw [hB.1] at h1; cases h1), fun i hi => ?_⟩
    have hi0 := hi
    rw [hB.1] at hi
    have hik : i = k := by simpa using hi
    subst hik
    obtain ⟨_, o, h0, _⟩ := mem_ready.1 hi0
    simp only [pickOps, h0] at h
    have hw : wpOp P ops Q' i (wpList P ops Q' (pickOps ops ks)) a w := by unfold wpOp; simp only [h0]; exact h
    exact wpOp_mono (fun a' w' h' => wpAny_of_seqL ks _ a' w' hB.2 h') hw

def lexL (md : Region.Mode) (ops : Array Oper) (n : Nat) (tl : List Nat) : List Nat → Array Bool → Bool
  | [], listed => seqL md ops tl listed
  | k :: ks, listed => Nat.blt k n && (Region.ready md ops listed).contains k && Region.free md ops listed k && lexL md ops n tl ks (listed.setIfInBounds k true)

theorem seqL_ready {ks : List Nat} {n : Nat} {listed : Array Bool} (h : seqL md ops ks listed = true) (hk : ∀ k ∈ ks, n ≤ k) : ∀ j ∈ Region.ready md ops listed, n ≤ j := by
  cases ks with
  | nil => intro j hj; simp only [seqL, List.isEmpty_iff] at h; rw [h] at hj; cases hj
  | cons k ks =>
    intro j hj
    simp only [seqL, Bool.and_eq_true, decide_eq_true_eq] at h
    rw [h.1] at hj
    have : j = k := by simpa using hj
    rw [this]; exact hk k (by simp)

theorem wpAnyLC_lexL {n : Nat} {F : List Nat} {Lq : Act → Prop} (hsel : Region.noSelect ops = true) (hs : SinkF md ops n F) (hc : chainL md ops (tailsOf F n ops.size) = true) (hh : (tailsOf F n ops.size).head? = some n) :
    ∀ (ks : List Nat) (listed : Array Bool) (a : Act), HeadF md ops n F listed → (∀ i ∈ F, listed.getD i false = true) →
    lexL md ops n (tailsOf F n ops.size) ks listed = true → wpQuiet P ops C Lq (pickOps ops ks) a →
    wpAnyLC P md ops C n (fun listed' a' => seqL md ops (tailsOf F n ops.size) listed' = true ∧ Lq a') ks.length listed a
  | [], listed, a, _, _, hB, h => ⟨hB, h⟩
  | k :: ks, listed, a, inv, hF, hB, h => by
    simp only [lexL, Bool.and_eq_true] at hB
    obtain ⟨⟨⟨hkn, hr⟩, hf⟩, hB'⟩ := hB
    have hkn' : k < n := by simpa [Nat.blt_eq] using hkn
    have hr' : k ∈ Region.ready md ops listed := by simpa using hr
    obtain ⟨_, o, h0, _⟩ := mem_ready.1 hr'
    simp only [pickOps, h0] at h
    have hst : qOp P ops C k (wpQuiet P ops C Lq (pickOps ops ks)) a := by unfold qOp; simp only [h0]; exact h
    obtain ⟨v, hy, hK⟩ := yieldsIn_of_qOp h0 hst
    exact wpAnyLC_firstF h0 (Region.noSelect_spec hsel) hs hc hh hkn' (fun listed' a' hL => seqL_ready hL.1 (fun k hk => (mem_tails.1 hk).2.1)) ks.length listed a inv hF (Region.free_spec h0 hf) hr' hy
      (wpAnyLC_lexL hsel hs hc hh ks _ _ (inv.set hr' (.inl hkn')) (fun x hx => getD_set_true (hF x hx)) hB' hK)

/-- Operations that look at their operands alone are taken first. -/
def floatL (md : Region.Mode) (ops : Array Oper) : List Nat → Array Bool → Bool
  | [], _ => true
  | k :: ks, listed => (Region.ready md ops listed).contains k && Region.free md ops listed k && floatL md ops ks (listed.setIfInBounds k true)
def setAll (listed : Array Bool) : List Nat → Array Bool
  | [] => listed
  | k :: ks => setAll (listed.setIfInBounds k true) ks
end

/-- The engine over operations that are taken first. -/
def wf (tt : Tr) (ops : Array Oper) (T : St → Prop) : List Nat → St → Prop
  | [], st => T st
  | k :: ks, st => match ops[k]? with
    | some ⟨some d, op, _, _, _, none⟩ => bif Nat.blt d st.n && pureB op then (match rdo tt st op with
      | .val m => fk m fun m => wf tt ops T ks (st.put d m)
      | .side c m => Sd c (wf tt ops T ks (st.put d m))
      | .idx els i => Ixv els i fun e => wf tt ops T ks (st.put d (.p (.ref e)))
      | _ => False) else False
    | _ => False

theorem wf_sound {P : Program} {ops : Array Oper} {md : Region.Mode} {Q : Exit → Act → World → Prop} {g : Nat} (tt : Tab P) {T : St → Prop} {w0 : Bs} {w : World} (hsel : Region.noSelect ops = true) (hQ : ∀ c a w, ¬ Q (.panic c) a w) :
    ∀ (F : List Nat) (listed : Array Bool) (st : St) (a : Act), floatL md ops F listed = true → SR w0 st a w → wf tt.l ops T F st →
    (∀ st' a', T st' → SR w0 st' a' w → wpAny P md ops Q g (setAll listed F) a' w) → wpAny P md ops Q (F.length + g) listed a w
  | [], listed, st, a, _, s, h, hk => by simpa [setAll] using hk st a h s
  | k :: F, listed, st, a, hB, s, h, hk => by
    simp only [floatL, Bool.and_eq_true] at hB
    obtain ⟨⟨hr, hf⟩, hB'⟩ := hB
    unfold wf at h
    split at h
    · rename_i d op ty pos aft h0
      cases hb : (Nat.blt d st.n && pureB op) with
      | false => rw [hb] at h; exact h.elim
      | true =>
        rw [hb] at h
        simp only [Bool.and_eq_true] at hb
        obtain ⟨hd, hp⟩ := hb
        have hd' : d < st.n := by simpa [Nat.blt_eq] using hd
        rw [show (k :: F).length + g = (F.length + g) + 1 by simp; omega]
        have step : ∀ m, ReadOp P op ty st m → wf tt.l ops T F (st.put d m) → wpAny P md ops Q (F.length + g + 1) listed a w := fun m hm hw => by
          obtain ⟨L, cp, sz, ln, sl⟩ := s
          obtain ⟨v, hv, hrun⟩ := hm w0 a w L cp sz ln sl
          refine wpAny_take h0 hsel hf hr (fun c a w hq => absurd hq (hQ _ _ _)) (v := v) (.inl ⟨rfl, fun w' => hrun _ w' rfl rfl (.inl hp)⟩) ?_
          exact wf_sound tt hsel hQ F _ _ _ hB' (SR.put sl hd' hv) hw (fun st' a' h1 h2 => by have := hk st' a' h1 h2; simpa [setAll] using this)
        have hro := rdo_ok (ty := ty) (st := st) tt op
        dsimp only [cond_true] at h
        cases he : rdo tt.l st op with
        | val m => rw [he] at h hro; dsimp only at h; rw [fk_eq] at h; exact step m hro h
        | side c m => rw [he] at h hro; exact step m (hro h.out.1) h.out.2
        | idx els i =>
          rw [he] at h hro
          obtain ⟨h0, e, hel, hh⟩ := h.out
          exact step _ (hro h0 e hel) hh
        | elt els i f => rw [he] at h; exact h.elim
        | br b x y => rw [he] at h; exact h.elim
        | none => rw [he] at h; exact h.elim
    · exact h.elim

section
variable {P : Program} {ops : Array Oper} {md : Region.Mode} {C : World → Prop}
theorem floatL_inv {n : Nat} {G : List Nat} : ∀ (F : List Nat) (listed : Array Bool), (∀ i ∈ F, i ∈ G) → HeadF md ops n G listed → floatL md ops F listed = true → HeadF md ops n G (setAll listed F) ∧ (∀ i, listed.getD i false = true → (setAll listed F).getD i false = true) ∧ ∀ i ∈ F, (setAll listed F).getD i false = true
  | [], listed, _, inv, _ => ⟨inv, fun _ h => h, fun i hi => by cases hi⟩
  | k :: F, listed, hG, inv, hB => by
    simp only [floatL, Bool.and_eq_true] at hB
    obtain ⟨⟨hr, hf⟩, hB'⟩ := hB
    have hr' : k ∈ Region.ready md ops listed := by simpa using hr
    obtain ⟨h1, h2, h3⟩ := floatL_inv F _ (fun i hi => hG i (by simp [hi])) (inv.set hr' (.inr (hG k (by simp)))) hB'
    have hks : k < listed.size := by
      have := (mem_ready.1 hr').2
      obtain ⟨o, ho, _⟩ := this
      rw [inv.size]; exact (Array.getElem?_eq_some_iff.1 ho).1
    refine ⟨h1, fun i hi => h2 i (getD_set_true hi), fun i hi => ?_⟩
    cases hi with
    | head => exact h2 k (by simp [hks])
    | tail _ hi => exact h3 i hi

def floatB (md : Region.Mode) (ops : Array Oper) (n : Nat) (F : List Nat) : Bool :=
  Region.noSelect ops && decide ((tailsOf F n ops.size).head? = some n) && sinkFB md ops n F && chainL md ops (tailsOf F n ops.size) && floatL md ops F (Array.replicate ops.size false) &&
    lexL md ops n (tailsOf F n ops.size) (restOf F n) (setAll (Array.replicate ops.size false) F) && Nat.beq (F.length + ((restOf F n).length + (tailsOf F n ops.size).length)) ops.size
end

theorem E.regionF {P : Program} {Q : Exit → St → Prop} {st : St} (tt : Tab P) {id : Nat} {l : List Oper} (n : Nat) (F : List Nat) (hm : P.follows .mixedOrders = true) (hB : floatB .any l.toArray n F = true)
    (h : wf tt.l l.toArray (wl true P l.toArray tt.l (wl false P l.toArray tt.l (Q .normal) (pickOps l.toArray (tailsOf F n l.toArray.size))) (pickOps l.toArray (restOf F n))) F st) : Wc P (.region id l.toArray true) Q st := fun w0 a w Qr hs hq => by
  simp only [floatB, Bool.and_eq_true, decide_eq_true_eq] at hB
  obtain ⟨⟨⟨⟨⟨⟨hsel, hn⟩, hs0⟩, hc⟩, hfl⟩, hlex⟩, hlen⟩ := hB
  have hlen' := Nat.eq_of_beq_eq_true hlen
  have hs' := sinkFB_spec hs0
  have inv0 : HeadF .any l.toArray n F (Array.replicate l.toArray.size false) :=
    ⟨by simp, fun j oj _ hl => (by rw [getD_replicate_false] at hl; cases hl), fun t ht => getD_in (by simpa using (mem_tails.1 ht).1) (getD_replicate_false _ _)⟩
  obtain ⟨inv1, _, hF⟩ := floatL_inv F _ (fun _ h => h) inv0 hfl
  refine wp_region_noPanic (wp_region_any hm ?_)
  have key := wf_sound (md := .any) (Q := NoPanic Qr) (g := (restOf F n).length + (tailsOf F n l.toArray.size).length) tt hsel (fun c a w hq => hq) F _ st a hfl (hs.grow (Ext.drew w)) h (fun st' a' hT hs1 => by
    have hW := wl_sound tt hT w0 a' _ (fun a'' => ∀ w', Ext { w with drawn := w.drawn + 1 } w' → wpList P l.toArray (NoPanic Qr) (pickOps l.toArray (tailsOf F n l.toArray.size)) a'' w') hs1 (fun st2 a2 hT2 hs2 w' hw' =>
      wl_sound tt hT2 w0 a2 w' (NoPanic Qr) (hs2.grow hw') fun st'' a'' w'' hT' hs'' => NoPanic.normal (hq _ _ _ _ hT' hs''))
    have H := wpAnyLC_lexL (md := .any) hsel hs' hc hn (restOf F n) _ a' inv1 hF hlex hW
    exact wpAny_of_headC (Q' := NoPanic Qr) (g := (tailsOf F n l.toArray.size).length) (fun listed a'' w' hC' hL => wpAny_of_seqL _ listed a'' w' hL.1 (hL.2 w' hC')) _ _ _ _ (Ext.refl _) H)
  rw [hlen'] at key
  exact key
end Go.Lo
namespace Go.Lo
open Go.RowKit
theorem E.frzS {q : Bool} {P : Program} {ops : Array Oper} {rest : List Oper} {T : St → Prop} {st : St} {ty : TypeId} {pos : String} {aft : Array Edge} (tt : Tab P) {x y : Operand} {t k : Nat} {r : Row} (hy : st.ev y = .own k) (hk : look st.rows k = some r) (hk0 : Nat.beq k 0 = false)
    (kk : wl q P ops tt.l T (⟨none, .store t x y, ty, pos, aft, none⟩ :: rest) (st.frz k r)) : W q P ops (⟨none, .store t x y, ty, pos, aft, none⟩ :: rest) T st := E.frz tt hk hk0 kk
theorem E.frzB {q : Bool} {P : Program} {ops : Array Oper} {rest : List Oper} {T : St → Prop} {st : St} {ty : TypeId} {pos : String} {aft : Array Edge} (tt : Tab P) {d t : Nat} {parts : Array (Nat × Operand)} {k : Nat} {r : Row} (hk : look st.rows k = some r) (hk0 : Nat.beq k 0 = false)
    (kk : wl q P ops tt.l T (⟨some d, .build t parts, ty, pos, aft, none⟩ :: rest) (st.frz k r)) : W q P ops (⟨some d, .build t parts, ty, pos, aft, none⟩ :: rest) T st := E.frz tt hk hk0 kk
end Go.Lo
namespace Go.Lo
open Go.RowKit

@[irreducible] def Bo (x y : Prop) : Prop := x ∧ y
theorem Bo.mk {x y : Prop} (h1 : x) (h2 : y) : Bo x y := by unfold Bo; exact ⟨h1, h2⟩
theorem Bo.out {x y : Prop} (h : Bo x y) : x ∧ y := by unfold Bo at h; exact h
def wyC {α : Type} (k : α → Prop) : List α → Prop
  | [] => True
  | [i] => k i
  | i :: j :: r => Bo (k i) (wyC k (j :: r))
theorem wyC_mem {α : Type} {k : α → Prop} : ∀ {l : List α}, wyC k l → ∀ i ∈ l, k i
  | [], _, i, hi => by cases hi
  | [j], h, i, hi => by
    have : i = j := by simpa using hi
    subst this; exact h
  | j :: n :: r, h, i, hi => by
    obtain ⟨h1, h2⟩ := Bo.out h
    cases hi with
    | head => exact h1
    | tail _ hi => exact wyC_mem h2 i hi

/-- The orders that a region may take, as a tree. -/
inductive OT where
  | nd (cs : List (Nat × OT))
def otB (ops : Array Oper) : Nat → Array Bool → OT → Bool
  | 0, listed, .nd cs => decide (Region.ready .any ops listed = []) && cs.isEmpty
  | f + 1, listed, .nd cs => decide (Region.ready .any ops listed = cs.map (·.1)) && cs.all fun p => otB ops f (listed.setIfInBounds p.1 true) p.2

/-- The operations in every order that they may take. -/
def wy (P : Program) (ops : Array Oper) (tt : Tr) (T : St → Prop) : Nat → OT → St → Prop
  | 0, .nd _, st => T st
  | f + 1, .nd cs, st => match cs with
    | [] => T st
    | i :: is => wyC (fun p => match ops[p.1]? with
      | some o => wl false P ops tt (wy P ops tt T f p.2) [o] st
      | none => False) (i :: is)

theorem wy_sound {P : Program} {ops : Array Oper} {T : St → Prop} (tt : Tab P) {w0 : Bs} {Qr : Exit → Act → World → Prop} (hT : ∀ st' a' w', T st' → SR w0 st' a' w' → Qr .normal a' w') :
    ∀ (f : Nat) (listed : Array Bool) (t : OT) (st : St) (a : Act) (w : World), otB ops f listed t = true → wy P ops tt.l T f t st → SR w0 st a w → wpAny P .any ops Qr f listed a w
  | 0, listed, .nd cs, st, a, w, hB, h, s => by
    simp only [otB, Bool.and_eq_true, decide_eq_true_eq] at hB
    exact ⟨hB.1, hT _ _ _ h s⟩
  | f + 1, listed, .nd cs, st, a, w, hB, h, s => by
    simp only [otB, Bool.and_eq_true, decide_eq_true_eq] at hB
    obtain ⟨he, hall⟩ := hB
    cases cs with
    | nil => exact ⟨fun _ => hT _ _ _ h s, fun i hi => (by rw [he] at hi; cases hi)⟩
    | cons c cs =>
      refine ⟨fun hc => (by rw [he] at hc; cases hc), fun i hi => ?_⟩
      rw [he] at hi
      obtain ⟨p, hp, rfl⟩ := List.mem_map.1 hi
      have hk := wyC_mem (show wyC _ (c :: cs) from h) p hp
      have hB' := List.all_eq_true.1 hall p hp
      cases ho : ops[p.1]? with
      | none => rw [ho] at hk; exact hk.elim
      | some o =>
        rw [ho] at hk
        have hw := wl_sound tt hk w0 a w (fun e a' w' => match e with | .normal => wpAny P .any ops Qr f (listed.setIfInBounds p.1 true) a' w' | e => Qr e a' w') s (fun st' a' w' h1 h2 => wy_sound tt hT f _ p.2 st' a' w' hB' h1 h2)
        unfold wpOp
        rw [ho]
        simp only [wpList] at hw
        split at hw
        · rename_i hwant
          dsimp only
          rw [if_pos hwant]
          rcases hw with hw | hw
          · left
            unfold Oper.wp at *
            revert hw
            generalize (execOp a.eval o).run P w = r
            intro hw
            cases r with
            | ok n w' => cases n <;> exact hw
            | halt hh w' => cases hh <;> exact hw
          · right; exact hw
        · rename_i hwant
          dsimp only
          rw [if_neg hwant]
          exact hw

theorem E.regionY {P : Program} {Q : Exit → St → Prop} {st : St} (tt : Tab P) {id : Nat} {l : List Oper} (t : OT) (hm : P.follows .mixedOrders = true) (hB : otB l.toArray l.length (Array.replicate l.length false) t = true)
    (h : wy P l.toArray tt.l (Q .normal) l.length t st) : Wc P (.region id l.toArray true) Q st := fun w0 a w Qr hs hq => by
  refine wp_region_any hm ?_
  have := wy_sound (w0 := w0) (Qr := Qr) tt (fun st' a' w' h1 h2 => hq _ _ _ _ h1 h2) l.length (Array.replicate l.length false) t st a { w with drawn := w.drawn + 1 } hB h (hs.grow (Ext.drew w))
  simpa using this
end Go.Lo
namespace Go.Lo
/-- A call whose new row is only read from then on. -/
theorem E.callRF {P : Program} {ops : Array Oper} {rest : List Oper} {T : St → Prop} {st : St} {d : Nat} {ty : TypeId} {pos : String} {aft : Array Edge} {f : Nat} {xs : Array Operand} {ats : Array TypeId} {c : Ct} {args : List PV}
    (tt : Tab P) (hH : Holds P f c) (ha : rdArgs st xs.toList = some args) (hd : Nat.blt d st.n = true) (h0 : Nat.beq st.nk 0 = false)
    (hk : c args (fun rs => ∃ r, rs = [.fresh r] ∧ (argsP st xs.toList = true ∨ ∀ r ∈ rs, rv1Ok r) ∧ wl false P ops tt.l T rest (((st.bound rs).put d (bindM st.nk rs)).frz st.nk r))) :
    W false P ops (⟨some d, .call { callee := .value (.func f), args := xs, argTypes := ats }, ty, pos, aft, none⟩ :: rest) T st := by
  obtain ⟨rs, hro, r, hrs, hor, hK⟩ := hH.2 _ _ hk
  refine W.callR (c := fun a K => a = args ∧ K rs) ⟨hH.1, fun a K ⟨e, h⟩ => ⟨rs, e ▸ hro, h⟩⟩ ha hd ⟨rfl, hor, ?_⟩
  subst hrs
  refine W.frz (k := st.nk) (r := r) ?_ h0 (wl_sound tt hK)
  simp [St.bound, St.put, bindRows, look, Nat.beq_refl]
end Go.Lo
namespace Go.Lo
open Go.RowKit

def Frag.upd (x : Frag) (b : Nat) (o : Obj) : Frag := fun c => if c = b then some o else x c
theorem Frag.upd_same (x : Frag) (b : Nat) (o : Obj) : x.upd b o b = some o := by simp [Frag.upd]
theorem Frag.upd_ne (x : Frag) {b c : Nat} (o : Obj) (h : c ≠ b) : x.upd b o c = x c := by simp [Frag.upd, h]

section
variable {P : Program} {st : St} {w0 : Bs} {a : Act} {w w' : World} {L cp sz ln : Nat → Nat}

theorem SRL.newX (s : SRL w0 st a w L cp sz ln) (o : Obj) : SRL w0 { st with x := st.x.upd w.heap.size o } a (w.alloc o) L cp sz ln := by
  have hex : Ext w (w.alloc o) := (Below.refl _ _).alloc (Nat.le_refl _) _
  have hb : ∀ b, stab w0 st.rows st.x L w.heap b → stab w0 st.rows (st.x.upd w.heap.size o) L (w.alloc o).heap b ∧ (w.alloc o).heap[b]? = w.heap[b]? := fun b hb =>
    ⟨⟨Nat.lt_of_lt_of_le hb.1 hex.size, ⟨hb.2.1.1, by rw [Frag.upd_ne _ _ (Nat.ne_of_lt hb.1)]; exact hb.2.1.2⟩, hb.2.2⟩, hex.block b hb.1⟩
  refine ⟨s.defers, s.size, fun t => (s.tmps t).mono hb, fun k r hr => ⟨(s.rows k r hr).1.mono hb (hex.block _ (s.rows k r hr).1.lt), (s.rows k r hr).2⟩, s.inj, s.keys, s.below.grow hex, s.pos, s.pin, fun b o' hx => ?_⟩
  replace hx : st.x.upd w.heap.size o b = some o' := hx
  by_cases h : b = w.heap.size
  · subst h
    rw [Frag.upd_same] at hx; cases hx
    exact ⟨(MapKept.heap_alloc w o).1, .inl s.below.size, fun k hk e => by have := s.live_lt (st := st) hk; omega⟩
  · rw [Frag.upd_ne _ _ h] at hx
    obtain ⟨f1, f2, f3⟩ := s.frag b o' hx
    exact ⟨(hex.block b (lt_of_get f1)).trans f1, f2, f3⟩

theorem SRL.wroteX (s : SRL w0 st a w L cp sz ln) {b : Nat} {o o' : Obj} (hx : st.x b = some o) (hos : w'.os = w.os) (htape : w'.tape = w.tape) (hout : w'.output = w.output) (hsize : w'.heap.size = w.heap.size)
    (hnew : w'.heap[b]? = some o') (hoth : ∀ c, c ≠ b → w'.heap[c]? = w.heap[c]?) : SRL w0 { st with x := st.x.upd b o' } a w' L cp sz ln := by
  obtain ⟨e1, e2, e3⟩ := s.frag b o hx
  have hne : ∀ c, stab w0 st.rows st.x L w.heap c → c ≠ b := fun c hc e => by subst e; rw [hc.2.1.2] at hx; cases hx
  have hb : ∀ c, stab w0 st.rows st.x L w.heap c → stab w0 st.rows (st.x.upd b o') L w'.heap c ∧ w'.heap[c]? = w.heap[c]? := fun c hc =>
    ⟨⟨by rw [hsize]; exact hc.1, ⟨hc.2.1.1, by rw [Frag.upd_ne _ _ (hne c hc)]; exact hc.2.1.2⟩, hc.2.2⟩, hoth c (hne c hc)⟩
  refine ⟨s.defers, s.size, fun t => (s.tmps t).mono hb, fun k r hr => ⟨(s.rows k r hr).1.mono hb (hoth _ (e3 k (by simp [St.live, liveIn, hr]))), (s.rows k r hr).2⟩, s.inj, s.keys, ?_, s.pos, s.pin, fun c o2 hc => ?_⟩
  · exact s.below.step hos htape hout (by rw [hsize]; exact Nat.le_refl _) (fun c hc hM => hoth c (fun e => by
      subst e
      rcases e2 with h | h
      · omega
      · exact hM h))
  · replace hc : st.x.upd b o' c = some o2 := hc
    by_cases h : c = b
    · subst h
      rw [Frag.upd_same] at hc; cases hc
      exact ⟨hnew, e2, e3⟩
    · rw [Frag.upd_ne _ _ h] at hc
      obtain ⟨f1, f2, f3⟩ := s.frag c o2 hc
      exact ⟨(hoth c h).trans f1, f2, f3⟩
end

/-! ### A set of strings as a map to true -/
def mapEs : Nat → List ByteArray → List MapEntry
  | _, [] => []
  | i, k :: ks => { key := .string k, val := .bool true, born := i } :: mapEs (i + 1) ks
def mapO (ks : List ByteArray) : Obj := .map (mapEs 0 ks).toArray ks.length

theorem mapEs_snoc (k : ByteArray) : ∀ (ks : List ByteArray) (i : Nat), mapEs i (ks ++ [k]) = mapEs i ks ++ [{ key := .string k, val := .bool true, born := i + ks.length }]
  | [], i => rfl
  | x :: ks, i => by
    simp only [List.cons_append, mapEs, mapEs_snoc k ks (i + 1), List.length_cons]
    rw [show i + 1 + ks.length = i + (ks.length + 1) by omega]
theorem mapEs_mem : ∀ (ks : List ByteArray) (i : Nat) (e : MapEntry), e ∈ mapEs i ks → ∃ k ∈ ks, e.key = .string k ∧ e.val = .bool true
  | [], i, e, h => by cases h
  | k :: ks, i, e, h => by
    simp only [mapEs, List.mem_cons] at h
    rcases h with rfl | h
    · exact ⟨k, by simp, rfl, rfl⟩
    · obtain ⟨k', h1, h2⟩ := mapEs_mem ks (i + 1) e h
      exact ⟨k', by simp [h1], h2⟩
theorem mapEs_has : ∀ (ks : List ByteArray) (i : Nat) (k : ByteArray), k ∈ ks → ∃ e ∈ mapEs i ks, e.key = .string k
  | k' :: ks, i, k, h => by
    simp only [List.mem_cons] at h
    rcases h with rfl | h
    · exact ⟨{ key := .string k, val := .bool true, born := i }, by simp [mapEs], rfl⟩
    · obtain ⟨e, h1, h2⟩ := mapEs_has ks (i + 1) k h
      exact ⟨e, by simp [mapEs, h1], h2⟩
theorem mapEs_key (ks : List ByteArray) (i : Nat) : ∀ e ∈ mapEs i ks, MapKept.IsKey .string e.key := fun e he => by
  obtain ⟨k, _, h, _⟩ := mapEs_mem ks i e he
  rw [h]; trivial

structure MapT (P : Program) (t kt et : Nat) : Prop where
  ty : P.underlying t = some (.map kt et)
  key : P.underlying kt = some .string
  zero : ((P.info? et).bind fun inf => inf.zero) = some (.bool false)

section
variable {q : Bool} {P : Program} {ops : Array Oper} {rest : List Oper} {T : St → Prop} {st : St} {d : Nat} {ty : TypeId} {pos : String} {aft : Array Edge} {t kt et b : Nat} {ks : List ByteArray} {k : ByteArray} {x y v : Operand}

theorem rd_lookup (M : MapT P t kt et) {bb : Bool} (hx : st.ev x = .p (.raw (.map (some b)))) (hb : st.x b = some (mapO ks)) (hy : st.ev y = .p (.str k)) (hk : bb = true ↔ k ∈ ks) :
    ReadOp P (.lookup t x y false) ty st (.p (.bool bb)) := by
  intro w0 a w L cp sz ln s
  refine ⟨.bool bb, VR.bool, fun o w' ho hty hw => ?_⟩
  have hw' : Ext w w' := by
    rcases hw with h | h
    · cases h
    · exact h
  have hxv : a.eval x = .map (some b) := by
    have := s.ev_val hx (v := .map (some b)) rfl; exact this
  have hyv := s.ev_str hy
  obtain ⟨f1, _, _⟩ := s.frag b _ hb
  have hg : w'.heap[b]? = some (.map (mapEs 0 ks).toArray ks.length) := (hw'.block b (lt_of_get f1)).trans f1
  obtain ⟨inf, z1, z2⟩ := Option.bind_eq_some_iff.1 M.zero
  have hz : (zeroValue et).run P w' = .ok (.bool false) w' := by
    simp [zeroValue, typeInfo, program, Sem.run, z1, z2]
  rcases MapKept.findNow_spec (d := .string) (k := .string k) trivial (mapEs 0 ks) 0 (mapEs_key ks 0) with ⟨h1, h2⟩ | ⟨j, e, h1, h2, h3⟩
  · have hno : bb = false := by
      cases bb with
      | false => rfl
      | true =>
        obtain ⟨e, he, hek⟩ := mapEs_has ks 0 k (hk.1 rfl)
        exact (h2 e he hek).elim
    subst hno
    simp [execOp, ho, hxv, hyv, Instr.lookup, run_underlying M.ty, MapKept.run_getObj_map hg, MapKept.run_checkKey M.key (k := .string k) trivial, MapKept.run_findKey M.key h1, hz, Result.andThen]
  · have hmem := List.mem_of_getElem? h2
    obtain ⟨k', g1, g2, g3⟩ := mapEs_mem ks 0 e hmem
    have hyes : bb = true := hk.2 (by rw [g2] at h3; cases h3; exact g1)
    subst hyes
    simp [execOp, ho, hxv, hyv, Instr.lookup, run_underlying M.ty, MapKept.run_getObj_map hg, MapKept.run_checkKey M.key (k := .string k) trivial, MapKept.run_findKey M.key h1, g3, Result.andThen]

theorem E.makeMap (tt : Tab P) (hd : Nat.blt d st.n = true) (kk : ∀ b, wl false P ops tt.l T rest (({ st with x := st.x.upd b (mapO []) } : St).put d (.p (.raw (.map (some b)))))) :
    W false P ops (⟨some d, .makeMap t none, ty, pos, aft, none⟩ :: rest) T st := by
  have hd' : d < st.n := by simpa [Nat.blt_eq] using hd
  intro w0 a w Qr hs hT
  obtain ⟨L, cp, sz, ln, s⟩ := hs
  have hr : (Instr.makeMap t none).run P w = .ok (.map (some w.heap.size)) (w.alloc (mapO [])) := by
    simp [Instr.makeMap, newObj, Sem.run, Result.andThen, mapO, mapEs]
  simp only [wpList, wanted_none, if_true]
  refine .inl ?_
  unfold Oper.wp
  have hx : ∀ (o : Oper), o.op = .makeMap t none → (execOp a.eval o).run P w = .ok (.value (.map (some w.heap.size))) (w.alloc (mapO [])) := fun o ho => by
    simp [execOp, ho, hr]
  rw [hx _ rfl]
  simp only [Oper.upon]
  exact wl_sound tt (kk w.heap.size) w0 _ _ Qr ⟨L, cp, sz, ln, (s.newX (mapO [])).put hd' VR.raw⟩ hT

theorem E.mapUpdate (tt : Tab P) (M : MapT P t kt et) (hx : st.ev x = .p (.raw (.map (some b)))) (hb : st.x b = some (mapO ks)) (hy : st.ev y = .p (.str k)) (hv : st.ev v = .p (.bool true)) (hk : ¬ k ∈ ks)
    (kk : wl false P ops tt.l T rest { st with x := st.x.upd b (mapO (ks ++ [k])) }) :
    W false P ops (⟨none, .mapUpdate t x y v, ty, pos, aft, none⟩ :: rest) T st := by
  intro w0 a w Qr hs hT
  obtain ⟨L, cp, sz, ln, s⟩ := hs
  have hxv : a.eval x = .map (some b) := by
    have := s.ev_val hx (v := .map (some b)) rfl; exact this
  have hyv := s.ev_str hy
  have hvv := s.ev_bool hv
  obtain ⟨f1, _, _⟩ := s.frag b _ hb
  have hg : w.heap[b]? = some (.map (mapEs 0 ks).toArray ks.length) := f1
  have hr : (Instr.mapUpdate t (.map (some b)) (.string k) (.bool true)).run P w = .ok () { w with heap := w.heap.setIfInBounds b (mapO (ks ++ [k])) } := by
    rcases MapKept.findNow_spec (d := .string) (k := .string k) trivial (mapEs 0 ks) 0 (mapEs_key ks 0) with ⟨h1, h2⟩ | ⟨j, e, h1, h2, h3⟩
    · simp [Instr.mapUpdate, run_underlying M.ty, MapKept.run_getObj_map hg, MapKept.run_checkKey M.key (k := .string k) trivial, MapKept.run_findKey M.key h1, MapKept.run_setObj_map _ hg, Result.andThen, mapO, mapEs_snoc]
    · exfalso
      obtain ⟨k', g1, g2, g3⟩ := mapEs_mem ks 0 e (List.mem_of_getElem? h2)
      rw [g2] at h3; cases h3; exact hk g1
  simp only [wpList, wanted_none, if_true]
  refine .inl ?_
  unfold Oper.wp
  have hrun : ∀ (o : Oper), o.op = .mapUpdate t x y v → (execOp a.eval o).run P w = .ok .skip { w with heap := w.heap.setIfInBounds b (mapO (ks ++ [k])) } := fun o ho => by
    simp [execOp, ho, hxv, hyv, hvv, hr]
  rw [hrun _ rfl]
  simp only [Oper.upon]
  obtain ⟨g1, g2⟩ := MapKept.heap_set (o' := mapO (ks ++ [k])) hg
  exact wl_sound tt kk w0 _ _ Qr ⟨L, cp, sz, ln, s.wroteX hb rfl rfl rfl (by simp) g1 g2⟩ hT
end
end Go.Lo
namespace Go.Lo
open Go.RowKit

section
variable {P : Program} {st : St} {w0 : Bs} {a : Act} {w w' : World} {L cp sz ln : Nat → Nat}

def St.abs (st : St) (k b : Nat) (o : Obj) : St := { n := st.n, nk := st.nk, t := killT k st.t, rows := delR k st.rows, x := st.x.upd b o }

theorem SRL.abs (s : SRL w0 st a w L cp sz ln) {k : Nat} {r : Row} (hk : look st.rows k = some r) (hk0 : k ≠ 0) {o : Obj} (ho : w.heap[L k]? = some o) : SRL w0 (st.abs k (L k) o) a w L cp sz ln := by
  obtain ⟨g1, hge, hsk, hlk⟩ := s.rows k r hk
  have hklive : liveIn st.rows k := by unfold liveIn; rw [hk]; rfl
  have hnew : w0.w.heap.size ≤ L k := by
    rcases hge with h | h
    · exact h
    · exact absurd h.1 hk0
  have hlive : ∀ x, liveIn (delR k st.rows) x → x ≠ k ∧ liveIn st.rows x := fun x hx => by
    unfold liveIn at *; rw [look_delR] at hx
    by_cases h : x = k
    · rw [if_pos h] at hx; cases hx
    · rw [if_neg h] at hx; exact ⟨h, hx⟩
  have hb : ∀ b, stab w0 st.rows st.x L w.heap b → stab w0 (delR k st.rows) (st.x.upd (L k) o) L w.heap b ∧ w.heap[b]? = w.heap[b]? := fun b hb =>
    ⟨⟨hb.1, ⟨hb.2.1.1, by rw [Frag.upd_ne _ _ (fun e => hb.2.2 k hklive e.symm)]; exact hb.2.1.2⟩, fun x hx => hb.2.2 x (hlive x hx).2⟩, rfl⟩
  refine ⟨s.defers, s.size, fun t => ?_, fun x rx hx => ?_, fun x y hx hy => s.inj x y (hlive x hx).2 (hlive y hy).2, fun x hx => s.keys x (hlive x hx).2, s.below, s.pos, s.pin, fun b o' hx => ?_⟩
  · have hg : (st.abs k (L k) o).get t = (st.get t).kill k := by
      unfold St.get St.abs
      simp only [look_killT]
      cases look st.t t <;> rfl
    rw [hg]
    exact MR.kill (s.tmps t) hb (fun x _ => ⟨rfl, rfl, rfl, rfl⟩)
  · have hx' : x ≠ k ∧ look st.rows x = some rx := by
      have hx2 : look (delR k st.rows) x = some rx := hx
      rw [look_delR] at hx2
      by_cases h : x = k
      · rw [if_pos h] at hx2; cases hx2
      · rw [if_neg h] at hx2; exact ⟨h, hx2⟩
    obtain ⟨q1, q2, q3, q4⟩ := s.rows x rx hx'.2
    exact ⟨q1.mono hb rfl, q2, q3, q4⟩
  · replace hx : st.x.upd (L k) o b = some o' := hx
    by_cases h : b = L k
    · subst h
      rw [Frag.upd_same] at hx; cases hx
      exact ⟨ho, .inl hnew, fun x hxl e => (hlive x hxl).1 (s.inj x k (hlive x hxl).2 hklive e)⟩
    · rw [Frag.upd_ne _ _ h] at hx
      obtain ⟨f1, f2, f3⟩ := s.frag b o' hx
      exact ⟨f1, f2, fun x hxl => f3 x (hlive x hxl).2⟩

theorem SRL.know' (s : SRL w0 st a w L cp sz ln) {t : Nat} {m : MV} (hm : MR st.nk w.heap (stab w0 st.rows st.x L w.heap) L cp sz ln m (a.tmps.getD t Go.undef)) : SRL w0 { st with t := (t, m) :: st.t } a w L cp sz ln := by
  refine ⟨s.defers, s.size, fun u => ?_, s.rows, s.inj, s.keys, s.below, s.pos, s.pin, s.frag⟩
  have hg : St.get { st with t := (t, m) :: st.t } u = if t = u then m else st.get u := get_put st t u m
  rw [hg]
  by_cases h : t = u
  · subst h; rw [if_pos rfl]; exact hm
  · rw [if_neg h]; exact s.tmps u
end

def encN (n : Int) : List PV := [.int .i64 n]
/-- The cells C hold the numbers l, from the first on. -/
structure Nums (C : Array Value) (c : Nat) (l : List Int) : Prop where
  size : C.size = c
  le : l.length ≤ c
  max : c ≤ maxLen
  at' : ∀ (i : Nat) v, l[i]? = some v → C[i]? = some (.int .i64 v)

section
variable {q : Bool} {P : Program} {ops : Array Oper} {rest l0 : List Oper} {T : St → Prop} {st : St} {d : Nat} {ty : TypeId} {pos : String} {aft : Array Edge}

theorem RowR.nums {h : Array Obj} {S : Nat → Prop} {b c e : Nat} {l : List Int} (g : RowR h S b c ⟨e, 1, l.map encN⟩) : ∃ C, h[b]? = some (.cells C e (0, 0)) ∧ Nums C c l := by
  obtain ⟨C, h1, h2, h3, h4, h5, h6⟩ := g
  refine ⟨C, h1, ⟨by simpa using h2, by simpa using h3, h4, fun i v hv => ?_⟩⟩
  obtain ⟨u, hu, _, hvr⟩ := h6 i [I v] 0 (I v) (by simp [hv, encN]) rfl
  have hu' : C[i]? = some u := by simpa using hu
  have e1 : u = .int .i64 v := VR.of_val (u := .int .i64 v) rfl hvr
  rw [hu', e1]
theorem Nums.row {h : Array Obj} {S : Nat → Prop} {b c e : Nat} {l : List Int} {C : Array Value} (hb : h[b]? = some (.cells C e (0, 0))) (g : Nums C c l) : RowR h S b c ⟨e, 1, l.map encN⟩ := by
  refine ⟨C, hb, by simpa using g.size, by simpa using g.le, g.max, fun x hx => ?_, fun i x j m hx hm => ?_⟩
  · obtain ⟨v, _, rfl⟩ := List.mem_map.1 hx; rfl
  · simp only [List.getElem?_map, Option.map_eq_some_iff] at hx
    obtain ⟨v, hv, rfl⟩ := hx
    match j, hm with
    | 0, hm =>
      have : m = I v := by simpa [encN] using hm.symm
      subst this
      exact ⟨.int .i64 v, by simpa using g.at' i v hv, rfl, VR.int⟩
    | n + 1, hm => simp [encN] at hm

/-- A row of numbers becomes a block that is known as it stands. -/
theorem E.abs (tt : Tab P) (t : Nat) {k e : Nat} {l : List Int} (hx : st.get t = .own k) (hk : look st.rows k = some ⟨e, 1, l.map encN⟩) (hk0 : Nat.beq k 0 = false)
    (kk : ∀ b c C, Nums C c l → st.x b = none → wl q P ops tt.l T l0 { n := st.n, nk := st.nk, t := (t, .p (.raw (.slice (some ⟨b, 0, none⟩) l.length c))) :: killT k st.t, rows := delR k st.rows, x := st.x.upd b (.cells C e (0, 0)) }) : W q P ops l0 T st := by
  have key : ∀ w0 a w, SR w0 st a w → ∃ b c C, Nums C c l ∧ st.x b = none ∧ SR w0 { n := st.n, nk := st.nk, t := (t, .p (.raw (.slice (some ⟨b, 0, none⟩) l.length c))) :: killT k st.t, rows := delR k st.rows, x := st.x.upd b (.cells C e (0, 0)) } a w := by
    rintro w0 a w ⟨L, cp, sz, ln, s⟩
    obtain ⟨g1, _, _, g4⟩ := s.rows k _ hk
    obtain ⟨C, hC, hN⟩ := g1.nums
    have hv := s.tmps t
    rw [hx] at hv
    have s' := s.abs hk (fun e => by rw [e] at hk0; cases hk0) hC
    refine ⟨L k, cp k, C, hN, s.frag_live (k := k) (by simp [St.live, liveIn, hk]), L, cp, sz, ln, s'.know' (t := t) (m := .p (.raw (.slice (some ⟨L k, 0, none⟩) l.length (cp k)))) ?_⟩
    have e1 := hv.1
    rw [g4] at e1
    rw [e1]
    simp only [List.length_map]
    exact VR.raw
  cases q
  · intro w0 a w Qr hs hT
    obtain ⟨b, c, C, hN, hbx, hs'⟩ := key w0 a w hs
    exact wl_sound tt (kk b c C hN hbx) w0 a w Qr hs' hT
  · intro w0 a w Kr hs hT
    obtain ⟨b, c, C, hN, hbx, hs'⟩ := key w0 a w hs
    exact wl_sound tt (kk b c C hN hbx) w0 a w Kr hs' hT
end
end Go.Lo
namespace Go.Lo
open Go.RowKit

section
variable {P : Program} {st : St} {w0 : Bs} {a : Act} {w w' : World} {L cp sz ln : Nat → Nat}

/-- Some of the known blocks are written; the heap may grow. -/
theorem SRL.wroteXs (s : SRL w0 st a w L cp sz ln) {X' : Frag} (hdom : ∀ b, X' b = none ↔ st.x b = none) (hos : w'.os = w.os) (htape : w'.tape = w.tape) (hout : w'.output = w.output) (hsize : w.heap.size ≤ w'.heap.size)
    (hnew : ∀ b o, X' b = some o → w'.heap[b]? = some o) (hoth : ∀ c, c < w.heap.size → st.x c = none → w'.heap[c]? = w.heap[c]?) : SRL w0 { st with x := X' } a w' L cp sz ln := by
  have hb : ∀ c, stab w0 st.rows st.x L w.heap c → stab w0 st.rows X' L w'.heap c ∧ w'.heap[c]? = w.heap[c]? := fun c hc =>
    ⟨⟨Nat.lt_of_lt_of_le hc.1 hsize, ⟨hc.2.1.1, (hdom c).2 hc.2.1.2⟩, hc.2.2⟩, hoth c hc.1 hc.2.1.2⟩
  have hold : ∀ b o, X' b = some o → ∃ o0, st.x b = some o0 := fun b o hx => by
    cases h : st.x b with
    | some o0 => exact ⟨o0, rfl⟩
    | none => rw [(hdom b).2 h] at hx; cases hx
  refine ⟨s.defers, s.size, fun t => (s.tmps t).mono hb, fun k r hr => ⟨(s.rows k r hr).1.mono hb (hoth _ (s.rows k r hr).1.lt (s.frag_live (k := k) (by simp [St.live, liveIn, hr]))), (s.rows k r hr).2⟩, s.inj, s.keys, ?_, s.pos, s.pin, fun c o2 hc => ?_⟩
  · exact s.below.step hos htape hout hsize (fun c hc hM => hoth c (Nat.lt_of_lt_of_le hc s.below.size) (by
      cases h : st.x c with
      | none => rfl
      | some o =>
        rcases (s.frag c o h).2.1 with h' | h'
        · omega
        · exact (hM h').elim))
  · replace hc : X' c = some o2 := hc
    obtain ⟨o0, h0⟩ := hold c o2 hc
    obtain ⟨f1, f2, f3⟩ := s.frag c o0 h0
    exact ⟨hnew c o2 hc, f2, f3⟩
end

section
variable {P : Program} {ops : Array Oper} {rest : List Oper} {T : St → Prop} {st : St} {d : Nat} {ty : TypeId} {pos : String} {aft : Array Edge} {f : Nat} {xs : Array Operand} {ats : Array TypeId} {args : List PV}

/-- A call that writes its first argument's row, which is a known block of numbers. -/
theorem E.callMX (tt : Tab P) {x : Operand} {ys : List Operand} {b c e : Nat} {l : List Int} {C : Array Value} {mc : MCt} (hH : MHolds P f mc) (hxs : xs.toList = x :: ys) (hx : st.ev x = .p (.raw (.slice (some ⟨b, 0, none⟩) l.length c))) (hb : st.x b = some (.cells C e (0, 0))) (hN : Nums C c l)
    (ha : rdArgs st ys = some args) (hp : argsP st ys = true) (hd : Nat.blt d st.n = true)
    (hk : mc ⟨e, 1, l.map encN⟩ args (fun r' res => ∃ l' m, r' = ⟨e, 1, l'.map encN⟩ ∧ res = .p m ∧ ∀ C', Nums C' c l' → wl false P ops tt.l T rest (({ st with x := st.x.upd b (.cells C' e (0, 0)) } : St).put d (.p m)))) :
    W false P ops (⟨some d, .call { callee := .value (.func f), args := xs, argTypes := ats }, ty, pos, aft, none⟩ :: rest) T st := by
  have hd' : d < st.n := by simpa [Nat.blt_eq] using hd
  intro w0 a w Qr hs hT
  obtain ⟨L, cp, sz, ln, s⟩ := hs
  obtain ⟨r', res, hro, l', m, rfl, rfl, hK⟩ := hH.2 _ _ _ hk
  obtain ⟨hl, hall⟩ := s.rdArgsP _ _ hp ha
  obtain ⟨f1, f2, f3⟩ := s.frag b _ hb
  have hv : a.eval x = .slice (some ⟨b, 0, none⟩) l.length c := s.ev_val hx (v := .slice (some ⟨b, 0, none⟩) l.length c) rfl
  have hA : ArgsR w (stab w0 st.rows st.x L w.heap) args (ys.map a.eval).toArray := ⟨by simp [hl], fun i m u hm hu => hall i m u hm (by simpa using hu)⟩
  have hvals : xs.map a.eval = #[.slice (some ⟨b, 0, none⟩) (l.map encN).length c] ++ (ys.map a.eval).toArray := by
    apply Array.toList_inj.1
    simp [hxs, hv]
  simp only [wpList, wanted_none, if_true]
  refine .inl ?_
  unfold Oper.wp
  rw [call_run hH.1 a.eval rfl _ rfl]
  simp only [Oper.upon]
  rw [hvals]
  refine (hro w (stab w0 st.rows st.x L w.heap) b c _ (fun h => by have := h.2.1.2; rw [hb] at this; cases this) (hN.row f1) hA).mono ?_
  rintro e1 w' ⟨v, rfl, hrow, hres, hun⟩
  obtain ⟨C', hC', hN'⟩ := hrow.nums
  have s' := s.wroteXs (w' := w') (X' := st.x.upd b (.cells C' e (0, 0))) (fun c => by
      by_cases h : c = b
      · subst h; rw [Frag.upd_same, hb]; simp
      · rw [Frag.upd_ne _ _ h]) hun.os hun.tape hun.output hun.size (fun c o hc => by
      by_cases h : c = b
      · subst h; rw [Frag.upd_same] at hc; cases hc; exact hC'
      · rw [Frag.upd_ne _ _ h] at hc
        obtain ⟨q1, _⟩ := s.frag c o hc
        exact (hun.block c (lt_of_get q1) h).trans q1) (fun c hc hcx => hun.block c hc (fun h => by
      have h' : c = b := h
      subst h'; rw [hb] at hcx; cases hcx))
  exact wl_sound tt (hK C' hN') w0 _ w' Qr ⟨L, cp, sz, ln, s'.put (d := d) hd' (m := .p m) (VR.of_val_mk hres)⟩ hT
end
end Go.Lo
namespace Go.Lo
open Go.RowKit

abbrev XCt := List PV → Frag → (Frag → PV → Prop) → Prop
def XO (P : Program) (f : FuncId) (args : List PV) (X : Frag) (K : Frag → PV → Prop) : Prop :=
  ∀ w S vals, (∀ b o, X b = some o → w.heap[b]? = some o) → (∀ b, S b → X b = none) → ArgsR w S args vals →
    Calls P f vals w (fun e w' => ∃ v X' m, e = .returned v ∧ K X' m ∧ (∀ b, X' b = none ↔ X b = none) ∧ (∀ b o, X' b = some o → w'.heap[b]? = some o) ∧ m.val = some v ∧ Under ⟨w, S, fun b => X b ≠ none, none⟩ w')
def XHolds (P : Program) (f : FuncId) (c : XCt) : Prop := CallOk P f ∧ ∀ args X K, c args X K → XO P f args X K

def initX (N : Nat) (args : List PV) (X : Frag) : St := { n := N, nk := 1, t := initT 0 args, rows := [], x := X }
def FinX (rl : List ResultVar) (X : Frag) (K : Frag → PV → Prop) : Exit → St → Prop
  | .ret, st => ∃ t m, rl = [.tmp t] ∧ st.get t = .p m ∧ m.val.isSome = true ∧ (∀ b, st.x b = none ↔ X b = none) ∧ K st.x m
  | .normal, st => ∃ t m, rl = [.tmp t] ∧ st.get t = .p m ∧ m.val.isSome = true ∧ (∀ b, st.x b = none ↔ X b = none) ∧ K st.x m
  | _, _ => False

theorem SR.initX {w : World} {S : Nat → Prop} {N : Nat} {args : List PV} {vals : Array Value} {X : Frag} (hX : ∀ b o, X b = some o → w.heap[b]? = some o) (hS : ∀ b, S b → X b = none) (hA : ArgsR w S args vals) (hN : args.length ≤ N) :
    SR ⟨w, S, fun b => X b ≠ none, none⟩ (initX N args X) { tmps := vals ++ Array.replicate (N - vals.size) Go.undef, defers := [] } w := by
  obtain ⟨hl, hall⟩ := hA
  have hno : ∀ k, ¬ liveIn (Lo.initX N args X).rows k := fun k hk => by simp [Lo.initX, liveIn, look] at hk
  refine ⟨fun _ => 0, fun _ => 0, fun _ => 0, fun _ => 0, rfl, (by simp [Lo.initX, ← hl]; omega), fun t => ?_, (fun k r hr => by simp [Lo.initX, look] at hr), (fun k k' hk => (hno k hk).elim), (fun k hk => (hno k hk).elim), ⟨rfl, rfl, rfl, Nat.le_refl _, fun _ _ _ => rfl⟩, Nat.one_pos, (fun b c h => by cases h), (fun b o h => ⟨hX b o h, .inr (fun e => by have h' : X b = some o := h; rw [e] at h'; cases h'), fun k hk => (hno k hk).elim⟩)⟩
  cases h : look (initT 0 args) t with
  | none =>
    have : (Lo.initX N args X).get t = .p .any := by simp [St.get, Lo.initX, h]
    rw [this]; exact VR.any
  | some m =>
    obtain ⟨_, x, hx, rfl⟩ := look_initT _ _ _ _ h
    have hg : (Lo.initX N args X).get t = .p x := by simp [St.get, Lo.initX, h]
    simp only [Nat.sub_zero] at hx
    have hlt : t < vals.size := by rw [← hl]; exact (List.getElem?_eq_some_iff.1 hx).1
    rw [hg]
    have hv := hall t x vals[t] hx (by simp [hlt])
    have : (vals ++ Array.replicate (N - vals.size) Go.undef).getD t Go.undef = vals[t] := by
      simp [Array.getElem?_append, hlt]
    rw [this]
    exact hv.mono fun b hb => ⟨⟨hb.1, ⟨.inl hb.2, hS b hb.2⟩, fun k hk => (hno k hk).elim⟩, rfl⟩

theorem XHolds.mk {P : Program} {f : Nat} {fn : Func} {code : Code} {N : Nat} {rl : List ResultVar} {c : XCt} (hf : P.funcs[f]? = some fn) (hb : fn.body = some code) (hn : fn.ntmps = N) (hr : fn.results = rl.toArray)
    (hname : (fn.name == "runtime.NumGoroutine") = false) (h : ∀ args X K, c args X K → args.length ≤ N ∧ Wc P code (FinX rl X K) (initX N args X)) : XHolds P f c := by
  refine ⟨⟨fn, hf, hname, by rw [hb]; rfl⟩, fun args X K hc => ?_⟩
  obtain ⟨hN, hW⟩ := h args X K hc
  intro w S vals hX hS hA
  refine calls_of_wp hf hb ?_
  rw [hn]
  refine hW _ _ w _ (SR.initX hX hS hA hN) fun e st' a' w' hQ hs => ?_
  have key : (∃ t m, rl = [.tmp t] ∧ st'.get t = .p m ∧ m.val.isSome = true ∧ (∀ b, st'.x b = none ↔ X b = none) ∧ K st'.x m) → a'.defers = [] ∧ ∃ v, (results fn a'.tmps).run P w' = .ok v w' ∧ ∃ u X' m, v = u ∧ K X' m ∧ (∀ b, X' b = none ↔ X b = none) ∧ (∀ b o, X' b = some o → w'.heap[b]? = some o) ∧ m.val = some u ∧ Under ⟨w, S, fun b => X b ≠ none, none⟩ w' := by
    rintro ⟨t, m, rfl, hg, hm, hdom, hK⟩
    obtain ⟨L, cp, sz, ln, s⟩ := hs
    obtain ⟨u, hu⟩ := Option.isSome_iff_exists.1 hm
    have hv := s.tmps t
    rw [hg] at hv
    have hval := VR.of_val hu hv
    have := results_run (P := P) (fn := fn) hr (a := a') (w := w') (vs := [u]) rfl (fun i x v hx hv' => by
      match i, hx, hv' with
      | 0, hx, hv' => simp at hx hv'; subst hx; subst hv'; simp [res1, ← hval])
    exact ⟨s.defers, u, this, u, st'.x, m, rfl, hK, hdom, fun b o h => (s.frag b o h).1, hu, s.below.os, s.below.tape, s.below.output, s.below.size, s.below.block⟩
  cases e with
  | ret =>
    obtain ⟨h1, v, h2, u, X', m, rfl, h3⟩ := key hQ
    exact ⟨h1, v, h2, v, X', m, rfl, h3⟩
  | normal =>
    obtain ⟨h1, v, h2, u, X', m, rfl, h3⟩ := key hQ
    exact ⟨h1, v, h2, v, X', m, rfl, h3⟩
  | exit id => exact hQ.elim
  | goto l => exact hQ.elim
  | panic ch => exact hQ.elim
  | outgrown => exact hQ.elim

theorem E.mkX {P : Program} {f : Nat} {fn : Func} {code : Code} {N : Nat} {rl : List ResultVar} {c : XCt} (tt : Tab P) (hf : P.funcs[f]? = some fn) (hb : fn.body = some code) (hn : fn.ntmps = N) (hr : fn.results = rl.toArray)
    (hname : (fn.name == "runtime.NumGoroutine") = false) (h : ∀ args X K, c args X K → args.length ≤ N ∧ wcl P tt.l code (FinX rl X K) (initX N args X)) : XHolds P f c :=
  XHolds.mk hf hb hn hr hname fun args X K hc => let ⟨h1, h2⟩ := h args X K hc; ⟨h1, wcl_sound tt code h2⟩

section
variable {P : Program} {ops : Array Oper} {rest : List Oper} {T : St → Prop} {st : St} {d : Nat} {ty : TypeId} {pos : String} {aft : Array Edge} {f : Nat} {xs : Array Operand} {ats : Array TypeId} {args : List PV}

theorem E.callX (tt : Tab P) {c : XCt} (hH : XHolds P f c) (ha : rdArgs st xs.toList = some args) (hp : argsP st xs.toList = true) (hd : Nat.blt d st.n = true)
    (hk : c args st.x (fun X' m => wl false P ops tt.l T rest (({ st with x := X' } : St).put d (.p m)))) :
    W false P ops (⟨some d, .call { callee := .value (.func f), args := xs, argTypes := ats }, ty, pos, aft, none⟩ :: rest) T st := by
  have hd' : d < st.n := by simpa [Nat.blt_eq] using hd
  intro w0 a w Qr hs hT
  obtain ⟨L, cp, sz, ln, s⟩ := hs
  obtain ⟨hl, hall⟩ := s.rdArgsP _ _ hp ha
  have hA : ArgsR w (stab w0 st.rows st.x L w.heap) args (xs.map a.eval) := ⟨by simp [hl], fun i m u hm hu => hall i m u hm (by simpa using hu)⟩
  simp only [wpList, wanted_none, if_true]
  refine .inl ?_
  unfold Oper.wp
  rw [call_run hH.1 a.eval rfl _ rfl]
  simp only [Oper.upon]
  refine (hH.2 _ _ _ hk w (stab w0 st.rows st.x L w.heap) _ (fun b o h => (s.frag b o h).1) (fun b hb => hb.2.1.2) hA).mono ?_
  rintro e w' ⟨v, X', m, rfl, hK, hdom, hX', hm, hun⟩
  have s' := s.wroteXs (w' := w') hdom hun.os hun.tape hun.output hun.size hX' (fun c hc hcx => hun.block c hc (fun h => h hcx))
  exact wl_sound tt hK w0 _ w' Qr ⟨L, cp, sz, ln, s'.put (d := d) hd' (m := .p m) (VR.of_val_mk hm)⟩ hT
end
end Go.Lo
namespace Go.Lo
open Go.RowKit

structure Dn where
  b : Nat
  c : Nat
  C : Array Value
  l : List Int
def Dn.hdr (d : Dn) : Value := .slice (some ⟨d.b, 0, none⟩) d.l.length d.c
def rawE (ds : List Dn) : List (List PV) := ds.map fun d => [.raw d.hdr]
def deepE (ll : List (List Int)) : List (List PV) := ll.map fun l => [.view 1 (l.map encN)]
def InX (e : Nat) (X : Frag) (ds : List Dn) : Prop := ∀ d ∈ ds, X d.b = some (.cells d.C e (0, 0)) ∧ Nums d.C d.c d.l

theorem Nums.view {h : Array Obj} {S : Nat → Prop} {b c e : Nat} {l : List Int} {C : Array Value} (hb : h[b]? = some (.cells C e (0, 0))) (g : Nums C c l) (hS : S b) : VR h S (.view 1 (l.map encN)) (.slice (some ⟨b, 0, none⟩) l.length c) := by
  have hget : ∀ (i : Nat) x (j : Nat) m, (l.map encN)[i]? = some x → x[j]? = some m → ∃ v, l[i]? = some v ∧ j = 0 ∧ m = .int .i64 v := fun i x j m hx hm => by
    simp only [List.getElem?_map, Option.map_eq_some_iff] at hx
    obtain ⟨v, hv, rfl⟩ := hx
    match j, hm with
    | 0, hm => exact ⟨v, hv, rfl, by simpa [encN] using hm.symm⟩
    | n + 1, hm => simp [encN] at hm
  refine VR.view (fun i _ => .int .i64 (l.getD i 0)) (by simp) g.le hS (fun x hx => by obtain ⟨v, _, rfl⟩ := List.mem_map.1 hx; rfl) (fun i x j m hx hm => ?_) (fun i x j m hx hm => ?_)
  · obtain ⟨v, hv, rfl, rfl⟩ := hget i x j m hx hm
    have hgd : l.getD i 0 = v := by simp [hv]
    exact ⟨by simp [hcell, hb, g.at' i v hv, hv], rfl⟩
  · obtain ⟨v, hv, rfl, rfl⟩ := hget i x j m hx hm
    have hgd : l.getD i 0 = v := by simp [hv]
    rw [hgd]; exact VR.int

theorem VR.deep {h : Array Obj} {S S' : Nat → Prop} {ds : List Dn} {e : Nat} {v : Value} (hv : VR h S (.view 1 (rawE ds)) v) (hS : ∀ b, S b → S' b) (hd : ∀ d ∈ ds, S' d.b ∧ h[d.b]? = some (.cells d.C e (0, 0)) ∧ Nums d.C d.c d.l) :
    VR h S' (.view 1 (deepE (ds.map (·.l)))) v := by
  generalize hels : rawE ds = els at hv
  generalize hz : (1 : Nat) = z at hv
  cases hv with
  | view0 =>
    have : ds = [] := by
      cases ds with
      | nil => rfl
      | cons d r => simp [rawE] at hels
    subst this; exact .view0
  | @view sz els b off n c U hn hc hS0 hsz hU hV =>
    subst hz
    subst hels
    have hget : ∀ (i : Nat) x (j : Nat) m, (deepE (ds.map (·.l)))[i]? = some x → x[j]? = some m → ∃ d, ds[i]? = some d ∧ j = 0 ∧ m = .view 1 (d.l.map encN) := fun i x j m hx hm => by
      simp only [deepE, List.getElem?_map, Option.map_eq_some_iff] at hx
      obtain ⟨l, ⟨d, hdd, rfl⟩, rfl⟩ := hx
      match j, hm with
      | 0, hm => exact ⟨d, hdd, rfl, by simpa using hm.symm⟩
      | n + 1, hm => simp at hm
    have hraw : ∀ (i : Nat) d, ds[i]? = some d → (rawE ds)[i]? = some [.raw d.hdr] := fun i d hd => by simp [rawE, hd]
    refine VR.view U (by rw [← hn]; simp [deepE, rawE]) hc (hS _ hS0) (fun x hx => by obtain ⟨l, _, rfl⟩ := List.mem_map.1 hx; rfl) (fun i x j m hx hm => ?_) (fun i x j m hx hm => ?_)
    · obtain ⟨d, hdd, rfl, rfl⟩ := hget i x j m hx hm
      exact hU i _ 0 _ (hraw i d hdd) rfl
    · obtain ⟨d, hdd, rfl, rfl⟩ := hget i x j m hx hm
      have h1 := hV i _ 0 _ (hraw i d hdd) rfl
      have h2 : U i 0 = d.hdr := VR.of_val (u := d.hdr) rfl h1
      obtain ⟨q1, q2, q3⟩ := hd d (List.mem_of_getElem? hdd)
      rw [h2]; exact q3.view q2 q1

def Deep (st : St) (x : Operand) (m : PV) : Prop :=
  ∀ w0 a w L cp sz ln, SRL w0 st a w L cp sz ln → VR w.heap (fun b => b < w.heap.size ∧ True) m (a.eval x)
def Deeps (st : St) : List Operand → List PV → Prop
  | [], [] => True
  | x :: xs, m :: ms => Deep st x m ∧ Deeps st xs ms
  | _, _ => False

section
variable {q : Bool} {P : Program} {ops : Array Oper} {rest : List Oper} {T : St → Prop} {st : St} {d : Nat} {ty : TypeId} {pos : String} {aft : Array Edge} {f : Nat} {xs : Array Operand} {ats : Array TypeId} {args : List PV} {c : Ct}

theorem Deep.rd {x : Operand} {m : PV} (h : rdA st (st.ev x) = some m) : Deep st x m := fun w0 a w L cp sz ln s => s.rd (s.ev x) h
theorem Deep.nest {x : Operand} {ds : List Dn} {e : Nat} (hx : st.ev x = .p (.view 1 (rawE ds))) (h : InX e st.x ds) : Deep st x (.view 1 (deepE (ds.map (·.l)))) := fun w0 a w L cp sz ln s => by
  refine VR.deep (e := e) (s.ev_p hx) (fun b hb => ⟨hb.1, trivial⟩) (fun d hd => ?_)
  obtain ⟨h1, h2⟩ := h d hd
  obtain ⟨f1, _⟩ := s.frag _ _ h1
  exact ⟨⟨lt_of_get f1, trivial⟩, f1, h2⟩

theorem Deeps.get {w0 : Bs} {a : Act} {w : World} {L cp sz ln : Nat → Nat} (s : SRL w0 st a w L cp sz ln) : ∀ (xs : List Operand) (ms : List PV), Deeps st xs ms → ms.length = xs.length ∧
    ∀ (i : Nat) m u, ms[i]? = some m → (xs.map a.eval)[i]? = some u → VR w.heap (fun b => b < w.heap.size ∧ True) m u
  | [], [], _ => ⟨rfl, fun i m u hm => by cases hm⟩
  | x :: xs, m :: ms, h => by
    obtain ⟨h1, h2⟩ := Deeps.get s xs ms h.2
    refine ⟨by simp [h1], fun i m' u hm hu => ?_⟩
    cases i with
    | zero => simp at hm hu; subst hm; subst hu; exact h.1 _ _ _ _ _ _ _ s
    | succ i => exact h2 i m' u (by simpa using hm) (by simpa using hu)
  | [], _ :: _, h => h.elim
  | _ :: _, [], h => h.elim

/-- A call that reads through known blocks. -/
theorem E.callD (tt : Tab P) (hH : Holds P f c) (ha : Deeps st xs.toList args) (hd : Nat.blt d st.n = true)
    (hk : c args (fun rs => ∃ m v, rs = [.p m] ∧ m.val = some v ∧ wl q P ops tt.l T rest (st.put d (.p m)))) :
    W q P ops (⟨some d, .call { callee := .value (.func f), args := xs, argTypes := ats }, ty, pos, aft, none⟩ :: rest) T st := by
  have hd' : d < st.n := by simpa [Nat.blt_eq] using hd
  obtain ⟨rs, hro, m, v, hrs, hv, hK⟩ := hH.2 _ _ hk
  subst hrs
  have hcall : ∀ (w0 : Bs) (a : Act) (w w' : World) (L cp sz ln : Nat → Nat), SRL w0 st a w L cp sz ln → Ext w w' →
      Calls P f (xs.map a.eval) w' (fun e w'' => e = .returned v ∧ Ext w w'') := by
    intro w0 a w w' L cp sz ln s hex
    have s' := s.grow hex
    obtain ⟨hl, hall⟩ := Deeps.get s' _ _ ha
    have hA : ArgsR w' (fun _ => True) args (xs.map a.eval) := ⟨by simp [hl], fun i m u hm hu => hall i m u hm (by simpa using hu)⟩
    refine (hro w' _ _ hA).mono ?_
    rintro e w'' ⟨u, rfl, ⟨bl, cp, hr⟩, hex'⟩
    have := hr.one _ rfl
    simp only [R1] at this
    have := VR.of_val hv this
    subst this
    exact ⟨rfl, hex.trans hex'⟩
  cases q
  · intro w0 a w Qr hs hT
    obtain ⟨L, cp, sz, ln, s⟩ := hs
    simp only [wpList, wanted_none, if_true]
    refine .inl ?_
    unfold Oper.wp
    rw [call_run hH.1 a.eval rfl _ rfl]
    simp only [Oper.upon]
    refine (hcall w0 a w w L cp sz ln s (Ext.refl w)).mono ?_
    rintro e w' ⟨rfl, hex⟩
    exact wl_sound tt hK w0 _ w' Qr (SR.put (s.grow hex) hd' (VR.of_val_mk hv)) hT
  · intro w0 a w Kr hs hT
    obtain ⟨L, cp, sz, ln, s⟩ := hs
    simp only [wpQuiet, wanted_none, if_true]
    refine ⟨v, fun w' hw' => ?_, wl_sound tt hK w0 _ w Kr (SR.put s hd' (VR.of_val_mk hv)) hT⟩
    unfold Oper.quietAt
    rw [call_run hH.1 a.eval rfl _ rfl]
    exact ⟨rfl, hcall w0 a w w' L cp sz ln s hw'⟩
end
end Go.Lo
namespace Go.Lo
open Go.RowKit

def fragU (e : Nat) : List Dn → Frag → Frag
  | [], x => x
  | d :: ds, x => (fragU e ds x).upd d.b (.cells d.C e (0, 0))
theorem fragU_ne {e : Nat} {x : Frag} {c : Nat} : ∀ (ds : List Dn), (∀ d ∈ ds, c ≠ d.b) → fragU e ds x c = x c
  | [], _ => rfl
  | d :: ds, h => by
    simp only [fragU]
    rw [Frag.upd_ne _ _ (h d (by simp))]
    exact fragU_ne ds (fun d' hd => h d' (by simp [hd]))
theorem fragU_some {e : Nat} {x : Frag} {c : Nat} {o : Obj} : ∀ (ds : List Dn), fragU e ds x c = some o → (∃ d ∈ ds, d.b = c ∧ o = .cells d.C e (0, 0)) ∨ ((∀ d ∈ ds, c ≠ d.b) ∧ x c = some o)
  | [], h => .inr ⟨fun d hd => (by cases hd), h⟩
  | d :: ds, h => by
    simp only [fragU] at h
    by_cases hc : c = d.b
    · subst hc
      rw [Frag.upd_same] at h; cases h
      exact .inl ⟨d, by simp, rfl, rfl⟩
    · rw [Frag.upd_ne _ _ hc] at h
      rcases fragU_some ds h with ⟨d', h1, h2⟩ | ⟨h1, h2⟩
      · exact .inl ⟨d', by simp [h1], h2⟩
      · refine .inr ⟨fun d' hd => ?_, h2⟩
        rcases List.mem_cons.1 hd with rfl | hd
        · exact hc
        · exact h1 d' hd
theorem fragU_in {e : Nat} {x : Frag} : ∀ (ds : List Dn), (ds.map (·.b)).Nodup → (∀ d ∈ ds, Nums d.C d.c d.l) → InX e (fragU e ds x) ds
  | [], _, _ => fun d hd => by cases hd
  | d :: ds, hn, hN => fun d' hd => by
    simp only [List.map_cons, List.nodup_cons] at hn
    refine ⟨?_, hN d' hd⟩
    rcases List.mem_cons.1 hd with rfl | hd'
    · exact Frag.upd_same _ _ _
    · simp only [fragU]
      rw [Frag.upd_ne _ _ (fun e1 => hn.1 (by rw [← e1]; exact List.mem_map.2 ⟨d', hd', rfl⟩))]
      exact (fragU_in ds hn.2 (fun d2 h2 => hN d2 (by simp [h2])) d' hd').1

theorem SRL.newXs {st : St} {w0 : Bs} {a : Act} {w w' : World} {L cp sz ln : Nat → Nat} (s : SRL w0 st a w L cp sz ln) (hex : Ext w w') {ds : List Dn} {e : Nat} (hd : ∀ d ∈ ds, w.heap.size ≤ d.b ∧ w'.heap[d.b]? = some (.cells d.C e (0, 0))) :
    SRL w0 { st with x := fragU e ds st.x } a w' L cp sz ln := by
  have hold : ∀ c, c < w.heap.size → fragU e ds st.x c = st.x c := fun c hc => fragU_ne ds (fun d hdd e1 => by have := (hd d hdd).1; omega)
  have hb : ∀ b, stab w0 st.rows st.x L w.heap b → stab w0 st.rows (fragU e ds st.x) L w'.heap b ∧ w'.heap[b]? = w.heap[b]? := fun b hb =>
    ⟨⟨Nat.lt_of_lt_of_le hb.1 hex.size, ⟨hb.2.1.1, by rw [hold b hb.1]; exact hb.2.1.2⟩, hb.2.2⟩, hex.block b hb.1⟩
  refine ⟨s.defers, s.size, fun t => (s.tmps t).mono hb, fun k r hr => ⟨(s.rows k r hr).1.mono hb (hex.block _ (s.rows k r hr).1.lt), (s.rows k r hr).2⟩, s.inj, s.keys, s.below.grow hex, s.pos, s.pin, fun b o hx => ?_⟩
  rcases fragU_some ds hx with ⟨d, h1, rfl, rfl⟩ | ⟨h1, h2⟩
  · obtain ⟨g1, g2⟩ := hd d h1
    exact ⟨g2, .inl (Nat.le_trans s.below.size g1), fun k hk e1 => by have := s.live_lt (st := st) hk; omega⟩
  · obtain ⟨f1, f2, f3⟩ := s.frag b o h2
    exact ⟨(hex.block b (lt_of_get f1)).trans f1, f2, f3⟩

theorem RowR.raw {h : Array Obj} {S S' : Nat → Prop} {b cp te : Nat} {ds : List Dn} (g : RowR h S b cp ⟨te, 1, rawE ds⟩) : RowR h S' b cp ⟨te, 1, rawE ds⟩ := by
  obtain ⟨C, h1, h2, h3, h4, h5, h6⟩ := g
  refine ⟨C, h1, h2, h3, h4, h5, fun i x j m hx hm => ?_⟩
  obtain ⟨u, hu, ho, hv⟩ := h6 i x j m hx hm
  obtain ⟨d, hd, rfl⟩ := List.mem_map.1 (List.mem_of_getElem? hx)
  match j, hm with
  | 0, hm =>
    have : m = .raw d.hdr := by simpa using hm.symm
    subst this
    have : u = d.hdr := VR.of_val (u := d.hdr) rfl hv
    subst this
    exact ⟨_, hu, ho, VR.raw⟩
  | n + 1, hm => simp at hm

def NestR (w w' : World) (te e : Nat) : Option (List (List Int)) → Value → Prop
  | none, v => v = .slice none 0 0
  | some ll, v => ∃ b cp ds, ds.map (·.l) = ll ∧ (ds.map (·.b)).Nodup ∧ (∀ d ∈ ds, w.heap.size ≤ d.b ∧ w'.heap[d.b]? = some (.cells d.C e (0, 0)) ∧ Nums d.C d.c d.l ∧ d.b ≠ b) ∧
      w.heap.size ≤ b ∧ RowR w'.heap (fun _ => False) b cp ⟨te, 1, rawE ds⟩ ∧ v = .slice (some ⟨b, 0, none⟩) ds.length cp
def NO (P : Program) (f : FuncId) (te e : Nat) (args : List PV) (o : Option (List (List Int))) (m : PV) : Prop :=
  ∀ w S vals, ArgsR w S args vals → Calls P f vals w (fun ex w' => ∃ v1 v2, ex = .returned (.tuple #[v1, v2]) ∧ m.val = some v2 ∧ NestR w w' te e o v1 ∧ Ext w w')
abbrev NCt := List PV → (Option (List (List Int)) → PV → Prop) → Prop
def NHolds (P : Program) (f : FuncId) (te e : Nat) (c : NCt) : Prop := CallOk P f ∧ ∀ args K, c args K → ∃ o m, NO P f te e args o m ∧ K o m

def nestSt (te e : Nat) (st : St) (t0 : Nat) : Option (List (List Int)) → Prop
  | none => st.get t0 = .p .nil
  | some ll => ∃ k ds, st.get t0 = .own k ∧ look st.rows k = some ⟨te, 1, rawE ds⟩ ∧ InX e st.x ds ∧ ds.map (·.l) = ll ∧ (ds.map (·.b)).Nodup
def FinN (te e : Nat) (rl : List ResultVar) (o : Option (List (List Int))) (m : PV) : Exit → St → Prop
  | .ret, st => ∃ t0 t1, rl = [.tmp t0, .tmp t1] ∧ st.get t1 = .p m ∧ m.val.isSome = true ∧ nestSt te e st t0 o
  | .normal, st => ∃ t0 t1, rl = [.tmp t0, .tmp t1] ∧ st.get t1 = .p m ∧ m.val.isSome = true ∧ nestSt te e st t0 o
  | _, _ => False

theorem NHolds.mk {P : Program} {f : Nat} {fn : Func} {code : Code} {N te e : Nat} {rl : List ResultVar} {c : NCt} (hf : P.funcs[f]? = some fn) (hb : fn.body = some code) (hn : fn.ntmps = N) (hr : fn.results = rl.toArray)
    (hname : (fn.name == "runtime.NumGoroutine") = false) (h : ∀ args K, c args K → args.length ≤ N ∧ ∃ o m, K o m ∧ Wc P code (FinN te e rl o m) (init N args)) : NHolds P f te e c := by
  refine ⟨⟨fn, hf, hname, by rw [hb]; rfl⟩, fun args K hc => ?_⟩
  obtain ⟨hN, o, m, hK, hW⟩ := h args K hc
  refine ⟨o, m, fun w S vals hA => ?_, hK⟩
  refine calls_of_wp hf hb ?_
  rw [hn]
  refine hW _ _ w _ (SR.init hA hN) fun ex st' a' w' hQ hs => ?_
  have key : (∃ t0 t1, rl = [.tmp t0, .tmp t1] ∧ st'.get t1 = .p m ∧ m.val.isSome = true ∧ nestSt te e st' t0 o) → a'.defers = [] ∧ ∃ v, (results fn a'.tmps).run P w' = .ok v w' ∧ ∃ v1 v2, v = .tuple #[v1, v2] ∧ m.val = some v2 ∧ NestR w w' te e o v1 ∧ Ext w w' := by
    rintro ⟨t0, t1, rfl, hg1, hm, hne⟩
    obtain ⟨L, cp, sz, ln, s⟩ := hs
    obtain ⟨u, hu⟩ := Option.isSome_iff_exists.1 hm
    have hv := s.tmps t1
    rw [hg1] at hv
    have hval := VR.of_val hu hv
    have hex : Ext w w' := ⟨s.below.os, s.below.tape, s.below.output, s.below.size, fun b hb => s.below.block b hb (fun h => h)⟩
    have hrun := results_run (P := P) (fn := fn) hr (a := a') (w := w') (vs := [a'.tmps.getD t0 Go.undef, u]) rfl (fun i x v hx hv' => by
      match i, hx, hv' with
      | 0, hx, hv' => simp at hx hv'; subst hx; subst hv'; simp [res1]
      | 1, hx, hv' => simp at hx hv'; subst hx; subst hv'; simp [res1, ← hval])
    refine ⟨s.defers, _, hrun, _, u, rfl, hu, ?_, hex⟩
    have h0 := s.tmps t0
    cases o with
    | none =>
      have hn0 : st'.get t0 = .p .nil := hne
      rw [hn0] at h0
      exact VR.of_val (u := .slice none 0 0) rfl h0
    | some ll =>
      obtain ⟨k, ds, q1, q2, q3, q4, q5⟩ := hne
      rw [q1] at h0
      obtain ⟨g1, g2, g3, g4⟩ := s.rows k _ q2
      have hk : st'.live k := by simp [St.live, liveIn, q2]
      refine ⟨L k, cp k, ds, q4, q5, fun d hd => ?_, g2.resolve_right (fun h => h.2), g1.raw, ?_⟩
      · obtain ⟨x1, x2⟩ := q3 d hd
        obtain ⟨f1, f2, f3⟩ := s.frag _ _ x1
        exact ⟨f2.resolve_right (fun h => h), f1, x2, fun e1 => f3 k hk e1.symm⟩
      · rw [h0.1, g4]; simp [rawE]
  cases ex with
  | ret =>
    obtain ⟨h1, v, h2, h3⟩ := key hQ
    obtain ⟨v1, v2, rfl, h4⟩ := h3
    exact ⟨h1, _, h2, v1, v2, rfl, h4⟩
  | normal =>
    obtain ⟨h1, v, h2, h3⟩ := key hQ
    obtain ⟨v1, v2, rfl, h4⟩ := h3
    exact ⟨h1, _, h2, v1, v2, rfl, h4⟩
  | exit id => exact hQ.elim
  | goto l => exact hQ.elim
  | panic ch => exact hQ.elim
  | outgrown => exact hQ.elim
end Go.Lo
namespace Go.Lo
open Go.RowKit

theorem RowR.view {h : Array Obj} {S : Nat → Prop} {b cp : Nat} {r : Row} (g : RowR h S b cp r) (hS : S b) : VR h S (.view r.sz r.els) (.slice (some ⟨b, 0, none⟩) r.els.length cp) := by
  obtain ⟨C, h1, h2, h3, h4, h5, h6⟩ := g
  have hget : ∀ (i : Nat) e (j : Nat) m, r.els[i]? = some e → e[j]? = some m → ∃ u, hcell h b (0 + (i * r.sz + j)) = some u ∧ u.oneCell' = true ∧ VR h S m u := by
    intro i e j m he hm
    obtain ⟨u, hu, h1', hv⟩ := h6 i e j m he hm
    exact ⟨u, by simp [hcell, h1, hu], h1', hv⟩
  refine VR.view (fun i j => (hcell h b (0 + (i * r.sz + j))).getD Go.undef) rfl h3 hS h5 (fun i e j m he hm => ?_) (fun i e j m he hm => ?_)
  · obtain ⟨u, hu, h1', hv⟩ := hget i e j m he hm
    simp only [hu, Option.getD_some]; exact ⟨trivial, h1'⟩
  · obtain ⟨u, hu, h1', hv⟩ := hget i e j m he hm
    simp only [hu, Option.getD_some]; exact hv

theorem MR.two {nk : Nat} {h : Array Obj} {S : Nat → Prop} {L cp sz ln : Nat → Nat} {m1 m2 : PV} {v1 v2 : Value} (h1 : VR h S m1 v1) (h2 : VR h S m2 v2) : MR nk h S L cp sz ln (.tup [.p m1, .p m2]) (.tuple #[v1, v2]) :=
  ⟨#[v1, v2], rfl, rfl, fun i x u hx hu => by
    match i, hx, hu with
    | 0, hx, hu => simp at hx hu; subst hx; subst hu; exact h1
    | 1, hx, hu => simp at hx hu; subst hx; subst hu; exact h2⟩

section
variable {P : Program} {ops : Array Oper} {rest : List Oper} {T : St → Prop} {st : St} {d : Nat} {ty : TypeId} {pos : String} {aft : Array Edge} {f : Nat} {xs : Array Operand} {ats : Array TypeId} {args : List PV} {c : NCt} {te e : Nat}

def nQ (P : Program) (ops : Array Oper) (tt : Tr) (T : St → Prop) (rest : List Oper) (st : St) (d e : Nat) : Option (List (List Int)) → PV → Prop
  | none, m => wl false P ops tt T rest (st.put d (.tup [.p .nil, .p m]))
  | some ll, m => ∀ ds, ds.map (·.l) = ll → (ds.map (·.b)).Nodup → (∀ x ∈ ds, st.x x.b = none) → InX e (fragU e ds st.x) ds →
      wl false P ops tt T rest (({ st with x := fragU e ds st.x } : St).put d (.tup [.p (.view 1 (rawE ds)), .p m]))
def nQF (P : Program) (ops : Array Oper) (tt : Tr) (T : St → Prop) (rest : List Oper) (st : St) (d : Nat) : Option (List (List Int)) → PV → Prop
  | none, m => wl false P ops tt T rest (st.put d (.tup [.p .nil, .p m]))
  | some ll, m => wl false P ops tt T rest (st.put d (.tup [.p (.view 1 (deepE ll)), .p m]))

theorem E.callN (tt : Tab P) (hH : NHolds P f te e c) (ha : rdArgs st xs.toList = some args) (hd : Nat.blt d st.n = true) (hk : c args (nQ P ops tt.l T rest st d e)) :
    W false P ops (⟨some d, .call { callee := .value (.func f), args := xs, argTypes := ats }, ty, pos, aft, none⟩ :: rest) T st := by
  have hd' : d < st.n := by simpa [Nat.blt_eq] using hd
  intro w0 a w Qr hs hT
  obtain ⟨L, cp, sz, ln, s⟩ := hs
  obtain ⟨o, m, hro, hK⟩ := hH.2 _ _ hk
  obtain ⟨hl, hall⟩ := s.rdArgs _ _ ha
  have hA : ArgsR w (fun _ => True) args (xs.map a.eval) := ⟨by simp [hl], fun i m u hm hu => hall i m u hm (by simpa using hu)⟩
  simp only [wpList, wanted_none, if_true]
  refine .inl ?_
  unfold Oper.wp
  rw [call_run hH.1 a.eval rfl _ rfl]
  simp only [Oper.upon]
  refine (hro w _ _ hA).mono ?_
  rintro ex w' ⟨v1, v2, rfl, hm, hN, hex⟩
  cases o with
  | none =>
    have hN' : v1 = .slice none 0 0 := hN
    subst hN'
    exact wl_sound tt hK w0 _ w' Qr ⟨L, cp, sz, ln, (s.grow hex).put hd' (MR.two VR.nil (VR.of_val_mk hm))⟩ hT
  | some ll =>
    obtain ⟨b, cb, ds, q1, q2, q3, q4, q5, rfl⟩ := hN
    have s' := s.newXs (e := e) hex (ds := ds) (fun x hx => ⟨(q3 x hx).1, (q3 x hx).2.1⟩)
    have hin := fragU_in (e := e) (x := st.x) ds q2 (fun x hx => (q3 x hx).2.2.1)
    have hst : stab w0 st.rows (fragU e ds st.x) L w'.heap b := ⟨q5.lt, ⟨.inr (Nat.le_trans s.below.size q4), by rw [fragU_ne ds (fun x hx e1 => (q3 x hx).2.2.2 e1.symm)]; exact s.frag_none q4⟩, fun k hk => by have := s.live_lt (st := st) hk; omega⟩
    have hv : VR w'.heap (stab w0 st.rows (fragU e ds st.x) L w'.heap) (.view 1 (rawE ds)) (.slice (some ⟨b, 0, none⟩) ds.length cb) := by
      have := (q5.raw (S' := stab w0 st.rows (fragU e ds st.x) L w'.heap)).view hst
      simpa [rawE] using this
    exact wl_sound tt (hK ds q1 q2 (fun x hx => s.frag_none (q3 x hx).1) hin) w0 _ w' Qr ⟨L, cp, sz, ln, s'.put (d := d) hd' (MR.two hv (VR.of_val_mk hm))⟩ hT

theorem E.callNF (tt : Tab P) (hH : NHolds P f te e c) (ha : rdArgs st xs.toList = some args) (hd : Nat.blt d st.n = true) (hk : c args (nQF P ops tt.l T rest st d)) :
    W false P ops (⟨some d, .call { callee := .value (.func f), args := xs, argTypes := ats }, ty, pos, aft, none⟩ :: rest) T st := by
  have hd' : d < st.n := by simpa [Nat.blt_eq] using hd
  intro w0 a w Qr hs hT
  obtain ⟨L, cp, sz, ln, s⟩ := hs
  obtain ⟨o, m, hro, hK⟩ := hH.2 _ _ hk
  obtain ⟨hl, hall⟩ := s.rdArgs _ _ ha
  have hA : ArgsR w (fun _ => True) args (xs.map a.eval) := ⟨by simp [hl], fun i m u hm hu => hall i m u hm (by simpa using hu)⟩
  simp only [wpList, wanted_none, if_true]
  refine .inl ?_
  unfold Oper.wp
  rw [call_run hH.1 a.eval rfl _ rfl]
  simp only [Oper.upon]
  refine (hro w _ _ hA).mono ?_
  rintro ex w' ⟨v1, v2, rfl, hm, hN, hex⟩
  have s' := s.grow hex
  cases o with
  | none =>
    have hN' : v1 = .slice none 0 0 := hN
    subst hN'
    exact wl_sound tt hK w0 _ w' Qr ⟨L, cp, sz, ln, s'.put hd' (MR.two VR.nil (VR.of_val_mk hm))⟩ hT
  | some ll =>
    obtain ⟨b, cb, ds, rfl, q2, q3, q4, q5, rfl⟩ := hN
    have hst : ∀ x, w.heap.size ≤ x → x < w'.heap.size → stab w0 st.rows st.x L w'.heap x := fun x h1 h2 =>
      ⟨h2, ⟨.inr (Nat.le_trans s.below.size h1), s.frag_none h1⟩, fun k hk => by have := s.live_lt (st := st) hk; omega⟩
    have hv : VR w'.heap (stab w0 st.rows st.x L w'.heap) (.view 1 (rawE ds)) (.slice (some ⟨b, 0, none⟩) ds.length cb) := by
      have := (q5.raw (S' := stab w0 st.rows st.x L w'.heap)).view (hst b q4 q5.lt)
      simpa [rawE] using this
    have hv2 := hv.deep (S' := stab w0 st.rows st.x L w'.heap) (e := e) (fun _ h => h) (fun x hx => ⟨hst _ (q3 x hx).1 (lt_of_get (q3 x hx).2.1), (q3 x hx).2.1, (q3 x hx).2.2.1⟩)
    exact wl_sound tt hK w0 _ w' Qr ⟨L, cp, sz, ln, s'.put (d := d) hd' (MR.two hv2 (VR.of_val_mk hm))⟩ hT

theorem E.mkN {fn : Func} {code : Code} {N : Nat} {rl : List ResultVar} (tt : Tab P) (hf : P.funcs[f]? = some fn) (hb : fn.body = some code) (hn : fn.ntmps = N) (hr : fn.results = rl.toArray)
    (hname : (fn.name == "runtime.NumGoroutine") = false) (h : ∀ args K, c args K → args.length ≤ N ∧ ∃ o m, K o m ∧ wcl P tt.l code (FinN te e rl o m) (init N args)) : NHolds P f te e c :=
  NHolds.mk hf hb hn hr hname fun args K hc => let ⟨h1, o, m, h2, h3⟩ := h args K hc; ⟨h1, o, m, h2, wcl_sound tt code h3⟩
end
end Go.Lo
namespace Go.Lo
open Go.RowKit

def Reads (P : Program) (t : TypeId) (n : Nat) (R : List PV → Prop) : Prop :=
  ∀ (H : Type) (enc : TypeId × Value → H) (w : World) (fuel : Nat) (cs : List Value) (x : DataW H × List MemPlace), DataW.trod enc P w 0 (fun _ => true) true fuel t cs = some x →
    ∃ pvs : List PV, pvs.length = n ∧ cs.length = n ∧ (∀ u ∈ cs, u.oneCell' = true) ∧ (∀ (i : Nat) m u, pvs[i]? = some m → cs[i]? = some u → VR w.heap (fun b => b < w.heap.size) m u) ∧ R pvs

theorem one_vr {h : Array Obj} {S : Nat → Prop} {p : PV} {v : Value} (hv : VR h S p v) : ∀ (i : Nat) m u, [p][i]? = some m → [v][i]? = some u → VR h S m u := fun i m u hm hu => by
  match i, hm, hu with
  | 0, hm, hu => simp at hm hu; subst hm; subst hu; exact hv

variable {P : Program}

theorem reads_int {t : TypeId} (ht : P.underlying t = some (.int .i64)) : Reads P t 1 (fun pvs => ∃ n : Int, pvs = [I n] ∧ in64 n) := fun H enc w fuel cs x h => by
  obtain ⟨n, rfl, _, hw⟩ := DataW.trod_int ht h
  refine ⟨[I n], rfl, rfl, (fun u hu => by simp at hu; subst hu; rfl), one_vr .int, n, rfl, ?_⟩
  simp [Lit.wf, IntKind.min, IntKind.max, IntKind.signed, IntKind.bits] at hw
  unfold in64
  omega

theorem reads_str {t : TypeId} (ht : P.underlying t = some .string) : Reads P t 1 (fun pvs => ∃ s : ByteArray, pvs = [.str s] ∧ (s.size : Int) ≤ 9223372036854775807) := fun H enc w fuel cs x h => by
  obtain ⟨s, rfl, _, hw⟩ := DataW.trod_string ht h
  refine ⟨[.str s], rfl, rfl, (fun u hu => by simp at hu; subst hu; rfl), one_vr .str, s, rfl, ?_⟩
  unfold maxLen at hw
  omega

theorem cells?_get {w : World} {b off n : Nat} {cs : List Value} (h : w.cells? 0 ⟨b, off, none⟩ n = some cs) : cs.length = n ∧ ∀ (i : Nat) u, cs[i]? = some u → hcell w.heap b (off + i) = some u := by
  unfold World.cells? at h
  rw [if_pos (Nat.zero_le _)] at h
  have key : ∀ (l : List Nat) (cs : List Value), l.mapM (fun i => w.cell? (Addr.add ⟨b, off, none⟩ i)) = some cs → cs.length = l.length ∧ ∀ (i : Nat) u, cs[i]? = some u → ∃ k, l[i]? = some k ∧ hcell w.heap b (off + k) = some u := by
    intro l
    induction l with
    | nil => intro cs h; simp at h; subst h; exact ⟨rfl, fun i u hu => by cases hu⟩
    | cons k l ih =>
      intro cs h
      simp only [List.mapM_cons, Option.bind_eq_bind, Option.bind_eq_some_iff, Option.pure_def, Option.some.injEq] at h
      obtain ⟨v, hv, vs, hvs, rfl⟩ := h
      obtain ⟨h1, h2⟩ := ih vs hvs
      refine ⟨by simp [h1], fun i u hu => ?_⟩
      cases i with
      | zero =>
        simp at hu; subst hu
        rw [add_mk, cell?_eq] at hv
        exact ⟨k, rfl, hv⟩
      | succ i => obtain ⟨k', hk', hc⟩ := h2 i u (by simpa using hu); exact ⟨k', by simpa using hk', hc⟩
  obtain ⟨h1, h2⟩ := key _ _ h
  refine ⟨by simpa using h1, fun i u hu => ?_⟩
  obtain ⟨k, hk, hc⟩ := h2 i u hu
  have : k = i := by
    have hi := (List.getElem?_eq_some_iff.1 hk).1
    simp at hi
    simp [hi] at hk; exact hk.symm
  rwa [this] at hc

theorem reads_slice {t e z : Nat} {R : List PV → Prop} (ht : P.underlying t = some (.slice e)) (he : Reads P e z R) (hc : P.cellsOf e = z) (hz : 0 < z) :
    Reads P t 1 (fun pvs => ∃ els : List (List PV), pvs = [.view z els] ∧ (els.length : Int) ≤ 9223372036854775807 ∧ ∀ e ∈ els, R e) := fun H enc w fuel cs x h => by
  rcases Deep.open_slice ht h with ⟨rfl, _⟩ | ⟨a, len, cap, m, n, D, Pl, rfl, _, hl, hm, hmm, hx, hall⟩
  · exact ⟨[.view z []], rfl, rfl, (fun u hu => by simp at hu; subst hu; rfl), one_vr .view0, [], rfl, by simp, (fun e he => by cases he)⟩
  · simp only [if_true] at hmm
    subst hmm
    have hlen63 : (len : Int) ≤ 9223372036854775807 := by have h' := hm; unfold maxLen at h'; omega
    by_cases h0 : len = 0
    · subst h0
      exact ⟨[.view z []], rfl, rfl, (fun u hu => by simp at hu; subst hu; rfl), one_vr .view0, [], rfl, by simp, (fun e he => by cases he)⟩
    · rw [hc] at hall
      -- the address has no spot: its first cell is there
      have hspot : a.spot = none := by
        obtain ⟨cs', h1, _⟩ := hall 0 (by omega)
        unfold World.cells? at h1
        rw [if_pos (Nat.zero_le _)] at h1
        cases hs : a.spot with
        | none => rfl
        | some sp =>
          exfalso
          have hz1 : ∃ k, z = k + 1 := ⟨z - 1, by omega⟩
          obtain ⟨k, rfl⟩ := hz1
          rw [List.range_succ_eq_map] at h1
          simp only [List.mapM_cons, Option.bind_eq_bind, Option.bind_eq_some_iff] at h1
          obtain ⟨v, hv, _⟩ := h1
          simp [Addr.add, World.cell?, hs] at hv
          split at hv <;> simp_all
      obtain ⟨b, off, sp⟩ := a
      simp only at hspot
      subst hspot
      have hel : ∀ i, i < len → ∃ e : List PV, e.length = z ∧ R e ∧ ∃ U : Nat → Value, (∀ (j : Nat) m, e[j]? = some m → hcell w.heap b (off + (i * z + j)) = some (U j) ∧ (U j).oneCell' = true) ∧ ∀ (j : Nat) m, e[j]? = some m → VR w.heap (fun b => b < w.heap.size) m (U j) := by
        intro i hi
        obtain ⟨cs', h1, h2⟩ := hall i (by omega)
        rw [add_mk] at h1
        obtain ⟨c1, c2⟩ := cells?_get h1
        obtain ⟨pvs, p1, p2, p3, p4, p5⟩ := he H enc w n cs' _ h2
        refine ⟨pvs, p1, p5, fun j => cs'.getD j Go.undef, fun j m hj => ?_, fun j m hj => ?_⟩
        · have hjl : j < cs'.length := by rw [c1, ← p1]; exact (List.getElem?_eq_some_iff.1 hj).1
          have hg : cs'.getD j Go.undef = cs'[j] := by simp [hjl]
          show hcell w.heap b (off + (i * z + j)) = some (cs'.getD j Go.undef) ∧ (cs'.getD j Go.undef).oneCell' = true
          rw [hg]
          refine ⟨?_, p3 _ (List.getElem_mem hjl)⟩
          rw [← Nat.add_assoc]
          exact c2 j _ (by simp [hjl])
        · have hjl : j < cs'.length := by rw [c1, ← p1]; exact (List.getElem?_eq_some_iff.1 hj).1
          have hg : cs'.getD j Go.undef = cs'[j] := by simp [hjl]
          show VR w.heap (fun b => b < w.heap.size) m (cs'.getD j Go.undef)
          rw [hg]
          exact p4 j m _ hj (by simp [hjl])
      let E (i : Nat) : List PV := if hi : i < len then Classical.choose (hel i hi) else []
      have hE : ∀ i (hi : i < len), (E i).length = z ∧ R (E i) ∧ ∃ U : Nat → Value, (∀ (j : Nat) m, (E i)[j]? = some m → hcell w.heap b (off + (i * z + j)) = some (U j) ∧ (U j).oneCell' = true) ∧ ∀ (j : Nat) m, (E i)[j]? = some m → VR w.heap (fun b => b < w.heap.size) m (U j) := fun i hi => by
        have := Classical.choose_spec (hel i hi)
        simp only [E, hi, dif_pos]; exact this
      let V (i : Nat) : Nat → Value := if hi : i < len then Classical.choose (hE i hi).2.2 else fun _ => Go.undef
      have hV : ∀ i (hi : i < len), (∀ (j : Nat) m, (E i)[j]? = some m → hcell w.heap b (off + (i * z + j)) = some (V i j) ∧ (V i j).oneCell' = true) ∧ ∀ (j : Nat) m, (E i)[j]? = some m → VR w.heap (fun b => b < w.heap.size) m (V i j) := fun i hi => by
        have := Classical.choose_spec (hE i hi).2.2
        simp only [V, hi, dif_pos]; exact this
      have hbl : b < w.heap.size := by
        obtain ⟨e1, _⟩ := hV 0 (by omega)
        have hz0 : 0 < (E 0).length := by rw [(hE 0 (by omega)).1]; exact hz
        have := (e1 0 (E 0)[0] (by simp [hz0])).1
        unfold hcell at this
        rcases Nat.lt_or_ge b w.heap.size with h' | h'
        · exact h'
        · rw [Array.getElem?_eq_none h'] at this; cases this
      have hget : ∀ (i : Nat) e, ((List.range len).map E)[i]? = some e → i < len ∧ e = E i := fun i e he => by
        have hi := (List.getElem?_eq_some_iff.1 he).1
        simp at hi
        simp [hi] at he
        exact ⟨hi, he.symm⟩
      refine ⟨[.view z ((List.range len).map E)], rfl, rfl, (fun u hu => by simp at hu; subst hu; rfl), one_vr (VR.view (fun i j => V i j) (by simp) hl hbl (fun e he => ?_) (fun i e j m he hm => ?_) (fun i e j m he hm => ?_)), _, rfl, by simpa using hlen63, fun e he => ?_⟩
      · simp only [List.mem_map, List.mem_range] at he
        obtain ⟨i, hi, rfl⟩ := he
        exact (hE i hi).1
      · obtain ⟨hi, rfl⟩ := hget i e he
        exact (hV i hi).1 j m hm
      · obtain ⟨hi, rfl⟩ := hget i e he
        exact (hV i hi).2 j m hm
      · simp only [List.mem_map, List.mem_range] at he
        obtain ⟨i, hi, rfl⟩ := he
        exact (hE i hi).2.1

/-! ### Structs -/
def Segs : List (Nat × (List PV → Prop)) → List PV → Prop
  | [], pvs => pvs = []
  | (z, R) :: r, pvs => ∃ a b, pvs = a ++ b ∧ a.length = z ∧ R a ∧ Segs r b
def total : List (Nat × (List PV → Prop)) → Nat
  | [] => 0
  | (z, _) :: r => z + total r
/-- The fields, from the offset o on, are read so. -/
def FieldsOk (P : Program) : Nat → List Field → List (Nat × (List PV → Prop)) → Prop
  | _, [], [] => True
  | o, f :: fs, (z, R) :: r => f.offset = o ∧ P.cellsOf f.type = z ∧ Reads P f.type z R ∧ FieldsOk P (o + z) fs r
  | _, _, _ => False

theorem reads_fields {H : Type} {enc : TypeId × Value → H} {w : World} {n : Nat} {cs : List Value} : ∀ (fs : List Field) (l : List (Nat × (List PV → Prop))) (o : Nat), FieldsOk P o fs l → cs.length = o + total l →
    (∀ f ∈ fs, ∃ y, DataW.trod enc P w 0 (fun _ => true) true n f.type ((cs.drop f.offset).take (P.cellsOf f.type)) = some y) →
    ∃ pvs : List PV, pvs.length = total l ∧ (∀ u ∈ cs.drop o, u.oneCell' = true) ∧ (∀ (i : Nat) m u, pvs[i]? = some m → (cs.drop o)[i]? = some u → VR w.heap (fun b => b < w.heap.size) m u) ∧ Segs l pvs
  | [], [], o, _, hl, _ => by
    have hd : cs.drop o = [] := List.drop_eq_nil_of_le (by simp only [total] at hl; omega)
    exact ⟨[], rfl, (by rw [hd]; intro u hu; cases hu), (fun i m u hm => by cases hm), rfl⟩
  | f :: fs, (z, R) :: r, o, ⟨h1, h2, h3, h4⟩, hl, hy => by
    simp only [total] at hl
    obtain ⟨y, hy0⟩ := hy f (by simp)
    rw [h1, h2] at hy0
    obtain ⟨p, p1, p2, p3, p4, p5⟩ := h3 H enc w n _ y hy0
    obtain ⟨q, q1, q2, q3, q4⟩ := reads_fields fs r (o + z) h4 (by omega) (fun g hg => hy g (by simp [hg]))
    have hsplit : cs.drop o = (cs.drop o).take z ++ cs.drop (o + z) := by
      rw [← List.drop_drop]; exact (List.take_append_drop z (cs.drop o)).symm
    have htl : ((cs.drop o).take z).length = z := p2
    refine ⟨p ++ q, by simp [total, p1, q1], fun u hu => ?_, fun i m u hm hu => ?_, p, q, rfl, p1, p5, q4⟩
    · rw [hsplit, List.mem_append] at hu
      rcases hu with h | h
      · exact p3 u h
      · exact q2 u h
    · rw [hsplit] at hu
      rcases Nat.lt_or_ge i z with hi | hi
      · rw [List.getElem?_append_left (by omega)] at hm hu
        exact p4 i m u hm hu
      · rw [List.getElem?_append_right (by omega)] at hm hu
        rw [p1] at hm; rw [htl] at hu
        exact q3 _ m u hm hu
  | [], _ :: _, o, h, _, _ => h.elim
  | _ :: _, [], o, h, _, _ => h.elim

theorem reads_struct {t : TypeId} {fs : Array Field} (ht : P.underlying t = some (.struct fs)) (l : List (Nat × (List PV → Prop))) (hf : FieldsOk P 0 fs.toList l) (hc : P.cellsOf t = total l) : Reads P t (total l) (Segs l) := fun H enc w fuel cs x h => by
  obtain ⟨xs, n, _, _, h1, h2, h3⟩ := DataW.trod_struct ht h
  obtain ⟨pvs, p1, p2, p3, p4⟩ := reads_fields (P := P) (enc := enc) (w := w) (n := n) (cs := cs) fs.toList l 0 hf (by omega) (fun f hf' => by
    obtain ⟨i, hi, rfl⟩ := List.mem_iff_getElem.1 hf'
    have hi' : i < fs.size := by simpa using hi
    have := h3 i fs[i] (by simp [hi'])
    have hxi : i < xs.length := by omega
    exact ⟨xs[i], by simpa [hxi] using this⟩)
  simp only [List.drop_zero] at p2 p3
  exact ⟨pvs, p1, by omega, p2, p3, p4⟩

theorem Reads.mono {t n : Nat} {R R' : List PV → Prop} (h : Reads P t n R) (hr : ∀ p, R p → R' p) : Reads P t n R' := fun H enc w fuel cs x hx =>
  let ⟨p, h1, h2, h3, h4, h5⟩ := h H enc w fuel cs x hx; ⟨p, h1, h2, h3, h4, hr p h5⟩

/-- A list of elements that are each some x's cells. -/
theorem els_map {α : Type} {enc : α → List PV} {ok : α → Prop} : ∀ (els : List (List PV)), (∀ e ∈ els, ∃ x : α, e = enc x ∧ ok x) → ∃ xs : List α, els = xs.map enc ∧ ∀ x ∈ xs, ok x
  | [], _ => ⟨[], rfl, fun x hx => by cases hx⟩
  | e :: els, h => by
    obtain ⟨x, hx, ho⟩ := h e (by simp)
    obtain ⟨xs, hxs, hos⟩ := els_map els (fun e he => h e (by simp [he]))
    refine ⟨x :: xs, by simp [hx, hxs], fun y hy => ?_⟩
    cases hy with
    | head => exact ho
    | tail _ hy => exact hos y hy

theorem reads_list {α : Type} {enc : α → List PV} {ok : α → Prop} {t e z : Nat} (ht : P.underlying t = some (.slice e)) (he : Reads P e z (fun p => ∃ x : α, p = enc x ∧ ok x)) (hc : P.cellsOf e = z) (hz : 0 < z) :
    Reads P t 1 (fun pvs => ∃ xs : List α, pvs = [.view z (xs.map enc)] ∧ (xs.length : Int) ≤ 9223372036854775807 ∧ ∀ x ∈ xs, ok x) :=
  (reads_slice ht he hc hz).mono fun p ⟨els, hp, hl, hall⟩ => by
    obtain ⟨xs, hxs, ho⟩ := els_map els hall
    subst hxs
    exact ⟨xs, hp, by simpa using hl, ho⟩

/-- An argument of one cell. -/
theorem Reads.arg {H : Type} {enc : TypeId × Value → H} {W : World} {t : Nat} {R : List PV → Prop} {v : Value} {d : DataW H} {ps : List MemPlace} (h : Reads P t 1 R) (hv : DataW.Trod enc P W 0 (fun _ => true) true t v d ps) (h1 : v.cells = #[v]) :
    ∃ p, VR W.heap (fun b => b < W.heap.size) p v ∧ R [p] := by
  obtain ⟨fuel, hf⟩ := hv
  rw [h1] at hf
  obtain ⟨pvs, p1, p2, p3, p4, p5⟩ := h H enc W fuel _ _ hf
  obtain ⟨p, rfl⟩ := List.length_eq_one_iff.1 p1
  exact ⟨p, p4 0 p v rfl rfl, p5⟩

/-- An argument that is a struct. -/
theorem Reads.argS {H : Type} {enc : TypeId × Value → H} {W : World} {t z : Nat} {R : List PV → Prop} {v : Value} {d : DataW H} {ps : List MemPlace} (h : Reads P t z R) (hv : DataW.Trod enc P W 0 (fun _ => true) true t v d ps) (h1 : ∃ a, v = .agg a) :
    ∃ p, VR W.heap (fun b => b < W.heap.size) (.agg p) v ∧ R p := by
  obtain ⟨a, rfl⟩ := h1
  obtain ⟨fuel, hf⟩ := hv
  obtain ⟨pvs, p1, p2, p3, p4, p5⟩ := h H enc W fuel _ _ hf
  have p2' : a.size = z := by simpa [Value.cells] using p2
  exact ⟨pvs, .agg (by omega) (fun i c u hc hu => p4 i c u hc (by simpa [Value.cells] using hu)), p5⟩
end Go.Lo
