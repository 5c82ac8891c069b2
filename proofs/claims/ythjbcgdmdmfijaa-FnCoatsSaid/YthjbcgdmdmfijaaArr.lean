/- Contracts (Arr). -/
import Derived.Test.YthjbcgdmdmfijaaPm
set_option linter.unusedVariables false
set_option linter.unusedSimpArgs false
set_option maxRecDepth 100000
namespace Go.Lo
-- deps: Pm
open Go.RowKit in
theorem Tab.array {P : Program} (tt : Tab P) {t e z : Nat} {i : TyI} (h : tt.l.get t = some i) (ha : i.agg = true) (he : i.el = some (e, z)) : P.underlying t = some (.array i.len e) ∧ szOf P e = z := by
  obtain ⟨inf, d, h1, h2, h3, h4, h5, h6, h7, h8, _⟩ := ty_parts (tt.ty h)
  rw [ha] at h5; rw [he] at h7
  cases d with
  | array n e' => cases h7; rw [h2, h8]; exact ⟨rfl, rfl⟩
  | slice e' => cases h5
  | _ => cases h7
theorem info_of_sz {P : Program} {e z : Nat} (h : szOf P e = z) (hz : Nat.beq z 0 = false) : ∃ inf, P.info? e = some inf ∧ inf.size = z := by
  unfold szOf at h
  cases hi : P.info? e with
  | none => rw [hi] at h; simp at h; subst h; cases hz
  | some inf => rw [hi] at h; exact ⟨inf, rfl, by simpa using h⟩
open Go.RowKit in
theorem rd_buildA {P : Program} {st : St} {t ty e z : Nat} {parts : Array (Nat × Operand)} {i : TyI} {F : List PV} (tt : Tab P) (h : tt.l.get t = some i) (ha : i.agg = true) (he : i.el = some (e, z)) (hn : (Nat.beq i.zero.length i.sz && !Nat.beq i.sz 0 && !Nat.beq z 0) = true)
    (hF : fillL (fun k => some (k * z, z)) st i.zero parts.toList = some F) : ReadOp P (.build t parts) ty st (.p (.agg F)) := fun w0 a w L cp sz ln s => by
  simp only [Bool.and_eq_true, Bool.not_eq_true'] at hn
  obtain ⟨⟨n1, n2⟩, n3⟩ := hn
  obtain ⟨hu, hsz⟩ := tt.array h ha he
  obtain ⟨ie, hie, hie2⟩ := info_of_sz hsz n3
  obtain ⟨inf, v, i1, i2, i3, i4, i5, i6⟩ := tt.zero h n1 n2
  obtain ⟨g1, g2, g3⟩ := cellsPV_vr (h := w.heap) (S := stab w0 st.rows st.x L w.heap) _ _ i5
  obtain ⟨C, hC, hCa, hCf⟩ := fill_run s (place' := fun k => some (k * z, z)) (fun k p hp => hp) parts.toList i.zero F v.cells ⟨g1, g2⟩ g3 hF
  refine ⟨.agg C, VR.agg (by simpa using hCa.1) (fun j c u hc hu => hCa.2 j c u hc (by simpa using hu)), fun o w' ho _ _ => ?_⟩
  have hparts : (parts.map fun (p : Nat × Operand) => (p.1, a.eval p.2)).toList = parts.toList.map fun p => (p.1, a.eval p.2) := by simp
  have hC' : Instr.fill (fun k => some (k * z, z)) v.cells (parts.map fun (p : Nat × Operand) => (p.1, a.eval p.2)).toList = some C := by rw [hparts, ← hC]
  simp only [execOp, ho, Instr.build, zeroValue, typeInfo, program, underlying, Sem.run, Sem.run_bind, Result.andThen_ok, i1, i4, hu, run_sizeOf hie, hie2, hC', Sem.run_pure]
open Go.RowKit in
theorem rd_idxA {P : Program} {st : St} {x y : Operand} {k : IntKind} {n : Int} {t ty e z : Nat} {i ei : TyI} {cs : List PV} {m : PV} (tt : Tab P) (h : tt.l.get t = some i) (ha : i.agg = true) (he : i.el = some (e, z)) (hz : Nat.beq z 1 = true) (hei : tt.l.get e = some ei) (hea : ei.agg = false)
    (hx : st.ev x = .p (.agg cs)) (hy : st.ev y = .p (.int k n)) (h0 : 0 ≤ n) (h1 : n < i.len) (hm : cs[n.toNat]? = some m) : ReadOp P (.index t x y) ty st (.p m) := fun w0 a w L cp sz ln s => by
  obtain ⟨hu, hsz⟩ := tt.array h ha he
  have hz1 := Nat.eq_of_beq_eq_true hz
  subst hz1
  obtain ⟨ie, hie, hie2⟩ := info_of_sz hsz rfl
  have hv := s.ev_p hx
  generalize hval : a.eval x = v at *
  cases hv with
  | @agg _ us hlu hvu =>
    have hlt : n.toNat < us.size := by rw [← hlu]; exact (List.getElem?_eq_some_iff.1 hm).1
    refine ⟨us[n.toNat], hvu n.toNat m us[n.toNat] hm (by simp [hlt]), fun o w' ho _ _ => ?_⟩
    have hag : (isAgg e).run P w' = .ok false w' := by rw [tt.isAgg hei, hea]
    have hp : (part e us n.toNat).run P w' = .ok us[n.toNat] w' := by simp [part, hag, hlt]
    simp [execOp, ho, hval, s.ev_int hy, Instr.index, asIntOf, underlying, program, Sem.run, hu, h0, h1, run_sizeOf hie, hie2, hp]
open Go.RowKit in
/-- The address of an element of an array of the call's own. -/
theorem rd_atA {P : Program} {st : St} {x y : Operand} {k : IntKind} {n : Int} {t ty e z rk ei j : Nat} {i : TyI} (tt : Tab P) (h : tt.l.get t = some i) (ha : i.agg = true) (he : i.el = some (e, z)) (hz : Nat.beq z 0 = false)
    (hx : st.ev x = .loc rk ei j) (hy : st.ev y = .p (.int k n)) (h0 : 0 ≤ n) (h1 : n < i.len) : ReadOp P (.indexAddr t x y) ty st (.loc rk ei (j + n.toNat * z)) := fun w0 a w L cp sz ln s => by
  obtain ⟨hu, hsz⟩ := tt.array h ha he
  obtain ⟨ie, hie, hie2⟩ := info_of_sz hsz hz
  refine ⟨.pointer (some ⟨L rk, ei * sz rk + (j + n.toNat * z), none⟩), ⟨rfl, (s.ev_loc hx).2⟩, fun o w' ho _ _ => ?_⟩
  simp [execOp, ho, (s.ev_loc hx).1, s.ev_int hy, Instr.indexAt, asIntOf, Instr.sureAddr, asAddr, underlying, program, Sem.run, hu, h0, h1, run_sizeOf hie, hie2, add_mk, Nat.add_assoc]
end Go.Lo
namespace Go.Proofs.Ythjbcgdmdmfijaa
open Go.Lo
attribute [local irreducible] W Wc


end Go.Proofs.Ythjbcgdmdmfijaa
