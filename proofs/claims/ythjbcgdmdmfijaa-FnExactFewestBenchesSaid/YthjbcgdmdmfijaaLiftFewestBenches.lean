/- The law FnExactFewestBenches, lifted out of its contract. -/
import Derived.Test.YthjbcgdmdmfijaaLawFewestBenches
import Derived.Test.YthjbcgdmdmfijaaRows
import Derived.WalkKit
import Derived.ProofKit
import Derived.OpenShut
import Derived.ShutString
import Derived.ChangeOld
import Derived.Below
set_option linter.unusedVariables false
set_option linter.unusedSimpArgs false
set_option maxRecDepth 100000
namespace Go.Proofs.Ythjbcgdmdmfijaa
open Go.ChangeShapes Go.WideShapes Go.ChangeAt Go.RowKit Go.Lo
open Go.ChangeMaps (open_string shut_string)
theorem fewestBenches_own : ownKnob Try.prog.godebug = none := by kernel_rfl
theorem fewestBenches_laidOut : laidOutB Try.prog = true := by kernel_rfl
theorem fewestBenches_rd_Work : Reads Try.prog 131 4 (fun p => ∃ x : D.Work, p = x.enc ∧ x.ok) :=
  (reads_struct Try.underlying131 [(1, _), (1, _), (1, _), (1, _)] ⟨rfl, by kernel_rfl, reads_str Try.underlying9, rfl, by kernel_rfl, reads_int Try.underlying2, rfl, by kernel_rfl, reads_int Try.underlying2, rfl, by kernel_rfl, reads_int Try.underlying2, trivial⟩ (by kernel_rfl)).mono fun p h => by
    obtain ⟨_, _, rfl, _, ⟨n0, rfl, h0⟩, _, _, rfl, _, ⟨n1, rfl, h1⟩, _, _, rfl, _, ⟨n2, rfl, h2⟩, _, _, rfl, _, ⟨n3, rfl, h3⟩, rfl⟩ := h
    exact ⟨⟨n0, n1, n2, n3⟩, rfl, by unfold D.Work.ok; exact ⟨h0, h1, h2, h3⟩⟩
theorem fewestBenches_lifted (os : Os) (started : os.Started) (H : Type) (enc : TypeId × Value → H) :
    ReturnsInHanded {} Try.checked os 8 .any (Rows.fnExactFewestBenchesSpec.pre6 enc Try.prog Try.f8 Rows.fnExactFewestBenchesRow.domain false) (Rows.fnExactFewestBenchesSpec.post enc Try.prog Try.f8 false true false false) := by
  refine returnsInHanded_of_change (C := Try.checked) fewestBenches_own started (by kernel_rfl) Try.func8
    (ChangeSpec.witness6 (enc := enc) (C := Try.checked) false ⟨#[], #[.slice none 0 0, .int .i64 0], []⟩ 8 (by kernel_rfl) (by kernel_rfl) (by kernel_rfl) (by kernel_rfl)) ?_
  intro W base args ds gs before hval0 hW hcnd _
  have hval : ∀ (j : Nat) t v, Try.f8.params[j]? = some t → args[j]? = some v → Value.okWide Try.prog W .any base t v := hval0
  have hW' := hW
  obtain ⟨p, q, hA0, hV, rfl, hfz, hnd⟩ := hW
  have hA : DataW.TrodAll enc Try.prog W 0 (fun _ => true) true Try.f8.params.toList args.toList ds p := hA0
  rw [Try.params8] at hA hval
  obtain ⟨v0, vs0, d0, ds0, p0, q0, hargs, rfl, rfl, h0, r0⟩ := trodAll_cons hA
  obtain ⟨v1, vs1, d1, ds1, p1, q1, rfl, rfl, rfl, h1, r1⟩ := trodAll_cons r0
  obtain ⟨rfl, rfl, rfl⟩ := trodAll_nil r1
  obtain rfl : args = #[v0, v1] := by cases args; simp_all
  obtain ⟨rfl, rfl⟩ := trodVars_none hV
  have lt0 : ∀ x ∈ p0, x.block < W.heap.size := by obtain ⟨m, hm⟩ := h0; exact DataW.trod_lt m _ _ _ hm
  have lt1 : ∀ x ∈ p1, x.block < W.heap.size := by obtain ⟨m, hm⟩ := h1; exact DataW.trod_lt m _ _ _ hm
  obtain ⟨y0, hy0, a0, e0, c0, d0⟩ := (reads_list Try.underlying63 fewestBenches_rd_Work (by kernel_rfl) (by decide)).arg h0 (by obtain ⟨a, l, c, rfl⟩ := okWide_slice Try.underlying63 (hval 0 63 v0 rfl rfl); rfl)
  obtain ⟨y1, hy1, a1, e1, c1⟩ := (reads_int Try.underlying2).arg h1 (by obtain ⟨x, rfl, _⟩ := open_int Try.underlying2 (hval 1 2 v1 rfl rfl) h1; rfl)
  cases e0
  cases e1
  obtain ⟨rs, hro, hrs⟩ := h_lawFewestBenches.2 [.view 4 (a0.map D.Work.enc), I a1] (fun rs => rs = [.p (.bool true)]) ⟨a0, a1, rfl, ⟨c0, d0⟩, c1, rfl⟩
  subst hrs
  have hAr : ArgsR W (fun _ => True) [.view 4 (a0.map D.Work.enc), I a1] #[v0, v1] := ⟨rfl, fun i m u hm hu => by
    match i, hm, hu with
    | 0, hm, hu => simp at hm hu; subst hm; subst hu; exact hy0.mono fun b hb => ⟨⟨hb, trivial⟩, rfl⟩
    | 1, hm, hu => simp at hm hu; subst hm; subst hu; exact hy1.mono fun b hb => ⟨⟨hb, trivial⟩, rfl⟩⟩
  refine (hro W _ _ hAr).mono fun e W' ⟨v, he, ⟨bl, cp, hr⟩, bel⟩ => ?_
  have hvv := hr.one _ rfl
  simp only [R1] at hvv
  have hvv := VR.of_val (u := .bool true) rfl hvv
  subst hvv
  subst he
  exact ⟨_, rfl, _, _, _, [], _, [], hW', trodAll_mk1 (shut_bool Try.underlying4 _), (trodAll_cons_mk (Below.trod fewestBenches_laidOut (by kernel_rfl) (of_decide_eq_true (by kernel_rfl)) h0 bel lt0) (trodAll_cons_mk (Below.trod fewestBenches_laidOut (by kernel_rfl) (of_decide_eq_true (by kernel_rfl)) h1 bel lt1) trodAll_mk0)), rfl, bel.frame _, fun h => by cases h⟩
end Go.Proofs.Ythjbcgdmdmfijaa
