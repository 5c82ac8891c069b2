/- Proved: the law FnExactLowestOf answers true for every input and leaves its arguments as they were (Rows.FnExactLowestOfSaid); no conditions. -/
import Derived.Test.YthpcibkoldnpaaaTyEntry
import Derived.Test.YthpcibkoldnpaaaRows
import Derived.WalkKit
import Derived.ProofKit
import Derived.OpenShut
import Derived.ShutString
import Derived.ChangeOld
import Derived.Below
set_option linter.unusedVariables false
set_option linter.unusedSimpArgs false
set_option maxRecDepth 100000
namespace Go.Lo
-- deps: TyEntry
open Classical in
noncomputable def askBook (xs : List D.Entry) (s : ByteArray) : Int := if BookOk xs ∧ NameP s then 0 else 1
def cAskBook : Ct := fun args K => ∃ (xs : List D.Entry) (s : ByteArray), args = [.view 4 (xs.map D.Entry.enc), .str s] ∧ (xs.length : Int) ≤ 1048576 ∧ (∀ x ∈ xs, x.ok) ∧ (s.size : Int) ≤ 9223372036854775807 ∧ K [.p (I (askBook xs s))]
open Classical in
noncomputable def chg (x : D.Entry) (s : ByteArray) : Int := if x.Debit = s then x.Amount else if x.Credit = s then -x.Amount else 0
structure Low where
  best : Int
  least : Int
  now : Int
open Classical in
noncomputable def lowTo (xs : List D.Entry) (s : ByteArray) : Nat → Low
  | 0 => ⟨-1, 0, 0⟩
  | n + 1 => let p := lowTo xs s n
    let t := p.now + chg (ix xs n) s
    if p.best < 0 ∨ t < p.least then ⟨n, t, t⟩ else ⟨p.best, p.least, t⟩
noncomputable def lowAt (xs : List D.Entry) (s : ByteArray) (i : Int) : Low := lowTo xs s i.toNat
theorem lowAt_zero (xs : List D.Entry) (s : ByteArray) : lowAt xs s 0 = ⟨-1, 0, 0⟩ := rfl
theorem lowAt_succ {xs : List D.Entry} {s : ByteArray} {i : Int} (h : 0 ≤ i) : lowAt xs s (i + 1) = (if (lowAt xs s i).best < 0 ∨ (lowAt xs s i).now + chg (ix xs i) s < (lowAt xs s i).least then ⟨i, (lowAt xs s i).now + chg (ix xs i) s, (lowAt xs s i).now + chg (ix xs i) s⟩ else ⟨(lowAt xs s i).best, (lowAt xs s i).least, (lowAt xs s i).now + chg (ix xs i) s⟩) := by
  obtain ⟨n, rfl⟩ := Int.eq_ofNat_of_zero_le h
  have : ((n : Int) + 1).toNat = n + 1 := by omega
  unfold lowAt
  rw [this]
  simp only [lowTo, Int.toNat_natCast]
theorem chg_bd {x : D.Entry} (s : ByteArray) (h : 1 ≤ x.Amount ∧ x.Amount ≤ 10000000) : -10000000 ≤ chg x s ∧ chg x s ≤ 10000000 := by
  unfold chg; (repeat' split) <;> omega
theorem low_bd {xs : List D.Entry} {s : ByteArray} (hB : BookOk xs) : ∀ n : Nat, (n : Int) ≤ xs.length → -(n * 10000000 : Int) ≤ (lowAt xs s n).now ∧ (lowAt xs s n).now ≤ n * 10000000 ∧ (lowAt xs s n).best < n ∧ -1 ≤ (lowAt xs s n).best ∧ -(n * 10000000 : Int) ≤ (lowAt xs s n).least ∧ (lowAt xs s n).least ≤ n * 10000000 ∧ (0 < n → 0 ≤ (lowAt xs s n).best)
  | 0, _ => by simp [lowAt_zero]
  | n + 1, h => by
    have ih := low_bd (s := s) hB n (by omega)
    have hq := (hB.1 n (by omega) (by omega)).1.2.2.2.2
    have hc := chg_bd s hq
    rw [show ((n + 1 : Nat) : Int) = (n : Int) + 1 by omega, lowAt_succ (by omega)]
    split <;> simp only <;> omega
open Classical in
noncomputable def lowR (xs : List D.Entry) (s : ByteArray) : Low :=
  if BookOk xs ∧ NameP s then (if xs.length = 0 then ⟨0, 0, 3⟩ else ⟨(lowAt xs s xs.length).best, (lowAt xs s xs.length).least, 0⟩) else ⟨0, 0, 1⟩
def cLowest : Ct := fun args K => ∃ (xs : List D.Entry) (s : ByteArray), args = [.view 4 (xs.map D.Entry.enc), .str s] ∧ (xs.length : Int) ≤ 1048576 ∧ (∀ x ∈ xs, x.ok) ∧ (s.size : Int) ≤ 9223372036854775807 ∧ K [.p (I (lowR xs s).best), .p (I (lowR xs s).least), .p (I (lowR xs s).now)]
theorem askBook_ok {xs : List D.Entry} {s : ByteArray} : askBook xs s = 0 ↔ BookOk xs ∧ NameP s := by
  unfold askBook; split <;> simp_all
theorem askBook_no {xs : List D.Entry} {s : ByteArray} (h : ¬ (BookOk xs ∧ NameP s)) : askBook xs s = 1 := by unfold askBook; simp [h]
end Go.Lo
namespace Go.Proofs.Ythpcibkoldnpaaa
open Go.Lo
attribute [local irreducible] W Wc

theorem h_l25Ask : Holds Try.prog 81 cAskBook := by
  refine Holds.mk tt Try.func81 rfl Try.ntmps81 rfl (by kernel_rfl) ?_
  rintro _ K ⟨xs, s, rfl, hl, hok, hs, hK⟩
  refine ⟨Nat.le_of_ble_eq_true rfl, _, hK, ?_⟩
  repeat' (first
    | refine Wc.seq ?_
    | refine Wc.region ?_
    | refine Wc.cond_t rfl ?_
    | refine Wc.cond_f rfl ?_
    | refine Wc.condT rfl (by first | (simp only [ltB_t, ltB_f, eqB_t, eqB_f, pB_t, pB_f, sEq_t, sEq_f, emp_iff, ne_eq, List.length_map, Bool.not_eq_true, Bool.not_eq_false, Bool.not_eq_eq_eq_not, Bool.not_true, Bool.not_false]; done) | (simp only [ltB_t, ltB_f, eqB_t, eqB_f, pB_t, pB_f, sEq_t, sEq_f, emp_iff, ne_eq, List.length_map, Bool.not_eq_true, Bool.not_eq_false, Bool.not_eq_eq_eq_not, Bool.not_true, Bool.not_false]; omega) | (simp only [ltB_t, ltB_f, eqB_t, eqB_f, pB_t, pB_f, sEq_t, sEq_f, emp_iff, ne_eq, List.length_map, Bool.not_eq_true, Bool.not_eq_false, Bool.not_eq_eq_eq_not, Bool.not_true, Bool.not_false]; assumption)) ?_
    | refine Wc.condF rfl (by first | (simp only [ltB_t, ltB_f, eqB_t, eqB_f, pB_t, pB_f, sEq_t, sEq_f, emp_iff, ne_eq, List.length_map, Bool.not_eq_true, Bool.not_eq_false, Bool.not_eq_eq_eq_not, Bool.not_true, Bool.not_false]; done) | (simp only [ltB_t, ltB_f, eqB_t, eqB_f, pB_t, pB_f, sEq_t, sEq_f, emp_iff, ne_eq, List.length_map, Bool.not_eq_true, Bool.not_eq_false, Bool.not_eq_eq_eq_not, Bool.not_true, Bool.not_false]; omega) | (simp only [ltB_t, ltB_f, eqB_t, eqB_f, pB_t, pB_f, sEq_t, sEq_f, emp_iff, ne_eq, List.length_map, Bool.not_eq_true, Bool.not_eq_false, Bool.not_eq_eq_eq_not, Bool.not_true, Bool.not_false]; assumption)) ?_
    | (refine Wc.cond rfl ?_ ?_ <;> intro h <;> (try simp only [ltB_t, ltB_f, eqB_t, eqB_f, pB_t, pB_f, sEq_t, sEq_f, emp_iff, ne_eq, List.length_map, Bool.not_eq_true, Bool.not_eq_false, Bool.not_eq_eq_eq_not, Bool.not_true, Bool.not_false] at h))
    | refine Wc.ret ?_
    | refine Wc.skip ?_
    | refine Wc.block ?_
    | refine Wc.exit ?_
    | refine W.nil ?_
    | refine W.yes rfl rfl rfl ?_
    | refine W.no rfl rfl rfl rfl ?_
    | refine W.never rfl rfl rfl rfl ?_
    | refine W.read (rd_mv_p rfl) rfl ?_
    | refine W.read (rd_as_p rfl) rfl ?_
    | refine W.read (rd_mv_o rfl) rfl ?_
    | refine W.read (rd_as_o rfl) rfl ?_
    | refine W.read (rd_pk_t rfl rfl) rfl ?_
    | refine W.read (rd_pk_f rfl rfl) rfl ?_
    | refine W.read (rd_pk_b rfl rfl rfl) rfl ?_
    | refine W.read (rd_not rfl) rfl ?_
    | refine W.call h_l25Ok rfl rfl ⟨_, rfl, by omega, by assumption, _, _, rfl, rfl, ?_⟩
    | refine W.call h_l01Name rfl rfl ⟨_, rfl, by omega, _, _, rfl, rfl, ?_⟩
    | refine W.askY rfl rfl rfl (by first | (simp only [ltB_t, ltB_f, eqB_t, eqB_f, pB_t, pB_f, sEq_t, sEq_f, emp_iff, ne_eq, List.length_map, Bool.not_eq_true, Bool.not_eq_false, Bool.not_eq_eq_eq_not, Bool.not_true, Bool.not_false]; done) | (simp only [ltB_t, ltB_f, eqB_t, eqB_f, pB_t, pB_f, sEq_t, sEq_f, emp_iff, ne_eq, List.length_map, Bool.not_eq_true, Bool.not_eq_false, Bool.not_eq_eq_eq_not, Bool.not_true, Bool.not_false]; omega) | (simp only [ltB_t, ltB_f, eqB_t, eqB_f, pB_t, pB_f, sEq_t, sEq_f, emp_iff, ne_eq, List.length_map, Bool.not_eq_true, Bool.not_eq_false, Bool.not_eq_eq_eq_not, Bool.not_true, Bool.not_false]; assumption)) ?_
    | refine W.askN rfl rfl rfl rfl (by first | (simp only [ltB_t, ltB_f, eqB_t, eqB_f, pB_t, pB_f, sEq_t, sEq_f, emp_iff, ne_eq, List.length_map, Bool.not_eq_true, Bool.not_eq_false, Bool.not_eq_eq_eq_not, Bool.not_true, Bool.not_false]; done) | (simp only [ltB_t, ltB_f, eqB_t, eqB_f, pB_t, pB_f, sEq_t, sEq_f, emp_iff, ne_eq, List.length_map, Bool.not_eq_true, Bool.not_eq_false, Bool.not_eq_eq_eq_not, Bool.not_true, Bool.not_false]; omega) | (simp only [ltB_t, ltB_f, eqB_t, eqB_f, pB_t, pB_f, sEq_t, sEq_f, emp_iff, ne_eq, List.length_map, Bool.not_eq_true, Bool.not_eq_false, Bool.not_eq_eq_eq_not, Bool.not_true, Bool.not_false]; assumption)) ?_
    | (refine W.ask rfl rfl rfl rfl ?_ ?_ <;> intro h <;> (try simp only [ltB_t, ltB_f, eqB_t, eqB_f, pB_t, pB_f, sEq_t, sEq_f, emp_iff, ne_eq, List.length_map, Bool.not_eq_true, Bool.not_eq_false, Bool.not_eq_eq_eq_not, Bool.not_true, Bool.not_false] at h)))
  all_goals (refine fin_p rfl ?_ rfl rfl rfl; simp [askBook, *])

theorem h_l25Change : Holds Try.prog 82 (fun args K => ∃ (x : D.Entry) (s : ByteArray), args = [.ref x.enc, .str s] ∧ (1 ≤ x.Amount ∧ x.Amount ≤ 10000000) ∧ K [.p (I (chg x s))]) := by
  refine Holds.mk tt Try.func82 rfl Try.ntmps82 rfl (by kernel_rfl) ?_
  rintro _ K ⟨x, s, rfl, ha, hK⟩
  refine ⟨Nat.le_of_ble_eq_true rfl, _, hK, ?_⟩
  repeat' (first
    | refine Wc.seq ?_
    | refine Wc.region ?_
    | refine Wc.cond_t rfl ?_
    | refine Wc.cond_f rfl ?_
    | refine Wc.condT rfl (by first | (simp only [ltB_t, ltB_f, eqB_t, eqB_f, pB_t, pB_f, sEq_t, sEq_f, emp_iff, ne_eq, List.length_map, Bool.not_eq_true, Bool.not_eq_false, Bool.not_eq_eq_eq_not, Bool.not_true, Bool.not_false]; done) | (simp only [ltB_t, ltB_f, eqB_t, eqB_f, pB_t, pB_f, sEq_t, sEq_f, emp_iff, ne_eq, List.length_map, Bool.not_eq_true, Bool.not_eq_false, Bool.not_eq_eq_eq_not, Bool.not_true, Bool.not_false]; omega) | (simp only [ltB_t, ltB_f, eqB_t, eqB_f, pB_t, pB_f, sEq_t, sEq_f, emp_iff, ne_eq, List.length_map, Bool.not_eq_true, Bool.not_eq_false, Bool.not_eq_eq_eq_not, Bool.not_true, Bool.not_false]; assumption)) ?_
    | refine Wc.condF rfl (by first | (simp only [ltB_t, ltB_f, eqB_t, eqB_f, pB_t, pB_f, sEq_t, sEq_f, emp_iff, ne_eq, List.length_map, Bool.not_eq_true, Bool.not_eq_false, Bool.not_eq_eq_eq_not, Bool.not_true, Bool.not_false]; done) | (simp only [ltB_t, ltB_f, eqB_t, eqB_f, pB_t, pB_f, sEq_t, sEq_f, emp_iff, ne_eq, List.length_map, Bool.not_eq_true, Bool.not_eq_false, Bool.not_eq_eq_eq_not, Bool.not_true, Bool.not_false]; omega) | (simp only [ltB_t, ltB_f, eqB_t, eqB_f, pB_t, pB_f, sEq_t, sEq_f, emp_iff, ne_eq, List.length_map, Bool.not_eq_true, Bool.not_eq_false, Bool.not_eq_eq_eq_not, Bool.not_true, Bool.not_false]; assumption)) ?_
    | (refine Wc.cond rfl ?_ ?_ <;> intro h <;> (try simp only [ltB_t, ltB_f, eqB_t, eqB_f, pB_t, pB_f, sEq_t, sEq_f, emp_iff, ne_eq, List.length_map, Bool.not_eq_true, Bool.not_eq_false, Bool.not_eq_eq_eq_not, Bool.not_true, Bool.not_false] at h))
    | refine Wc.ret ?_
    | refine Wc.skip ?_
    | refine Wc.block ?_
    | refine Wc.exit ?_
    | refine W.nil ?_
    | refine W.read (rd_mv_p rfl) rfl ?_
    | refine W.read (rd_as_p rfl) rfl ?_
    | refine W.read (rd_mv_o rfl) rfl ?_
    | refine W.read (rd_as_o rfl) rfl ?_
    | refine W.read (rd_field tt rfl rfl rfl rfl) rfl ?_
    | refine W.read (rd_field_loc tt rfl rfl rfl rfl) rfl ?_
    | refine W.read (rd_load tt rfl rfl rfl rfl) rfl ?_
    | refine W.read (rd_load_loc tt rfl rfl rfl rfl rfl rfl) rfl ?_
    | refine W.read (rd_nil rfl) rfl ?_
    | refine W.read (rd_nil_loc rfl) rfl ?_
    | refine W.read (rd_seql rfl rfl) rfl ?_
    | refine W.read (rd_neg rfl (by unfold in64; omega)) rfl ?_)
  all_goals (refine fin_p rfl ?_ rfl rfl rfl; simp [chg, *])

theorem h_change : Holds Try.prog 86 (fun args K => ∃ (x : D.Entry) (s : ByteArray), args = [.agg x.enc, .str s] ∧ (1 ≤ x.Amount ∧ x.Amount ≤ 10000000) ∧ K [.p (I (chg x s))]) := by
  refine Holds.mk tt Try.func86 rfl Try.ntmps86 rfl (by kernel_rfl) ?_
  rintro _ K ⟨x, s, rfl, ha, hK⟩
  refine ⟨Nat.le_of_ble_eq_true rfl, _, hK, ?_⟩
  repeat' (first
    | refine Wc.seq ?_
    | refine Wc.region ?_
    | refine Wc.cond_t rfl ?_
    | refine Wc.cond_f rfl ?_
    | refine Wc.condT rfl (by first | (simp only [ltB_t, ltB_f, eqB_t, eqB_f, pB_t, pB_f, sEq_t, sEq_f, emp_iff, ne_eq, List.length_map, Bool.not_eq_true, Bool.not_eq_false, Bool.not_eq_eq_eq_not, Bool.not_true, Bool.not_false]; done) | (simp only [ltB_t, ltB_f, eqB_t, eqB_f, pB_t, pB_f, sEq_t, sEq_f, emp_iff, ne_eq, List.length_map, Bool.not_eq_true, Bool.not_eq_false, Bool.not_eq_eq_eq_not, Bool.not_true, Bool.not_false]; omega) | (simp only [ltB_t, ltB_f, eqB_t, eqB_f, pB_t, pB_f, sEq_t, sEq_f, emp_iff, ne_eq, List.length_map, Bool.not_eq_true, Bool.not_eq_false, Bool.not_eq_eq_eq_not, Bool.not_true, Bool.not_false]; assumption)) ?_
    | refine Wc.condF rfl (by first | (simp only [ltB_t, ltB_f, eqB_t, eqB_f, pB_t, pB_f, sEq_t, sEq_f, emp_iff, ne_eq, List.length_map, Bool.not_eq_true, Bool.not_eq_false, Bool.not_eq_eq_eq_not, Bool.not_true, Bool.not_false]; done) | (simp only [ltB_t, ltB_f, eqB_t, eqB_f, pB_t, pB_f, sEq_t, sEq_f, emp_iff, ne_eq, List.length_map, Bool.not_eq_true, Bool.not_eq_false, Bool.not_eq_eq_eq_not, Bool.not_true, Bool.not_false]; omega) | (simp only [ltB_t, ltB_f, eqB_t, eqB_f, pB_t, pB_f, sEq_t, sEq_f, emp_iff, ne_eq, List.length_map, Bool.not_eq_true, Bool.not_eq_false, Bool.not_eq_eq_eq_not, Bool.not_true, Bool.not_false]; assumption)) ?_
    | (refine Wc.cond rfl ?_ ?_ <;> intro h <;> (try simp only [ltB_t, ltB_f, eqB_t, eqB_f, pB_t, pB_f, sEq_t, sEq_f, emp_iff, ne_eq, List.length_map, Bool.not_eq_true, Bool.not_eq_false, Bool.not_eq_eq_eq_not, Bool.not_true, Bool.not_false] at h))
    | refine Wc.ret ?_
    | refine Wc.skip ?_
    | refine Wc.block ?_
    | refine Wc.exit ?_
    | refine W.nil ?_
    | refine W.read (rd_mv_p rfl) rfl ?_
    | refine W.read (rd_as_p rfl) rfl ?_
    | refine W.read (rd_mv_o rfl) rfl ?_
    | refine W.read (rd_as_o rfl) rfl ?_
    | refine W.read (rd_mv_l rfl) rfl ?_
    | refine W.read (rd_as_l rfl) rfl ?_
    | refine W.read (rd_field tt rfl rfl rfl rfl) rfl ?_
    | refine W.read (rd_field_loc tt rfl rfl rfl rfl) rfl ?_
    | refine W.read (rd_load tt rfl rfl rfl rfl) rfl ?_
    | refine W.read (rd_load_loc tt rfl rfl rfl rfl rfl rfl) rfl ?_
    | refine W.read (rd_seql rfl rfl) rfl ?_
    | refine W.read (rd_neg rfl (by unfold in64; omega)) rfl ?_
    | refine W.box_agg rfl rfl rfl ?_
    | refine W.box_one rfl rfl rfl ?_)
  all_goals (refine fin_p rfl ?_ rfl rfl rfl; unfold chg; grind)

theorem h_LowestS : Holds Try.prog 16 cLowest := by
  refine Holds.mk tt Try.func16 rfl Try.ntmps16 rfl (by kernel_rfl) ?_
  rintro _ K ⟨xs, s, rfl, hl, hok, hs, hK⟩
  have hln : (xs.map D.Entry.enc).length = xs.length := by simp
  refine ⟨Nat.le_of_ble_eq_true rfl, _, hK, ?_⟩
  repeat' (first
    | refine Wc.seq ?_
    | refine Wc.region ?_
    | refine Wc.cond_t rfl ?_
    | refine Wc.cond_f rfl ?_
    | refine Wc.condT rfl (by first | (simp only [ltB_t, ltB_f, eqB_t, eqB_f, pB_t, pB_f, sEq_t, sEq_f, emp_iff, ne_eq, List.length_map, Bool.not_eq_true, Bool.not_eq_false, Bool.not_eq_eq_eq_not, Bool.not_true, Bool.not_false]; done) | (simp only [ltB_t, ltB_f, eqB_t, eqB_f, pB_t, pB_f, sEq_t, sEq_f, emp_iff, ne_eq, List.length_map, Bool.not_eq_true, Bool.not_eq_false, Bool.not_eq_eq_eq_not, Bool.not_true, Bool.not_false]; omega) | (simp only [ltB_t, ltB_f, eqB_t, eqB_f, pB_t, pB_f, sEq_t, sEq_f, emp_iff, ne_eq, List.length_map, Bool.not_eq_true, Bool.not_eq_false, Bool.not_eq_eq_eq_not, Bool.not_true, Bool.not_false]; assumption)) ?_
    | refine Wc.condF rfl (by first | (simp only [ltB_t, ltB_f, eqB_t, eqB_f, pB_t, pB_f, sEq_t, sEq_f, emp_iff, ne_eq, List.length_map, Bool.not_eq_true, Bool.not_eq_false, Bool.not_eq_eq_eq_not, Bool.not_true, Bool.not_false]; done) | (simp only [ltB_t, ltB_f, eqB_t, eqB_f, pB_t, pB_f, sEq_t, sEq_f, emp_iff, ne_eq, List.length_map, Bool.not_eq_true, Bool.not_eq_false, Bool.not_eq_eq_eq_not, Bool.not_true, Bool.not_false]; omega) | (simp only [ltB_t, ltB_f, eqB_t, eqB_f, pB_t, pB_f, sEq_t, sEq_f, emp_iff, ne_eq, List.length_map, Bool.not_eq_true, Bool.not_eq_false, Bool.not_eq_eq_eq_not, Bool.not_true, Bool.not_false]; assumption)) ?_
    | (refine Wc.cond rfl ?_ ?_ <;> intro h <;> (try simp only [ltB_t, ltB_f, eqB_t, eqB_f, pB_t, pB_f, sEq_t, sEq_f, emp_iff, ne_eq, List.length_map, Bool.not_eq_true, Bool.not_eq_false, Bool.not_eq_eq_eq_not, Bool.not_true, Bool.not_false] at h))
    | refine Wc.ret ?_
    | refine Wc.skip ?_
    | refine Wc.block ?_
    | refine Wc.exit ?_
    | refine W.nil ?_
    | refine W.yes rfl rfl rfl ?_
    | refine W.no rfl rfl rfl rfl ?_
    | refine W.never rfl rfl rfl rfl ?_
    | refine W.read (rd_mv_p rfl) rfl ?_
    | refine W.read (rd_as_p rfl) rfl ?_
    | refine W.read (rd_mv_o rfl) rfl ?_
    | refine W.read (rd_as_o rfl) rfl ?_
    | refine W.read (rd_lss rfl rfl) rfl ?_
    | refine W.read (rd_neq rfl rfl) rfl ?_
    | refine W.read (rd_pk_t rfl rfl) rfl ?_
    | refine W.read (rd_pk_f rfl rfl) rfl ?_
    | refine W.read (rd_pk_b rfl rfl rfl) rfl ?_
    | refine W.read (rd_len_str tt rfl rfl rfl) rfl ?_
    | refine W.read (rd_len_view tt rfl rfl rfl rfl) rfl ?_
    | refine W.read (rd_len_own tt rfl rfl rfl rfl rfl) rfl ?_
    | refine W.read (rd_len_nil tt rfl rfl rfl rfl) rfl ?_
    | refine W.read (rd_index tt rfl rfl rfl rfl rfl rfl (by omega) (ixE (by omega) (by omega))) rfl ?_
    | refine W.read (rd_index_own tt rfl rfl rfl rfl rfl rfl rfl rfl (by omega) (by first | omega | (simp only [List.length_map, List.length_append, List.length_replicate, List.length_set, List.length_nil, List.length_cons]; omega))) rfl ?_
    | refine W.call h_l25Ask rfl rfl ⟨_, _, rfl, by omega, by assumption, by omega, _, _, rfl, rfl, ?_⟩
    | refine W.call h_l25Change rfl rfl ⟨_, _, rfl, by assumption, _, _, rfl, rfl, ?_⟩
    | refine W.read (rd_add rfl rfl (by unfold in64; omega)) rfl ?_
    | refine W.askY rfl rfl rfl (by first | (simp only [ltB_t, ltB_f, eqB_t, eqB_f, pB_t, pB_f, sEq_t, sEq_f, emp_iff, ne_eq, List.length_map, Bool.not_eq_true, Bool.not_eq_false, Bool.not_eq_eq_eq_not, Bool.not_true, Bool.not_false]; done) | (simp only [ltB_t, ltB_f, eqB_t, eqB_f, pB_t, pB_f, sEq_t, sEq_f, emp_iff, ne_eq, List.length_map, Bool.not_eq_true, Bool.not_eq_false, Bool.not_eq_eq_eq_not, Bool.not_true, Bool.not_false]; omega) | (simp only [ltB_t, ltB_f, eqB_t, eqB_f, pB_t, pB_f, sEq_t, sEq_f, emp_iff, ne_eq, List.length_map, Bool.not_eq_true, Bool.not_eq_false, Bool.not_eq_eq_eq_not, Bool.not_true, Bool.not_false]; assumption)) ?_
    | refine W.askN rfl rfl rfl rfl (by first | (simp only [ltB_t, ltB_f, eqB_t, eqB_f, pB_t, pB_f, sEq_t, sEq_f, emp_iff, ne_eq, List.length_map, Bool.not_eq_true, Bool.not_eq_false, Bool.not_eq_eq_eq_not, Bool.not_true, Bool.not_false]; done) | (simp only [ltB_t, ltB_f, eqB_t, eqB_f, pB_t, pB_f, sEq_t, sEq_f, emp_iff, ne_eq, List.length_map, Bool.not_eq_true, Bool.not_eq_false, Bool.not_eq_eq_eq_not, Bool.not_true, Bool.not_false]; omega) | (simp only [ltB_t, ltB_f, eqB_t, eqB_f, pB_t, pB_f, sEq_t, sEq_f, emp_iff, ne_eq, List.length_map, Bool.not_eq_true, Bool.not_eq_false, Bool.not_eq_eq_eq_not, Bool.not_true, Bool.not_false]; assumption)) ?_
    | (refine W.ask rfl rfl rfl rfl ?_ ?_ <;> intro h <;> (try simp only [ltB_t, ltB_f, eqB_t, eqB_f, pB_t, pB_f, sEq_t, sEq_f, emp_iff, ne_eq, List.length_map, Bool.not_eq_true, Bool.not_eq_false, Bool.not_eq_eq_eq_not, Bool.not_true, Bool.not_false] at h)))
  · refine fin_p rfl ?_ rfl rfl rfl
    have hno : ¬ (BookOk xs ∧ NameP s) := fun hh => absurd (askBook_ok.2 hh) (by assumption)
    simp [lowR, hno, askBook_no hno]
  have hok2 := askBook_ok.1 (by assumption)
  have hbk := hok2.1
  refine Wc.loop (fun i : Int => 0 ≤ i ∧ i ≤ xs.length) (fun i => ⟨44, 0, [(0, .p (.view 4 (xs.map D.Entry.enc))), (1, .p (.str s)), (8, .p (I (lowAt xs s i).best)), (9, .p (I (lowAt xs s i).least)), (10, .p (I (lowAt xs s i).now)), (11, .p (I i))], []⟩) (fun i => (xs.length - i).toNat) 0 ⟨by omega, by omega⟩ ⟨rfl, ⟨rfl, rfl, rfl, rfl, rfl, rfl, trivial⟩, trivial, rfl, rfl⟩ ?_
  rintro i ⟨hi0, hi1⟩
  have hbd := low_bd (s := s) hbk i.toNat (by omega)
  rw [Int.toNat_of_nonneg hi0] at hbd
  have hl32 := hbk.2
  rcases Int.lt_or_le i xs.length with hlt | hge
  · have hbi := (hbk.1 i hi0 hlt).1.2.2.2.2
    have hcb := chg_bd s hbi
    have hsu := lowAt_succ (xs := xs) (s := s) hi0
    repeat' (first
    | refine Wc.seq ?_
    | refine Wc.region ?_
    | refine Wc.cond_t rfl ?_
    | refine Wc.cond_f rfl ?_
    | refine Wc.condT rfl (by first | (simp only [ltB_t, ltB_f, eqB_t, eqB_f, pB_t, pB_f, sEq_t, sEq_f, emp_iff, ne_eq, List.length_map, Bool.not_eq_true, Bool.not_eq_false, Bool.not_eq_eq_eq_not, Bool.not_true, Bool.not_false]; done) | (simp only [ltB_t, ltB_f, eqB_t, eqB_f, pB_t, pB_f, sEq_t, sEq_f, emp_iff, ne_eq, List.length_map, Bool.not_eq_true, Bool.not_eq_false, Bool.not_eq_eq_eq_not, Bool.not_true, Bool.not_false]; omega) | (simp only [ltB_t, ltB_f, eqB_t, eqB_f, pB_t, pB_f, sEq_t, sEq_f, emp_iff, ne_eq, List.length_map, Bool.not_eq_true, Bool.not_eq_false, Bool.not_eq_eq_eq_not, Bool.not_true, Bool.not_false]; assumption)) ?_
    | refine Wc.condF rfl (by first | (simp only [ltB_t, ltB_f, eqB_t, eqB_f, pB_t, pB_f, sEq_t, sEq_f, emp_iff, ne_eq, List.length_map, Bool.not_eq_true, Bool.not_eq_false, Bool.not_eq_eq_eq_not, Bool.not_true, Bool.not_false]; done) | (simp only [ltB_t, ltB_f, eqB_t, eqB_f, pB_t, pB_f, sEq_t, sEq_f, emp_iff, ne_eq, List.length_map, Bool.not_eq_true, Bool.not_eq_false, Bool.not_eq_eq_eq_not, Bool.not_true, Bool.not_false]; omega) | (simp only [ltB_t, ltB_f, eqB_t, eqB_f, pB_t, pB_f, sEq_t, sEq_f, emp_iff, ne_eq, List.length_map, Bool.not_eq_true, Bool.not_eq_false, Bool.not_eq_eq_eq_not, Bool.not_true, Bool.not_false]; assumption)) ?_
    | (refine Wc.cond rfl ?_ ?_ <;> intro h <;> (try simp only [ltB_t, ltB_f, eqB_t, eqB_f, pB_t, pB_f, sEq_t, sEq_f, emp_iff, ne_eq, List.length_map, Bool.not_eq_true, Bool.not_eq_false, Bool.not_eq_eq_eq_not, Bool.not_true, Bool.not_false] at h))
    | refine Wc.ret ?_
    | refine Wc.skip ?_
    | refine Wc.block ?_
    | refine Wc.exit ?_
    | refine W.nil ?_
    | refine W.yes rfl rfl rfl ?_
    | refine W.no rfl rfl rfl rfl ?_
    | refine W.never rfl rfl rfl rfl ?_
    | refine W.read (rd_mv_p rfl) rfl ?_
    | refine W.read (rd_as_p rfl) rfl ?_
    | refine W.read (rd_mv_o rfl) rfl ?_
    | refine W.read (rd_as_o rfl) rfl ?_
    | refine W.read (rd_lss rfl rfl) rfl ?_
    | refine W.read (rd_neq rfl rfl) rfl ?_
    | refine W.read (rd_pk_t rfl rfl) rfl ?_
    | refine W.read (rd_pk_f rfl rfl) rfl ?_
    | refine W.read (rd_pk_b rfl rfl rfl) rfl ?_
    | refine W.read (rd_len_str tt rfl rfl rfl) rfl ?_
    | refine W.read (rd_len_view tt rfl rfl rfl rfl) rfl ?_
    | refine W.read (rd_len_own tt rfl rfl rfl rfl rfl) rfl ?_
    | refine W.read (rd_len_nil tt rfl rfl rfl rfl) rfl ?_
    | refine W.read (rd_index tt rfl rfl rfl rfl rfl rfl (by omega) (ixE (by omega) (by omega))) rfl ?_
    | refine W.read (rd_index_own tt rfl rfl rfl rfl rfl rfl rfl rfl (by omega) (by first | omega | (simp only [List.length_map, List.length_append, List.length_replicate, List.length_set, List.length_nil, List.length_cons]; omega))) rfl ?_
    | refine W.call h_l25Ask rfl rfl ⟨_, _, rfl, by omega, by assumption, by omega, _, _, rfl, rfl, ?_⟩
    | refine W.call h_l25Change rfl rfl ⟨_, _, rfl, by assumption, _, _, rfl, rfl, ?_⟩
    | refine W.read (rd_add rfl rfl (by unfold in64; omega)) rfl ?_
    | refine W.askY rfl rfl rfl (by first | (simp only [ltB_t, ltB_f, eqB_t, eqB_f, pB_t, pB_f, sEq_t, sEq_f, emp_iff, ne_eq, List.length_map, Bool.not_eq_true, Bool.not_eq_false, Bool.not_eq_eq_eq_not, Bool.not_true, Bool.not_false]; done) | (simp only [ltB_t, ltB_f, eqB_t, eqB_f, pB_t, pB_f, sEq_t, sEq_f, emp_iff, ne_eq, List.length_map, Bool.not_eq_true, Bool.not_eq_false, Bool.not_eq_eq_eq_not, Bool.not_true, Bool.not_false]; omega) | (simp only [ltB_t, ltB_f, eqB_t, eqB_f, pB_t, pB_f, sEq_t, sEq_f, emp_iff, ne_eq, List.length_map, Bool.not_eq_true, Bool.not_eq_false, Bool.not_eq_eq_eq_not, Bool.not_true, Bool.not_false]; assumption)) ?_
    | refine W.askN rfl rfl rfl rfl (by first | (simp only [ltB_t, ltB_f, eqB_t, eqB_f, pB_t, pB_f, sEq_t, sEq_f, emp_iff, ne_eq, List.length_map, Bool.not_eq_true, Bool.not_eq_false, Bool.not_eq_eq_eq_not, Bool.not_true, Bool.not_false]; done) | (simp only [ltB_t, ltB_f, eqB_t, eqB_f, pB_t, pB_f, sEq_t, sEq_f, emp_iff, ne_eq, List.length_map, Bool.not_eq_true, Bool.not_eq_false, Bool.not_eq_eq_eq_not, Bool.not_true, Bool.not_false]; omega) | (simp only [ltB_t, ltB_f, eqB_t, eqB_f, pB_t, pB_f, sEq_t, sEq_f, emp_iff, ne_eq, List.length_map, Bool.not_eq_true, Bool.not_eq_false, Bool.not_eq_eq_eq_not, Bool.not_true, Bool.not_false]; assumption)) ?_
    | (refine W.ask rfl rfl rfl rfl ?_ ?_ <;> intro h <;> (try simp only [ltB_t, ltB_f, eqB_t, eqB_f, pB_t, pB_f, sEq_t, sEq_f, emp_iff, ne_eq, List.length_map, Bool.not_eq_true, Bool.not_eq_false, Bool.not_eq_eq_eq_not, Bool.not_true, Bool.not_false] at h)))
    all_goals first
      | (refine ⟨i + 1, ⟨by omega, by omega⟩, by dsimp only; omega, ⟨rfl, ⟨rfl, rfl, pI ?_, pI ?_, pI ?_, rfl, trivial⟩, trivial, rfl, rfl⟩⟩ <;> (rw [hsu]; first | rw [if_pos (by omega)] | rw [if_neg (by omega)]))
  · have hie : i = xs.length := by omega
    repeat' (first
    | refine Wc.seq ?_
    | refine Wc.region ?_
    | refine Wc.cond_t rfl ?_
    | refine Wc.cond_f rfl ?_
    | refine Wc.condT rfl (by first | (simp only [ltB_t, ltB_f, eqB_t, eqB_f, pB_t, pB_f, sEq_t, sEq_f, emp_iff, ne_eq, List.length_map, Bool.not_eq_true, Bool.not_eq_false, Bool.not_eq_eq_eq_not, Bool.not_true, Bool.not_false]; done) | (simp only [ltB_t, ltB_f, eqB_t, eqB_f, pB_t, pB_f, sEq_t, sEq_f, emp_iff, ne_eq, List.length_map, Bool.not_eq_true, Bool.not_eq_false, Bool.not_eq_eq_eq_not, Bool.not_true, Bool.not_false]; omega) | (simp only [ltB_t, ltB_f, eqB_t, eqB_f, pB_t, pB_f, sEq_t, sEq_f, emp_iff, ne_eq, List.length_map, Bool.not_eq_true, Bool.not_eq_false, Bool.not_eq_eq_eq_not, Bool.not_true, Bool.not_false]; assumption)) ?_
    | refine Wc.condF rfl (by first | (simp only [ltB_t, ltB_f, eqB_t, eqB_f, pB_t, pB_f, sEq_t, sEq_f, emp_iff, ne_eq, List.length_map, Bool.not_eq_true, Bool.not_eq_false, Bool.not_eq_eq_eq_not, Bool.not_true, Bool.not_false]; done) | (simp only [ltB_t, ltB_f, eqB_t, eqB_f, pB_t, pB_f, sEq_t, sEq_f, emp_iff, ne_eq, List.length_map, Bool.not_eq_true, Bool.not_eq_false, Bool.not_eq_eq_eq_not, Bool.not_true, Bool.not_false]; omega) | (simp only [ltB_t, ltB_f, eqB_t, eqB_f, pB_t, pB_f, sEq_t, sEq_f, emp_iff, ne_eq, List.length_map, Bool.not_eq_true, Bool.not_eq_false, Bool.not_eq_eq_eq_not, Bool.not_true, Bool.not_false]; assumption)) ?_
    | (refine Wc.cond rfl ?_ ?_ <;> intro h <;> (try simp only [ltB_t, ltB_f, eqB_t, eqB_f, pB_t, pB_f, sEq_t, sEq_f, emp_iff, ne_eq, List.length_map, Bool.not_eq_true, Bool.not_eq_false, Bool.not_eq_eq_eq_not, Bool.not_true, Bool.not_false] at h))
    | refine Wc.ret ?_
    | refine Wc.skip ?_
    | refine Wc.block ?_
    | refine Wc.exit ?_
    | refine W.nil ?_
    | refine W.yes rfl rfl rfl ?_
    | refine W.no rfl rfl rfl rfl ?_
    | refine W.never rfl rfl rfl rfl ?_
    | refine W.read (rd_mv_p rfl) rfl ?_
    | refine W.read (rd_as_p rfl) rfl ?_
    | refine W.read (rd_mv_o rfl) rfl ?_
    | refine W.read (rd_as_o rfl) rfl ?_
    | refine W.read (rd_lss rfl rfl) rfl ?_
    | refine W.read (rd_neq rfl rfl) rfl ?_
    | refine W.read (rd_pk_t rfl rfl) rfl ?_
    | refine W.read (rd_pk_f rfl rfl) rfl ?_
    | refine W.read (rd_pk_b rfl rfl rfl) rfl ?_
    | refine W.read (rd_len_str tt rfl rfl rfl) rfl ?_
    | refine W.read (rd_len_view tt rfl rfl rfl rfl) rfl ?_
    | refine W.read (rd_len_own tt rfl rfl rfl rfl rfl) rfl ?_
    | refine W.read (rd_len_nil tt rfl rfl rfl rfl) rfl ?_
    | refine W.read (rd_index tt rfl rfl rfl rfl rfl rfl (by omega) (ixE (by omega) (by omega))) rfl ?_
    | refine W.read (rd_index_own tt rfl rfl rfl rfl rfl rfl rfl rfl (by omega) (by first | omega | (simp only [List.length_map, List.length_append, List.length_replicate, List.length_set, List.length_nil, List.length_cons]; omega))) rfl ?_
    | refine W.call h_l25Ask rfl rfl ⟨_, _, rfl, by omega, by assumption, by omega, _, _, rfl, rfl, ?_⟩
    | refine W.call h_l25Change rfl rfl ⟨_, _, rfl, by assumption, _, _, rfl, rfl, ?_⟩
    | refine W.read (rd_add rfl rfl (by unfold in64; omega)) rfl ?_
    | refine W.askY rfl rfl rfl (by first | (simp only [ltB_t, ltB_f, eqB_t, eqB_f, pB_t, pB_f, sEq_t, sEq_f, emp_iff, ne_eq, List.length_map, Bool.not_eq_true, Bool.not_eq_false, Bool.not_eq_eq_eq_not, Bool.not_true, Bool.not_false]; done) | (simp only [ltB_t, ltB_f, eqB_t, eqB_f, pB_t, pB_f, sEq_t, sEq_f, emp_iff, ne_eq, List.length_map, Bool.not_eq_true, Bool.not_eq_false, Bool.not_eq_eq_eq_not, Bool.not_true, Bool.not_false]; omega) | (simp only [ltB_t, ltB_f, eqB_t, eqB_f, pB_t, pB_f, sEq_t, sEq_f, emp_iff, ne_eq, List.length_map, Bool.not_eq_true, Bool.not_eq_false, Bool.not_eq_eq_eq_not, Bool.not_true, Bool.not_false]; assumption)) ?_
    | refine W.askN rfl rfl rfl rfl (by first | (simp only [ltB_t, ltB_f, eqB_t, eqB_f, pB_t, pB_f, sEq_t, sEq_f, emp_iff, ne_eq, List.length_map, Bool.not_eq_true, Bool.not_eq_false, Bool.not_eq_eq_eq_not, Bool.not_true, Bool.not_false]; done) | (simp only [ltB_t, ltB_f, eqB_t, eqB_f, pB_t, pB_f, sEq_t, sEq_f, emp_iff, ne_eq, List.length_map, Bool.not_eq_true, Bool.not_eq_false, Bool.not_eq_eq_eq_not, Bool.not_true, Bool.not_false]; omega) | (simp only [ltB_t, ltB_f, eqB_t, eqB_f, pB_t, pB_f, sEq_t, sEq_f, emp_iff, ne_eq, List.length_map, Bool.not_eq_true, Bool.not_eq_false, Bool.not_eq_eq_eq_not, Bool.not_true, Bool.not_false]; assumption)) ?_
    | (refine W.ask rfl rfl rfl rfl ?_ ?_ <;> intro h <;> (try simp only [ltB_t, ltB_f, eqB_t, eqB_f, pB_t, pB_f, sEq_t, sEq_f, emp_iff, ne_eq, List.length_map, Bool.not_eq_true, Bool.not_eq_false, Bool.not_eq_eq_eq_not, Bool.not_true, Bool.not_false] at h)))
    all_goals (refine fin_p rfl ?_ rfl rfl rfl)
    all_goals (subst hie; unfold lowR; rw [if_pos hok2]; first | (rw [if_pos (by omega)]) | (rw [if_neg (by omega)]))

theorem h_LowestI : Holds Try.prog 18 cLowest := by
  refine Holds.mk tt Try.func18 rfl Try.ntmps18 rfl (by kernel_rfl) ?_
  rintro _ K ⟨xs, s, rfl, hl, hok, hs, hK⟩
  have hln : (xs.map D.Entry.enc).length = xs.length := by simp
  refine ⟨Nat.le_of_ble_eq_true rfl, _, hK, ?_⟩
  repeat' (first
    | refine Wc.seq ?_
    | refine Wc.region ?_
    | refine Wc.cond_t rfl ?_
    | refine Wc.cond_f rfl ?_
    | refine Wc.condT rfl (by first | (simp only [ltB_t, ltB_f, eqB_t, eqB_f, pB_t, pB_f, sEq_t, sEq_f, emp_iff, ne_eq, List.length_map, Bool.not_eq_true, Bool.not_eq_false, Bool.not_eq_eq_eq_not, Bool.not_true, Bool.not_false]; done) | (simp only [ltB_t, ltB_f, eqB_t, eqB_f, pB_t, pB_f, sEq_t, sEq_f, emp_iff, ne_eq, List.length_map, Bool.not_eq_true, Bool.not_eq_false, Bool.not_eq_eq_eq_not, Bool.not_true, Bool.not_false]; omega) | (simp only [ltB_t, ltB_f, eqB_t, eqB_f, pB_t, pB_f, sEq_t, sEq_f, emp_iff, ne_eq, List.length_map, Bool.not_eq_true, Bool.not_eq_false, Bool.not_eq_eq_eq_not, Bool.not_true, Bool.not_false]; assumption)) ?_
    | refine Wc.condF rfl (by first | (simp only [ltB_t, ltB_f, eqB_t, eqB_f, pB_t, pB_f, sEq_t, sEq_f, emp_iff, ne_eq, List.length_map, Bool.not_eq_true, Bool.not_eq_false, Bool.not_eq_eq_eq_not, Bool.not_true, Bool.not_false]; done) | (simp only [ltB_t, ltB_f, eqB_t, eqB_f, pB_t, pB_f, sEq_t, sEq_f, emp_iff, ne_eq, List.length_map, Bool.not_eq_true, Bool.not_eq_false, Bool.not_eq_eq_eq_not, Bool.not_true, Bool.not_false]; omega) | (simp only [ltB_t, ltB_f, eqB_t, eqB_f, pB_t, pB_f, sEq_t, sEq_f, emp_iff, ne_eq, List.length_map, Bool.not_eq_true, Bool.not_eq_false, Bool.not_eq_eq_eq_not, Bool.not_true, Bool.not_false]; assumption)) ?_
    | (refine Wc.cond rfl ?_ ?_ <;> intro h <;> (try simp only [ltB_t, ltB_f, eqB_t, eqB_f, pB_t, pB_f, sEq_t, sEq_f, emp_iff, ne_eq, List.length_map, Bool.not_eq_true, Bool.not_eq_false, Bool.not_eq_eq_eq_not, Bool.not_true, Bool.not_false] at h))
    | refine Wc.ret ?_
    | refine Wc.skip ?_
    | refine Wc.block ?_
    | refine Wc.exit ?_
    | refine W.nil ?_
    | refine W.yes rfl rfl rfl ?_
    | refine W.no rfl rfl rfl rfl ?_
    | refine W.never rfl rfl rfl rfl ?_
    | refine W.read (rd_mv_p rfl) rfl ?_
    | refine W.read (rd_as_p rfl) rfl ?_
    | refine W.read (rd_mv_o rfl) rfl ?_
    | refine W.read (rd_as_o rfl) rfl ?_
    | refine W.read (rd_mv_l rfl) rfl ?_
    | refine W.read (rd_as_l rfl) rfl ?_
    | refine W.read (rd_load_all tt rfl rfl rfl rfl) rfl ?_
    | refine W.read (rd_load_loc_all tt rfl rfl rfl rfl rfl rfl) rfl ?_
    | refine W.read (rd_load_agg tt rfl rfl rfl rfl) rfl ?_
    | refine W.read (rd_load_loc_agg tt rfl rfl rfl rfl rfl rfl) rfl ?_
    | refine W.read (rd_eql rfl rfl) rfl ?_
    | refine W.read (rd_lss rfl rfl) rfl ?_
    | refine W.read (rd_pk_t rfl rfl) rfl ?_
    | refine W.read (rd_pk_f rfl rfl) rfl ?_
    | refine W.read (rd_pk_b rfl rfl rfl) rfl ?_
    | refine W.read (rd_not rfl) rfl ?_
    | refine W.read (rd_len_str tt rfl rfl rfl) rfl ?_
    | refine W.read (rd_len_view tt rfl rfl rfl rfl) rfl ?_
    | refine W.read (rd_len_own tt rfl rfl rfl rfl rfl) rfl ?_
    | refine W.read (rd_len_nil tt rfl rfl rfl rfl) rfl ?_
    | refine W.read (rd_index tt rfl rfl rfl rfl rfl rfl (by omega) (ixE (by omega) (by omega))) rfl ?_
    | refine W.read (rd_index_own tt rfl rfl rfl rfl rfl rfl rfl rfl (by omega) (by first | omega | (simp only [List.length_map, List.length_append, List.length_replicate, List.length_set, List.length_nil, List.length_cons]; omega))) rfl ?_
    | refine W.call h_ValidBook rfl rfl ⟨_, rfl, by omega, by assumption, _, _, rfl, rfl, ?_⟩
    | refine W.call h_IsName rfl rfl ⟨_, rfl, by omega, _, _, rfl, rfl, ?_⟩
    | refine W.call h_change rfl rfl ⟨_, _, rfl, by assumption, _, _, rfl, rfl, ?_⟩
    | refine W.read (rd_add rfl rfl (by unfold in64; omega)) rfl ?_
    | refine W.alloc tt rfl rfl rfl rfl ?_
    | refine W.store1 tt rfl rfl rfl rfl rfl rfl rfl rfl ?_
    | refine W.storeE tt rfl rfl rfl rfl rfl rfl rfl rfl ?_
    | refine W.storeP tt rfl rfl rfl rfl rfl rfl rfl rfl ?_
    | refine W.askY rfl rfl rfl (by first | (simp only [ltB_t, ltB_f, eqB_t, eqB_f, pB_t, pB_f, sEq_t, sEq_f, emp_iff, ne_eq, List.length_map, Bool.not_eq_true, Bool.not_eq_false, Bool.not_eq_eq_eq_not, Bool.not_true, Bool.not_false]; done) | (simp only [ltB_t, ltB_f, eqB_t, eqB_f, pB_t, pB_f, sEq_t, sEq_f, emp_iff, ne_eq, List.length_map, Bool.not_eq_true, Bool.not_eq_false, Bool.not_eq_eq_eq_not, Bool.not_true, Bool.not_false]; omega) | (simp only [ltB_t, ltB_f, eqB_t, eqB_f, pB_t, pB_f, sEq_t, sEq_f, emp_iff, ne_eq, List.length_map, Bool.not_eq_true, Bool.not_eq_false, Bool.not_eq_eq_eq_not, Bool.not_true, Bool.not_false]; assumption)) ?_
    | refine W.askN rfl rfl rfl rfl (by first | (simp only [ltB_t, ltB_f, eqB_t, eqB_f, pB_t, pB_f, sEq_t, sEq_f, emp_iff, ne_eq, List.length_map, Bool.not_eq_true, Bool.not_eq_false, Bool.not_eq_eq_eq_not, Bool.not_true, Bool.not_false]; done) | (simp only [ltB_t, ltB_f, eqB_t, eqB_f, pB_t, pB_f, sEq_t, sEq_f, emp_iff, ne_eq, List.length_map, Bool.not_eq_true, Bool.not_eq_false, Bool.not_eq_eq_eq_not, Bool.not_true, Bool.not_false]; omega) | (simp only [ltB_t, ltB_f, eqB_t, eqB_f, pB_t, pB_f, sEq_t, sEq_f, emp_iff, ne_eq, List.length_map, Bool.not_eq_true, Bool.not_eq_false, Bool.not_eq_eq_eq_not, Bool.not_true, Bool.not_false]; assumption)) ?_
    | (refine W.ask rfl rfl rfl rfl ?_ ?_ <;> intro h <;> (try simp only [ltB_t, ltB_f, eqB_t, eqB_f, pB_t, pB_f, sEq_t, sEq_f, emp_iff, ne_eq, List.length_map, Bool.not_eq_true, Bool.not_eq_false, Bool.not_eq_eq_eq_not, Bool.not_true, Bool.not_false] at h)))
  all_goals try (refine fin_p rfl ?_ rfl rfl rfl; unfold lowR; first | (rw [if_neg (by grind)]; done) | (rw [if_pos (by grind), if_pos (by omega)]; done))
  have hB : BookOk xs := by assumption
  have hN : NameP s := by assumption
  refine Wc.loop (fun i : Int => 0 ≤ i ∧ i ≤ xs.length) (fun i => ⟨43, 0, [(0, .p (.view 4 (xs.map D.Entry.enc))), (1, .p (.str s)), (7, .p (I (lowAt xs s i).now)), (8, .p (I (if i = 0 then 0 else (lowAt xs s i).best))), (9, .p (I (if i = 0 then 1000000000000 else (lowAt xs s i).least))), (23, .p (.view 4 (xs.map D.Entry.enc))), (24, .p (I (xs.map D.Entry.enc).length)), (25, .p (I i))], []⟩) (fun i => (xs.length - i).toNat) 0 ⟨by omega, by omega⟩ ⟨rfl, ⟨rfl, rfl, rfl, rfl, rfl, rfl, rfl, rfl, trivial⟩, trivial, rfl, rfl⟩ ?_
  rintro i ⟨hi0, hi1⟩
  have hbd := low_bd (s := s) hB i.toNat (by omega)
  rw [Int.toNat_of_nonneg hi0] at hbd
  have hl32 := hB.2
  rcases Int.lt_or_le i xs.length with hlt | hge
  · have hbi := (hB.1 i hi0 hlt).1.2.2.2.2
    have hcb := chg_bd s hbi
    have hsu := lowAt_succ (xs := xs) (s := s) hi0
    by_cases h0 : i = 0
    · subst h0
      have hz := lowAt_zero xs s
      simp only [↓reduceIte]
      repeat' (first
    | refine Wc.seq ?_
    | refine Wc.region ?_
    | refine Wc.cond_t rfl ?_
    | refine Wc.cond_f rfl ?_
    | refine Wc.condT rfl (by first | (simp only [ltB_t, ltB_f, eqB_t, eqB_f, pB_t, pB_f, sEq_t, sEq_f, emp_iff, ne_eq, List.length_map, Bool.not_eq_true, Bool.not_eq_false, Bool.not_eq_eq_eq_not, Bool.not_true, Bool.not_false]; done) | (simp only [ltB_t, ltB_f, eqB_t, eqB_f, pB_t, pB_f, sEq_t, sEq_f, emp_iff, ne_eq, List.length_map, Bool.not_eq_true, Bool.not_eq_false, Bool.not_eq_eq_eq_not, Bool.not_true, Bool.not_false]; omega) | (simp only [ltB_t, ltB_f, eqB_t, eqB_f, pB_t, pB_f, sEq_t, sEq_f, emp_iff, ne_eq, List.length_map, Bool.not_eq_true, Bool.not_eq_false, Bool.not_eq_eq_eq_not, Bool.not_true, Bool.not_false]; assumption)) ?_
    | refine Wc.condF rfl (by first | (simp only [ltB_t, ltB_f, eqB_t, eqB_f, pB_t, pB_f, sEq_t, sEq_f, emp_iff, ne_eq, List.length_map, Bool.not_eq_true, Bool.not_eq_false, Bool.not_eq_eq_eq_not, Bool.not_true, Bool.not_false]; done) | (simp only [ltB_t, ltB_f, eqB_t, eqB_f, pB_t, pB_f, sEq_t, sEq_f, emp_iff, ne_eq, List.length_map, Bool.not_eq_true, Bool.not_eq_false, Bool.not_eq_eq_eq_not, Bool.not_true, Bool.not_false]; omega) | (simp only [ltB_t, ltB_f, eqB_t, eqB_f, pB_t, pB_f, sEq_t, sEq_f, emp_iff, ne_eq, List.length_map, Bool.not_eq_true, Bool.not_eq_false, Bool.not_eq_eq_eq_not, Bool.not_true, Bool.not_false]; assumption)) ?_
    | (refine Wc.cond rfl ?_ ?_ <;> intro h <;> (try simp only [ltB_t, ltB_f, eqB_t, eqB_f, pB_t, pB_f, sEq_t, sEq_f, emp_iff, ne_eq, List.length_map, Bool.not_eq_true, Bool.not_eq_false, Bool.not_eq_eq_eq_not, Bool.not_true, Bool.not_false] at h))
    | refine Wc.ret ?_
    | refine Wc.skip ?_
    | refine Wc.block ?_
    | refine Wc.exit ?_
    | refine W.nil ?_
    | refine W.yes rfl rfl rfl ?_
    | refine W.no rfl rfl rfl rfl ?_
    | refine W.never rfl rfl rfl rfl ?_
    | refine W.read (rd_mv_p rfl) rfl ?_
    | refine W.read (rd_as_p rfl) rfl ?_
    | refine W.read (rd_mv_o rfl) rfl ?_
    | refine W.read (rd_as_o rfl) rfl ?_
    | refine W.read (rd_mv_l rfl) rfl ?_
    | refine W.read (rd_as_l rfl) rfl ?_
    | refine W.read (rd_load_all tt rfl rfl rfl rfl) rfl ?_
    | refine W.read (rd_load_loc_all tt rfl rfl rfl rfl rfl rfl) rfl ?_
    | refine W.read (rd_load_agg tt rfl rfl rfl rfl) rfl ?_
    | refine W.read (rd_load_loc_agg tt rfl rfl rfl rfl rfl rfl) rfl ?_
    | refine W.read (rd_eql rfl rfl) rfl ?_
    | refine W.read (rd_lss rfl rfl) rfl ?_
    | refine W.read (rd_pk_t rfl rfl) rfl ?_
    | refine W.read (rd_pk_f rfl rfl) rfl ?_
    | refine W.read (rd_pk_b rfl rfl rfl) rfl ?_
    | refine W.read (rd_not rfl) rfl ?_
    | refine W.read (rd_len_str tt rfl rfl rfl) rfl ?_
    | refine W.read (rd_len_view tt rfl rfl rfl rfl) rfl ?_
    | refine W.read (rd_len_own tt rfl rfl rfl rfl rfl) rfl ?_
    | refine W.read (rd_len_nil tt rfl rfl rfl rfl) rfl ?_
    | refine W.read (rd_index tt rfl rfl rfl rfl rfl rfl (by omega) (ixE (by omega) (by omega))) rfl ?_
    | refine W.read (rd_index_own tt rfl rfl rfl rfl rfl rfl rfl rfl (by omega) (by first | omega | (simp only [List.length_map, List.length_append, List.length_replicate, List.length_set, List.length_nil, List.length_cons]; omega))) rfl ?_
    | refine W.call h_ValidBook rfl rfl ⟨_, rfl, by omega, by assumption, _, _, rfl, rfl, ?_⟩
    | refine W.call h_IsName rfl rfl ⟨_, rfl, by omega, _, _, rfl, rfl, ?_⟩
    | refine W.call h_change rfl rfl ⟨_, _, rfl, by assumption, _, _, rfl, rfl, ?_⟩
    | refine W.read (rd_add rfl rfl (by unfold in64; omega)) rfl ?_
    | refine W.alloc tt rfl rfl rfl rfl ?_
    | refine W.store1 tt rfl rfl rfl rfl rfl rfl rfl rfl ?_
    | refine W.storeE tt rfl rfl rfl rfl rfl rfl rfl rfl ?_
    | refine W.storeP tt rfl rfl rfl rfl rfl rfl rfl rfl ?_
    | refine W.askY rfl rfl rfl (by first | (simp only [ltB_t, ltB_f, eqB_t, eqB_f, pB_t, pB_f, sEq_t, sEq_f, emp_iff, ne_eq, List.length_map, Bool.not_eq_true, Bool.not_eq_false, Bool.not_eq_eq_eq_not, Bool.not_true, Bool.not_false]; done) | (simp only [ltB_t, ltB_f, eqB_t, eqB_f, pB_t, pB_f, sEq_t, sEq_f, emp_iff, ne_eq, List.length_map, Bool.not_eq_true, Bool.not_eq_false, Bool.not_eq_eq_eq_not, Bool.not_true, Bool.not_false]; omega) | (simp only [ltB_t, ltB_f, eqB_t, eqB_f, pB_t, pB_f, sEq_t, sEq_f, emp_iff, ne_eq, List.length_map, Bool.not_eq_true, Bool.not_eq_false, Bool.not_eq_eq_eq_not, Bool.not_true, Bool.not_false]; assumption)) ?_
    | refine W.askN rfl rfl rfl rfl (by first | (simp only [ltB_t, ltB_f, eqB_t, eqB_f, pB_t, pB_f, sEq_t, sEq_f, emp_iff, ne_eq, List.length_map, Bool.not_eq_true, Bool.not_eq_false, Bool.not_eq_eq_eq_not, Bool.not_true, Bool.not_false]; done) | (simp only [ltB_t, ltB_f, eqB_t, eqB_f, pB_t, pB_f, sEq_t, sEq_f, emp_iff, ne_eq, List.length_map, Bool.not_eq_true, Bool.not_eq_false, Bool.not_eq_eq_eq_not, Bool.not_true, Bool.not_false]; omega) | (simp only [ltB_t, ltB_f, eqB_t, eqB_f, pB_t, pB_f, sEq_t, sEq_f, emp_iff, ne_eq, List.length_map, Bool.not_eq_true, Bool.not_eq_false, Bool.not_eq_eq_eq_not, Bool.not_true, Bool.not_false]; assumption)) ?_
    | (refine W.ask rfl rfl rfl rfl ?_ ?_ <;> intro h <;> (try simp only [ltB_t, ltB_f, eqB_t, eqB_f, pB_t, pB_f, sEq_t, sEq_f, emp_iff, ne_eq, List.length_map, Bool.not_eq_true, Bool.not_eq_false, Bool.not_eq_eq_eq_not, Bool.not_true, Bool.not_false] at h)))
      all_goals first
        | (refine ⟨0 + 1, ⟨by omega, by omega⟩, by dsimp only; omega, ⟨rfl, ⟨rfl, rfl, pI ?_, pI ?_, pI ?_, rfl, rfl, rfl, trivial⟩, trivial, rfl, rfl⟩⟩ <;> (rw [hsu, hz]; simp))
        | (exfalso; simp [hz] at *; omega)
    · simp only [h0, if_false]
      repeat' (first
    | refine Wc.seq ?_
    | refine Wc.region ?_
    | refine Wc.cond_t rfl ?_
    | refine Wc.cond_f rfl ?_
    | refine Wc.condT rfl (by first | (simp only [ltB_t, ltB_f, eqB_t, eqB_f, pB_t, pB_f, sEq_t, sEq_f, emp_iff, ne_eq, List.length_map, Bool.not_eq_true, Bool.not_eq_false, Bool.not_eq_eq_eq_not, Bool.not_true, Bool.not_false]; done) | (simp only [ltB_t, ltB_f, eqB_t, eqB_f, pB_t, pB_f, sEq_t, sEq_f, emp_iff, ne_eq, List.length_map, Bool.not_eq_true, Bool.not_eq_false, Bool.not_eq_eq_eq_not, Bool.not_true, Bool.not_false]; omega) | (simp only [ltB_t, ltB_f, eqB_t, eqB_f, pB_t, pB_f, sEq_t, sEq_f, emp_iff, ne_eq, List.length_map, Bool.not_eq_true, Bool.not_eq_false, Bool.not_eq_eq_eq_not, Bool.not_true, Bool.not_false]; assumption)) ?_
    | refine Wc.condF rfl (by first | (simp only [ltB_t, ltB_f, eqB_t, eqB_f, pB_t, pB_f, sEq_t, sEq_f, emp_iff, ne_eq, List.length_map, Bool.not_eq_true, Bool.not_eq_false, Bool.not_eq_eq_eq_not, Bool.not_true, Bool.not_false]; done) | (simp only [ltB_t, ltB_f, eqB_t, eqB_f, pB_t, pB_f, sEq_t, sEq_f, emp_iff, ne_eq, List.length_map, Bool.not_eq_true, Bool.not_eq_false, Bool.not_eq_eq_eq_not, Bool.not_true, Bool.not_false]; omega) | (simp only [ltB_t, ltB_f, eqB_t, eqB_f, pB_t, pB_f, sEq_t, sEq_f, emp_iff, ne_eq, List.length_map, Bool.not_eq_true, Bool.not_eq_false, Bool.not_eq_eq_eq_not, Bool.not_true, Bool.not_false]; assumption)) ?_
    | (refine Wc.cond rfl ?_ ?_ <;> intro h <;> (try simp only [ltB_t, ltB_f, eqB_t, eqB_f, pB_t, pB_f, sEq_t, sEq_f, emp_iff, ne_eq, List.length_map, Bool.not_eq_true, Bool.not_eq_false, Bool.not_eq_eq_eq_not, Bool.not_true, Bool.not_false] at h))
    | refine Wc.ret ?_
    | refine Wc.skip ?_
    | refine Wc.block ?_
    | refine Wc.exit ?_
    | refine W.nil ?_
    | refine W.yes rfl rfl rfl ?_
    | refine W.no rfl rfl rfl rfl ?_
    | refine W.never rfl rfl rfl rfl ?_
    | refine W.read (rd_mv_p rfl) rfl ?_
    | refine W.read (rd_as_p rfl) rfl ?_
    | refine W.read (rd_mv_o rfl) rfl ?_
    | refine W.read (rd_as_o rfl) rfl ?_
    | refine W.read (rd_mv_l rfl) rfl ?_
    | refine W.read (rd_as_l rfl) rfl ?_
    | refine W.read (rd_load_all tt rfl rfl rfl rfl) rfl ?_
    | refine W.read (rd_load_loc_all tt rfl rfl rfl rfl rfl rfl) rfl ?_
    | refine W.read (rd_load_agg tt rfl rfl rfl rfl) rfl ?_
    | refine W.read (rd_load_loc_agg tt rfl rfl rfl rfl rfl rfl) rfl ?_
    | refine W.read (rd_eql rfl rfl) rfl ?_
    | refine W.read (rd_lss rfl rfl) rfl ?_
    | refine W.read (rd_pk_t rfl rfl) rfl ?_
    | refine W.read (rd_pk_f rfl rfl) rfl ?_
    | refine W.read (rd_pk_b rfl rfl rfl) rfl ?_
    | refine W.read (rd_not rfl) rfl ?_
    | refine W.read (rd_len_str tt rfl rfl rfl) rfl ?_
    | refine W.read (rd_len_view tt rfl rfl rfl rfl) rfl ?_
    | refine W.read (rd_len_own tt rfl rfl rfl rfl rfl) rfl ?_
    | refine W.read (rd_len_nil tt rfl rfl rfl rfl) rfl ?_
    | refine W.read (rd_index tt rfl rfl rfl rfl rfl rfl (by omega) (ixE (by omega) (by omega))) rfl ?_
    | refine W.read (rd_index_own tt rfl rfl rfl rfl rfl rfl rfl rfl (by omega) (by first | omega | (simp only [List.length_map, List.length_append, List.length_replicate, List.length_set, List.length_nil, List.length_cons]; omega))) rfl ?_
    | refine W.call h_ValidBook rfl rfl ⟨_, rfl, by omega, by assumption, _, _, rfl, rfl, ?_⟩
    | refine W.call h_IsName rfl rfl ⟨_, rfl, by omega, _, _, rfl, rfl, ?_⟩
    | refine W.call h_change rfl rfl ⟨_, _, rfl, by assumption, _, _, rfl, rfl, ?_⟩
    | refine W.read (rd_add rfl rfl (by unfold in64; omega)) rfl ?_
    | refine W.alloc tt rfl rfl rfl rfl ?_
    | refine W.store1 tt rfl rfl rfl rfl rfl rfl rfl rfl ?_
    | refine W.storeE tt rfl rfl rfl rfl rfl rfl rfl rfl ?_
    | refine W.storeP tt rfl rfl rfl rfl rfl rfl rfl rfl ?_
    | refine W.askY rfl rfl rfl (by first | (simp only [ltB_t, ltB_f, eqB_t, eqB_f, pB_t, pB_f, sEq_t, sEq_f, emp_iff, ne_eq, List.length_map, Bool.not_eq_true, Bool.not_eq_false, Bool.not_eq_eq_eq_not, Bool.not_true, Bool.not_false]; done) | (simp only [ltB_t, ltB_f, eqB_t, eqB_f, pB_t, pB_f, sEq_t, sEq_f, emp_iff, ne_eq, List.length_map, Bool.not_eq_true, Bool.not_eq_false, Bool.not_eq_eq_eq_not, Bool.not_true, Bool.not_false]; omega) | (simp only [ltB_t, ltB_f, eqB_t, eqB_f, pB_t, pB_f, sEq_t, sEq_f, emp_iff, ne_eq, List.length_map, Bool.not_eq_true, Bool.not_eq_false, Bool.not_eq_eq_eq_not, Bool.not_true, Bool.not_false]; assumption)) ?_
    | refine W.askN rfl rfl rfl rfl (by first | (simp only [ltB_t, ltB_f, eqB_t, eqB_f, pB_t, pB_f, sEq_t, sEq_f, emp_iff, ne_eq, List.length_map, Bool.not_eq_true, Bool.not_eq_false, Bool.not_eq_eq_eq_not, Bool.not_true, Bool.not_false]; done) | (simp only [ltB_t, ltB_f, eqB_t, eqB_f, pB_t, pB_f, sEq_t, sEq_f, emp_iff, ne_eq, List.length_map, Bool.not_eq_true, Bool.not_eq_false, Bool.not_eq_eq_eq_not, Bool.not_true, Bool.not_false]; omega) | (simp only [ltB_t, ltB_f, eqB_t, eqB_f, pB_t, pB_f, sEq_t, sEq_f, emp_iff, ne_eq, List.length_map, Bool.not_eq_true, Bool.not_eq_false, Bool.not_eq_eq_eq_not, Bool.not_true, Bool.not_false]; assumption)) ?_
    | (refine W.ask rfl rfl rfl rfl ?_ ?_ <;> intro h <;> (try simp only [ltB_t, ltB_f, eqB_t, eqB_f, pB_t, pB_f, sEq_t, sEq_f, emp_iff, ne_eq, List.length_map, Bool.not_eq_true, Bool.not_eq_false, Bool.not_eq_eq_eq_not, Bool.not_true, Bool.not_false] at h)))
      all_goals first
        | (refine ⟨i + 1, ⟨by omega, by omega⟩, by dsimp only; omega, ⟨rfl, ⟨rfl, rfl, pI ?_, pI ?_, pI ?_, rfl, rfl, rfl, trivial⟩, trivial, rfl, rfl⟩⟩ <;> (try rw [if_neg (show ¬ i + 1 = 0 by omega)]) <;> (rw [hsu]; first | rw [if_pos (by omega)] | rw [if_neg (by omega)]))
  · have hie : i = xs.length := by omega
    have h0 : ¬ i = 0 := by omega
    simp only [h0, if_false]
    repeat' (first
    | refine Wc.seq ?_
    | refine Wc.region ?_
    | refine Wc.cond_t rfl ?_
    | refine Wc.cond_f rfl ?_
    | refine Wc.condT rfl (by first | (simp only [ltB_t, ltB_f, eqB_t, eqB_f, pB_t, pB_f, sEq_t, sEq_f, emp_iff, ne_eq, List.length_map, Bool.not_eq_true, Bool.not_eq_false, Bool.not_eq_eq_eq_not, Bool.not_true, Bool.not_false]; done) | (simp only [ltB_t, ltB_f, eqB_t, eqB_f, pB_t, pB_f, sEq_t, sEq_f, emp_iff, ne_eq, List.length_map, Bool.not_eq_true, Bool.not_eq_false, Bool.not_eq_eq_eq_not, Bool.not_true, Bool.not_false]; omega) | (simp only [ltB_t, ltB_f, eqB_t, eqB_f, pB_t, pB_f, sEq_t, sEq_f, emp_iff, ne_eq, List.length_map, Bool.not_eq_true, Bool.not_eq_false, Bool.not_eq_eq_eq_not, Bool.not_true, Bool.not_false]; assumption)) ?_
    | refine Wc.condF rfl (by first | (simp only [ltB_t, ltB_f, eqB_t, eqB_f, pB_t, pB_f, sEq_t, sEq_f, emp_iff, ne_eq, List.length_map, Bool.not_eq_true, Bool.not_eq_false, Bool.not_eq_eq_eq_not, Bool.not_true, Bool.not_false]; done) | (simp only [ltB_t, ltB_f, eqB_t, eqB_f, pB_t, pB_f, sEq_t, sEq_f, emp_iff, ne_eq, List.length_map, Bool.not_eq_true, Bool.not_eq_false, Bool.not_eq_eq_eq_not, Bool.not_true, Bool.not_false]; omega) | (simp only [ltB_t, ltB_f, eqB_t, eqB_f, pB_t, pB_f, sEq_t, sEq_f, emp_iff, ne_eq, List.length_map, Bool.not_eq_true, Bool.not_eq_false, Bool.not_eq_eq_eq_not, Bool.not_true, Bool.not_false]; assumption)) ?_
    | (refine Wc.cond rfl ?_ ?_ <;> intro h <;> (try simp only [ltB_t, ltB_f, eqB_t, eqB_f, pB_t, pB_f, sEq_t, sEq_f, emp_iff, ne_eq, List.length_map, Bool.not_eq_true, Bool.not_eq_false, Bool.not_eq_eq_eq_not, Bool.not_true, Bool.not_false] at h))
    | refine Wc.ret ?_
    | refine Wc.skip ?_
    | refine Wc.block ?_
    | refine Wc.exit ?_
    | refine W.nil ?_
    | refine W.yes rfl rfl rfl ?_
    | refine W.no rfl rfl rfl rfl ?_
    | refine W.never rfl rfl rfl rfl ?_
    | refine W.read (rd_mv_p rfl) rfl ?_
    | refine W.read (rd_as_p rfl) rfl ?_
    | refine W.read (rd_mv_o rfl) rfl ?_
    | refine W.read (rd_as_o rfl) rfl ?_
    | refine W.read (rd_mv_l rfl) rfl ?_
    | refine W.read (rd_as_l rfl) rfl ?_
    | refine W.read (rd_load_all tt rfl rfl rfl rfl) rfl ?_
    | refine W.read (rd_load_loc_all tt rfl rfl rfl rfl rfl rfl) rfl ?_
    | refine W.read (rd_load_agg tt rfl rfl rfl rfl) rfl ?_
    | refine W.read (rd_load_loc_agg tt rfl rfl rfl rfl rfl rfl) rfl ?_
    | refine W.read (rd_eql rfl rfl) rfl ?_
    | refine W.read (rd_lss rfl rfl) rfl ?_
    | refine W.read (rd_pk_t rfl rfl) rfl ?_
    | refine W.read (rd_pk_f rfl rfl) rfl ?_
    | refine W.read (rd_pk_b rfl rfl rfl) rfl ?_
    | refine W.read (rd_not rfl) rfl ?_
    | refine W.read (rd_len_str tt rfl rfl rfl) rfl ?_
    | refine W.read (rd_len_view tt rfl rfl rfl rfl) rfl ?_
    | refine W.read (rd_len_own tt rfl rfl rfl rfl rfl) rfl ?_
    | refine W.read (rd_len_nil tt rfl rfl rfl rfl) rfl ?_
    | refine W.read (rd_index tt rfl rfl rfl rfl rfl rfl (by omega) (ixE (by omega) (by omega))) rfl ?_
    | refine W.read (rd_index_own tt rfl rfl rfl rfl rfl rfl rfl rfl (by omega) (by first | omega | (simp only [List.length_map, List.length_append, List.length_replicate, List.length_set, List.length_nil, List.length_cons]; omega))) rfl ?_
    | refine W.call h_ValidBook rfl rfl ⟨_, rfl, by omega, by assumption, _, _, rfl, rfl, ?_⟩
    | refine W.call h_IsName rfl rfl ⟨_, rfl, by omega, _, _, rfl, rfl, ?_⟩
    | refine W.call h_change rfl rfl ⟨_, _, rfl, by assumption, _, _, rfl, rfl, ?_⟩
    | refine W.read (rd_add rfl rfl (by unfold in64; omega)) rfl ?_
    | refine W.alloc tt rfl rfl rfl rfl ?_
    | refine W.store1 tt rfl rfl rfl rfl rfl rfl rfl rfl ?_
    | refine W.storeE tt rfl rfl rfl rfl rfl rfl rfl rfl ?_
    | refine W.storeP tt rfl rfl rfl rfl rfl rfl rfl rfl ?_
    | refine W.askY rfl rfl rfl (by first | (simp only [ltB_t, ltB_f, eqB_t, eqB_f, pB_t, pB_f, sEq_t, sEq_f, emp_iff, ne_eq, List.length_map, Bool.not_eq_true, Bool.not_eq_false, Bool.not_eq_eq_eq_not, Bool.not_true, Bool.not_false]; done) | (simp only [ltB_t, ltB_f, eqB_t, eqB_f, pB_t, pB_f, sEq_t, sEq_f, emp_iff, ne_eq, List.length_map, Bool.not_eq_true, Bool.not_eq_false, Bool.not_eq_eq_eq_not, Bool.not_true, Bool.not_false]; omega) | (simp only [ltB_t, ltB_f, eqB_t, eqB_f, pB_t, pB_f, sEq_t, sEq_f, emp_iff, ne_eq, List.length_map, Bool.not_eq_true, Bool.not_eq_false, Bool.not_eq_eq_eq_not, Bool.not_true, Bool.not_false]; assumption)) ?_
    | refine W.askN rfl rfl rfl rfl (by first | (simp only [ltB_t, ltB_f, eqB_t, eqB_f, pB_t, pB_f, sEq_t, sEq_f, emp_iff, ne_eq, List.length_map, Bool.not_eq_true, Bool.not_eq_false, Bool.not_eq_eq_eq_not, Bool.not_true, Bool.not_false]; done) | (simp only [ltB_t, ltB_f, eqB_t, eqB_f, pB_t, pB_f, sEq_t, sEq_f, emp_iff, ne_eq, List.length_map, Bool.not_eq_true, Bool.not_eq_false, Bool.not_eq_eq_eq_not, Bool.not_true, Bool.not_false]; omega) | (simp only [ltB_t, ltB_f, eqB_t, eqB_f, pB_t, pB_f, sEq_t, sEq_f, emp_iff, ne_eq, List.length_map, Bool.not_eq_true, Bool.not_eq_false, Bool.not_eq_eq_eq_not, Bool.not_true, Bool.not_false]; assumption)) ?_
    | (refine W.ask rfl rfl rfl rfl ?_ ?_ <;> intro h <;> (try simp only [ltB_t, ltB_f, eqB_t, eqB_f, pB_t, pB_f, sEq_t, sEq_f, emp_iff, ne_eq, List.length_map, Bool.not_eq_true, Bool.not_eq_false, Bool.not_eq_eq_eq_not, Bool.not_true, Bool.not_false] at h)))
    all_goals (refine fin_p rfl ?_ rfl rfl rfl)
    all_goals (subst hie; unfold lowR; rw [if_pos ⟨hB, hN⟩, if_neg (by omega)])

theorem h_lawLowestOf : Holds Try.prog 3 (fun args K => ∃ (a0 : List D.Entry) (a1 : ByteArray), args = [.view 4 (a0.map D.Entry.enc), .str a1] ∧ ((a0.length : Int) ≤ 9223372036854775807 ∧ (∀ x ∈ a0, x.ok)) ∧ ((a1.size : Int) ≤ 9223372036854775807) ∧ K [.p (.bool true)]) := by
  refine Holds.mk tt Try.func3 rfl Try.ntmps3 rfl (by kernel_rfl) ?_
  rintro _ K ⟨xs, s, rfl, ⟨hl, hok⟩, hs, hK⟩
  refine ⟨Nat.le_of_ble_eq_true rfl, _, hK, ?_⟩
  repeat' (first
    | refine Wc.seq ?_
    | refine Wc.region ?_
    | refine Wc.cond_t rfl ?_
    | refine Wc.cond_f rfl ?_
    | refine Wc.condT rfl (by first | (simp only [ltB_t, ltB_f, eqB_t, eqB_f, pB_t, pB_f, sEq_t, sEq_f, emp_iff, ne_eq, List.length_map, Bool.not_eq_true, Bool.not_eq_false, Bool.not_eq_eq_eq_not, Bool.not_true, Bool.not_false]; done) | (simp only [ltB_t, ltB_f, eqB_t, eqB_f, pB_t, pB_f, sEq_t, sEq_f, emp_iff, ne_eq, List.length_map, Bool.not_eq_true, Bool.not_eq_false, Bool.not_eq_eq_eq_not, Bool.not_true, Bool.not_false]; omega) | (simp only [ltB_t, ltB_f, eqB_t, eqB_f, pB_t, pB_f, sEq_t, sEq_f, emp_iff, ne_eq, List.length_map, Bool.not_eq_true, Bool.not_eq_false, Bool.not_eq_eq_eq_not, Bool.not_true, Bool.not_false]; assumption)) ?_
    | refine Wc.condF rfl (by first | (simp only [ltB_t, ltB_f, eqB_t, eqB_f, pB_t, pB_f, sEq_t, sEq_f, emp_iff, ne_eq, List.length_map, Bool.not_eq_true, Bool.not_eq_false, Bool.not_eq_eq_eq_not, Bool.not_true, Bool.not_false]; done) | (simp only [ltB_t, ltB_f, eqB_t, eqB_f, pB_t, pB_f, sEq_t, sEq_f, emp_iff, ne_eq, List.length_map, Bool.not_eq_true, Bool.not_eq_false, Bool.not_eq_eq_eq_not, Bool.not_true, Bool.not_false]; omega) | (simp only [ltB_t, ltB_f, eqB_t, eqB_f, pB_t, pB_f, sEq_t, sEq_f, emp_iff, ne_eq, List.length_map, Bool.not_eq_true, Bool.not_eq_false, Bool.not_eq_eq_eq_not, Bool.not_true, Bool.not_false]; assumption)) ?_
    | (refine Wc.cond rfl ?_ ?_ <;> intro h <;> (try simp only [ltB_t, ltB_f, eqB_t, eqB_f, pB_t, pB_f, sEq_t, sEq_f, emp_iff, ne_eq, List.length_map, Bool.not_eq_true, Bool.not_eq_false, Bool.not_eq_eq_eq_not, Bool.not_true, Bool.not_false] at h))
    | refine Wc.ret ?_
    | refine Wc.skip ?_
    | refine Wc.block ?_
    | refine Wc.exit ?_
    | refine W.nil ?_
    | refine W.yes rfl rfl rfl ?_
    | refine W.no rfl rfl rfl rfl ?_
    | refine W.never rfl rfl rfl rfl ?_
    | refine W.read (rd_mv_p rfl) rfl ?_
    | refine W.read (rd_as_p rfl) rfl ?_
    | refine W.read (rd_mv_o rfl) rfl ?_
    | refine W.read (rd_as_o rfl) rfl ?_
    | refine W.read (rd_gtr rfl rfl) rfl ?_
    | refine W.read (rd_lss rfl rfl) rfl ?_
    | refine W.read (rd_neq rfl rfl) rfl ?_
    | refine W.read (rd_pk_t rfl rfl) rfl ?_
    | refine W.read (rd_pk_f rfl rfl) rfl ?_
    | refine W.read (rd_pk_b rfl rfl rfl) rfl ?_
    | refine W.read (rd_not rfl) rfl ?_
    | refine W.read (rd_len_str tt rfl rfl rfl) rfl ?_
    | refine W.read (rd_len_view tt rfl rfl rfl rfl) rfl ?_
    | refine W.read (rd_len_own tt rfl rfl rfl rfl rfl) rfl ?_
    | refine W.read (rd_len_nil tt rfl rfl rfl rfl) rfl ?_
    | refine W.read (rd_extract rfl rfl) rfl ?_
    | refine W.read (rd_mv_t rfl) rfl ?_
    | refine W.call h_szEntryS rfl rfl ⟨_, _, rfl, by omega, by assumption, by omega, by omega, fun r hr1 hr2 => ⟨_, _, rfl, rfl, ?_⟩⟩
    | refine W.callR h_LowestS rfl rfl ⟨_, _, rfl, by omega, by assumption, by omega, ?_⟩
    | refine W.callR h_toEntryS rfl rfl ⟨_, rfl, by omega, ?_⟩
    | refine W.callR h_LowestI rfl rfl ⟨_, _, rfl, by omega, by assumption, by omega, ?_⟩
    | refine W.call h_eqEntryS rfl rfl ⟨_, _, rfl, by omega, _, _, rfl, rfl, ?_⟩
    | refine W.askY rfl rfl rfl (by first | (simp only [ltB_t, ltB_f, eqB_t, eqB_f, pB_t, pB_f, sEq_t, sEq_f, emp_iff, ne_eq, List.length_map, Bool.not_eq_true, Bool.not_eq_false, Bool.not_eq_eq_eq_not, Bool.not_true, Bool.not_false]; done) | (simp only [ltB_t, ltB_f, eqB_t, eqB_f, pB_t, pB_f, sEq_t, sEq_f, emp_iff, ne_eq, List.length_map, Bool.not_eq_true, Bool.not_eq_false, Bool.not_eq_eq_eq_not, Bool.not_true, Bool.not_false]; omega) | (simp only [ltB_t, ltB_f, eqB_t, eqB_f, pB_t, pB_f, sEq_t, sEq_f, emp_iff, ne_eq, List.length_map, Bool.not_eq_true, Bool.not_eq_false, Bool.not_eq_eq_eq_not, Bool.not_true, Bool.not_false]; assumption)) ?_
    | refine W.askN rfl rfl rfl rfl (by first | (simp only [ltB_t, ltB_f, eqB_t, eqB_f, pB_t, pB_f, sEq_t, sEq_f, emp_iff, ne_eq, List.length_map, Bool.not_eq_true, Bool.not_eq_false, Bool.not_eq_eq_eq_not, Bool.not_true, Bool.not_false]; done) | (simp only [ltB_t, ltB_f, eqB_t, eqB_f, pB_t, pB_f, sEq_t, sEq_f, emp_iff, ne_eq, List.length_map, Bool.not_eq_true, Bool.not_eq_false, Bool.not_eq_eq_eq_not, Bool.not_true, Bool.not_false]; omega) | (simp only [ltB_t, ltB_f, eqB_t, eqB_f, pB_t, pB_f, sEq_t, sEq_f, emp_iff, ne_eq, List.length_map, Bool.not_eq_true, Bool.not_eq_false, Bool.not_eq_eq_eq_not, Bool.not_true, Bool.not_false]; assumption)) ?_
    | (refine W.ask rfl rfl rfl rfl ?_ ?_ <;> intro h <;> (try simp only [ltB_t, ltB_f, eqB_t, eqB_f, pB_t, pB_f, sEq_t, sEq_f, emp_iff, ne_eq, List.length_map, Bool.not_eq_true, Bool.not_eq_false, Bool.not_eq_eq_eq_not, Bool.not_true, Bool.not_false] at h)))
  all_goals exact fin_p rfl rfl rfl rfl rfl

end Go.Proofs.Ythpcibkoldnpaaa
namespace Go.Proofs.Ythpcibkoldnpaaa
open Go.ChangeShapes Go.WideShapes Go.ChangeAt Go.RowKit Go.Lo
open Go.ChangeMaps (open_string shut_string)
theorem lowestOf_own : ownKnob Try.prog.godebug = none := by kernel_rfl
theorem lowestOf_laidOut : laidOutB Try.prog = true := by kernel_rfl
theorem lowestOf_rd_Entry : Reads Try.prog 111 4 (fun p => ∃ x : D.Entry, p = x.enc ∧ x.ok) :=
  (reads_struct Try.underlying111 [(1, _), (1, _), (1, _), (1, _)] ⟨rfl, by kernel_rfl, reads_int Try.underlying2, rfl, by kernel_rfl, reads_str Try.underlying9, rfl, by kernel_rfl, reads_str Try.underlying9, rfl, by kernel_rfl, reads_int Try.underlying2, trivial⟩ (by kernel_rfl)).mono fun p h => by
    obtain ⟨_, _, rfl, _, ⟨n0, rfl, h0⟩, _, _, rfl, _, ⟨n1, rfl, h1⟩, _, _, rfl, _, ⟨n2, rfl, h2⟩, _, _, rfl, _, ⟨n3, rfl, h3⟩, rfl⟩ := h
    exact ⟨⟨n0, n1, n2, n3⟩, rfl, by unfold D.Entry.ok; exact ⟨h0, h1, h2, h3⟩⟩
theorem lowestOf_lifted (os : Os) (started : os.Started) (H : Type) (enc : TypeId × Value → H) :
    ReturnsInHanded {} Try.checked os 3 .any (Rows.fnExactLowestOfSpec.pre6 enc Try.prog Try.f3 Rows.fnExactLowestOfRow.domain false) (Rows.fnExactLowestOfSpec.post enc Try.prog Try.f3 false true false false) := by
  refine returnsInHanded_of_change (C := Try.checked) lowestOf_own started (by kernel_rfl) Try.func3
    (ChangeSpec.witness6 (enc := enc) (C := Try.checked) false ⟨#[], #[.slice none 0 0, .string ⟨#[]⟩], []⟩ 8 (by kernel_rfl) (by kernel_rfl) (by kernel_rfl) (by kernel_rfl)) ?_
  intro W base args ds gs before hval0 hW hcnd _
  have hval : ∀ (j : Nat) t v, Try.f3.params[j]? = some t → args[j]? = some v → Value.okWide Try.prog W .any base t v := hval0
  have hW' := hW
  obtain ⟨p, q, hA0, hV, rfl, hfz, hnd⟩ := hW
  have hA : DataW.TrodAll enc Try.prog W 0 (fun _ => true) true Try.f3.params.toList args.toList ds p := hA0
  rw [Try.params3] at hA hval
  obtain ⟨v0, vs0, d0, ds0, p0, q0, hargs, rfl, rfl, h0, r0⟩ := trodAll_cons hA
  obtain ⟨v1, vs1, d1, ds1, p1, q1, rfl, rfl, rfl, h1, r1⟩ := trodAll_cons r0
  obtain ⟨rfl, rfl, rfl⟩ := trodAll_nil r1
  obtain rfl : args = #[v0, v1] := by cases args; simp_all
  obtain ⟨rfl, rfl⟩ := trodVars_none hV
  have lt0 : ∀ x ∈ p0, x.block < W.heap.size := by obtain ⟨m, hm⟩ := h0; exact DataW.trod_lt m _ _ _ hm
  have lt1 : ∀ x ∈ p1, x.block < W.heap.size := by obtain ⟨m, hm⟩ := h1; exact DataW.trod_lt m _ _ _ hm
  obtain ⟨y0, hy0, a0, e0, c0, d0⟩ := (reads_list Try.underlying22 lowestOf_rd_Entry (by kernel_rfl) (by decide)).arg h0 (by obtain ⟨a, l, c, rfl⟩ := okWide_slice Try.underlying22 (hval 0 22 v0 rfl rfl); rfl)
  obtain ⟨y1, hy1, a1, e1, c1⟩ := (reads_str Try.underlying9).arg h1 (by obtain ⟨s, rfl, _⟩ := open_string Try.underlying9 (hval 1 9 v1 rfl rfl) h1; rfl)
  cases e0
  cases e1
  obtain ⟨rs, hro, hrs⟩ := h_lawLowestOf.2 [.view 4 (a0.map D.Entry.enc), .str a1] (fun rs => rs = [.p (.bool true)]) ⟨a0, a1, rfl, ⟨c0, d0⟩, c1, rfl⟩
  subst hrs
  have hAr : ArgsR W [.view 4 (a0.map D.Entry.enc), .str a1] #[v0, v1] := ⟨rfl, fun i m u hm hu => by
    match i, hm, hu with
    | 0, hm, hu => simp at hm hu; subst hm; subst hu; exact hy0
    | 1, hm, hu => simp at hm hu; subst hm; subst hu; exact hy1⟩
  refine (hro W _ hAr).mono fun e W' ⟨v, he, ⟨bl, cp, hr⟩, bel⟩ => ?_
  have hvv := hr.one _ rfl
  simp only [R1, PV.val, Option.some.injEq] at hvv
  subst hvv
  subst he
  exact ⟨_, rfl, _, _, _, [], _, [], hW', trodAll_mk1 (shut_bool Try.underlying4 _), (trodAll_cons_mk (Below.trod lowestOf_laidOut (by kernel_rfl) (of_decide_eq_true (by kernel_rfl)) h0 bel lt0) (trodAll_cons_mk (Below.trod lowestOf_laidOut (by kernel_rfl) (of_decide_eq_true (by kernel_rfl)) h1 bel lt1) trodAll_mk0)), rfl, bel.frame _, fun h => by cases h⟩
theorem lowestOf_proved : Rows.FnExactLowestOfSaid :=
  OpenClaim.holds_of_wide 3 Try.f3 rfl rfl rfl rfl rfl rfl rfl ⟨rfl, rfl, rfl, rfl, rfl⟩ rfl rfl rfl rfl rfl (by kernel_rfl) Try.func3 (by kernel_rfl)
    (of_decide_eq_true (by kernel_rfl)) (by unfold Func.isWrapper; first | (rw [if_pos (by decide +kernel)]; kernel_rfl) | (rw [if_neg (by decide +kernel)]; exact ⟨rfl, rfl⟩))
    (fun os started H enc _ => lowestOf_lifted os started H enc)
#print axioms lowestOf_proved
end Go.Proofs.Ythpcibkoldnpaaa
