/- The type Entry: its contracts. -/
import Derived.Test.YthpcibkoldnpaaaBase
set_option linter.unusedVariables false
set_option linter.unusedSimpArgs false
set_option maxRecDepth 100000
namespace Go.Lo
structure D.Entry where
  Day : Int
  Debit : ByteArray
  Credit : ByteArray
  Amount : Int
  deriving Inhabited
def D.Entry.enc (x : D.Entry) : List PV := [I x.Day, .str x.Debit, .str x.Credit, I x.Amount]
def D.Entry.ok (x : D.Entry) : Prop := in64 x.Day ∧ (x.Debit.size : Int) ≤ 9223372036854775807 ∧ (x.Credit.size : Int) ≤ 9223372036854775807 ∧ in64 x.Amount
def D.Entry.len (x : D.Entry) : Int := (x.Debit.size : Int) + (x.Credit.size : Int)
theorem D.Entry.ok0 : (default : D.Entry).ok := by unfold D.Entry.ok; refine ⟨by unfold in64; decide, by decide, by decide, by unfold in64; decide⟩
theorem D.Entry.eq_iff {x y : D.Entry} : x = y ↔ x.Day = y.Day ∧ x.Debit = y.Debit ∧ x.Credit = y.Credit ∧ x.Amount = y.Amount := by cases x; cases y; simp
theorem D.Entry.enc_sc (x : D.Entry) : ∀ m ∈ x.enc, m.sc = true := by intro m hm; simp [D.Entry.enc] at hm; rcases hm with rfl | rfl | rfl | rfl <;> rfl
theorem D.Entry.len_nn (x : D.Entry) : 0 ≤ x.len := by unfold D.Entry.len; omega
def EntryOk (x : D.Entry) : Prop := (0 ≤ x.Day ∧ x.Day ≤ 100000) ∧ NameP x.Debit ∧ NameP x.Credit ∧ x.Debit ≠ x.Credit ∧ (1 ≤ x.Amount ∧ x.Amount ≤ 10000000)
def BookC (xs : List D.Entry) (i : Int) : Prop := EntryOk (ix xs i) ∧ (0 < i → (ix xs (i - 1)).Day ≤ (ix xs i).Day)
def BookOk (xs : List D.Entry) : Prop := allTo (BookC xs) xs.length ∧ (xs.length : Int) ≤ 32
end Go.Lo
namespace Go.Proofs.Ythpcibkoldnpaaa
open Go.Lo
attribute [local irreducible] W Wc
theorem h_szEntry : Holds Try.prog 80 (fun args K => ∃ (x : D.Entry) (l : Int), args = [.agg x.enc, I l] ∧ x.ok ∧ 0 ≤ l ∧ l ≤ 1048576 ∧ K [.p (I (szR l x.len))]) := by
  refine Holds.mk tt Try.func80 rfl Try.ntmps80 rfl (by kernel_rfl) ?_
  rintro _ K ⟨x, l, rfl, ⟨ho0, ho1, ho2, ho3⟩, hl0, hl1, hK⟩
  refine ⟨Nat.le_of_ble_eq_true rfl, _, hK, ?_⟩
  repeat' (first
    | refine Wc.seq ?_
    | refine Wc.region ?_
    | refine Wc.cond_t rfl ?_
    | refine Wc.cond_f rfl ?_
    | refine Wc.condT rfl (by first | (simp only [ltB_t, ltB_f, eqB_t, eqB_f, pB_t, pB_f, sEq_t, sEq_f, emp_iff, ne_eq, List.length_map, Bool.not_eq_true, Bool.not_eq_false, Bool.not_eq_eq_eq_not, Bool.not_true, Bool.not_false]; done) | (simp only [ltB_t, ltB_f, eqB_t, eqB_f, pB_t, pB_f, sEq_t, sEq_f, emp_iff, ne_eq, List.length_map, Bool.not_eq_true, Bool.not_eq_false, Bool.not_eq_eq_eq_not, Bool.not_true, Bool.not_false]; omega) | (simp only [ltB_t, ltB_f, eqB_t, eqB_f, pB_t, pB_f, sEq_t, sEq_f, emp_iff, ne_eq, List.length_map, Bool.not_eq_true, Bool.not_eq_false, Bool.not_eq_eq_eq_not, Bool.not_true, Bool.not_false]; assumption)) ?_
    | refine Wc.condF rfl (by first | (simp only [ltB_t, ltB_f, eqB_t, eqB_f, pB_t, pB_f, sEq_t, sEq_f, emp_iff, ne_eq, List.length_map, Bool.not_eq_true, Bool.not_eq_false, Bool.not_eq_eq_eq_not, Bool.not_true, Bool.not_false]; done) | (simp only [ltB_t, ltB_f, eqB_t, eqB_f, pB_t, pB_f, sEq_t, sEq_f, emp_iff, ne_eq, List.length_map, Bool.not_eq_true, Bool.not_eq_false, Bool.not_eq_eq_eq_not, Bool.not_true, Bool.not_false]; omega) | (simp only [ltB_t, ltB_f, eqB_t, eqB_f, pB_t, pB_f, sEq_t, sEq_f, emp_iff, ne_eq, List.length_map, Bool.not_eq_true, Bool.not_eq_false, Bool.not_eq_eq_eq_not, Bool.not_true, Bool.not_false]; assumption)) ?_
    | (refine Wc.cond rfl ?_ ?_ <;> intro h <;> (try simp only [ltB_t, ltB_f, eqB_t, eqB_f, pB_t, pB_f, sEq_t, sEq_f, emp_iff, ne_eq, List.length_map, Bool.not_eq_true, Bool.not_eq_false, Bool.not_eq_eq_eq_not, Bool.not_true, Bool.not_false] at h))
    | refine Wc.ret ?_
    | refine Wc.skip ?_
    | refine Wc.block ?_
    | refine Wc.exit ?_
    | refine W.nil ?_
    | refine W.read (rd_mv_p rfl) rfl ?_
    | refine W.read (rd_as_p rfl) rfl ?_
    | refine W.read (rd_mv_o rfl) rfl ?_
    | refine W.read (rd_as_o rfl) rfl ?_
    | refine W.read (rd_mv_l rfl) rfl ?_
    | refine W.read (rd_as_l rfl) rfl ?_
    | refine W.read (rd_field tt rfl rfl rfl rfl) rfl ?_
    | refine W.read (rd_field_loc tt rfl rfl rfl rfl) rfl ?_
    | refine W.read (rd_load tt rfl rfl rfl rfl) rfl ?_
    | refine W.read (rd_load_loc tt rfl rfl rfl rfl rfl rfl) rfl ?_
    | refine W.read (rd_lss rfl rfl) rfl ?_
    | refine W.read (rd_len_str tt rfl rfl rfl) rfl ?_
    | refine W.read (rd_len_view tt rfl rfl rfl rfl) rfl ?_
    | refine W.read (rd_len_own tt rfl rfl rfl rfl rfl) rfl ?_
    | refine W.read (rd_len_nil tt rfl rfl rfl rfl) rfl ?_
    | refine W.read (rd_sub rfl rfl (by unfold in64; omega)) rfl ?_
    | refine W.box_agg rfl rfl rfl ?_
    | refine W.box_one rfl rfl rfl ?_)
  all_goals (refine fin_p rfl ?_ rfl rfl rfl; unfold szR D.Entry.len; first | (rw [if_pos (by omega)]; done) | (rw [if_neg (by omega)]; congr 3; omega))

theorem h_szEntryS : Holds Try.prog 15 (fun args K => ∃ (xs : List D.Entry) (l : Int), args = [.view 4 (xs.map D.Entry.enc), I l] ∧ (xs.length : Int) ≤ 9223372036854775807 ∧ (∀ x ∈ xs, x.ok) ∧ 0 ≤ l ∧ l ≤ 1048576 ∧ ∀ r : Int, -1 ≤ r → (0 ≤ r → r ≤ l ∧ (xs.length : Int) ≤ l) → K [.p (I r)]) := by
  refine Holds.mk tt Try.func15 rfl Try.ntmps15 rfl (by kernel_rfl) ?_
  rintro _ K ⟨xs, l, rfl, hlen, hok, hl0, hl1, hK⟩
  have hln : (xs.map D.Entry.enc).length = xs.length := by simp
  have hnn : ∀ i, 0 ≤ (ix xs i).len := fun i => D.Entry.len_nn _
  have htot := sumTo_mono (f := fun i => (ix xs i).len) hnn (n := 0) (m := xs.length) (by omega) (by omega)
  rw [sumTo_zero] at htot
  refine ⟨Nat.le_of_ble_eq_true rfl, _, hK (szR l (xs.length + sumTo (fun i => (ix xs i).len) xs.length)) (by unfold szR; split <;> omega) (fun h => by unfold szR at *; split at h <;> omega), ?_⟩
  repeat' (first
    | refine Wc.seq ?_
    | refine Wc.region ?_
    | refine Wc.cond_t rfl ?_
    | refine Wc.cond_f rfl ?_
    | refine Wc.condT rfl (by first | (simp only [ltB_t, ltB_f, eqB_t, eqB_f, pB_t, pB_f, sEq_t, sEq_f, emp_iff, ne_eq, List.length_map, Bool.not_eq_true, Bool.not_eq_false, Bool.not_eq_eq_eq_not, Bool.not_true, Bool.not_false]; done) | (simp only [ltB_t, ltB_f, eqB_t, eqB_f, pB_t, pB_f, sEq_t, sEq_f, emp_iff, ne_eq, List.length_map, Bool.not_eq_true, Bool.not_eq_false, Bool.not_eq_eq_eq_not, Bool.not_true, Bool.not_false]; omega) | (simp only [ltB_t, ltB_f, eqB_t, eqB_f, pB_t, pB_f, sEq_t, sEq_f, emp_iff, ne_eq, List.length_map, Bool.not_eq_true, Bool.not_eq_false, Bool.not_eq_eq_eq_not, Bool.not_true, Bool.not_false]; assumption)) ?_
    | refine Wc.condF rfl (by first | (simp only [ltB_t, ltB_f, eqB_t, eqB_f, pB_t, pB_f, sEq_t, sEq_f, emp_iff, ne_eq, List.length_map, Bool.not_eq_true, Bool.not_eq_false, Bool.not_eq_eq_eq_not, Bool.not_true, Bool.not_false]; done) | (simp only [ltB_t, ltB_f, eqB_t, eqB_f, pB_t, pB_f, sEq_t, sEq_f, emp_iff, ne_eq, List.length_map, Bool.not_eq_true, Bool.not_eq_false, Bool.not_eq_eq_eq_not, Bool.not_true, Bool.not_false]; omega) | (simp only [ltB_t, ltB_f, eqB_t, eqB_f, pB_t, pB_f, sEq_t, sEq_f, emp_iff, ne_eq, List.length_map, Bool.not_eq_true, Bool.not_eq_false, Bool.not_eq_eq_eq_not, Bool.not_true, Bool.not_false]; assumption)) ?_
    | (refine Wc.cond rfl ?_ ?_ <;> intro h <;> (try simp only [ltB_t, ltB_f, eqB_t, eqB_f, pB_t, pB_f, sEq_t, sEq_f, emp_iff, ne_eq, List.length_map, Bool.not_eq_true, Bool.not_eq_false, Bool.not_eq_eq_eq_not, Bool.not_true, Bool.not_false] at h))
    | refine Wc.ret ?_
    | refine Wc.skip ?_
    | refine Wc.block ?_
    | refine Wc.exit ?_
    | refine W.nil ?_
    | refine W.read (rd_mv_p rfl) rfl ?_
    | refine W.read (rd_as_p rfl) rfl ?_
    | refine W.read (rd_mv_o rfl) rfl ?_
    | refine W.read (rd_as_o rfl) rfl ?_
    | refine W.read (rd_load_all tt rfl rfl rfl rfl) rfl ?_
    | refine W.read (rd_load_loc_all tt rfl rfl rfl rfl rfl rfl) rfl ?_
    | refine W.read (rd_load_agg tt rfl rfl rfl rfl) rfl ?_
    | refine W.read (rd_load_loc_agg tt rfl rfl rfl rfl rfl rfl) rfl ?_
    | refine W.read (rd_lss rfl rfl) rfl ?_
    | refine W.read (rd_len_str tt rfl rfl rfl) rfl ?_
    | refine W.read (rd_len_view tt rfl rfl rfl rfl) rfl ?_
    | refine W.read (rd_len_own tt rfl rfl rfl rfl rfl) rfl ?_
    | refine W.read (rd_len_nil tt rfl rfl rfl rfl) rfl ?_
    | refine W.read (rd_index tt rfl rfl rfl rfl rfl rfl (by omega) (ixE (by omega) (by omega))) rfl ?_
    | refine W.read (rd_index_own tt rfl rfl rfl rfl rfl rfl rfl rfl (by omega) (by first | omega | (simp only [List.length_map, List.length_append, List.length_replicate, List.length_set, List.length_nil, List.length_cons]; omega))) rfl ?_
    | refine W.call h_szEntry rfl rfl ⟨_, _, rfl, by assumption, by omega, by omega, _, _, rfl, rfl, ?_⟩
    | refine W.read (rd_add rfl rfl (by unfold in64; omega)) rfl ?_
    | refine W.read (rd_sub rfl rfl (by unfold in64; omega)) rfl ?_)
  all_goals try (refine fin_p rfl ?_ rfl rfl rfl; unfold szR; rw [if_pos (by omega)]; done)
  refine Wc.loop (fun i : Int => 0 ≤ i ∧ i ≤ xs.length ∧ 0 ≤ l - xs.length - sumTo (fun i => (ix xs i).len) i) (fun i => ⟨27, 0, [(0, .p (.view 4 (xs.map D.Entry.enc))), (1, .p (I (l - xs.length - sumTo (fun i => (ix xs i).len) i))), (5, .p (I i))], []⟩) (fun i => (xs.length - i).toNat) 0 ⟨by omega, by omega, by rw [sumTo_zero]; omega⟩ ⟨rfl, ⟨rfl, pI (by rw [sumTo_zero, hln]; omega), rfl, trivial⟩, trivial, rfl, rfl⟩ ?_
  rintro i ⟨hi0, hi1, hsm⟩
  have hoki : (ix xs i).ok := ix_prop hok D.Entry.ok0 i
  have hsu := sumTo_succ (f := fun i => (ix xs i).len) hi0
  have hni := hnn i
  have h0i := sumTo_mono (f := fun i => (ix xs i).len) hnn (n := 0) (m := i) (by omega) hi0
  rw [sumTo_zero] at h0i
  rcases Int.lt_or_le i xs.length with hlt | hge
  · have hmo := sumTo_mono (f := fun i => (ix xs i).len) hnn (n := i + 1) (m := xs.length) (by omega) (by omega)
    by_cases hc : l - xs.length - sumTo (fun i => (ix xs i).len) i - (ix xs i).len < 0
    · have hz : szR (l - xs.length - sumTo (fun i => (ix xs i).len) i) (ix xs i).len = -1 := by unfold szR; rw [if_pos hc]
      repeat' (first
    | refine Wc.seq ?_
    | refine Wc.region ?_
    | refine Wc.cond_t rfl ?_
    | refine Wc.cond_f rfl ?_
    | refine Wc.condT rfl (by first | (simp only [ltB_t, ltB_f, eqB_t, eqB_f, pB_t, pB_f, sEq_t, sEq_f, emp_iff, ne_eq, List.length_map, Bool.not_eq_true, Bool.not_eq_false, Bool.not_eq_eq_eq_not, Bool.not_true, Bool.not_false]; done) | (simp only [ltB_t, ltB_f, eqB_t, eqB_f, pB_t, pB_f, sEq_t, sEq_f, emp_iff, ne_eq, List.length_map, Bool.not_eq_true, Bool.not_eq_false, Bool.not_eq_eq_eq_not, Bool.not_true, Bool.not_false]; omega) | (simp only [ltB_t, ltB_f, eqB_t, eqB_f, pB_t, pB_f, sEq_t, sEq_f, emp_iff, ne_eq, List.length_map, Bool.not_eq_true, Bool.not_eq_false, Bool.not_eq_eq_eq_not, Bool.not_true, Bool.not_false]; assumption)) ?_
    | refine Wc.condF rfl (by first | (simp only [ltB_t, ltB_f, eqB_t, eqB_f, pB_t, pB_f, sEq_t, sEq_f, emp_iff, ne_eq, List.length_map, Bool.not_eq_true, Bool.not_eq_false, Bool.not_eq_eq_eq_not, Bool.not_true, Bool.not_false]; done) | (simp only [ltB_t, ltB_f, eqB_t, eqB_f, pB_t, pB_f, sEq_t, sEq_f, emp_iff, ne_eq, List.length_map, Bool.not_eq_true, Bool.not_eq_false, Bool.not_eq_eq_eq_not, Bool.not_true, Bool.not_false]; omega) | (simp only [ltB_t, ltB_f, eqB_t, eqB_f, pB_t, pB_f, sEq_t, sEq_f, emp_iff, ne_eq, List.length_map, Bool.not_eq_true, Bool.not_eq_false, Bool.not_eq_eq_eq_not, Bool.not_true, Bool.not_false]; assumption)) ?_
    | (refine Wc.cond rfl ?_ ?_ <;> intro h <;> (try simp only [ltB_t, ltB_f, eqB_t, eqB_f, pB_t, pB_f, sEq_t, sEq_f, emp_iff, ne_eq, List.length_map, Bool.not_eq_true, Bool.not_eq_false, Bool.not_eq_eq_eq_not, Bool.not_true, Bool.not_false] at h))
    | refine Wc.ret ?_
    | refine Wc.skip ?_
    | refine Wc.block ?_
    | refine Wc.exit ?_
    | refine W.nil ?_
    | refine W.read (rd_mv_p rfl) rfl ?_
    | refine W.read (rd_as_p rfl) rfl ?_
    | refine W.read (rd_mv_o rfl) rfl ?_
    | refine W.read (rd_as_o rfl) rfl ?_
    | refine W.read (rd_load_all tt rfl rfl rfl rfl) rfl ?_
    | refine W.read (rd_load_loc_all tt rfl rfl rfl rfl rfl rfl) rfl ?_
    | refine W.read (rd_load_agg tt rfl rfl rfl rfl) rfl ?_
    | refine W.read (rd_load_loc_agg tt rfl rfl rfl rfl rfl rfl) rfl ?_
    | refine W.read (rd_lss rfl rfl) rfl ?_
    | refine W.read (rd_len_str tt rfl rfl rfl) rfl ?_
    | refine W.read (rd_len_view tt rfl rfl rfl rfl) rfl ?_
    | refine W.read (rd_len_own tt rfl rfl rfl rfl rfl) rfl ?_
    | refine W.read (rd_len_nil tt rfl rfl rfl rfl) rfl ?_
    | refine W.read (rd_index tt rfl rfl rfl rfl rfl rfl (by omega) (ixE (by omega) (by omega))) rfl ?_
    | refine W.read (rd_index_own tt rfl rfl rfl rfl rfl rfl rfl rfl (by omega) (by first | omega | (simp only [List.length_map, List.length_append, List.length_replicate, List.length_set, List.length_nil, List.length_cons]; omega))) rfl ?_
    | refine W.call h_szEntry rfl rfl ⟨_, _, rfl, by assumption, by omega, by omega, _, _, rfl, rfl, ?_⟩
    | refine W.read (rd_add rfl rfl (by unfold in64; omega)) rfl ?_
    | refine W.read (rd_sub rfl rfl (by unfold in64; omega)) rfl ?_)
      all_goals (refine fin_p rfl ?_ rfl rfl rfl; unfold szR; rw [if_pos (by omega)])
    · have hz : szR (l - xs.length - sumTo (fun i => (ix xs i).len) i) (ix xs i).len = l - xs.length - sumTo (fun i => (ix xs i).len) i - (ix xs i).len := by unfold szR; rw [if_neg hc]
      repeat' (first
    | refine Wc.seq ?_
    | refine Wc.region ?_
    | refine Wc.cond_t rfl ?_
    | refine Wc.cond_f rfl ?_
    | refine Wc.condT rfl (by first | (simp only [ltB_t, ltB_f, eqB_t, eqB_f, pB_t, pB_f, sEq_t, sEq_f, emp_iff, ne_eq, List.length_map, Bool.not_eq_true, Bool.not_eq_false, Bool.not_eq_eq_eq_not, Bool.not_true, Bool.not_false]; done) | (simp only [ltB_t, ltB_f, eqB_t, eqB_f, pB_t, pB_f, sEq_t, sEq_f, emp_iff, ne_eq, List.length_map, Bool.not_eq_true, Bool.not_eq_false, Bool.not_eq_eq_eq_not, Bool.not_true, Bool.not_false]; omega) | (simp only [ltB_t, ltB_f, eqB_t, eqB_f, pB_t, pB_f, sEq_t, sEq_f, emp_iff, ne_eq, List.length_map, Bool.not_eq_true, Bool.not_eq_false, Bool.not_eq_eq_eq_not, Bool.not_true, Bool.not_false]; assumption)) ?_
    | refine Wc.condF rfl (by first | (simp only [ltB_t, ltB_f, eqB_t, eqB_f, pB_t, pB_f, sEq_t, sEq_f, emp_iff, ne_eq, List.length_map, Bool.not_eq_true, Bool.not_eq_false, Bool.not_eq_eq_eq_not, Bool.not_true, Bool.not_false]; done) | (simp only [ltB_t, ltB_f, eqB_t, eqB_f, pB_t, pB_f, sEq_t, sEq_f, emp_iff, ne_eq, List.length_map, Bool.not_eq_true, Bool.not_eq_false, Bool.not_eq_eq_eq_not, Bool.not_true, Bool.not_false]; omega) | (simp only [ltB_t, ltB_f, eqB_t, eqB_f, pB_t, pB_f, sEq_t, sEq_f, emp_iff, ne_eq, List.length_map, Bool.not_eq_true, Bool.not_eq_false, Bool.not_eq_eq_eq_not, Bool.not_true, Bool.not_false]; assumption)) ?_
    | (refine Wc.cond rfl ?_ ?_ <;> intro h <;> (try simp only [ltB_t, ltB_f, eqB_t, eqB_f, pB_t, pB_f, sEq_t, sEq_f, emp_iff, ne_eq, List.length_map, Bool.not_eq_true, Bool.not_eq_false, Bool.not_eq_eq_eq_not, Bool.not_true, Bool.not_false] at h))
    | refine Wc.ret ?_
    | refine Wc.skip ?_
    | refine Wc.block ?_
    | refine Wc.exit ?_
    | refine W.nil ?_
    | refine W.read (rd_mv_p rfl) rfl ?_
    | refine W.read (rd_as_p rfl) rfl ?_
    | refine W.read (rd_mv_o rfl) rfl ?_
    | refine W.read (rd_as_o rfl) rfl ?_
    | refine W.read (rd_load_all tt rfl rfl rfl rfl) rfl ?_
    | refine W.read (rd_load_loc_all tt rfl rfl rfl rfl rfl rfl) rfl ?_
    | refine W.read (rd_load_agg tt rfl rfl rfl rfl) rfl ?_
    | refine W.read (rd_load_loc_agg tt rfl rfl rfl rfl rfl rfl) rfl ?_
    | refine W.read (rd_lss rfl rfl) rfl ?_
    | refine W.read (rd_len_str tt rfl rfl rfl) rfl ?_
    | refine W.read (rd_len_view tt rfl rfl rfl rfl) rfl ?_
    | refine W.read (rd_len_own tt rfl rfl rfl rfl rfl) rfl ?_
    | refine W.read (rd_len_nil tt rfl rfl rfl rfl) rfl ?_
    | refine W.read (rd_index tt rfl rfl rfl rfl rfl rfl (by omega) (ixE (by omega) (by omega))) rfl ?_
    | refine W.read (rd_index_own tt rfl rfl rfl rfl rfl rfl rfl rfl (by omega) (by first | omega | (simp only [List.length_map, List.length_append, List.length_replicate, List.length_set, List.length_nil, List.length_cons]; omega))) rfl ?_
    | refine W.call h_szEntry rfl rfl ⟨_, _, rfl, by assumption, by omega, by omega, _, _, rfl, rfl, ?_⟩
    | refine W.read (rd_add rfl rfl (by unfold in64; omega)) rfl ?_
    | refine W.read (rd_sub rfl rfl (by unfold in64; omega)) rfl ?_)
      all_goals (refine ⟨i + 1, ⟨by omega, by omega, by omega⟩, by dsimp only; omega, ⟨rfl, ⟨rfl, pI (by rw [hz, hsu]; omega), rfl, trivial⟩, trivial, rfl, rfl⟩⟩)
  · have hie : i = xs.length := by omega
    repeat' (first
    | refine Wc.seq ?_
    | refine Wc.region ?_
    | refine Wc.cond_t rfl ?_
    | refine Wc.cond_f rfl ?_
    | refine Wc.condT rfl (by first | (simp only [ltB_t, ltB_f, eqB_t, eqB_f, pB_t, pB_f, sEq_t, sEq_f, emp_iff, ne_eq, List.length_map, Bool.not_eq_true, Bool.not_eq_false, Bool.not_eq_eq_eq_not, Bool.not_true, Bool.not_false]; done) | (simp only [ltB_t, ltB_f, eqB_t, eqB_f, pB_t, pB_f, sEq_t, sEq_f, emp_iff, ne_eq, List.length_map, Bool.not_eq_true, Bool.not_eq_false, Bool.not_eq_eq_eq_not, Bool.not_true, Bool.not_false]; omega) | (simp only [ltB_t, ltB_f, eqB_t, eqB_f, pB_t, pB_f, sEq_t, sEq_f, emp_iff, ne_eq, List.length_map, Bool.not_eq_true, Bool.not_eq_false, Bool.not_eq_eq_eq_not, Bool.not_true, Bool.not_false]; assumption)) ?_
    | refine Wc.condF rfl (by first | (simp only [ltB_t, ltB_f, eqB_t, eqB_f, pB_t, pB_f, sEq_t, sEq_f, emp_iff, ne_eq, List.length_map, Bool.not_eq_true, Bool.not_eq_false, Bool.not_eq_eq_eq_not, Bool.not_true, Bool.not_false]; done) | (simp only [ltB_t, ltB_f, eqB_t, eqB_f, pB_t, pB_f, sEq_t, sEq_f, emp_iff, ne_eq, List.length_map, Bool.not_eq_true, Bool.not_eq_false, Bool.not_eq_eq_eq_not, Bool.not_true, Bool.not_false]; omega) | (simp only [ltB_t, ltB_f, eqB_t, eqB_f, pB_t, pB_f, sEq_t, sEq_f, emp_iff, ne_eq, List.length_map, Bool.not_eq_true, Bool.not_eq_false, Bool.not_eq_eq_eq_not, Bool.not_true, Bool.not_false]; assumption)) ?_
    | (refine Wc.cond rfl ?_ ?_ <;> intro h <;> (try simp only [ltB_t, ltB_f, eqB_t, eqB_f, pB_t, pB_f, sEq_t, sEq_f, emp_iff, ne_eq, List.length_map, Bool.not_eq_true, Bool.not_eq_false, Bool.not_eq_eq_eq_not, Bool.not_true, Bool.not_false] at h))
    | refine Wc.ret ?_
    | refine Wc.skip ?_
    | refine Wc.block ?_
    | refine Wc.exit ?_
    | refine W.nil ?_
    | refine W.read (rd_mv_p rfl) rfl ?_
    | refine W.read (rd_as_p rfl) rfl ?_
    | refine W.read (rd_mv_o rfl) rfl ?_
    | refine W.read (rd_as_o rfl) rfl ?_
    | refine W.read (rd_load_all tt rfl rfl rfl rfl) rfl ?_
    | refine W.read (rd_load_loc_all tt rfl rfl rfl rfl rfl rfl) rfl ?_
    | refine W.read (rd_load_agg tt rfl rfl rfl rfl) rfl ?_
    | refine W.read (rd_load_loc_agg tt rfl rfl rfl rfl rfl rfl) rfl ?_
    | refine W.read (rd_lss rfl rfl) rfl ?_
    | refine W.read (rd_len_str tt rfl rfl rfl) rfl ?_
    | refine W.read (rd_len_view tt rfl rfl rfl rfl) rfl ?_
    | refine W.read (rd_len_own tt rfl rfl rfl rfl rfl) rfl ?_
    | refine W.read (rd_len_nil tt rfl rfl rfl rfl) rfl ?_
    | refine W.read (rd_index tt rfl rfl rfl rfl rfl rfl (by omega) (ixE (by omega) (by omega))) rfl ?_
    | refine W.read (rd_index_own tt rfl rfl rfl rfl rfl rfl rfl rfl (by omega) (by first | omega | (simp only [List.length_map, List.length_append, List.length_replicate, List.length_set, List.length_nil, List.length_cons]; omega))) rfl ?_
    | refine W.call h_szEntry rfl rfl ⟨_, _, rfl, by assumption, by omega, by omega, _, _, rfl, rfl, ?_⟩
    | refine W.read (rd_add rfl rfl (by unfold in64; omega)) rfl ?_
    | refine W.read (rd_sub rfl rfl (by unfold in64; omega)) rfl ?_)
    all_goals (refine fin_p rfl ?_ rfl rfl rfl; subst hie; unfold szR; rw [if_neg (by omega)]; congr 3; omega)

theorem h_toEntry : Holds Try.prog 83 (fun args K => ∃ x : D.Entry, args = [.agg x.enc] ∧ K [.p (.agg x.enc)]) := by
  refine Holds.mk tt Try.func83 rfl Try.ntmps83 rfl (by kernel_rfl) ?_
  rintro _ K ⟨x, rfl, hK⟩
  refine ⟨Nat.le_of_ble_eq_true rfl, _, hK, ?_⟩
  repeat' (first
    | refine Wc.seq ?_
    | refine Wc.region ?_
    | refine Wc.cond_t rfl ?_
    | refine Wc.cond_f rfl ?_
    | refine Wc.condT rfl (by first | (simp only [ltB_t, ltB_f, eqB_t, eqB_f, pB_t, pB_f, sEq_t, sEq_f, emp_iff, ne_eq, List.length_map, Bool.not_eq_true, Bool.not_eq_false, Bool.not_eq_eq_eq_not, Bool.not_true, Bool.not_false]; done) | (simp only [ltB_t, ltB_f, eqB_t, eqB_f, pB_t, pB_f, sEq_t, sEq_f, emp_iff, ne_eq, List.length_map, Bool.not_eq_true, Bool.not_eq_false, Bool.not_eq_eq_eq_not, Bool.not_true, Bool.not_false]; omega) | (simp only [ltB_t, ltB_f, eqB_t, eqB_f, pB_t, pB_f, sEq_t, sEq_f, emp_iff, ne_eq, List.length_map, Bool.not_eq_true, Bool.not_eq_false, Bool.not_eq_eq_eq_not, Bool.not_true, Bool.not_false]; assumption)) ?_
    | refine Wc.condF rfl (by first | (simp only [ltB_t, ltB_f, eqB_t, eqB_f, pB_t, pB_f, sEq_t, sEq_f, emp_iff, ne_eq, List.length_map, Bool.not_eq_true, Bool.not_eq_false, Bool.not_eq_eq_eq_not, Bool.not_true, Bool.not_false]; done) | (simp only [ltB_t, ltB_f, eqB_t, eqB_f, pB_t, pB_f, sEq_t, sEq_f, emp_iff, ne_eq, List.length_map, Bool.not_eq_true, Bool.not_eq_false, Bool.not_eq_eq_eq_not, Bool.not_true, Bool.not_false]; omega) | (simp only [ltB_t, ltB_f, eqB_t, eqB_f, pB_t, pB_f, sEq_t, sEq_f, emp_iff, ne_eq, List.length_map, Bool.not_eq_true, Bool.not_eq_false, Bool.not_eq_eq_eq_not, Bool.not_true, Bool.not_false]; assumption)) ?_
    | (refine Wc.cond rfl ?_ ?_ <;> intro h <;> (try simp only [ltB_t, ltB_f, eqB_t, eqB_f, pB_t, pB_f, sEq_t, sEq_f, emp_iff, ne_eq, List.length_map, Bool.not_eq_true, Bool.not_eq_false, Bool.not_eq_eq_eq_not, Bool.not_true, Bool.not_false] at h))
    | refine Wc.ret ?_
    | refine Wc.skip ?_
    | refine Wc.block ?_
    | refine Wc.exit ?_
    | refine W.nil ?_
    | refine W.read (rd_mv_p rfl) rfl ?_
    | refine W.read (rd_as_p rfl) rfl ?_
    | refine W.read (rd_mv_o rfl) rfl ?_
    | refine W.read (rd_as_o rfl) rfl ?_
    | refine W.read (rd_mv_l rfl) rfl ?_
    | refine W.read (rd_as_l rfl) rfl ?_
    | refine W.read (rd_field tt rfl rfl rfl rfl) rfl ?_
    | refine W.read (rd_field_loc tt rfl rfl rfl rfl) rfl ?_
    | refine W.read (rd_load tt rfl rfl rfl rfl) rfl ?_
    | refine W.read (rd_load_loc tt rfl rfl rfl rfl rfl rfl) rfl ?_
    | refine W.read (rd_load_all tt rfl rfl rfl rfl) rfl ?_
    | refine W.read (rd_load_loc_all tt rfl rfl rfl rfl rfl rfl) rfl ?_
    | refine W.read (rd_load_agg tt rfl rfl rfl rfl) rfl ?_
    | refine W.read (rd_load_loc_agg tt rfl rfl rfl rfl rfl rfl) rfl ?_
    | refine W.box_agg rfl rfl rfl ?_
    | refine W.box_one rfl rfl rfl ?_
    | refine W.alloc tt rfl rfl rfl rfl ?_
    | refine W.store1 tt rfl rfl rfl rfl rfl rfl rfl rfl ?_
    | refine W.storeE tt rfl rfl rfl rfl rfl rfl rfl rfl ?_
    | refine W.storeP tt rfl rfl rfl rfl rfl rfl rfl rfl ?_)
  all_goals (exact fin_p rfl rfl rfl rfl rfl)

theorem h_toEntryS : Holds Try.prog 17 (fun args K => ∃ xs : List D.Entry, args = [.view 4 (xs.map D.Entry.enc)] ∧ (xs.length : Int) ≤ 1048576 ∧ K [.fresh ⟨115, 4, xs.map D.Entry.enc⟩]) := by
  refine Holds.mk tt Try.func17 rfl Try.ntmps17 rfl (by kernel_rfl) ?_
  rintro _ K ⟨xs, rfl, hl, hK⟩
  have hln : (xs.map D.Entry.enc).length = xs.length := by simp
  refine ⟨Nat.le_of_ble_eq_true rfl, _, hK, ?_⟩
  repeat' (first
    | refine Wc.seq ?_
    | refine Wc.region ?_
    | refine Wc.cond_t rfl ?_
    | refine Wc.cond_f rfl ?_
    | refine Wc.condT rfl (by first | (simp only [ltB_t, ltB_f, eqB_t, eqB_f, pB_t, pB_f, sEq_t, sEq_f, emp_iff, ne_eq, List.length_map, Bool.not_eq_true, Bool.not_eq_false, Bool.not_eq_eq_eq_not, Bool.not_true, Bool.not_false]; done) | (simp only [ltB_t, ltB_f, eqB_t, eqB_f, pB_t, pB_f, sEq_t, sEq_f, emp_iff, ne_eq, List.length_map, Bool.not_eq_true, Bool.not_eq_false, Bool.not_eq_eq_eq_not, Bool.not_true, Bool.not_false]; omega) | (simp only [ltB_t, ltB_f, eqB_t, eqB_f, pB_t, pB_f, sEq_t, sEq_f, emp_iff, ne_eq, List.length_map, Bool.not_eq_true, Bool.not_eq_false, Bool.not_eq_eq_eq_not, Bool.not_true, Bool.not_false]; assumption)) ?_
    | refine Wc.condF rfl (by first | (simp only [ltB_t, ltB_f, eqB_t, eqB_f, pB_t, pB_f, sEq_t, sEq_f, emp_iff, ne_eq, List.length_map, Bool.not_eq_true, Bool.not_eq_false, Bool.not_eq_eq_eq_not, Bool.not_true, Bool.not_false]; done) | (simp only [ltB_t, ltB_f, eqB_t, eqB_f, pB_t, pB_f, sEq_t, sEq_f, emp_iff, ne_eq, List.length_map, Bool.not_eq_true, Bool.not_eq_false, Bool.not_eq_eq_eq_not, Bool.not_true, Bool.not_false]; omega) | (simp only [ltB_t, ltB_f, eqB_t, eqB_f, pB_t, pB_f, sEq_t, sEq_f, emp_iff, ne_eq, List.length_map, Bool.not_eq_true, Bool.not_eq_false, Bool.not_eq_eq_eq_not, Bool.not_true, Bool.not_false]; assumption)) ?_
    | (refine Wc.cond rfl ?_ ?_ <;> intro h <;> (try simp only [ltB_t, ltB_f, eqB_t, eqB_f, pB_t, pB_f, sEq_t, sEq_f, emp_iff, ne_eq, List.length_map, Bool.not_eq_true, Bool.not_eq_false, Bool.not_eq_eq_eq_not, Bool.not_true, Bool.not_false] at h))
    | refine Wc.ret ?_
    | refine Wc.skip ?_
    | refine Wc.block ?_
    | refine Wc.exit ?_
    | refine W.nil ?_
    | refine W.read (rd_mv_p rfl) rfl ?_
    | refine W.read (rd_as_p rfl) rfl ?_
    | refine W.read (rd_mv_o rfl) rfl ?_
    | refine W.read (rd_as_o rfl) rfl ?_
    | refine W.read (rd_load_all tt rfl rfl rfl rfl) rfl ?_
    | refine W.read (rd_load_loc_all tt rfl rfl rfl rfl rfl rfl) rfl ?_
    | refine W.read (rd_load_agg tt rfl rfl rfl rfl) rfl ?_
    | refine W.read (rd_load_loc_agg tt rfl rfl rfl rfl rfl rfl) rfl ?_
    | refine W.read (rd_lss rfl rfl) rfl ?_
    | refine W.read (rd_len_str tt rfl rfl rfl) rfl ?_
    | refine W.read (rd_len_view tt rfl rfl rfl rfl) rfl ?_
    | refine W.read (rd_len_own tt rfl rfl rfl rfl rfl) rfl ?_
    | refine W.read (rd_len_nil tt rfl rfl rfl rfl) rfl ?_
    | refine W.read (rd_index tt rfl rfl rfl rfl rfl rfl (by omega) (ixE (by omega) (by omega))) rfl ?_
    | refine W.read (rd_index_own tt rfl rfl rfl rfl rfl rfl rfl rfl (by omega) (by first | omega | (simp only [List.length_map, List.length_append, List.length_replicate, List.length_set, List.length_nil, List.length_cons]; omega))) rfl ?_
    | refine W.call h_toEntry rfl rfl ⟨_, rfl, _, _, rfl, rfl, ?_⟩
    | refine W.read (rd_add rfl rfl (by unfold in64; omega)) rfl ?_
    | refine W.store1 tt rfl rfl rfl rfl rfl rfl rfl rfl ?_
    | refine W.storeE tt rfl rfl rfl rfl rfl rfl rfl rfl ?_
    | refine W.storeP tt rfl rfl rfl rfl rfl rfl rfl rfl ?_
    | refine W.make tt rfl rfl rfl rfl rfl rfl rfl rfl rfl rfl (by omega) (by omega) ?_)
  refine Wc.loop (fun i : Int => 0 ≤ i ∧ i ≤ xs.length) (fun i => ⟨23, 1, [(0, .p (.view 4 (xs.map D.Entry.enc))), (3, .own 0), (4, .p (I i))], [(0, ⟨115, 4, upd D.Entry.enc [.int .i64 0, .str ⟨#[]⟩, .str ⟨#[]⟩, .int .i64 0] xs i⟩)]⟩) (fun i => (xs.length - i).toNat) 0 ⟨by omega, by omega⟩ ⟨rfl, ⟨rfl, rfl, rfl, trivial⟩, ⟨congrArg some (rowEq (by simp [upd_zero])), trivial⟩, rfl, rfl⟩ ?_
  rintro i ⟨hi0, hi1⟩
  have hul := upd_length D.Entry.enc [.int .i64 0, .str ⟨#[]⟩, .str ⟨#[]⟩, .int .i64 0] xs i hi1
  rcases Int.lt_or_le i xs.length with hlt | hge
  · have hg := upd_get (enc := D.Entry.enc) (z := [.int .i64 0, .str ⟨#[]⟩, .str ⟨#[]⟩, .int .i64 0]) hi0 hlt
    have hse := upd_set (enc := D.Entry.enc) (z := [.int .i64 0, .str ⟨#[]⟩, .str ⟨#[]⟩, .int .i64 0]) hi0 hlt
    repeat' (first
    | refine Wc.seq ?_
    | refine Wc.region ?_
    | refine Wc.cond_t rfl ?_
    | refine Wc.cond_f rfl ?_
    | refine Wc.condT rfl (by first | (simp only [ltB_t, ltB_f, eqB_t, eqB_f, pB_t, pB_f, sEq_t, sEq_f, emp_iff, ne_eq, List.length_map, Bool.not_eq_true, Bool.not_eq_false, Bool.not_eq_eq_eq_not, Bool.not_true, Bool.not_false]; done) | (simp only [ltB_t, ltB_f, eqB_t, eqB_f, pB_t, pB_f, sEq_t, sEq_f, emp_iff, ne_eq, List.length_map, Bool.not_eq_true, Bool.not_eq_false, Bool.not_eq_eq_eq_not, Bool.not_true, Bool.not_false]; omega) | (simp only [ltB_t, ltB_f, eqB_t, eqB_f, pB_t, pB_f, sEq_t, sEq_f, emp_iff, ne_eq, List.length_map, Bool.not_eq_true, Bool.not_eq_false, Bool.not_eq_eq_eq_not, Bool.not_true, Bool.not_false]; assumption)) ?_
    | refine Wc.condF rfl (by first | (simp only [ltB_t, ltB_f, eqB_t, eqB_f, pB_t, pB_f, sEq_t, sEq_f, emp_iff, ne_eq, List.length_map, Bool.not_eq_true, Bool.not_eq_false, Bool.not_eq_eq_eq_not, Bool.not_true, Bool.not_false]; done) | (simp only [ltB_t, ltB_f, eqB_t, eqB_f, pB_t, pB_f, sEq_t, sEq_f, emp_iff, ne_eq, List.length_map, Bool.not_eq_true, Bool.not_eq_false, Bool.not_eq_eq_eq_not, Bool.not_true, Bool.not_false]; omega) | (simp only [ltB_t, ltB_f, eqB_t, eqB_f, pB_t, pB_f, sEq_t, sEq_f, emp_iff, ne_eq, List.length_map, Bool.not_eq_true, Bool.not_eq_false, Bool.not_eq_eq_eq_not, Bool.not_true, Bool.not_false]; assumption)) ?_
    | (refine Wc.cond rfl ?_ ?_ <;> intro h <;> (try simp only [ltB_t, ltB_f, eqB_t, eqB_f, pB_t, pB_f, sEq_t, sEq_f, emp_iff, ne_eq, List.length_map, Bool.not_eq_true, Bool.not_eq_false, Bool.not_eq_eq_eq_not, Bool.not_true, Bool.not_false] at h))
    | refine Wc.ret ?_
    | refine Wc.skip ?_
    | refine Wc.block ?_
    | refine Wc.exit ?_
    | refine W.nil ?_
    | refine W.read (rd_mv_p rfl) rfl ?_
    | refine W.read (rd_as_p rfl) rfl ?_
    | refine W.read (rd_mv_o rfl) rfl ?_
    | refine W.read (rd_as_o rfl) rfl ?_
    | refine W.read (rd_load_all tt rfl rfl rfl rfl) rfl ?_
    | refine W.read (rd_load_loc_all tt rfl rfl rfl rfl rfl rfl) rfl ?_
    | refine W.read (rd_load_agg tt rfl rfl rfl rfl) rfl ?_
    | refine W.read (rd_load_loc_agg tt rfl rfl rfl rfl rfl rfl) rfl ?_
    | refine W.read (rd_lss rfl rfl) rfl ?_
    | refine W.read (rd_len_str tt rfl rfl rfl) rfl ?_
    | refine W.read (rd_len_view tt rfl rfl rfl rfl) rfl ?_
    | refine W.read (rd_len_own tt rfl rfl rfl rfl rfl) rfl ?_
    | refine W.read (rd_len_nil tt rfl rfl rfl rfl) rfl ?_
    | refine W.read (rd_index tt rfl rfl rfl rfl rfl rfl (by omega) (ixE (by omega) (by omega))) rfl ?_
    | refine W.read (rd_index_own tt rfl rfl rfl rfl rfl rfl rfl rfl (by omega) (by first | omega | (simp only [List.length_map, List.length_append, List.length_replicate, List.length_set, List.length_nil, List.length_cons]; omega))) rfl ?_
    | refine W.storeE tt rfl rfl rfl rfl rfl hg rfl rfl ?_
    | refine W.call h_toEntry rfl rfl ⟨_, rfl, _, _, rfl, rfl, ?_⟩
    | refine W.read (rd_add rfl rfl (by unfold in64; omega)) rfl ?_
    | refine W.store1 tt rfl rfl rfl rfl rfl rfl rfl rfl ?_
    | refine W.storeE tt rfl rfl rfl rfl rfl rfl rfl rfl ?_
    | refine W.storeP tt rfl rfl rfl rfl rfl rfl rfl rfl ?_
    | refine W.make tt rfl rfl rfl rfl rfl rfl rfl rfl rfl rfl (by omega) (by omega) ?_)
    all_goals (refine ⟨i + 1, ⟨by omega, by omega⟩, by dsimp only; omega, ⟨rfl, ⟨rfl, rfl, rfl, trivial⟩, ⟨congrArg some (rowEq hse), trivial⟩, rfl, rfl⟩⟩)
  · have hie : i = xs.length := by omega
    repeat' (first
    | refine Wc.seq ?_
    | refine Wc.region ?_
    | refine Wc.cond_t rfl ?_
    | refine Wc.cond_f rfl ?_
    | refine Wc.condT rfl (by first | (simp only [ltB_t, ltB_f, eqB_t, eqB_f, pB_t, pB_f, sEq_t, sEq_f, emp_iff, ne_eq, List.length_map, Bool.not_eq_true, Bool.not_eq_false, Bool.not_eq_eq_eq_not, Bool.not_true, Bool.not_false]; done) | (simp only [ltB_t, ltB_f, eqB_t, eqB_f, pB_t, pB_f, sEq_t, sEq_f, emp_iff, ne_eq, List.length_map, Bool.not_eq_true, Bool.not_eq_false, Bool.not_eq_eq_eq_not, Bool.not_true, Bool.not_false]; omega) | (simp only [ltB_t, ltB_f, eqB_t, eqB_f, pB_t, pB_f, sEq_t, sEq_f, emp_iff, ne_eq, List.length_map, Bool.not_eq_true, Bool.not_eq_false, Bool.not_eq_eq_eq_not, Bool.not_true, Bool.not_false]; assumption)) ?_
    | refine Wc.condF rfl (by first | (simp only [ltB_t, ltB_f, eqB_t, eqB_f, pB_t, pB_f, sEq_t, sEq_f, emp_iff, ne_eq, List.length_map, Bool.not_eq_true, Bool.not_eq_false, Bool.not_eq_eq_eq_not, Bool.not_true, Bool.not_false]; done) | (simp only [ltB_t, ltB_f, eqB_t, eqB_f, pB_t, pB_f, sEq_t, sEq_f, emp_iff, ne_eq, List.length_map, Bool.not_eq_true, Bool.not_eq_false, Bool.not_eq_eq_eq_not, Bool.not_true, Bool.not_false]; omega) | (simp only [ltB_t, ltB_f, eqB_t, eqB_f, pB_t, pB_f, sEq_t, sEq_f, emp_iff, ne_eq, List.length_map, Bool.not_eq_true, Bool.not_eq_false, Bool.not_eq_eq_eq_not, Bool.not_true, Bool.not_false]; assumption)) ?_
    | (refine Wc.cond rfl ?_ ?_ <;> intro h <;> (try simp only [ltB_t, ltB_f, eqB_t, eqB_f, pB_t, pB_f, sEq_t, sEq_f, emp_iff, ne_eq, List.length_map, Bool.not_eq_true, Bool.not_eq_false, Bool.not_eq_eq_eq_not, Bool.not_true, Bool.not_false] at h))
    | refine Wc.ret ?_
    | refine Wc.skip ?_
    | refine Wc.block ?_
    | refine Wc.exit ?_
    | refine W.nil ?_
    | refine W.read (rd_mv_p rfl) rfl ?_
    | refine W.read (rd_as_p rfl) rfl ?_
    | refine W.read (rd_mv_o rfl) rfl ?_
    | refine W.read (rd_as_o rfl) rfl ?_
    | refine W.read (rd_load_all tt rfl rfl rfl rfl) rfl ?_
    | refine W.read (rd_load_loc_all tt rfl rfl rfl rfl rfl rfl) rfl ?_
    | refine W.read (rd_load_agg tt rfl rfl rfl rfl) rfl ?_
    | refine W.read (rd_load_loc_agg tt rfl rfl rfl rfl rfl rfl) rfl ?_
    | refine W.read (rd_lss rfl rfl) rfl ?_
    | refine W.read (rd_len_str tt rfl rfl rfl) rfl ?_
    | refine W.read (rd_len_view tt rfl rfl rfl rfl) rfl ?_
    | refine W.read (rd_len_own tt rfl rfl rfl rfl rfl) rfl ?_
    | refine W.read (rd_len_nil tt rfl rfl rfl rfl) rfl ?_
    | refine W.read (rd_index tt rfl rfl rfl rfl rfl rfl (by omega) (ixE (by omega) (by omega))) rfl ?_
    | refine W.read (rd_index_own tt rfl rfl rfl rfl rfl rfl rfl rfl (by omega) (by first | omega | (simp only [List.length_map, List.length_append, List.length_replicate, List.length_set, List.length_nil, List.length_cons]; omega))) rfl ?_
    | refine W.call h_toEntry rfl rfl ⟨_, rfl, _, _, rfl, rfl, ?_⟩
    | refine W.read (rd_add rfl rfl (by unfold in64; omega)) rfl ?_
    | refine W.store1 tt rfl rfl rfl rfl rfl rfl rfl rfl ?_
    | refine W.storeE tt rfl rfl rfl rfl rfl rfl rfl rfl ?_
    | refine W.storeP tt rfl rfl rfl rfl rfl rfl rfl rfl ?_
    | refine W.make tt rfl rfl rfl rfl rfl rfl rfl rfl rfl rfl (by omega) (by omega) ?_)
    all_goals (refine fin_f rfl (rowEq ?_) (sc_map D.Entry.enc_sc) rfl rfl; rw [hie]; exact upd_full _ _ _)

theorem h_eqEntry : Holds Try.prog 87 (fun args K => ∃ x y : D.Entry, args = [.agg x.enc, .agg y.enc] ∧ K [.p (.bool (pB (x = y)))]) := by
  refine Holds.mk tt Try.func87 rfl Try.ntmps87 rfl (by kernel_rfl) ?_
  rintro _ K ⟨x, y, rfl, hK⟩
  refine ⟨Nat.le_of_ble_eq_true rfl, _, hK, ?_⟩
  repeat' (first
    | refine Wc.seq ?_
    | refine Wc.region ?_
    | refine Wc.cond_t rfl ?_
    | refine Wc.cond_f rfl ?_
    | refine Wc.condT rfl (by first | (simp only [ltB_t, ltB_f, eqB_t, eqB_f, pB_t, pB_f, sEq_t, sEq_f, emp_iff, ne_eq, List.length_map, Bool.not_eq_true, Bool.not_eq_false, Bool.not_eq_eq_eq_not, Bool.not_true, Bool.not_false]; done) | (simp only [ltB_t, ltB_f, eqB_t, eqB_f, pB_t, pB_f, sEq_t, sEq_f, emp_iff, ne_eq, List.length_map, Bool.not_eq_true, Bool.not_eq_false, Bool.not_eq_eq_eq_not, Bool.not_true, Bool.not_false]; omega) | (simp only [ltB_t, ltB_f, eqB_t, eqB_f, pB_t, pB_f, sEq_t, sEq_f, emp_iff, ne_eq, List.length_map, Bool.not_eq_true, Bool.not_eq_false, Bool.not_eq_eq_eq_not, Bool.not_true, Bool.not_false]; assumption)) ?_
    | refine Wc.condF rfl (by first | (simp only [ltB_t, ltB_f, eqB_t, eqB_f, pB_t, pB_f, sEq_t, sEq_f, emp_iff, ne_eq, List.length_map, Bool.not_eq_true, Bool.not_eq_false, Bool.not_eq_eq_eq_not, Bool.not_true, Bool.not_false]; done) | (simp only [ltB_t, ltB_f, eqB_t, eqB_f, pB_t, pB_f, sEq_t, sEq_f, emp_iff, ne_eq, List.length_map, Bool.not_eq_true, Bool.not_eq_false, Bool.not_eq_eq_eq_not, Bool.not_true, Bool.not_false]; omega) | (simp only [ltB_t, ltB_f, eqB_t, eqB_f, pB_t, pB_f, sEq_t, sEq_f, emp_iff, ne_eq, List.length_map, Bool.not_eq_true, Bool.not_eq_false, Bool.not_eq_eq_eq_not, Bool.not_true, Bool.not_false]; assumption)) ?_
    | (refine Wc.cond rfl ?_ ?_ <;> intro h <;> (try simp only [ltB_t, ltB_f, eqB_t, eqB_f, pB_t, pB_f, sEq_t, sEq_f, emp_iff, ne_eq, List.length_map, Bool.not_eq_true, Bool.not_eq_false, Bool.not_eq_eq_eq_not, Bool.not_true, Bool.not_false] at h))
    | refine Wc.ret ?_
    | refine Wc.skip ?_
    | refine Wc.block ?_
    | refine Wc.exit ?_
    | refine W.nil ?_
    | refine W.read (rd_mv_p rfl) rfl ?_
    | refine W.read (rd_as_p rfl) rfl ?_
    | refine W.read (rd_mv_o rfl) rfl ?_
    | refine W.read (rd_as_o rfl) rfl ?_
    | refine W.read (rd_mv_l rfl) rfl ?_
    | refine W.read (rd_as_l rfl) rfl ?_
    | refine W.read (rd_field tt rfl rfl rfl rfl) rfl ?_
    | refine W.read (rd_field_loc tt rfl rfl rfl rfl) rfl ?_
    | refine W.read (rd_load tt rfl rfl rfl rfl) rfl ?_
    | refine W.read (rd_load_loc tt rfl rfl rfl rfl rfl rfl) rfl ?_
    | refine W.read (rd_neq rfl rfl) rfl ?_
    | refine W.read (rd_sneq rfl rfl) rfl ?_
    | refine W.box_agg rfl rfl rfl ?_
    | refine W.box_one rfl rfl rfl ?_)
  all_goals (refine fin_pB rfl rfl rfl ?_; rw [D.Entry.eq_iff]; simp only [ltB_t, ltB_f, eqB_t, eqB_f, pB_t, pB_f, sEq_t, sEq_f, emp_iff, ne_eq, List.length_map, Bool.not_eq_true, Bool.not_eq_false, Bool.not_eq_eq_eq_not, Bool.not_true, Bool.not_false, true_iff, false_iff, Bool.false_eq_true, iff_true, iff_false, and_true, true_and, not_false_eq_true]; simp_all)

theorem h_eqEntryS : Holds Try.prog 19 (fun args K => ∃ xs ys : List D.Entry, args = [.view 4 (xs.map D.Entry.enc), .view 4 (ys.map D.Entry.enc)] ∧ (xs.length : Int) ≤ 1048576 ∧ K [.p (.bool (pB (xs = ys)))]) := by
  refine Holds.mk tt Try.func19 rfl Try.ntmps19 rfl (by kernel_rfl) ?_
  rintro _ K ⟨xs, ys, rfl, hl, hK⟩
  have hln : (xs.map D.Entry.enc).length = xs.length := by simp
  have hln2 : (ys.map D.Entry.enc).length = ys.length := by simp
  refine ⟨Nat.le_of_ble_eq_true rfl, _, hK, ?_⟩
  repeat' (first
    | refine Wc.seq ?_
    | refine Wc.region ?_
    | refine Wc.cond_t rfl ?_
    | refine Wc.cond_f rfl ?_
    | refine Wc.condT rfl (by first | (simp only [ltB_t, ltB_f, eqB_t, eqB_f, pB_t, pB_f, sEq_t, sEq_f, emp_iff, ne_eq, List.length_map, Bool.not_eq_true, Bool.not_eq_false, Bool.not_eq_eq_eq_not, Bool.not_true, Bool.not_false]; done) | (simp only [ltB_t, ltB_f, eqB_t, eqB_f, pB_t, pB_f, sEq_t, sEq_f, emp_iff, ne_eq, List.length_map, Bool.not_eq_true, Bool.not_eq_false, Bool.not_eq_eq_eq_not, Bool.not_true, Bool.not_false]; omega) | (simp only [ltB_t, ltB_f, eqB_t, eqB_f, pB_t, pB_f, sEq_t, sEq_f, emp_iff, ne_eq, List.length_map, Bool.not_eq_true, Bool.not_eq_false, Bool.not_eq_eq_eq_not, Bool.not_true, Bool.not_false]; assumption)) ?_
    | refine Wc.condF rfl (by first | (simp only [ltB_t, ltB_f, eqB_t, eqB_f, pB_t, pB_f, sEq_t, sEq_f, emp_iff, ne_eq, List.length_map, Bool.not_eq_true, Bool.not_eq_false, Bool.not_eq_eq_eq_not, Bool.not_true, Bool.not_false]; done) | (simp only [ltB_t, ltB_f, eqB_t, eqB_f, pB_t, pB_f, sEq_t, sEq_f, emp_iff, ne_eq, List.length_map, Bool.not_eq_true, Bool.not_eq_false, Bool.not_eq_eq_eq_not, Bool.not_true, Bool.not_false]; omega) | (simp only [ltB_t, ltB_f, eqB_t, eqB_f, pB_t, pB_f, sEq_t, sEq_f, emp_iff, ne_eq, List.length_map, Bool.not_eq_true, Bool.not_eq_false, Bool.not_eq_eq_eq_not, Bool.not_true, Bool.not_false]; assumption)) ?_
    | (refine Wc.cond rfl ?_ ?_ <;> intro h <;> (try simp only [ltB_t, ltB_f, eqB_t, eqB_f, pB_t, pB_f, sEq_t, sEq_f, emp_iff, ne_eq, List.length_map, Bool.not_eq_true, Bool.not_eq_false, Bool.not_eq_eq_eq_not, Bool.not_true, Bool.not_false] at h))
    | refine Wc.ret ?_
    | refine Wc.skip ?_
    | refine Wc.block ?_
    | refine Wc.exit ?_
    | refine Wc.regionQ mixed (by decide +kernel) ?_
    | refine W.nil ?_
    | refine W.read (rd_mv_p rfl) rfl ?_
    | refine W.read (rd_as_p rfl) rfl ?_
    | refine W.read (rd_mv_o rfl) rfl ?_
    | refine W.read (rd_as_o rfl) rfl ?_
    | refine W.read (rd_load_all tt rfl rfl rfl rfl) rfl ?_
    | refine W.read (rd_load_loc_all tt rfl rfl rfl rfl rfl rfl) rfl ?_
    | refine W.read (rd_load_agg tt rfl rfl rfl rfl) rfl ?_
    | refine W.read (rd_load_loc_agg tt rfl rfl rfl rfl rfl rfl) rfl ?_
    | refine W.read (rd_lss rfl rfl) rfl ?_
    | refine W.read (rd_neq rfl rfl) rfl ?_
    | refine W.read (rd_not rfl) rfl ?_
    | refine W.read (rd_len_str tt rfl rfl rfl) rfl ?_
    | refine W.read (rd_len_view tt rfl rfl rfl rfl) rfl ?_
    | refine W.read (rd_len_own tt rfl rfl rfl rfl rfl) rfl ?_
    | refine W.read (rd_len_nil tt rfl rfl rfl rfl) rfl ?_
    | refine W.read (rd_index tt rfl rfl rfl rfl rfl rfl (by omega) (ixE (by omega) (by omega))) rfl ?_
    | refine W.read (rd_index_own tt rfl rfl rfl rfl rfl rfl rfl rfl (by omega) (by first | omega | (simp only [List.length_map, List.length_append, List.length_replicate, List.length_set, List.length_nil, List.length_cons]; omega))) rfl ?_
    | refine W.call h_eqEntry rfl rfl ⟨_, _, rfl, _, _, rfl, rfl, ?_⟩
    | refine W.read (rd_add rfl rfl (by unfold in64; omega)) rfl ?_)
  all_goals try (refine fin_pB rfl rfl rfl ?_; simp only [ltB_t, ltB_f, eqB_t, eqB_f, pB_t, pB_f, sEq_t, sEq_f, emp_iff, ne_eq, List.length_map, Bool.not_eq_true, Bool.not_eq_false, Bool.not_eq_eq_eq_not, Bool.not_true, Bool.not_false, true_iff, false_iff, Bool.false_eq_true, iff_true, iff_false, and_true, true_and, not_false_eq_true]; intro hc; have hq := congrArg List.length hc; omega)
  have hle : (xs.length : Int) = ys.length := by assumption
  refine Wc.loop (fun i : Int => 0 ≤ i ∧ i ≤ xs.length ∧ allTo (fun j => ix xs j = ix ys j) i) (fun i => ⟨27, 0, [(0, .p (.view 4 (xs.map D.Entry.enc))), (1, .p (.view 4 (ys.map D.Entry.enc))), (5, .p (I i))], []⟩) (fun i => (xs.length - i).toNat) 0 ⟨by omega, by omega, allTo_zero _⟩ ⟨rfl, ⟨rfl, rfl, rfl, trivial⟩, trivial, rfl, rfl⟩ ?_
  rintro i ⟨hi0, hi1, hinv⟩
  repeat' (first
    | refine Wc.seq ?_
    | refine Wc.region ?_
    | refine Wc.cond_t rfl ?_
    | refine Wc.cond_f rfl ?_
    | refine Wc.condT rfl (by first | (simp only [ltB_t, ltB_f, eqB_t, eqB_f, pB_t, pB_f, sEq_t, sEq_f, emp_iff, ne_eq, List.length_map, Bool.not_eq_true, Bool.not_eq_false, Bool.not_eq_eq_eq_not, Bool.not_true, Bool.not_false]; done) | (simp only [ltB_t, ltB_f, eqB_t, eqB_f, pB_t, pB_f, sEq_t, sEq_f, emp_iff, ne_eq, List.length_map, Bool.not_eq_true, Bool.not_eq_false, Bool.not_eq_eq_eq_not, Bool.not_true, Bool.not_false]; omega) | (simp only [ltB_t, ltB_f, eqB_t, eqB_f, pB_t, pB_f, sEq_t, sEq_f, emp_iff, ne_eq, List.length_map, Bool.not_eq_true, Bool.not_eq_false, Bool.not_eq_eq_eq_not, Bool.not_true, Bool.not_false]; assumption)) ?_
    | refine Wc.condF rfl (by first | (simp only [ltB_t, ltB_f, eqB_t, eqB_f, pB_t, pB_f, sEq_t, sEq_f, emp_iff, ne_eq, List.length_map, Bool.not_eq_true, Bool.not_eq_false, Bool.not_eq_eq_eq_not, Bool.not_true, Bool.not_false]; done) | (simp only [ltB_t, ltB_f, eqB_t, eqB_f, pB_t, pB_f, sEq_t, sEq_f, emp_iff, ne_eq, List.length_map, Bool.not_eq_true, Bool.not_eq_false, Bool.not_eq_eq_eq_not, Bool.not_true, Bool.not_false]; omega) | (simp only [ltB_t, ltB_f, eqB_t, eqB_f, pB_t, pB_f, sEq_t, sEq_f, emp_iff, ne_eq, List.length_map, Bool.not_eq_true, Bool.not_eq_false, Bool.not_eq_eq_eq_not, Bool.not_true, Bool.not_false]; assumption)) ?_
    | (refine Wc.cond rfl ?_ ?_ <;> intro h <;> (try simp only [ltB_t, ltB_f, eqB_t, eqB_f, pB_t, pB_f, sEq_t, sEq_f, emp_iff, ne_eq, List.length_map, Bool.not_eq_true, Bool.not_eq_false, Bool.not_eq_eq_eq_not, Bool.not_true, Bool.not_false] at h))
    | refine Wc.ret ?_
    | refine Wc.skip ?_
    | refine Wc.block ?_
    | refine Wc.exit ?_
    | refine Wc.regionQ mixed (by decide +kernel) ?_
    | refine W.nil ?_
    | refine W.read (rd_mv_p rfl) rfl ?_
    | refine W.read (rd_as_p rfl) rfl ?_
    | refine W.read (rd_mv_o rfl) rfl ?_
    | refine W.read (rd_as_o rfl) rfl ?_
    | refine W.read (rd_load_all tt rfl rfl rfl rfl) rfl ?_
    | refine W.read (rd_load_loc_all tt rfl rfl rfl rfl rfl rfl) rfl ?_
    | refine W.read (rd_load_agg tt rfl rfl rfl rfl) rfl ?_
    | refine W.read (rd_load_loc_agg tt rfl rfl rfl rfl rfl rfl) rfl ?_
    | refine W.read (rd_lss rfl rfl) rfl ?_
    | refine W.read (rd_neq rfl rfl) rfl ?_
    | refine W.read (rd_not rfl) rfl ?_
    | refine W.read (rd_len_str tt rfl rfl rfl) rfl ?_
    | refine W.read (rd_len_view tt rfl rfl rfl rfl) rfl ?_
    | refine W.read (rd_len_own tt rfl rfl rfl rfl rfl) rfl ?_
    | refine W.read (rd_len_nil tt rfl rfl rfl rfl) rfl ?_
    | refine W.read (rd_index tt rfl rfl rfl rfl rfl rfl (by omega) (ixE (by omega) (by omega))) rfl ?_
    | refine W.read (rd_index_own tt rfl rfl rfl rfl rfl rfl rfl rfl (by omega) (by first | omega | (simp only [List.length_map, List.length_append, List.length_replicate, List.length_set, List.length_nil, List.length_cons]; omega))) rfl ?_
    | refine W.call h_eqEntry rfl rfl ⟨_, _, rfl, _, _, rfl, rfl, ?_⟩
    | refine W.read (rd_add rfl rfl (by unfold in64; omega)) rfl ?_)
  all_goals first
    | (refine fin_pB rfl rfl rfl ?_; simp only [ltB_t, ltB_f, eqB_t, eqB_f, pB_t, pB_f, sEq_t, sEq_f, emp_iff, ne_eq, List.length_map, Bool.not_eq_true, Bool.not_eq_false, Bool.not_eq_eq_eq_not, Bool.not_true, Bool.not_false, true_iff, false_iff, Bool.false_eq_true, iff_true, iff_false, and_true, true_and, not_false_eq_true]; first
        | (intro hc; exact absurd (by rw [hc]) (by assumption : ¬ ix xs i = ix ys i))
        | exact list_ext_ix hle (allTo_le hinv (by omega)))
    | (refine ⟨i + 1, ⟨by omega, by omega, allTo_succ hinv (by assumption)⟩, by dsimp only; omega, ⟨rfl, ⟨rfl, rfl, rfl, trivial⟩, trivial, rfl, rfl⟩⟩)



theorem h_l25One : Holds Try.prog 190 (cRef D.Entry.enc D.Entry.ok EntryOk) := by
  refine Holds.mk tt Try.func190 rfl Try.ntmps190 rfl (by kernel_rfl) ?_
  rintro _ K ⟨x, rfl, ⟨ho1, ho2, ho3, ho4⟩, hK⟩
  refine ⟨Nat.le_of_ble_eq_true rfl, _, hK, ?_⟩
  repeat' (first
    | refine Wc.seq ?_
    | refine Wc.region ?_
    | refine Wc.cond_t rfl ?_
    | refine Wc.cond_f rfl ?_
    | refine Wc.condT rfl (by first | (simp only [ltB_t, ltB_f, eqB_t, eqB_f, pB_t, pB_f, sEq_t, sEq_f, emp_iff, ne_eq, List.length_map, Bool.not_eq_true, Bool.not_eq_false, Bool.not_eq_eq_eq_not, Bool.not_true, Bool.not_false]; done) | (simp only [ltB_t, ltB_f, eqB_t, eqB_f, pB_t, pB_f, sEq_t, sEq_f, emp_iff, ne_eq, List.length_map, Bool.not_eq_true, Bool.not_eq_false, Bool.not_eq_eq_eq_not, Bool.not_true, Bool.not_false]; omega) | (simp only [ltB_t, ltB_f, eqB_t, eqB_f, pB_t, pB_f, sEq_t, sEq_f, emp_iff, ne_eq, List.length_map, Bool.not_eq_true, Bool.not_eq_false, Bool.not_eq_eq_eq_not, Bool.not_true, Bool.not_false]; assumption)) ?_
    | refine Wc.condF rfl (by first | (simp only [ltB_t, ltB_f, eqB_t, eqB_f, pB_t, pB_f, sEq_t, sEq_f, emp_iff, ne_eq, List.length_map, Bool.not_eq_true, Bool.not_eq_false, Bool.not_eq_eq_eq_not, Bool.not_true, Bool.not_false]; done) | (simp only [ltB_t, ltB_f, eqB_t, eqB_f, pB_t, pB_f, sEq_t, sEq_f, emp_iff, ne_eq, List.length_map, Bool.not_eq_true, Bool.not_eq_false, Bool.not_eq_eq_eq_not, Bool.not_true, Bool.not_false]; omega) | (simp only [ltB_t, ltB_f, eqB_t, eqB_f, pB_t, pB_f, sEq_t, sEq_f, emp_iff, ne_eq, List.length_map, Bool.not_eq_true, Bool.not_eq_false, Bool.not_eq_eq_eq_not, Bool.not_true, Bool.not_false]; assumption)) ?_
    | (refine Wc.cond rfl ?_ ?_ <;> intro h <;> (try simp only [ltB_t, ltB_f, eqB_t, eqB_f, pB_t, pB_f, sEq_t, sEq_f, emp_iff, ne_eq, List.length_map, Bool.not_eq_true, Bool.not_eq_false, Bool.not_eq_eq_eq_not, Bool.not_true, Bool.not_false] at h))
    | refine Wc.ret ?_
    | refine Wc.skip ?_
    | refine Wc.block ?_
    | refine Wc.exit ?_
    | refine Wc.regionQ mixed (by decide +kernel) ?_
    | refine W.nil ?_
    | refine W.yes rfl rfl rfl ?_
    | refine W.no rfl rfl rfl rfl ?_
    | refine W.never rfl rfl rfl rfl ?_
    | refine W.read (rd_mv_p rfl) rfl ?_
    | refine W.read (rd_as_p rfl) rfl ?_
    | refine W.read (rd_mv_o rfl) rfl ?_
    | refine W.read (rd_as_o rfl) rfl ?_
    | refine W.read (rd_field tt rfl rfl rfl rfl) rfl ?_
    | refine W.read (rd_field_loc tt rfl rfl rfl rfl) rfl ?_
    | refine W.read (rd_load tt rfl rfl rfl rfl) rfl ?_
    | refine W.read (rd_load_loc tt rfl rfl rfl rfl rfl rfl) rfl ?_
    | refine W.read (rd_nil rfl) rfl ?_
    | refine W.read (rd_nil_loc rfl) rfl ?_
    | refine W.read (rd_sneq rfl rfl) rfl ?_
    | refine W.read (rd_pk_t rfl rfl) rfl ?_
    | refine W.read (rd_pk_f rfl rfl) rfl ?_
    | refine W.read (rd_pk_b rfl rfl rfl) rfl ?_
    | refine W.call h_l00In rfl rfl ⟨_, _, _, rfl, _, _, rfl, rfl, ?_⟩
    | refine W.call h_l01Name rfl rfl ⟨_, rfl, by omega, _, _, rfl, rfl, ?_⟩
    | refine W.call h_l21Day rfl rfl ⟨_, rfl, _, _, rfl, rfl, ?_⟩
    | refine W.askY rfl rfl rfl (by first | (simp only [ltB_t, ltB_f, eqB_t, eqB_f, pB_t, pB_f, sEq_t, sEq_f, emp_iff, ne_eq, List.length_map, Bool.not_eq_true, Bool.not_eq_false, Bool.not_eq_eq_eq_not, Bool.not_true, Bool.not_false]; done) | (simp only [ltB_t, ltB_f, eqB_t, eqB_f, pB_t, pB_f, sEq_t, sEq_f, emp_iff, ne_eq, List.length_map, Bool.not_eq_true, Bool.not_eq_false, Bool.not_eq_eq_eq_not, Bool.not_true, Bool.not_false]; omega) | (simp only [ltB_t, ltB_f, eqB_t, eqB_f, pB_t, pB_f, sEq_t, sEq_f, emp_iff, ne_eq, List.length_map, Bool.not_eq_true, Bool.not_eq_false, Bool.not_eq_eq_eq_not, Bool.not_true, Bool.not_false]; assumption)) ?_
    | refine W.askN rfl rfl rfl rfl (by first | (simp only [ltB_t, ltB_f, eqB_t, eqB_f, pB_t, pB_f, sEq_t, sEq_f, emp_iff, ne_eq, List.length_map, Bool.not_eq_true, Bool.not_eq_false, Bool.not_eq_eq_eq_not, Bool.not_true, Bool.not_false]; done) | (simp only [ltB_t, ltB_f, eqB_t, eqB_f, pB_t, pB_f, sEq_t, sEq_f, emp_iff, ne_eq, List.length_map, Bool.not_eq_true, Bool.not_eq_false, Bool.not_eq_eq_eq_not, Bool.not_true, Bool.not_false]; omega) | (simp only [ltB_t, ltB_f, eqB_t, eqB_f, pB_t, pB_f, sEq_t, sEq_f, emp_iff, ne_eq, List.length_map, Bool.not_eq_true, Bool.not_eq_false, Bool.not_eq_eq_eq_not, Bool.not_true, Bool.not_false]; assumption)) ?_
    | (refine W.ask rfl rfl rfl rfl ?_ ?_ <;> intro h <;> (try simp only [ltB_t, ltB_f, eqB_t, eqB_f, pB_t, pB_f, sEq_t, sEq_f, emp_iff, ne_eq, List.length_map, Bool.not_eq_true, Bool.not_eq_false, Bool.not_eq_eq_eq_not, Bool.not_true, Bool.not_false] at h)))
  all_goals (refine fin_pB rfl rfl rfl ?_; simp only [ltB_t, ltB_f, eqB_t, eqB_f, pB_t, pB_f, sEq_t, sEq_f, emp_iff, ne_eq, List.length_map, Bool.not_eq_true, Bool.not_eq_false, Bool.not_eq_eq_eq_not, Bool.not_true, Bool.not_false, true_iff, false_iff, Bool.false_eq_true, iff_true, iff_false, and_true, true_and, not_false_eq_true]; unfold EntryOk; grind)

theorem h_validEntry : Holds Try.prog 160 (cAgg D.Entry.enc D.Entry.ok EntryOk) := by
  refine Holds.mk tt Try.func160 rfl Try.ntmps160 rfl (by kernel_rfl) ?_
  rintro _ K ⟨x, rfl, ⟨ho1, ho2, ho3, ho4⟩, hK⟩
  refine ⟨Nat.le_of_ble_eq_true rfl, _, hK, ?_⟩
  repeat' (first
    | refine Wc.seq ?_
    | refine Wc.region ?_
    | refine Wc.cond_t rfl ?_
    | refine Wc.cond_f rfl ?_
    | refine Wc.condT rfl (by first | (simp only [ltB_t, ltB_f, eqB_t, eqB_f, pB_t, pB_f, sEq_t, sEq_f, emp_iff, ne_eq, List.length_map, Bool.not_eq_true, Bool.not_eq_false, Bool.not_eq_eq_eq_not, Bool.not_true, Bool.not_false]; done) | (simp only [ltB_t, ltB_f, eqB_t, eqB_f, pB_t, pB_f, sEq_t, sEq_f, emp_iff, ne_eq, List.length_map, Bool.not_eq_true, Bool.not_eq_false, Bool.not_eq_eq_eq_not, Bool.not_true, Bool.not_false]; omega) | (simp only [ltB_t, ltB_f, eqB_t, eqB_f, pB_t, pB_f, sEq_t, sEq_f, emp_iff, ne_eq, List.length_map, Bool.not_eq_true, Bool.not_eq_false, Bool.not_eq_eq_eq_not, Bool.not_true, Bool.not_false]; assumption)) ?_
    | refine Wc.condF rfl (by first | (simp only [ltB_t, ltB_f, eqB_t, eqB_f, pB_t, pB_f, sEq_t, sEq_f, emp_iff, ne_eq, List.length_map, Bool.not_eq_true, Bool.not_eq_false, Bool.not_eq_eq_eq_not, Bool.not_true, Bool.not_false]; done) | (simp only [ltB_t, ltB_f, eqB_t, eqB_f, pB_t, pB_f, sEq_t, sEq_f, emp_iff, ne_eq, List.length_map, Bool.not_eq_true, Bool.not_eq_false, Bool.not_eq_eq_eq_not, Bool.not_true, Bool.not_false]; omega) | (simp only [ltB_t, ltB_f, eqB_t, eqB_f, pB_t, pB_f, sEq_t, sEq_f, emp_iff, ne_eq, List.length_map, Bool.not_eq_true, Bool.not_eq_false, Bool.not_eq_eq_eq_not, Bool.not_true, Bool.not_false]; assumption)) ?_
    | (refine Wc.cond rfl ?_ ?_ <;> intro h <;> (try simp only [ltB_t, ltB_f, eqB_t, eqB_f, pB_t, pB_f, sEq_t, sEq_f, emp_iff, ne_eq, List.length_map, Bool.not_eq_true, Bool.not_eq_false, Bool.not_eq_eq_eq_not, Bool.not_true, Bool.not_false] at h))
    | refine Wc.ret ?_
    | refine Wc.skip ?_
    | refine Wc.block ?_
    | refine Wc.exit ?_
    | refine W.nil ?_
    | refine W.yes rfl rfl rfl ?_
    | refine W.no rfl rfl rfl rfl ?_
    | refine W.never rfl rfl rfl rfl ?_
    | refine W.read (rd_mv_p rfl) rfl ?_
    | refine W.read (rd_as_p rfl) rfl ?_
    | refine W.read (rd_mv_o rfl) rfl ?_
    | refine W.read (rd_as_o rfl) rfl ?_
    | refine W.read (rd_mv_l rfl) rfl ?_
    | refine W.read (rd_as_l rfl) rfl ?_
    | refine W.read (rd_field tt rfl rfl rfl rfl) rfl ?_
    | refine W.read (rd_field_loc tt rfl rfl rfl rfl) rfl ?_
    | refine W.read (rd_load tt rfl rfl rfl rfl) rfl ?_
    | refine W.read (rd_load_loc tt rfl rfl rfl rfl rfl rfl) rfl ?_
    | refine W.read (rd_sneq rfl rfl) rfl ?_
    | refine W.read (rd_pk_t rfl rfl) rfl ?_
    | refine W.read (rd_pk_f rfl rfl) rfl ?_
    | refine W.read (rd_pk_b rfl rfl rfl) rfl ?_
    | refine W.call h_IsName rfl rfl ⟨_, rfl, by omega, _, _, rfl, rfl, ?_⟩
    | refine W.call h_within rfl rfl ⟨_, _, _, rfl, _, _, rfl, rfl, ?_⟩
    | refine W.call h_isRentDay rfl rfl ⟨_, rfl, _, _, rfl, rfl, ?_⟩
    | refine W.box_agg rfl rfl rfl ?_
    | refine W.box_one rfl rfl rfl ?_
    | refine W.askY rfl rfl rfl (by first | (simp only [ltB_t, ltB_f, eqB_t, eqB_f, pB_t, pB_f, sEq_t, sEq_f, emp_iff, ne_eq, List.length_map, Bool.not_eq_true, Bool.not_eq_false, Bool.not_eq_eq_eq_not, Bool.not_true, Bool.not_false]; done) | (simp only [ltB_t, ltB_f, eqB_t, eqB_f, pB_t, pB_f, sEq_t, sEq_f, emp_iff, ne_eq, List.length_map, Bool.not_eq_true, Bool.not_eq_false, Bool.not_eq_eq_eq_not, Bool.not_true, Bool.not_false]; omega) | (simp only [ltB_t, ltB_f, eqB_t, eqB_f, pB_t, pB_f, sEq_t, sEq_f, emp_iff, ne_eq, List.length_map, Bool.not_eq_true, Bool.not_eq_false, Bool.not_eq_eq_eq_not, Bool.not_true, Bool.not_false]; assumption)) ?_
    | refine W.askN rfl rfl rfl rfl (by first | (simp only [ltB_t, ltB_f, eqB_t, eqB_f, pB_t, pB_f, sEq_t, sEq_f, emp_iff, ne_eq, List.length_map, Bool.not_eq_true, Bool.not_eq_false, Bool.not_eq_eq_eq_not, Bool.not_true, Bool.not_false]; done) | (simp only [ltB_t, ltB_f, eqB_t, eqB_f, pB_t, pB_f, sEq_t, sEq_f, emp_iff, ne_eq, List.length_map, Bool.not_eq_true, Bool.not_eq_false, Bool.not_eq_eq_eq_not, Bool.not_true, Bool.not_false]; omega) | (simp only [ltB_t, ltB_f, eqB_t, eqB_f, pB_t, pB_f, sEq_t, sEq_f, emp_iff, ne_eq, List.length_map, Bool.not_eq_true, Bool.not_eq_false, Bool.not_eq_eq_eq_not, Bool.not_true, Bool.not_false]; assumption)) ?_
    | (refine W.ask rfl rfl rfl rfl ?_ ?_ <;> intro h <;> (try simp only [ltB_t, ltB_f, eqB_t, eqB_f, pB_t, pB_f, sEq_t, sEq_f, emp_iff, ne_eq, List.length_map, Bool.not_eq_true, Bool.not_eq_false, Bool.not_eq_eq_eq_not, Bool.not_true, Bool.not_false] at h)))
  all_goals (refine fin_pB rfl rfl rfl ?_; simp only [ltB_t, ltB_f, eqB_t, eqB_f, pB_t, pB_f, sEq_t, sEq_f, emp_iff, ne_eq, List.length_map, Bool.not_eq_true, Bool.not_eq_false, Bool.not_eq_eq_eq_not, Bool.not_true, Bool.not_false, true_iff, false_iff, Bool.false_eq_true, iff_true, iff_false, and_true, true_and, not_false_eq_true]; unfold EntryOk; grind)

theorem h_l25Ok : Holds Try.prog 158 (cList 4 D.Entry.enc D.Entry.ok BookOk) := by
  refine Holds.mk tt Try.func158 rfl Try.ntmps158 rfl (by kernel_rfl) ?_
  rintro _ K ⟨xs, rfl, hl, hok, hK⟩
  have hln : (xs.map D.Entry.enc).length = xs.length := by simp
  refine ⟨Nat.le_of_ble_eq_true rfl, _, hK, ?_⟩
  repeat' (first
    | refine Wc.seq ?_
    | refine Wc.region ?_
    | refine Wc.cond_t rfl ?_
    | refine Wc.cond_f rfl ?_
    | refine Wc.condT rfl (by first | (simp only [ltB_t, ltB_f, eqB_t, eqB_f, pB_t, pB_f, sEq_t, sEq_f, emp_iff, ne_eq, List.length_map, Bool.not_eq_true, Bool.not_eq_false, Bool.not_eq_eq_eq_not, Bool.not_true, Bool.not_false]; done) | (simp only [ltB_t, ltB_f, eqB_t, eqB_f, pB_t, pB_f, sEq_t, sEq_f, emp_iff, ne_eq, List.length_map, Bool.not_eq_true, Bool.not_eq_false, Bool.not_eq_eq_eq_not, Bool.not_true, Bool.not_false]; omega) | (simp only [ltB_t, ltB_f, eqB_t, eqB_f, pB_t, pB_f, sEq_t, sEq_f, emp_iff, ne_eq, List.length_map, Bool.not_eq_true, Bool.not_eq_false, Bool.not_eq_eq_eq_not, Bool.not_true, Bool.not_false]; assumption)) ?_
    | refine Wc.condF rfl (by first | (simp only [ltB_t, ltB_f, eqB_t, eqB_f, pB_t, pB_f, sEq_t, sEq_f, emp_iff, ne_eq, List.length_map, Bool.not_eq_true, Bool.not_eq_false, Bool.not_eq_eq_eq_not, Bool.not_true, Bool.not_false]; done) | (simp only [ltB_t, ltB_f, eqB_t, eqB_f, pB_t, pB_f, sEq_t, sEq_f, emp_iff, ne_eq, List.length_map, Bool.not_eq_true, Bool.not_eq_false, Bool.not_eq_eq_eq_not, Bool.not_true, Bool.not_false]; omega) | (simp only [ltB_t, ltB_f, eqB_t, eqB_f, pB_t, pB_f, sEq_t, sEq_f, emp_iff, ne_eq, List.length_map, Bool.not_eq_true, Bool.not_eq_false, Bool.not_eq_eq_eq_not, Bool.not_true, Bool.not_false]; assumption)) ?_
    | (refine Wc.cond rfl ?_ ?_ <;> intro h <;> (try simp only [ltB_t, ltB_f, eqB_t, eqB_f, pB_t, pB_f, sEq_t, sEq_f, emp_iff, ne_eq, List.length_map, Bool.not_eq_true, Bool.not_eq_false, Bool.not_eq_eq_eq_not, Bool.not_true, Bool.not_false] at h))
    | refine Wc.ret ?_
    | refine Wc.skip ?_
    | refine Wc.block ?_
    | refine Wc.exit ?_
    | refine Wc.regionQ mixed (by decide +kernel) ?_
    | refine W.nil ?_
    | refine W.yes rfl rfl rfl ?_
    | refine W.no rfl rfl rfl rfl ?_
    | refine W.never rfl rfl rfl rfl ?_
    | refine W.read (rd_mv_p rfl) rfl ?_
    | refine W.read (rd_as_p rfl) rfl ?_
    | refine W.read (rd_mv_o rfl) rfl ?_
    | refine W.read (rd_as_o rfl) rfl ?_
    | refine W.read (rd_field tt rfl rfl rfl rfl) rfl ?_
    | refine W.read (rd_field_loc tt rfl rfl rfl rfl) rfl ?_
    | refine W.read (rd_load tt rfl rfl rfl rfl) rfl ?_
    | refine W.read (rd_load_loc tt rfl rfl rfl rfl rfl rfl) rfl ?_
    | refine W.read (rd_gtr rfl rfl) rfl ?_
    | refine W.read (rd_leq rfl rfl) rfl ?_
    | refine W.read (rd_lss rfl rfl) rfl ?_
    | refine W.read (rd_pk_t rfl rfl) rfl ?_
    | refine W.read (rd_pk_f rfl rfl) rfl ?_
    | refine W.read (rd_pk_b rfl rfl rfl) rfl ?_
    | refine W.read (rd_not rfl) rfl ?_
    | refine W.read (rd_len_str tt rfl rfl rfl) rfl ?_
    | refine W.read (rd_len_view tt rfl rfl rfl rfl) rfl ?_
    | refine W.read (rd_len_own tt rfl rfl rfl rfl rfl) rfl ?_
    | refine W.read (rd_len_nil tt rfl rfl rfl rfl) rfl ?_
    | refine W.read (rd_index tt rfl rfl rfl rfl rfl rfl (by omega) (ixE (by omega) (by omega))) rfl ?_
    | refine W.read (rd_index_own tt rfl rfl rfl rfl rfl rfl rfl rfl (by omega) (by first | omega | (simp only [List.length_map, List.length_append, List.length_replicate, List.length_set, List.length_nil, List.length_cons]; omega))) rfl ?_
    | refine W.call h_l25One rfl rfl ⟨_, rfl, by assumption, _, _, rfl, rfl, ?_⟩
    | refine W.read (rd_add rfl rfl (by unfold in64; omega)) rfl ?_
    | refine W.read (rd_sub rfl rfl (by unfold in64; omega)) rfl ?_
    | refine W.askY rfl rfl rfl (by first | (simp only [ltB_t, ltB_f, eqB_t, eqB_f, pB_t, pB_f, sEq_t, sEq_f, emp_iff, ne_eq, List.length_map, Bool.not_eq_true, Bool.not_eq_false, Bool.not_eq_eq_eq_not, Bool.not_true, Bool.not_false]; done) | (simp only [ltB_t, ltB_f, eqB_t, eqB_f, pB_t, pB_f, sEq_t, sEq_f, emp_iff, ne_eq, List.length_map, Bool.not_eq_true, Bool.not_eq_false, Bool.not_eq_eq_eq_not, Bool.not_true, Bool.not_false]; omega) | (simp only [ltB_t, ltB_f, eqB_t, eqB_f, pB_t, pB_f, sEq_t, sEq_f, emp_iff, ne_eq, List.length_map, Bool.not_eq_true, Bool.not_eq_false, Bool.not_eq_eq_eq_not, Bool.not_true, Bool.not_false]; assumption)) ?_
    | refine W.askN rfl rfl rfl rfl (by first | (simp only [ltB_t, ltB_f, eqB_t, eqB_f, pB_t, pB_f, sEq_t, sEq_f, emp_iff, ne_eq, List.length_map, Bool.not_eq_true, Bool.not_eq_false, Bool.not_eq_eq_eq_not, Bool.not_true, Bool.not_false]; done) | (simp only [ltB_t, ltB_f, eqB_t, eqB_f, pB_t, pB_f, sEq_t, sEq_f, emp_iff, ne_eq, List.length_map, Bool.not_eq_true, Bool.not_eq_false, Bool.not_eq_eq_eq_not, Bool.not_true, Bool.not_false]; omega) | (simp only [ltB_t, ltB_f, eqB_t, eqB_f, pB_t, pB_f, sEq_t, sEq_f, emp_iff, ne_eq, List.length_map, Bool.not_eq_true, Bool.not_eq_false, Bool.not_eq_eq_eq_not, Bool.not_true, Bool.not_false]; assumption)) ?_
    | (refine W.ask rfl rfl rfl rfl ?_ ?_ <;> intro h <;> (try simp only [ltB_t, ltB_f, eqB_t, eqB_f, pB_t, pB_f, sEq_t, sEq_f, emp_iff, ne_eq, List.length_map, Bool.not_eq_true, Bool.not_eq_false, Bool.not_eq_eq_eq_not, Bool.not_true, Bool.not_false] at h)))
  refine Wc.loop (fun i : Int => 0 ≤ i ∧ i ≤ xs.length ∧ allTo (BookC xs) i) (fun i => ⟨36, 0, [(0, .p (.view 4 (xs.map D.Entry.enc))), (3, .p (I i))], []⟩) (fun i => (xs.length - i).toNat) 0 ⟨by omega, by omega, allTo_zero _⟩ ⟨rfl, ⟨rfl, rfl, trivial⟩, trivial, rfl, rfl⟩ ?_
  rintro i ⟨hi0, hi1, hinv⟩
  have hoki : (ix xs i).ok := ix_prop hok D.Entry.ok0 i
  repeat' (first
    | refine Wc.seq ?_
    | refine Wc.region ?_
    | refine Wc.cond_t rfl ?_
    | refine Wc.cond_f rfl ?_
    | refine Wc.condT rfl (by first | (simp only [ltB_t, ltB_f, eqB_t, eqB_f, pB_t, pB_f, sEq_t, sEq_f, emp_iff, ne_eq, List.length_map, Bool.not_eq_true, Bool.not_eq_false, Bool.not_eq_eq_eq_not, Bool.not_true, Bool.not_false]; done) | (simp only [ltB_t, ltB_f, eqB_t, eqB_f, pB_t, pB_f, sEq_t, sEq_f, emp_iff, ne_eq, List.length_map, Bool.not_eq_true, Bool.not_eq_false, Bool.not_eq_eq_eq_not, Bool.not_true, Bool.not_false]; omega) | (simp only [ltB_t, ltB_f, eqB_t, eqB_f, pB_t, pB_f, sEq_t, sEq_f, emp_iff, ne_eq, List.length_map, Bool.not_eq_true, Bool.not_eq_false, Bool.not_eq_eq_eq_not, Bool.not_true, Bool.not_false]; assumption)) ?_
    | refine Wc.condF rfl (by first | (simp only [ltB_t, ltB_f, eqB_t, eqB_f, pB_t, pB_f, sEq_t, sEq_f, emp_iff, ne_eq, List.length_map, Bool.not_eq_true, Bool.not_eq_false, Bool.not_eq_eq_eq_not, Bool.not_true, Bool.not_false]; done) | (simp only [ltB_t, ltB_f, eqB_t, eqB_f, pB_t, pB_f, sEq_t, sEq_f, emp_iff, ne_eq, List.length_map, Bool.not_eq_true, Bool.not_eq_false, Bool.not_eq_eq_eq_not, Bool.not_true, Bool.not_false]; omega) | (simp only [ltB_t, ltB_f, eqB_t, eqB_f, pB_t, pB_f, sEq_t, sEq_f, emp_iff, ne_eq, List.length_map, Bool.not_eq_true, Bool.not_eq_false, Bool.not_eq_eq_eq_not, Bool.not_true, Bool.not_false]; assumption)) ?_
    | (refine Wc.cond rfl ?_ ?_ <;> intro h <;> (try simp only [ltB_t, ltB_f, eqB_t, eqB_f, pB_t, pB_f, sEq_t, sEq_f, emp_iff, ne_eq, List.length_map, Bool.not_eq_true, Bool.not_eq_false, Bool.not_eq_eq_eq_not, Bool.not_true, Bool.not_false] at h))
    | refine Wc.ret ?_
    | refine Wc.skip ?_
    | refine Wc.block ?_
    | refine Wc.exit ?_
    | refine Wc.regionQ mixed (by decide +kernel) ?_
    | refine W.nil ?_
    | refine W.yes rfl rfl rfl ?_
    | refine W.no rfl rfl rfl rfl ?_
    | refine W.never rfl rfl rfl rfl ?_
    | refine W.read (rd_mv_p rfl) rfl ?_
    | refine W.read (rd_as_p rfl) rfl ?_
    | refine W.read (rd_mv_o rfl) rfl ?_
    | refine W.read (rd_as_o rfl) rfl ?_
    | refine W.read (rd_field tt rfl rfl rfl rfl) rfl ?_
    | refine W.read (rd_field_loc tt rfl rfl rfl rfl) rfl ?_
    | refine W.read (rd_load tt rfl rfl rfl rfl) rfl ?_
    | refine W.read (rd_load_loc tt rfl rfl rfl rfl rfl rfl) rfl ?_
    | refine W.read (rd_gtr rfl rfl) rfl ?_
    | refine W.read (rd_leq rfl rfl) rfl ?_
    | refine W.read (rd_lss rfl rfl) rfl ?_
    | refine W.read (rd_pk_t rfl rfl) rfl ?_
    | refine W.read (rd_pk_f rfl rfl) rfl ?_
    | refine W.read (rd_pk_b rfl rfl rfl) rfl ?_
    | refine W.read (rd_not rfl) rfl ?_
    | refine W.read (rd_len_str tt rfl rfl rfl) rfl ?_
    | refine W.read (rd_len_view tt rfl rfl rfl rfl) rfl ?_
    | refine W.read (rd_len_own tt rfl rfl rfl rfl rfl) rfl ?_
    | refine W.read (rd_len_nil tt rfl rfl rfl rfl) rfl ?_
    | refine W.read (rd_index tt rfl rfl rfl rfl rfl rfl (by omega) (ixE (by omega) (by omega))) rfl ?_
    | refine W.read (rd_index_own tt rfl rfl rfl rfl rfl rfl rfl rfl (by omega) (by first | omega | (simp only [List.length_map, List.length_append, List.length_replicate, List.length_set, List.length_nil, List.length_cons]; omega))) rfl ?_
    | refine W.call h_l25One rfl rfl ⟨_, rfl, by assumption, _, _, rfl, rfl, ?_⟩
    | refine W.read (rd_add rfl rfl (by unfold in64; omega)) rfl ?_
    | refine W.read (rd_sub rfl rfl (by unfold in64; omega)) rfl ?_
    | refine W.askY rfl rfl rfl (by first | (simp only [ltB_t, ltB_f, eqB_t, eqB_f, pB_t, pB_f, sEq_t, sEq_f, emp_iff, ne_eq, List.length_map, Bool.not_eq_true, Bool.not_eq_false, Bool.not_eq_eq_eq_not, Bool.not_true, Bool.not_false]; done) | (simp only [ltB_t, ltB_f, eqB_t, eqB_f, pB_t, pB_f, sEq_t, sEq_f, emp_iff, ne_eq, List.length_map, Bool.not_eq_true, Bool.not_eq_false, Bool.not_eq_eq_eq_not, Bool.not_true, Bool.not_false]; omega) | (simp only [ltB_t, ltB_f, eqB_t, eqB_f, pB_t, pB_f, sEq_t, sEq_f, emp_iff, ne_eq, List.length_map, Bool.not_eq_true, Bool.not_eq_false, Bool.not_eq_eq_eq_not, Bool.not_true, Bool.not_false]; assumption)) ?_
    | refine W.askN rfl rfl rfl rfl (by first | (simp only [ltB_t, ltB_f, eqB_t, eqB_f, pB_t, pB_f, sEq_t, sEq_f, emp_iff, ne_eq, List.length_map, Bool.not_eq_true, Bool.not_eq_false, Bool.not_eq_eq_eq_not, Bool.not_true, Bool.not_false]; done) | (simp only [ltB_t, ltB_f, eqB_t, eqB_f, pB_t, pB_f, sEq_t, sEq_f, emp_iff, ne_eq, List.length_map, Bool.not_eq_true, Bool.not_eq_false, Bool.not_eq_eq_eq_not, Bool.not_true, Bool.not_false]; omega) | (simp only [ltB_t, ltB_f, eqB_t, eqB_f, pB_t, pB_f, sEq_t, sEq_f, emp_iff, ne_eq, List.length_map, Bool.not_eq_true, Bool.not_eq_false, Bool.not_eq_eq_eq_not, Bool.not_true, Bool.not_false]; assumption)) ?_
    | (refine W.ask rfl rfl rfl rfl ?_ ?_ <;> intro h <;> (try simp only [ltB_t, ltB_f, eqB_t, eqB_f, pB_t, pB_f, sEq_t, sEq_f, emp_iff, ne_eq, List.length_map, Bool.not_eq_true, Bool.not_eq_false, Bool.not_eq_eq_eq_not, Bool.not_true, Bool.not_false] at h)))
  all_goals first
    | (refine fin_pB rfl rfl rfl ?_; simp only [ltB_t, ltB_f, eqB_t, eqB_f, pB_t, pB_f, sEq_t, sEq_f, emp_iff, ne_eq, List.length_map, Bool.not_eq_true, Bool.not_eq_false, Bool.not_eq_eq_eq_not, Bool.not_true, Bool.not_false, true_iff, false_iff, Bool.false_eq_true, iff_true, iff_false, and_true, true_and, not_false_eq_true]; first
        | (intro hB; have hq := hB.1 i (by omega) (by omega); unfold BookC at hq; first | exact absurd hq.1 (by assumption) | (have hq2 := hq.2 (by omega); omega))
        | exact ⟨fun hl2 => ⟨allTo_le hinv (by omega), hl2⟩, fun hB => hB.2⟩)
    | (refine ⟨i + 1, ⟨by omega, by omega, allTo_succ hinv ⟨by assumption, fun _ => by omega⟩⟩, by dsimp only; omega, ⟨rfl, ⟨rfl, rfl, trivial⟩, trivial, rfl, rfl⟩⟩)

theorem h_ValidBook : Holds Try.prog 84 (cList 4 D.Entry.enc D.Entry.ok BookOk) := by
  refine Holds.mk tt Try.func84 rfl Try.ntmps84 rfl (by kernel_rfl) ?_
  rintro _ K ⟨xs, rfl, hl, hok, hK⟩
  have hln : (xs.map D.Entry.enc).length = xs.length := by simp
  refine ⟨Nat.le_of_ble_eq_true rfl, _, hK, ?_⟩
  repeat' (first
    | refine Wc.seq ?_
    | refine Wc.region ?_
    | refine Wc.cond_t rfl ?_
    | refine Wc.cond_f rfl ?_
    | refine Wc.condT rfl (by first | (simp only [ltB_t, ltB_f, eqB_t, eqB_f, pB_t, pB_f, sEq_t, sEq_f, emp_iff, ne_eq, List.length_map, Bool.not_eq_true, Bool.not_eq_false, Bool.not_eq_eq_eq_not, Bool.not_true, Bool.not_false]; done) | (simp only [ltB_t, ltB_f, eqB_t, eqB_f, pB_t, pB_f, sEq_t, sEq_f, emp_iff, ne_eq, List.length_map, Bool.not_eq_true, Bool.not_eq_false, Bool.not_eq_eq_eq_not, Bool.not_true, Bool.not_false]; omega) | (simp only [ltB_t, ltB_f, eqB_t, eqB_f, pB_t, pB_f, sEq_t, sEq_f, emp_iff, ne_eq, List.length_map, Bool.not_eq_true, Bool.not_eq_false, Bool.not_eq_eq_eq_not, Bool.not_true, Bool.not_false]; assumption)) ?_
    | refine Wc.condF rfl (by first | (simp only [ltB_t, ltB_f, eqB_t, eqB_f, pB_t, pB_f, sEq_t, sEq_f, emp_iff, ne_eq, List.length_map, Bool.not_eq_true, Bool.not_eq_false, Bool.not_eq_eq_eq_not, Bool.not_true, Bool.not_false]; done) | (simp only [ltB_t, ltB_f, eqB_t, eqB_f, pB_t, pB_f, sEq_t, sEq_f, emp_iff, ne_eq, List.length_map, Bool.not_eq_true, Bool.not_eq_false, Bool.not_eq_eq_eq_not, Bool.not_true, Bool.not_false]; omega) | (simp only [ltB_t, ltB_f, eqB_t, eqB_f, pB_t, pB_f, sEq_t, sEq_f, emp_iff, ne_eq, List.length_map, Bool.not_eq_true, Bool.not_eq_false, Bool.not_eq_eq_eq_not, Bool.not_true, Bool.not_false]; assumption)) ?_
    | (refine Wc.cond rfl ?_ ?_ <;> intro h <;> (try simp only [ltB_t, ltB_f, eqB_t, eqB_f, pB_t, pB_f, sEq_t, sEq_f, emp_iff, ne_eq, List.length_map, Bool.not_eq_true, Bool.not_eq_false, Bool.not_eq_eq_eq_not, Bool.not_true, Bool.not_false] at h))
    | refine Wc.ret ?_
    | refine Wc.skip ?_
    | refine Wc.block ?_
    | refine Wc.exit ?_
    | refine Wc.regionQ mixed (by decide +kernel) ?_
    | refine Wc.regionT 17 mixed (by decide +kernel) ?_
    | refine Wc.regionT 16 mixed (by decide +kernel) ?_
    | refine Wc.regionT 15 mixed (by decide +kernel) ?_
    | refine Wc.regionT 14 mixed (by decide +kernel) ?_
    | refine Wc.regionT 13 mixed (by decide +kernel) ?_
    | refine Wc.regionT 12 mixed (by decide +kernel) ?_
    | refine Wc.regionT 11 mixed (by decide +kernel) ?_
    | refine Wc.regionT 10 mixed (by decide +kernel) ?_
    | refine Wc.regionT 9 mixed (by decide +kernel) ?_
    | refine Wc.regionT 8 mixed (by decide +kernel) ?_
    | refine Wc.regionT 7 mixed (by decide +kernel) ?_
    | refine Wc.regionT 6 mixed (by decide +kernel) ?_
    | refine Wc.regionT 5 mixed (by decide +kernel) ?_
    | refine Wc.regionT 4 mixed (by decide +kernel) ?_
    | refine Wc.regionT 3 mixed (by decide +kernel) ?_
    | refine Wc.regionT 2 mixed (by decide +kernel) ?_
    | refine Wc.regionT 1 mixed (by decide +kernel) ?_
    | refine W.nil ?_
    | refine W.yes rfl rfl rfl ?_
    | refine W.no rfl rfl rfl rfl ?_
    | refine W.never rfl rfl rfl rfl ?_
    | refine W.read (rd_mv_p rfl) rfl ?_
    | refine W.read (rd_as_p rfl) rfl ?_
    | refine W.read (rd_mv_o rfl) rfl ?_
    | refine W.read (rd_as_o rfl) rfl ?_
    | refine W.read (rd_mv_l rfl) rfl ?_
    | refine W.read (rd_as_l rfl) rfl ?_
    | refine W.read (rd_field tt rfl rfl rfl rfl) rfl ?_
    | refine W.read (rd_field_loc tt rfl rfl rfl rfl) rfl ?_
    | refine W.read (rd_load tt rfl rfl rfl rfl) rfl ?_
    | refine W.read (rd_load_loc tt rfl rfl rfl rfl rfl rfl) rfl ?_
    | refine W.read (rd_load_all tt rfl rfl rfl rfl) rfl ?_
    | refine W.read (rd_load_loc_all tt rfl rfl rfl rfl rfl rfl) rfl ?_
    | refine W.read (rd_load_agg tt rfl rfl rfl rfl) rfl ?_
    | refine W.read (rd_load_loc_agg tt rfl rfl rfl rfl rfl rfl) rfl ?_
    | refine W.read (rd_gtr rfl rfl) rfl ?_
    | refine W.read (rd_lss rfl rfl) rfl ?_
    | refine W.read (rd_pk_t rfl rfl) rfl ?_
    | refine W.read (rd_pk_f rfl rfl) rfl ?_
    | refine W.read (rd_pk_b rfl rfl rfl) rfl ?_
    | refine W.read (rd_not rfl) rfl ?_
    | refine W.read (rd_len_str tt rfl rfl rfl) rfl ?_
    | refine W.read (rd_len_view tt rfl rfl rfl rfl) rfl ?_
    | refine W.read (rd_len_own tt rfl rfl rfl rfl rfl) rfl ?_
    | refine W.read (rd_len_nil tt rfl rfl rfl rfl) rfl ?_
    | refine W.read (rd_index tt rfl rfl rfl rfl rfl rfl (by omega) (ixE (by omega) (by omega))) rfl ?_
    | refine W.read (rd_index_own tt rfl rfl rfl rfl rfl rfl rfl rfl (by omega) (by first | omega | (simp only [List.length_map, List.length_append, List.length_replicate, List.length_set, List.length_nil, List.length_cons]; omega))) rfl ?_
    | refine W.call h_validEntry rfl rfl ⟨_, rfl, by assumption, _, _, rfl, rfl, ?_⟩
    | refine W.call h_few rfl rfl ⟨_, _, rfl, by omega, by omega, _, _, rfl, rfl, ?_⟩
    | refine W.read (rd_add rfl rfl (by unfold in64; omega)) rfl ?_
    | refine W.read (rd_sub rfl rfl (by unfold in64; omega)) rfl ?_
    | refine W.alloc tt rfl rfl rfl rfl ?_
    | refine W.store1 tt rfl rfl rfl rfl rfl rfl rfl rfl ?_
    | refine W.storeE tt rfl rfl rfl rfl rfl rfl rfl rfl ?_
    | refine W.storeP tt rfl rfl rfl rfl rfl rfl rfl rfl ?_
    | refine W.askY rfl rfl rfl (by first | (simp only [ltB_t, ltB_f, eqB_t, eqB_f, pB_t, pB_f, sEq_t, sEq_f, emp_iff, ne_eq, List.length_map, Bool.not_eq_true, Bool.not_eq_false, Bool.not_eq_eq_eq_not, Bool.not_true, Bool.not_false]; done) | (simp only [ltB_t, ltB_f, eqB_t, eqB_f, pB_t, pB_f, sEq_t, sEq_f, emp_iff, ne_eq, List.length_map, Bool.not_eq_true, Bool.not_eq_false, Bool.not_eq_eq_eq_not, Bool.not_true, Bool.not_false]; omega) | (simp only [ltB_t, ltB_f, eqB_t, eqB_f, pB_t, pB_f, sEq_t, sEq_f, emp_iff, ne_eq, List.length_map, Bool.not_eq_true, Bool.not_eq_false, Bool.not_eq_eq_eq_not, Bool.not_true, Bool.not_false]; assumption)) ?_
    | refine W.askN rfl rfl rfl rfl (by first | (simp only [ltB_t, ltB_f, eqB_t, eqB_f, pB_t, pB_f, sEq_t, sEq_f, emp_iff, ne_eq, List.length_map, Bool.not_eq_true, Bool.not_eq_false, Bool.not_eq_eq_eq_not, Bool.not_true, Bool.not_false]; done) | (simp only [ltB_t, ltB_f, eqB_t, eqB_f, pB_t, pB_f, sEq_t, sEq_f, emp_iff, ne_eq, List.length_map, Bool.not_eq_true, Bool.not_eq_false, Bool.not_eq_eq_eq_not, Bool.not_true, Bool.not_false]; omega) | (simp only [ltB_t, ltB_f, eqB_t, eqB_f, pB_t, pB_f, sEq_t, sEq_f, emp_iff, ne_eq, List.length_map, Bool.not_eq_true, Bool.not_eq_false, Bool.not_eq_eq_eq_not, Bool.not_true, Bool.not_false]; assumption)) ?_
    | (refine W.ask rfl rfl rfl rfl ?_ ?_ <;> intro h <;> (try simp only [ltB_t, ltB_f, eqB_t, eqB_f, pB_t, pB_f, sEq_t, sEq_f, emp_iff, ne_eq, List.length_map, Bool.not_eq_true, Bool.not_eq_false, Bool.not_eq_eq_eq_not, Bool.not_true, Bool.not_false] at h)))
  refine Wc.loop (fun i : Int => 0 ≤ i ∧ i ≤ xs.length ∧ allTo (BookC xs) i) (fun i => ⟨34, 0, [(0, .p (.view 4 (xs.map D.Entry.enc))), (5, .p (.view 4 (xs.map D.Entry.enc))), (6, .p (I (xs.map D.Entry.enc).length)), (7, .p (I i))], []⟩) (fun i => (xs.length - i).toNat) 0 ⟨by omega, by omega, allTo_zero _⟩ ⟨rfl, ⟨rfl, rfl, rfl, rfl, trivial⟩, trivial, rfl, rfl⟩ ?_
  rintro i ⟨hi0, hi1, hinv⟩
  have hoki : (ix xs i).ok := ix_prop hok D.Entry.ok0 i
  repeat' (first
    | refine Wc.seq ?_
    | refine Wc.region ?_
    | refine Wc.cond_t rfl ?_
    | refine Wc.cond_f rfl ?_
    | refine Wc.condT rfl (by first | (simp only [ltB_t, ltB_f, eqB_t, eqB_f, pB_t, pB_f, sEq_t, sEq_f, emp_iff, ne_eq, List.length_map, Bool.not_eq_true, Bool.not_eq_false, Bool.not_eq_eq_eq_not, Bool.not_true, Bool.not_false]; done) | (simp only [ltB_t, ltB_f, eqB_t, eqB_f, pB_t, pB_f, sEq_t, sEq_f, emp_iff, ne_eq, List.length_map, Bool.not_eq_true, Bool.not_eq_false, Bool.not_eq_eq_eq_not, Bool.not_true, Bool.not_false]; omega) | (simp only [ltB_t, ltB_f, eqB_t, eqB_f, pB_t, pB_f, sEq_t, sEq_f, emp_iff, ne_eq, List.length_map, Bool.not_eq_true, Bool.not_eq_false, Bool.not_eq_eq_eq_not, Bool.not_true, Bool.not_false]; assumption)) ?_
    | refine Wc.condF rfl (by first | (simp only [ltB_t, ltB_f, eqB_t, eqB_f, pB_t, pB_f, sEq_t, sEq_f, emp_iff, ne_eq, List.length_map, Bool.not_eq_true, Bool.not_eq_false, Bool.not_eq_eq_eq_not, Bool.not_true, Bool.not_false]; done) | (simp only [ltB_t, ltB_f, eqB_t, eqB_f, pB_t, pB_f, sEq_t, sEq_f, emp_iff, ne_eq, List.length_map, Bool.not_eq_true, Bool.not_eq_false, Bool.not_eq_eq_eq_not, Bool.not_true, Bool.not_false]; omega) | (simp only [ltB_t, ltB_f, eqB_t, eqB_f, pB_t, pB_f, sEq_t, sEq_f, emp_iff, ne_eq, List.length_map, Bool.not_eq_true, Bool.not_eq_false, Bool.not_eq_eq_eq_not, Bool.not_true, Bool.not_false]; assumption)) ?_
    | (refine Wc.cond rfl ?_ ?_ <;> intro h <;> (try simp only [ltB_t, ltB_f, eqB_t, eqB_f, pB_t, pB_f, sEq_t, sEq_f, emp_iff, ne_eq, List.length_map, Bool.not_eq_true, Bool.not_eq_false, Bool.not_eq_eq_eq_not, Bool.not_true, Bool.not_false] at h))
    | refine Wc.ret ?_
    | refine Wc.skip ?_
    | refine Wc.block ?_
    | refine Wc.exit ?_
    | refine Wc.regionQ mixed (by decide +kernel) ?_
    | refine Wc.regionT 17 mixed (by decide +kernel) ?_
    | refine Wc.regionT 16 mixed (by decide +kernel) ?_
    | refine Wc.regionT 15 mixed (by decide +kernel) ?_
    | refine Wc.regionT 14 mixed (by decide +kernel) ?_
    | refine Wc.regionT 13 mixed (by decide +kernel) ?_
    | refine Wc.regionT 12 mixed (by decide +kernel) ?_
    | refine Wc.regionT 11 mixed (by decide +kernel) ?_
    | refine Wc.regionT 10 mixed (by decide +kernel) ?_
    | refine Wc.regionT 9 mixed (by decide +kernel) ?_
    | refine Wc.regionT 8 mixed (by decide +kernel) ?_
    | refine Wc.regionT 7 mixed (by decide +kernel) ?_
    | refine Wc.regionT 6 mixed (by decide +kernel) ?_
    | refine Wc.regionT 5 mixed (by decide +kernel) ?_
    | refine Wc.regionT 4 mixed (by decide +kernel) ?_
    | refine Wc.regionT 3 mixed (by decide +kernel) ?_
    | refine Wc.regionT 2 mixed (by decide +kernel) ?_
    | refine Wc.regionT 1 mixed (by decide +kernel) ?_
    | refine W.nil ?_
    | refine W.yes rfl rfl rfl ?_
    | refine W.no rfl rfl rfl rfl ?_
    | refine W.never rfl rfl rfl rfl ?_
    | refine W.read (rd_mv_p rfl) rfl ?_
    | refine W.read (rd_as_p rfl) rfl ?_
    | refine W.read (rd_mv_o rfl) rfl ?_
    | refine W.read (rd_as_o rfl) rfl ?_
    | refine W.read (rd_mv_l rfl) rfl ?_
    | refine W.read (rd_as_l rfl) rfl ?_
    | refine W.read (rd_field tt rfl rfl rfl rfl) rfl ?_
    | refine W.read (rd_field_loc tt rfl rfl rfl rfl) rfl ?_
    | refine W.read (rd_load tt rfl rfl rfl rfl) rfl ?_
    | refine W.read (rd_load_loc tt rfl rfl rfl rfl rfl rfl) rfl ?_
    | refine W.read (rd_load_all tt rfl rfl rfl rfl) rfl ?_
    | refine W.read (rd_load_loc_all tt rfl rfl rfl rfl rfl rfl) rfl ?_
    | refine W.read (rd_load_agg tt rfl rfl rfl rfl) rfl ?_
    | refine W.read (rd_load_loc_agg tt rfl rfl rfl rfl rfl rfl) rfl ?_
    | refine W.read (rd_gtr rfl rfl) rfl ?_
    | refine W.read (rd_lss rfl rfl) rfl ?_
    | refine W.read (rd_pk_t rfl rfl) rfl ?_
    | refine W.read (rd_pk_f rfl rfl) rfl ?_
    | refine W.read (rd_pk_b rfl rfl rfl) rfl ?_
    | refine W.read (rd_not rfl) rfl ?_
    | refine W.read (rd_len_str tt rfl rfl rfl) rfl ?_
    | refine W.read (rd_len_view tt rfl rfl rfl rfl) rfl ?_
    | refine W.read (rd_len_own tt rfl rfl rfl rfl rfl) rfl ?_
    | refine W.read (rd_len_nil tt rfl rfl rfl rfl) rfl ?_
    | refine W.read (rd_index tt rfl rfl rfl rfl rfl rfl (by omega) (ixE (by omega) (by omega))) rfl ?_
    | refine W.read (rd_index_own tt rfl rfl rfl rfl rfl rfl rfl rfl (by omega) (by first | omega | (simp only [List.length_map, List.length_append, List.length_replicate, List.length_set, List.length_nil, List.length_cons]; omega))) rfl ?_
    | refine W.call h_validEntry rfl rfl ⟨_, rfl, by assumption, _, _, rfl, rfl, ?_⟩
    | refine W.call h_few rfl rfl ⟨_, _, rfl, by omega, by omega, _, _, rfl, rfl, ?_⟩
    | refine W.read (rd_add rfl rfl (by unfold in64; omega)) rfl ?_
    | refine W.read (rd_sub rfl rfl (by unfold in64; omega)) rfl ?_
    | refine W.alloc tt rfl rfl rfl rfl ?_
    | refine W.store1 tt rfl rfl rfl rfl rfl rfl rfl rfl ?_
    | refine W.storeE tt rfl rfl rfl rfl rfl rfl rfl rfl ?_
    | refine W.storeP tt rfl rfl rfl rfl rfl rfl rfl rfl ?_
    | refine W.askY rfl rfl rfl (by first | (simp only [ltB_t, ltB_f, eqB_t, eqB_f, pB_t, pB_f, sEq_t, sEq_f, emp_iff, ne_eq, List.length_map, Bool.not_eq_true, Bool.not_eq_false, Bool.not_eq_eq_eq_not, Bool.not_true, Bool.not_false]; done) | (simp only [ltB_t, ltB_f, eqB_t, eqB_f, pB_t, pB_f, sEq_t, sEq_f, emp_iff, ne_eq, List.length_map, Bool.not_eq_true, Bool.not_eq_false, Bool.not_eq_eq_eq_not, Bool.not_true, Bool.not_false]; omega) | (simp only [ltB_t, ltB_f, eqB_t, eqB_f, pB_t, pB_f, sEq_t, sEq_f, emp_iff, ne_eq, List.length_map, Bool.not_eq_true, Bool.not_eq_false, Bool.not_eq_eq_eq_not, Bool.not_true, Bool.not_false]; assumption)) ?_
    | refine W.askN rfl rfl rfl rfl (by first | (simp only [ltB_t, ltB_f, eqB_t, eqB_f, pB_t, pB_f, sEq_t, sEq_f, emp_iff, ne_eq, List.length_map, Bool.not_eq_true, Bool.not_eq_false, Bool.not_eq_eq_eq_not, Bool.not_true, Bool.not_false]; done) | (simp only [ltB_t, ltB_f, eqB_t, eqB_f, pB_t, pB_f, sEq_t, sEq_f, emp_iff, ne_eq, List.length_map, Bool.not_eq_true, Bool.not_eq_false, Bool.not_eq_eq_eq_not, Bool.not_true, Bool.not_false]; omega) | (simp only [ltB_t, ltB_f, eqB_t, eqB_f, pB_t, pB_f, sEq_t, sEq_f, emp_iff, ne_eq, List.length_map, Bool.not_eq_true, Bool.not_eq_false, Bool.not_eq_eq_eq_not, Bool.not_true, Bool.not_false]; assumption)) ?_
    | (refine W.ask rfl rfl rfl rfl ?_ ?_ <;> intro h <;> (try simp only [ltB_t, ltB_f, eqB_t, eqB_f, pB_t, pB_f, sEq_t, sEq_f, emp_iff, ne_eq, List.length_map, Bool.not_eq_true, Bool.not_eq_false, Bool.not_eq_eq_eq_not, Bool.not_true, Bool.not_false] at h)))
  all_goals first
    | (refine fin_pB rfl rfl rfl ?_; simp only [ltB_t, ltB_f, eqB_t, eqB_f, pB_t, pB_f, sEq_t, sEq_f, emp_iff, ne_eq, List.length_map, Bool.not_eq_true, Bool.not_eq_false, Bool.not_eq_eq_eq_not, Bool.not_true, Bool.not_false, true_iff, false_iff, Bool.false_eq_true, iff_true, iff_false, and_true, true_and, not_false_eq_true]; first
        | (intro hB; have hq := hB.1 i (by omega) (by omega); unfold BookC at hq; first | exact absurd hq.1 (by assumption) | (have hq2 := hq.2 (by omega); omega))
        | exact ⟨fun hl2 => ⟨allTo_le hinv (by omega), hl2⟩, fun hB => hB.2⟩)
    | (refine ⟨i + 1, ⟨by omega, by omega, allTo_succ hinv ⟨by assumption, fun _ => by omega⟩⟩, by dsimp only; omega, ⟨rfl, ⟨rfl, rfl, rfl, rfl, trivial⟩, trivial, rfl, rfl⟩⟩)


end Go.Proofs.Ythpcibkoldnpaaa
