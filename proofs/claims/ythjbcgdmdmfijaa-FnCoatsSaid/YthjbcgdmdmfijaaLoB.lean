/- A logical layer over the walk, second half: operations that write, plain words, readings of arguments. -/
import Derived.Test.YthjbcgdmdmfijaaLoA
import Derived.Laws.AppendOwn
import Derived.Laws.MakeOwn
set_option linter.unusedVariables false
set_option linter.unusedSimpArgs false
set_option maxRecDepth 100000
namespace Go.Lo
open Go.RowKit

def PV.flat : PV → Bool
  | .agg _ => false
  | .any => false
  | .raw v => v.oneCell'
  | _ => true

theorem VR.one {h : Array Obj} {S : Nat → Prop} {m : PV} {v : Value} (hv : VR h S m v) (hm : m.flat = true) : v.oneCell' = true := by
  cases hv <;> first | rfl | exact hm | cases hm

section
variable {P : Program} {st : St} {w0 : Bs} {a : Act} {w w' : World} {L cp sz ln : Nat → Nat}

theorem look_cons {α : Type} (k : Nat) (x : α) (l : List (Nat × α)) (t : Nat) : look ((k, x) :: l) t = if k = t then some x else look l t := by
  simp only [look]
  by_cases h : k = t
  · subst h; simp [Nat.beq_refl]
  · have : Nat.beq k t = false := by
      cases hb : Nat.beq k t with
      | false => rfl
      | true => exact absurd (Nat.eq_of_beq_eq_true hb) h
    rw [this, if_neg h]; rfl

def St.addRow (st : St) (r : Row) : St := { st with nk := st.nk + 1, rows := (st.nk, r) :: st.rows }

/-- A new row, at the end of the heap. -/
theorem SRL.alloc (s : SRL w0 st a w L cp sz ln) {r : Row} {C : Array Value} {c : Nat} (hC : C.size = c * r.sz) (hc : r.els.length ≤ c) (hm : c ≤ maxLen) (hsz : ∀ e ∈ r.els, e.length = r.sz)
    (hcells : ∀ (i : Nat) e (j : Nat) m, r.els[i]? = some e → e[j]? = some m → ∃ u, C[i * r.sz + j]? = some u ∧ u.oneCell' = true ∧ VR w.heap (stab w0 st.rows st.x L w.heap) m u) :
    ∃ L' cp' sz' ln', SRL w0 (st.addRow r) a (w.alloc (.cells C r.ty)) L' cp' sz' ln' ∧ L' st.nk = w.heap.size ∧ cp' st.nk = c ∧ sz' st.nk = r.sz ∧ ln' st.nk = r.els.length := by
  have hex : Ext w (w.alloc (.cells C r.ty)) := (Below.refl _ _).alloc (Nat.le_refl _) _
  let L' := fun k => if k < st.nk then L k else w.heap.size
  let cp' := fun k => if k < st.nk then cp k else c
  let sz' := fun k => if k < st.nk then sz k else r.sz
  let ln' := fun k => if k < st.nk then ln k else r.els.length
  have hnl : ¬ st.nk < st.nk := by omega
  have hlk : ∀ k, liveIn [(st.nk, r)] k → k = st.nk := fun k hk => by
    unfold liveIn at hk
    rw [look_cons] at hk
    by_cases h : st.nk = k
    · exact h.symm
    · rw [if_neg h] at hk; cases hk
  have h := s.add (new := [(st.nk, r)]) (nk' := st.nk + 1) (L' := L') (cp' := cp') (sz' := sz') (ln' := ln') hex (fun k hk => by simp [L', cp', sz', ln', hk])
    (fun k hk => by have := hlk k hk; omega) (by omega)
    (fun k r' hk => by
      have hkk := hlk k (by unfold liveIn; rw [hk]; rfl)
      subst hkk
      have hr' : r' = r := by rw [look_cons, if_pos rfl] at hk; exact (Option.some.inj hk).symm
      subst hr'
      refine ⟨?_, by simp [L'], by simp [sz'], by simp [ln']⟩
      have hb : ∀ b, stab w0 st.rows st.x L w.heap b → stab w0 ([(st.nk, r')] ++ st.rows) st.x L' (w.alloc (.cells C r'.ty)).heap b ∧ (w.alloc (.cells C r'.ty)).heap[b]? = w.heap[b]? := fun b hb => by
        refine ⟨⟨Nat.lt_of_lt_of_le hb.1 hex.size, hb.2.1, fun k hk => ?_⟩, hex.block b hb.1⟩
        unfold liveIn at hk
        rw [look_append] at hk
        cases hl : look [(st.nk, r')] k with
        | some r1 =>
          have := hlk k (by unfold liveIn; rw [hl]; rfl)
          subst this
          simp only [L', hnl, if_false]
          have := hb.1; omega
        | none =>
          rw [hl] at hk
          have hlt := s.keys k hk
          simp only [L', hlt, if_true]
          exact hb.2.2 k hk
      simp only [L', cp', hnl, if_false]
      refine ⟨C, ?_, hC, hc, hm, hsz, fun i e j m he hm => ?_⟩
      · exact heap_alloc_new w _
      · obtain ⟨u, hu, h1, hv⟩ := hcells i e j m he hm
        exact ⟨u, hu, h1, hv.mono hb⟩)
    (fun k k' hk hk' _ => by rw [hlk k hk, hlk k' hk'])
  exact ⟨L', cp', sz', ln', h.1, by simp [L'], by simp [cp'], by simp [sz'], by simp [ln']⟩

theorem own_ne {B : Bs} {k x b : Nat} (h : B.own k x) (hb : b < B.w.heap.size) (hM : ¬ B.M b) : b ≠ x := fun e => by
  subst e
  rcases h with h | h
  · omega
  · exact hM h.2

/-- A row is written, its shape stays. -/
theorem SRL.stored (s : SRL w0 st a w L cp sz ln) {k : Nat} {r r' : Row} (hk : look st.rows k = some r) (hty : r'.ty = r.ty) (hrz : r'.sz = r.sz) (hrl : r'.els.length = r.els.length) {C' : Array Value}
    (hC : C'.size = cp k * r.sz) (hsz : ∀ e ∈ r'.els, e.length = r.sz)
    (hcells : ∀ (i : Nat) e (j : Nat) m, r'.els[i]? = some e → e[j]? = some m → ∃ u, C'[i * r.sz + j]? = some u ∧ u.oneCell' = true ∧ VR w.heap (stab w0 st.rows st.x L w.heap) m u) :
    SRL w0 { st with rows := (k, r') :: st.rows } a (w.setRow (L k) C') L cp sz ln := by
  obtain ⟨⟨C, h1, h2, h3, h4, h5, h6⟩, hge, hsk, hlk⟩ := s.rows k r hk
  have hlive : ∀ x, liveIn ((k, r') :: st.rows) x ↔ liveIn st.rows x := fun x => by
    unfold liveIn; rw [look_cons]
    by_cases h : k = x
    · subst h; rw [if_pos rfl, hk]; simp
    · rw [if_neg h]
  have hb : ∀ b, stab w0 st.rows st.x L w.heap b → stab w0 ((k, r') :: st.rows) st.x L (w.setRow (L k) C').heap b ∧ (w.setRow (L k) C').heap[b]? = w.heap[b]? := fun b hb => by
    refine ⟨⟨by simpa using hb.1, hb.2.1, fun x hx => hb.2.2 x ((hlive x).1 hx)⟩, ?_⟩
    exact setRow_other w (L k) b C' (fun e => hb.2.2 k (by unfold liveIn; rw [hk]; rfl) e.symm)
  refine ⟨s.defers, s.size, fun t => (s.tmps t).mono hb, fun x rx hx => ?_, fun x y hx hy => s.inj x y ((hlive x).1 hx) ((hlive y).1 hy), fun x hx => s.keys x ((hlive x).1 hx), ?_, s.pos, s.pin, fun b o hx => ⟨(setRow_other w (L k) b C' (fun e => (s.frag b o hx).2.2 k (by simp [St.live, liveIn, hk]) e.symm)).trans (s.frag b o hx).1, (s.frag b o hx).2.1, fun x hxl => (s.frag b o hx).2.2 x ((hlive x).1 hxl)⟩⟩
  · rw [look_cons] at hx
    by_cases h : k = x
    · subst h
      rw [if_pos rfl] at hx; cases hx
      refine ⟨⟨C', ?_, by rw [hrz]; exact hC, by rw [hrl]; exact h3, h4, fun e he => by rw [hrz]; exact hsz e he, fun i e j m he hm => ?_⟩, hge, by rw [hsk, hrz], by rw [hlk, hrl]⟩
      · rw [hty]; exact setRow_heap w (L k) C C' _ _ h1
      · obtain ⟨u, hu, h1', hv⟩ := hcells i e j m he hm
        exact ⟨u, by rw [hrz]; exact hu, h1', hv.mono hb⟩
    · rw [if_neg h] at hx
      obtain ⟨g1, g2, g3, g4⟩ := s.rows x rx hx
      refine ⟨g1.mono hb ?_, g2, g3, g4⟩
      exact setRow_other w (L k) (L x) C' (fun e => h (s.inj k x (by simp [St.live, liveIn, hk]) (by simp [St.live, liveIn, hx]) e.symm))
  · exact s.below.step rfl rfl rfl (by simp) (fun b hb' hM => setRow_other w (L k) b C' (own_ne hge hb' hM))

/-! ### Kill -/
def MV.kill (k : Nat) : MV → MV
  | .own x => bif Nat.beq x k then .p .any else .own x
  | .loc x i j => bif Nat.beq x k then .p .any else .loc x i j
  | .win x i j => bif Nat.beq x k then .p .any else .win x i j
  | .tup _ => .p .any
  | m => m
def killT (k : Nat) : List (Nat × MV) → List (Nat × MV)
  | [] => []
  | (t, m) :: r => (t, m.kill k) :: killT k r

theorem look_killT (k : Nat) : ∀ (l : List (Nat × MV)) (t : Nat), look (killT k l) t = (look l t).map (MV.kill k)
  | [], t => rfl
  | (x, m) :: l, t => by
    simp only [killT, look]
    cases Nat.beq x t with
    | true => rfl
    | false => exact look_killT k l t

theorem get_kill (st : St) (k t : Nat) (rows : List (Nat × Row)) (nk : Nat) : St.get { st with t := killT k st.t, rows := rows, nk := nk } t = (st.get t).kill k := by
  unfold St.get
  simp only [look_killT]
  cases look st.t t <;> rfl

theorem MR.kill {nk : Nat} {h h' : Array Obj} {S S' : Nat → Prop} {L' cp' sz' ln' : Nat → Nat} {m : MV} {v : Value} {k : Nat} (hm : MR nk h S L cp sz ln m v) (hb : ∀ b, S b → S' b ∧ h'[b]? = h[b]?)
    (hold : ∀ x, x ≠ k → L' x = L x ∧ cp' x = cp x ∧ sz' x = sz x ∧ ln' x = ln x) : MR nk h' S' L' cp' sz' ln' (m.kill k) v := by
  have hbeq : ∀ x, Nat.beq x k = false → x ≠ k := fun x hx e => by subst e; rw [Nat.beq_refl] at hx; cases hx
  cases m with
  | p m => exact VR.mono hm hb
  | own x =>
    simp only [MV.kill]
    cases hx : Nat.beq x k with
    | true => exact VR.any
    | false =>
      obtain ⟨e1, e2, e3, e4⟩ := hold x (hbeq x hx)
      exact ⟨by rw [hm.1, e1, e2, e4], hm.2⟩
  | loc x i j =>
    simp only [MV.kill]
    cases hx : Nat.beq x k with
    | true => exact VR.any
    | false =>
      obtain ⟨e1, e2, e3, e4⟩ := hold x (hbeq x hx)
      exact ⟨by rw [hm.1, e1, e3], hm.2⟩
  | win x i j =>
    simp only [MV.kill]
    cases hx : Nat.beq x k with
    | true => exact VR.any
    | false =>
      obtain ⟨e1, e2, e3, e4⟩ := hold x (hbeq x hx)
      exact ⟨by rw [hm.1, e1, e2, e3], hm.2⟩
  | undef => exact hm
  | tup xs => exact VR.any

/-- A row moves, or grows in its place. -/
theorem SRL.movedG (s : SRL w0 st a w L cp sz ln) {k : Nat} {r r' : Row} (hk : look st.rows k = some r) (hk0 : k ≠ 0) {g c : Nat} (hg : g = L k ∨ w.heap.size ≤ g)
    (hos : w'.os = w.os) (htape : w'.tape = w.tape) (hout : w'.output = w.output) (hsize : w.heap.size ≤ w'.heap.size) (hblk : ∀ b, b < w.heap.size → b ≠ L k → w'.heap[b]? = w.heap[b]?)
    (hrow : ∀ L' : Nat → Nat, L' k = g → (∀ x, x ≠ k → L' x = L x) → (∀ b, stab w0 st.rows st.x L w.heap b → stab w0 ((k, r') :: st.rows) st.x L' w'.heap b ∧ w'.heap[b]? = w.heap[b]?) → RowR w'.heap (stab w0 ((k, r') :: st.rows) st.x L' w'.heap) g c r') :
    ∃ L' cp' sz' ln', SRL w0 { st with t := killT k st.t, rows := (k, r') :: st.rows } a w' L' cp' sz' ln' ∧ L' k = g ∧ cp' k = c ∧ ln' k = r'.els.length ∧ sz' k = r'.sz := by
  obtain ⟨g1, hge, hsk, hlk⟩ := s.rows k r hk
  have hklive : liveIn st.rows k := by unfold liveIn; rw [hk]; rfl
  let L' := fun x => if x = k then g else L x
  let cp' := fun x => if x = k then c else cp x
  let sz' := fun x => if x = k then r'.sz else sz x
  let ln' := fun x => if x = k then r'.els.length else ln x
  have hlive : ∀ x, liveIn ((k, r') :: st.rows) x → liveIn st.rows x := fun x hx => by
    unfold liveIn at *; rw [look_cons] at hx
    by_cases h : k = x
    · subst h; rw [hk]; rfl
    · rw [if_neg h] at hx; exact hx
  have hgne : ∀ b, stab w0 st.rows st.x L w.heap b → g ≠ b := fun b hb e => by
    rcases hg with h | h
    · exact hb.2.2 k hklive (h.symm.trans e)
    · have := hb.1; omega
  have hb : ∀ b, stab w0 st.rows st.x L w.heap b → stab w0 ((k, r') :: st.rows) st.x L' w'.heap b ∧ w'.heap[b]? = w.heap[b]? := fun b hb => by
    refine ⟨⟨Nat.lt_of_lt_of_le hb.1 hsize, hb.2.1, fun x hx => ?_⟩, hblk b hb.1 (fun e => hb.2.2 k hklive e.symm)⟩
    by_cases h : x = k
    · simp only [L', h, if_true]; exact hgne b hb
    · simp only [L', h, if_false]; exact hb.2.2 x (hlive x hx)
  have hold : ∀ x, x ≠ k → L' x = L x ∧ cp' x = cp x ∧ sz' x = sz x ∧ ln' x = ln x := fun x hx => by simp [L', cp', sz', ln', hx]
  have hgk : ∀ x, liveIn st.rows x → x ≠ k → L x ≠ g := fun x hx hne e => by
    rcases hg with h | h
    · exact hne (s.inj x k hx hklive (e.trans h))
    · have := s.live_lt hx; omega
  refine ⟨L', cp', sz', ln', ⟨s.defers, s.size, fun t => ?_, fun x rx hx => ?_, fun x y hx hy he => ?_, fun x hx => s.keys x (hlive x hx), ?_, s.pos, fun b c h => ?_, fun b o hx => ?_⟩, by simp [L'], by simp [cp'], by simp [ln'], by simp [sz']⟩
  · have := get_kill st k t ((k, r') :: st.rows) st.nk
    rw [this]
    exact MR.kill (s.tmps t) hb hold
  · rw [look_cons] at hx
    by_cases h : k = x
    · subst h
      rw [if_pos rfl] at hx; cases hx
      simp only [L', cp', sz', ln', if_true]
      refine ⟨hrow L' (by simp [L']) (fun x hx => by simp [L', hx]) hb, ?_, trivial, trivial⟩
      rcases hg with e | e
      · rw [e]; exact hge
      · exact .inl (Nat.le_trans s.below.size e)
    · rw [if_neg h] at hx
      obtain ⟨q1, q2, q3, q4⟩ := s.rows x rx hx
      obtain ⟨e1, e2, e3, e4⟩ := hold x (Ne.symm h)
      rw [e1, e2, e3, e4]
      refine ⟨q1.mono hb (hblk _ q1.lt ?_), q2, q3, q4⟩
      exact fun e => h (s.inj k x hklive (by simp [St.live, liveIn, hx]) e.symm)
  · by_cases hxk : x = k <;> by_cases hyk : y = k
    · rw [hxk, hyk]
    · simp only [L', hxk, hyk, if_true, if_false] at he
      exact (hgk y (hlive y hy) hyk he.symm).elim
    · simp only [L', hxk, hyk, if_true, if_false] at he
      exact (hgk x (hlive x hx) hxk he).elim
    · simp only [L', hxk, hyk, if_false] at he
      exact s.inj x y (hlive x hx) (hlive y hy) he
  · exact s.below.step hos htape hout hsize (fun b hb' hM => hblk b (Nat.lt_of_lt_of_le hb' s.below.size) (own_ne hge hb' hM))
  · obtain ⟨h1, h2⟩ := s.pin b c h
    obtain ⟨e1, e2, _⟩ := hold 0 (Ne.symm hk0)
    exact ⟨e1.trans h1, e2.trans h2⟩
  · obtain ⟨f1, f2, f3⟩ := s.frag b o hx
    have hlt := lt_of_get f1
    refine ⟨(hblk b hlt (fun e => f3 k hklive e.symm)).trans f1, f2, fun x hxl => ?_⟩
    by_cases h : x = k
    · subst h
      simp only [L', if_true]
      rcases hg with e | e
      · rw [e]; exact f3 x hklive
      · omega
    · simp only [L', h, if_false]; exact f3 x (hlive x hxl)
theorem SRL.moved (s : SRL w0 st a w L cp sz ln) {k : Nat} {r r' : Row} (hk : look st.rows k = some r) (hk0 : k ≠ 0) {g c : Nat} (hg : g = L k ∨ w.heap.size ≤ g)
    (hos : w'.os = w.os) (htape : w'.tape = w.tape) (hout : w'.output = w.output) (hsize : w.heap.size ≤ w'.heap.size) (hblk : ∀ b, b < w.heap.size → b ≠ L k → w'.heap[b]? = w.heap[b]?)
    (hrow : ∀ S, (∀ b, stab w0 st.rows st.x L w.heap b → S b ∧ w'.heap[b]? = w.heap[b]?) → RowR w'.heap S g c r') :
    ∃ L' cp' sz' ln', SRL w0 { st with t := killT k st.t, rows := (k, r') :: st.rows } a w' L' cp' sz' ln' ∧ L' k = g ∧ cp' k = c ∧ ln' k = r'.els.length ∧ sz' k = r'.sz :=
  s.movedG hk hk0 hg hos htape hout hsize hblk (fun L' _ _ hb => hrow _ hb)

/-- A row is written by another, in its place; its shape stays. -/
theorem SRL.rewritten (s : SRL w0 st a w L cp sz ln) {k : Nat} {r r' : Row} (hk : look st.rows k = some r) (hrz : r'.sz = r.sz) (hrl : r'.els.length = r.els.length)
    (hos : w'.os = w.os) (htape : w'.tape = w.tape) (hout : w'.output = w.output) (hsize : w.heap.size ≤ w'.heap.size) (hblk : ∀ b, b < w.heap.size → b ≠ L k → w'.heap[b]? = w.heap[b]?)
    (hrow : RowR w'.heap (stab w0 ((k, r') :: st.rows) st.x L w'.heap) (L k) (cp k) r') : SRL w0 { st with rows := (k, r') :: st.rows } a w' L cp sz ln := by
  obtain ⟨g1, hge, hsk, hlk⟩ := s.rows k r hk
  have hklive : liveIn st.rows k := by unfold liveIn; rw [hk]; rfl
  have hlive : ∀ x, liveIn ((k, r') :: st.rows) x ↔ liveIn st.rows x := fun x => by
    unfold liveIn; rw [look_cons]
    by_cases h : k = x
    · subst h; rw [if_pos rfl, hk]; simp
    · rw [if_neg h]
  have hb : ∀ b, stab w0 st.rows st.x L w.heap b → stab w0 ((k, r') :: st.rows) st.x L w'.heap b ∧ w'.heap[b]? = w.heap[b]? := fun b hb =>
    ⟨⟨Nat.lt_of_lt_of_le hb.1 hsize, hb.2.1, fun x hx => hb.2.2 x ((hlive x).1 hx)⟩, hblk b hb.1 (fun e => hb.2.2 k hklive e.symm)⟩
  refine ⟨s.defers, s.size, fun t => (s.tmps t).mono hb, fun x rx hx => ?_, fun x y hx hy => s.inj x y ((hlive x).1 hx) ((hlive y).1 hy), fun x hx => s.keys x ((hlive x).1 hx), ?_, s.pos, s.pin, fun b o hx => ⟨(hblk b (lt_of_get (s.frag b o hx).1) (fun e => (s.frag b o hx).2.2 k hklive e.symm)).trans (s.frag b o hx).1, (s.frag b o hx).2.1, fun x hxl => (s.frag b o hx).2.2 x ((hlive x).1 hxl)⟩⟩
  · rw [look_cons] at hx
    by_cases h : k = x
    · subst h
      rw [if_pos rfl] at hx; cases hx
      exact ⟨hrow, hge, by rw [hsk, hrz], by rw [hlk, hrl]⟩
    · rw [if_neg h] at hx
      obtain ⟨q1, q2, q3, q4⟩ := s.rows x rx hx
      refine ⟨q1.mono hb (hblk _ q1.lt ?_), q2, q3, q4⟩
      exact fun e => h (s.inj k x hklive (by simp [St.live, liveIn, hx]) e.symm)
  · exact s.below.step hos htape hout hsize (fun b hb' hM => hblk b (Nat.lt_of_lt_of_le hb' s.below.size) (own_ne hge hb' hM))
end

end Go.Lo
namespace Go.Lo
open Go.RowKit

section
variable {P : Program} {ops : Array Oper} {rest : List Oper} {T : St → Prop} {st : St} {d : Nat} {ty : TypeId} {pos : String} {aft : Array Edge}

/-- An operation that lays one new row and hands back a place in it. -/
theorem W.new_core {op : Op} {r : Row} {m : MV} {mk : Nat → Nat → Value} (hd : Nat.blt d st.n = true)
    (h : ∀ w0 a w L cp sz ln, SRL w0 st a w L cp sz ln → ∃ (C : Array Value) (c : Nat), C.size = c * r.sz ∧ r.els.length ≤ c ∧ c ≤ maxLen ∧ (∀ e ∈ r.els, e.length = r.sz) ∧
      (∀ (i : Nat) e (j : Nat) m, r.els[i]? = some e → e[j]? = some m → ∃ u, C[i * r.sz + j]? = some u ∧ u.oneCell' = true ∧ VR w.heap (stab w0 st.rows st.x L w.heap) m u) ∧
      ∀ (o : Oper), o.op = op → o.type = ty → (execOp a.eval o).run P w = .ok (.value (mk w.heap.size c)) (w.alloc (.cells C r.ty)))
    (hm : ∀ h S L cp sz ln, ln st.nk = r.els.length → sz st.nk = r.sz → MR (st.nk + 1) h S L cp sz ln m (mk (L st.nk) (cp st.nk)))
    (k : W false P ops rest T ((st.addRow r).put d m)) : W false P ops (⟨some d, op, ty, pos, aft, none⟩ :: rest) T st := by
  have hd' : d < st.n := by simpa [Nat.blt_eq] using hd
  intro w0 a w Qr hs hT
  obtain ⟨L, cp, sz, ln, s⟩ := hs
  obtain ⟨C, c, h1, h2, h3, h4, h5, h6⟩ := h w0 a w L cp sz ln s
  obtain ⟨L', cp', sz', ln', s', e1, e2, e3, e4⟩ := s.alloc h1 h2 h3 h4 h5
  simp only [wpList, wanted_none, if_true]
  refine .inl ?_
  unfold Oper.wp
  rw [h6 _ rfl rfl]
  simp only [Oper.upon]
  refine k w0 _ _ Qr ⟨L', cp', sz', ln', s'.put (show d < (st.addRow r).n from hd') ?_⟩ hT
  have := hm (w.alloc (.cells C r.ty)).heap (stab w0 (st.addRow r).rows st.x L' (w.alloc (.cells C r.ty)).heap) L' cp' sz' ln' e4 e3
  rw [e1, e2] at this
  exact this

theorem maxLen_one : (1 : Nat) ≤ maxLen := by unfold maxLen; omega

theorem one_row {z : Nat} {cs : List PV} {us : Array Value} {h : Array Obj} {S : Nat → Prop} (hl : cs.length = us.size) (hz : cs.length = z) (hv : ∀ (i : Nat) c u, cs[i]? = some c → us[i]? = some u → VR h S c u) (hf : cs.all PV.flat = true) :
    (∀ e ∈ [cs], e.length = z) ∧ ∀ (i : Nat) e (j : Nat) m, [cs][i]? = some e → e[j]? = some m → ∃ u, us[i * z + j]? = some u ∧ u.oneCell' = true ∧ VR h S m u := by
  refine ⟨fun e he => by simp at he; subst he; exact hz, fun i e j m he hm => ?_⟩
  match i, he with
  | 0, he =>
    simp at he; subst he
    have hj : j < us.size := by rw [← hl]; exact (List.getElem?_eq_some_iff.1 hm).1
    have hvj := hv j m us[j] hm (by simp [hj])
    exact ⟨us[j], by simp [hj], hvj.one (List.all_eq_true.1 hf m (List.mem_of_getElem? hm)), hvj⟩

theorem W.box_agg {x : Operand} {t : Nat} {cs : List PV} (hx : st.ev x = .p (.agg cs)) (hf : cs.all PV.flat = true) (hd : Nat.blt d st.n = true)
    (k : W false P ops rest T ((st.addRow ⟨t, cs.length, [cs]⟩).put d (.loc st.nk 0 0))) : W false P ops (⟨some d, .box t x, ty, pos, aft, none⟩ :: rest) T st := by
  refine W.new_core (r := ⟨t, cs.length, [cs]⟩) (m := .loc st.nk 0 0) (mk := fun b _ => .pointer (some ⟨b, 0, none⟩)) hd (fun w0 a w L cp sz ln s => ?_) (fun h S L cp sz ln _ _ => ⟨by simp, by omega⟩) k
  have hv := s.ev_p hx
  generalize hval : a.eval x = v at *
  cases hv with
  | @agg _ us hl hv =>
    obtain ⟨h1, h2⟩ := one_row hl rfl hv hf
    refine ⟨us, 1, by simp [← hl], Nat.le_refl _, maxLen_one, h1, h2, fun o ho hty => ?_⟩
    simp [execOp, ho, hval, Instr.box, newVar, newRow, newObj, Sem.run, Value.cells]

theorem W.box_one {x : Operand} {t : Nat} {m : PV} (hx : st.ev x = .p m) (hf : m.flat = true) (hd : Nat.blt d st.n = true)
    (k : W false P ops rest T ((st.addRow ⟨t, 1, [[m]]⟩).put d (.loc st.nk 0 0))) : W false P ops (⟨some d, .box t x, ty, pos, aft, none⟩ :: rest) T st := by
  refine W.new_core (r := ⟨t, 1, [[m]]⟩) (m := .loc st.nk 0 0) (mk := fun b _ => .pointer (some ⟨b, 0, none⟩)) hd (fun w0 a w L cp sz ln s => ?_) (fun h S L cp sz ln _ _ => ⟨by simp, by omega⟩) k
  have hv := s.ev_p hx
  have hone := hv.one hf
  obtain ⟨h1, h2⟩ := one_row (z := 1) (cs := [m]) (us := #[a.eval x]) (h := w.heap) (S := stab w0 st.rows st.x L w.heap) rfl rfl (fun i c u hc hu => by
    match i, hc, hu with
    | 0, hc, hu => simp at hc hu; subst hc; subst hu; exact hv) (by simp [hf])
  refine ⟨#[a.eval x], 1, rfl, Nat.le_refl _, maxLen_one, h1, h2, fun o ho hty => ?_⟩
  have hcells : (a.eval x).cells = #[a.eval x] := by
    generalize a.eval x = v at *
    cases v <;> first | rfl | cases hone
  simp [execOp, ho, Instr.box, newVar, newRow, newObj, Sem.run, hcells]

theorem cellsPV_vr {h : Array Obj} {S : Nat → Prop} : ∀ (vs : List Value) (cs : List PV), cellsPV vs = some cs → cs.length = vs.length ∧ (∀ (i : Nat) c u, cs[i]? = some c → vs[i]? = some u → VR h S c u) ∧ cs.all PV.flat = true
  | [], cs, hc => by cases hc; exact ⟨rfl, (fun i c u hc => by cases hc), rfl⟩
  | v :: vs, cs, hc => by
    simp only [cellsPV] at hc
    split at hc
    · rename_i x xs hx hxs
      cases hc
      obtain ⟨h1, h2, h3⟩ := cellsPV_vr vs xs hxs
      have hv : VR h S x v ∧ x.flat = true := by
        unfold cellPV at hx
        split at hx <;> cases hx
        · exact ⟨.int, rfl⟩
        · exact ⟨.bool, rfl⟩
        · exact ⟨.str, rfl⟩
        · exact ⟨.nil, rfl⟩
      refine ⟨by simp [h1], fun i c u hc hu => ?_, by simp [hv.2, h3]⟩
      cases i with
      | zero => simp at hc hu; subst hc; subst hu; exact hv.1
      | succ i => exact h2 i c u (by simpa using hc) (by simpa using hu)
    · cases hc

/-- The zero of a type. -/
theorem Tab.zero (tt : Tab P) {t : Nat} {i : TyI} (h : tt.l.get t = some i) (hl : Nat.beq i.zero.length i.sz = true) (hz : Nat.beq i.sz 0 = false) :
    ∃ inf v, P.info? t = some inf ∧ inf.size = i.sz ∧ inf.bytes = i.bytes ∧ inf.zero = some v ∧ cellsPV v.cells.toList = some i.zero ∧ v.cells.size = i.sz := by
  obtain ⟨inf, h1, h2, h3, h4⟩ := tt.info h
  have hlen := Nat.eq_of_beq_eq_true hl
  have hne : i.sz ≠ 0 := fun e => by rw [e] at hz; cases hz
  cases hzero : inf.zero with
  | none => rw [hzero] at h4; simp at h4; rw [h4] at hlen; simp at hlen; omega
  | some v =>
    rw [hzero] at h4
    simp only [Option.bind_some] at h4
    cases hcs : cellsPV v.cells.toList with
    | none => rw [hcs] at h4; simp at h4; rw [h4] at hlen; simp at hlen; omega
    | some cs =>
      rw [hcs] at h4
      simp only [Option.getD_some] at h4
      have := (cellsPV_vr (h := #[]) (S := fun _ => True) _ _ hcs).1
      exact ⟨inf, v, h1, h2, h3, hzero, by rw [h4]; exact hcs, by rw [← h4] at this; simp at this; omega⟩

theorem W.alloc {t : Nat} {i : TyI} (tt : Tab P) (h : tt.l.get t = some i) (hl : Nat.beq i.zero.length i.sz = true) (hz : Nat.beq i.sz 0 = false) (hd : Nat.blt d st.n = true)
    (k : W false P ops rest T ((st.addRow ⟨t, i.sz, [i.zero]⟩).put d (.loc st.nk 0 0))) : W false P ops (⟨some d, .alloc t, ty, pos, aft, none⟩ :: rest) T st := by
  refine W.new_core (r := ⟨t, i.sz, [i.zero]⟩) (m := .loc st.nk 0 0) (mk := fun b _ => .pointer (some ⟨b, 0, none⟩)) hd (fun w0 a w L cp sz ln s => ?_) (fun h S L cp sz ln _ _ => ⟨by simp, by omega⟩) k
  obtain ⟨inf, v, h1, h2, h3, h4, h5, h6⟩ := tt.zero h hl hz
  obtain ⟨g1, g2, g3⟩ := cellsPV_vr (h := w.heap) (S := stab w0 st.rows st.x L w.heap) _ _ h5
  obtain ⟨q1, q2⟩ := one_row (z := i.sz) (cs := i.zero) (us := v.cells) (by simpa using g1) (by rw [g1]; simp [h6]) (fun j c u hc hu => g2 j c u hc (by simpa using hu)) g3
  refine ⟨v.cells, 1, by simp [h6], Nat.le_refl _, maxLen_one, q1, q2, fun o ho hty => ?_⟩
  simp [execOp, ho, Instr.alloc, zeroValue, typeInfo, program, Sem.run, h1, h4, newVar, newRow, newObj]

/-! ### Stores -/
theorem store_core {k ei j t : Nat} {x y : Operand} {r : Row} {e e' : List PV} {us : List Value} (hd0 : True)
    (hr : look st.rows k = some r) (he : r.els[ei]? = some e) (hl' : e'.length = e.length) (hfit : j + us.length ≤ e.length)
    (hother : ∀ (n : Nat), (n < j ∨ j + us.length ≤ n) → e'[n]? = e[n]?)
    (h : ∀ w0 a w L cp sz ln, SRL w0 st a w L cp sz ln → ∃ us' : List Value, us'.length = us.length ∧ (∀ u ∈ us', u.oneCell' = true) ∧
      (∀ (n : Nat) m u, n < us.length → e'[j + n]? = some m → us'[n]? = some u → VR w.heap (stab w0 st.rows st.x L w.heap) m u) ∧
      ∀ (o : Oper), o.op = .store t x y → (execOp a.eval o).run P w = ((storeCells ⟨L k, ei * sz k + j, none⟩ us').run P w).andThen fun _ w' => .ok .skip w')
    (kk : W false P ops rest T { st with rows := (k, ⟨r.ty, r.sz, r.els.set ei e'⟩) :: st.rows }) : W false P ops (⟨none, .store t x y, ty, pos, aft, none⟩ :: rest) T st := by
  intro w0 a w Qr hs hT
  obtain ⟨L, cp, sz, ln, s⟩ := hs
  obtain ⟨us', hlen, hone, hV, hrun⟩ := h w0 a w L cp sz ln s
  obtain ⟨⟨C, h1, h2, h3, h4, h5, h6⟩, hge, hsk, hlk⟩ := s.rows k r hr
  have hei : ei < r.els.length := (List.getElem?_eq_some_iff.1 he).1
  have hesz : e.length = r.sz := h5 e (List.mem_of_getElem? he)
  have hfitC : ei * r.sz + j + us'.length ≤ C.size := by
    rw [h2, hlen]
    have : (ei + 1) * r.sz ≤ cp k * r.sz := Nat.mul_le_mul_right _ (by omega)
    rw [Nat.add_mul] at this
    omega
  have hst := run_storeCells_at P (L k) (ei * sz k + j) r.ty us' 0 C w h1 (by rw [hsk]; simpa using hfitC) hone
  simp only [Nat.add_zero] at hst
  simp only [wpList, wanted_none, if_true]
  refine .inl ?_
  unfold Oper.wp
  rw [hrun _ rfl, hst]
  simp only [Result.andThen_ok, Oper.upon]
  refine kk w0 _ _ Qr ⟨L, cp, sz, ln, ?_⟩ hT
  refine s.stored (r' := ⟨r.ty, r.sz, r.els.set ei e'⟩) hr rfl rfl (by simp) (C' := (C.toList.take (ei * sz k + j) ++ us' ++ C.toList.drop (ei * sz k + j + us'.length)).toArray) ?_ ?_ ?_
  · simp [hsk] at hfitC ⊢; omega
  · intro e2 he2
    rcases List.mem_or_eq_of_mem_set he2 with h | h
    · exact h5 e2 h
    · rw [h, hl', hesz]
  · intro i e2 n m he2 hm
    rw [hsk]
    have hnl : n < r.sz := by
      have := (List.getElem?_eq_some_iff.1 hm).1
      rw [List.getElem?_set] at he2
      split at he2
      · cases he2; omega
      · have := h5 e2 (List.mem_of_getElem? he2); omega
    -- a cell of the row that is not written
    have keep : ∀ (x : Nat), x < C.size → (x < ei * r.sz + j ∨ ei * r.sz + j + us'.length ≤ x) →
        ((C.toList.take (ei * r.sz + j) ++ us' ++ C.toList.drop (ei * r.sz + j + us'.length)).toArray)[x]? = C[x]? := by
      intro x hx hcase
      have htl : (C.toList.take (ei * r.sz + j)).length = ei * r.sz + j := by simp; omega
      rw [List.getElem?_toArray]
      rcases hcase with hc | hc
      · rw [List.append_assoc, List.getElem?_append_left (by rw [htl]; exact hc), List.getElem?_take, if_pos hc]; simp
      · rw [List.getElem?_append_right (by simp; omega)]
        rw [List.getElem?_drop]
        simp only [List.length_append, htl]
        rw [show ei * r.sz + j + us'.length + (x - (ei * r.sz + j + us'.length)) = x by omega]
        simp
    by_cases hi : i = ei
    · subst hi
      rw [List.getElem?_set_self hei] at he2
      cases he2
      by_cases hin : n < j ∨ j + us.length ≤ n
      · rw [hother n hin] at hm
        obtain ⟨u, hu, h1', hv⟩ := h6 i e n m he hm
        have hxlt : i * r.sz + n < C.size := by
          rcases Nat.lt_or_ge (i * r.sz + n) C.size with h' | h'
          · exact h'
          · rw [Array.getElem?_eq_none h'] at hu; cases hu
        refine ⟨u, ?_, h1', hv⟩
        rw [keep _ hxlt (by omega)]; exact hu
      · have hn1 : j ≤ n := by omega
        have hn2 : n - j < us.length := by omega
        have hlt : n - j < us'.length := by omega
        refine ⟨us'[n - j], ?_, hone _ (List.getElem_mem hlt), hV (n - j) m _ hn2 (by rw [show j + (n - j) = n by omega]; exact hm) (by simp [hlt])⟩
        have htl : (C.toList.take (i * r.sz + j)).length = i * r.sz + j := by simp; omega
        rw [List.getElem?_toArray, List.append_assoc, List.getElem?_append_right (by rw [htl]; omega), htl, List.getElem?_append_left (by omega)]
        rw [show i * r.sz + n - (i * r.sz + j) = n - j by omega]
        simp [hlt]
    · rw [List.getElem?_set_ne (Ne.symm hi)] at he2
      obtain ⟨u, hu, h1', hv⟩ := h6 i e2 n m he2 hm
      have hxlt : i * r.sz + n < C.size := by
        rcases Nat.lt_or_ge (i * r.sz + n) C.size with h' | h'
        · exact h'
        · rw [Array.getElem?_eq_none h'] at hu; cases hu
      refine ⟨u, ?_, h1', hv⟩
      rw [keep _ hxlt ?_]; exact hu
      rcases Nat.lt_or_ge i ei with h' | h'
      · left
        have : (i + 1) * r.sz ≤ ei * r.sz := Nat.mul_le_mul_right _ h'
        rw [Nat.add_mul] at this; omega
      · right
        have : (ei + 1) * r.sz ≤ i * r.sz := Nat.mul_le_mul_right _ (by omega)
        rw [Nat.add_mul] at this; omega

theorem storeAt_run {t : Nat} {i : TyI} (tt : Tab P) (h : tt.l.get t = some i) {b o : Nat} {v : Value} (hv : v.cells.size = i.sz) (w : World) :
    (Instr.storeAt t (.pointer (some ⟨b, o, none⟩)) v).run P w = (storeCells ⟨b, o, none⟩ v.cells.toList).run P w := by
  obtain ⟨inf, h1, h2, _⟩ := tt.info h
  have hne : ¬ (v.cells.size ≠ inf.size) := by rw [h2]; simp [hv]
  simp [Instr.storeAt, Instr.sureAddr, storeVar, run_sizeOf h1, h2, hv]

/-- One cell is written. -/
theorem W.store1 {x y : Operand} {t k ei j : Nat} {ti : TyI} {r : Row} {e : List PV} {m : PV} (tt : Tab P) (h : tt.l.get t = some ti) (hsz : ti.sz = 1) (hx : st.ev x = .loc k ei j) (hy : st.ev y = .p m) (hf : m.flat = true)
    (hr : look st.rows k = some r) (he : r.els[ei]? = some e) (hj : Nat.blt j e.length = true)
    (kk : W false P ops rest T { st with rows := (k, ⟨r.ty, r.sz, r.els.set ei (e.set j m)⟩) :: st.rows }) : W false P ops (⟨none, .store t x y, ty, pos, aft, none⟩ :: rest) T st := by
  have hj' : j < e.length := by simpa [Nat.blt_eq] using hj
  refine store_core (us := [Go.undef]) (j := j) (e' := e.set j m) trivial hr he (by simp) (by simp; omega) (fun n hn => ?_) (fun w0 a w L cp sz ln s => ?_) kk
  · simp at hn
    rw [List.getElem?_set_ne (by omega)]
  · have hv := s.ev_p hy
    have hone := hv.one hf
    refine ⟨[a.eval y], rfl, fun u hu => by simp at hu; subst hu; exact hone, fun n m' u hn hm hu => ?_, fun o ho => ?_⟩
    · have hn0 : n = 0 := by simpa using hn
      subst hn0
      have hm' : m = m' := by simpa [hj'] using hm
      have hu' : a.eval y = u := by simpa using hu
      subst hm'; subst hu'; exact hv
    · have hcells : (a.eval y).cells = #[a.eval y] := by
        generalize a.eval y = v at *
        cases v <;> first | rfl | cases hone
      have hrun := storeAt_run (P := P) tt h (b := L k) (o := ei * sz k + j) (v := a.eval y) (by rw [hcells, hsz]; rfl) w
      rw [hcells] at hrun
      simp [execOp, ho, (s.ev_loc hx).1, hrun]

/-- A whole element is written. -/
theorem W.storeE {x y : Operand} {t k ei : Nat} {ti : TyI} {r : Row} {e cs : List PV} (tt : Tab P) (h : tt.l.get t = some ti) (hx : st.ev x = .loc k ei 0) (hy : st.ev y = .p (.agg cs)) (hf : cs.all PV.flat = true)
    (hr : look st.rows k = some r) (he : r.els[ei]? = some e) (hl : cs.length = e.length) (hl2 : cs.length = ti.sz)
    (kk : W false P ops rest T { st with rows := (k, ⟨r.ty, r.sz, r.els.set ei cs⟩) :: st.rows }) : W false P ops (⟨none, .store t x y, ty, pos, aft, none⟩ :: rest) T st := by
  refine store_core (us := List.replicate cs.length Go.undef) (j := 0) (e' := cs) trivial hr he hl (by simp [hl]) (fun n hn => ?_) (fun w0 a w L cp sz ln s => ?_) kk
  · simp at hn
    rw [List.getElem?_eq_none (by omega), List.getElem?_eq_none (by omega)]
  · have hv := s.ev_p hy
    generalize hval : a.eval y = v at *
    cases hv with
    | @agg _ us hlu hvu =>
      refine ⟨us.toList, by simp [hlu], fun u hu => ?_, fun n m u hn hm hu => ?_, fun o ho => ?_⟩
      · obtain ⟨n, hn, rfl⟩ := List.mem_iff_getElem.1 hu
        have hn' : n < cs.length := by rw [hlu]; simpa using hn
        have hn2 : n < us.size := by simpa using hn
        have := hvu n cs[n] us[n] (by simp [hn']) (by simp [hn2])
        simpa using this.one (List.all_eq_true.1 hf _ (List.getElem_mem hn'))
      · exact hvu n m u (by simpa using hm) (by simpa using hu)
      · have hrun := storeAt_run (P := P) tt h (b := L k) (o := ei * sz k + 0) (v := .agg us) (by simp [Value.cells, ← hlu, hl2]) w
        simp only [Value.cells] at hrun
        simp [execOp, ho, (s.ev_loc hx).1, hval] at hrun ⊢
        rw [hrun]

/-- A part of an element is written. -/
def spl (e : List PV) (j : Nat) (cs : List PV) : List PV := e.take j ++ cs ++ e.drop (j + cs.length)
theorem W.storeP {x y : Operand} {t k ei j : Nat} {ti : TyI} {r : Row} {e cs : List PV} (tt : Tab P) (h : tt.l.get t = some ti) (hx : st.ev x = .loc k ei j) (hy : st.ev y = .p (.agg cs)) (hf : cs.all PV.flat = true)
    (hr : look st.rows k = some r) (he : r.els[ei]? = some e) (hl : Nat.ble (j + cs.length) e.length = true) (hl2 : cs.length = ti.sz)
    (kk : W false P ops rest T { st with rows := (k, ⟨r.ty, r.sz, r.els.set ei (spl e j cs)⟩) :: st.rows }) : W false P ops (⟨none, .store t x y, ty, pos, aft, none⟩ :: rest) T st := by
  have hl' : j + cs.length ≤ e.length := Nat.le_of_ble_eq_true hl
  have htl : (e.take j).length = j := by simp; omega
  refine store_core (us := List.replicate cs.length Go.undef) (e' := spl e j cs) trivial hr he (by simp [spl]; omega) (by simpa using hl') (fun n hn => ?_) (fun w0 a w L cp sz ln s => ?_) kk
  · simp only [List.length_replicate] at hn
    unfold spl
    rcases hn with hn | hn
    · rw [List.append_assoc, List.getElem?_append_left (by omega), List.getElem?_take, if_pos hn]
    · rw [List.getElem?_append_right (by simp; omega), List.getElem?_drop]
      simp only [List.length_append, htl]
      rw [show j + cs.length + (n - (j + cs.length)) = n by omega]
  · have hv := s.ev_p hy
    generalize hval : a.eval y = v at *
    cases hv with
    | @agg _ us hlu hvu =>
      refine ⟨us.toList, by simp [hlu], fun u hu => ?_, fun n m u hn hm hu => ?_, fun o ho => ?_⟩
      · obtain ⟨n, hn, rfl⟩ := List.mem_iff_getElem.1 hu
        have hn' : n < cs.length := by rw [hlu]; simpa using hn
        have hn2 : n < us.size := by simpa using hn
        have := hvu n cs[n] us[n] (by simp [hn']) (by simp [hn2])
        simpa using this.one (List.all_eq_true.1 hf _ (List.getElem_mem hn'))
      · simp only [List.length_replicate] at hn
        unfold spl at hm
        rw [List.append_assoc, List.getElem?_append_right (by omega), htl, List.getElem?_append_left (by omega)] at hm
        exact hvu n m u (by rw [show j + n - j = n by omega] at hm; exact hm) (by simpa using hu)
      · have hrun := storeAt_run (P := P) tt h (b := L k) (o := ei * sz k + j) (v := .agg us) (by simp [Value.cells, ← hlu, hl2]) w
        simp only [Value.cells] at hrun
        simp [execOp, ho, (s.ev_loc hx).1, hval, hrun]
end

end Go.Lo
namespace Go.Lo
open Go.RowKit

section
variable {P : Program} {ops : Array Oper} {rest : List Oper} {T : St → Prop} {st : St} {d : Nat} {ty : TypeId} {pos : String} {aft : Array Edge}

/-! ### make([]T, n) -/
theorem made_get (z : Array Value) (n k j : Nat) (hz : z.size = k) (hk : 0 < k) (i : Nat) (hi : i < n) (hj : j < k) : (madeCells z (n * k))[i * k + j]? = z[j]? := by
  have hlt : i * k + j < n * k := by
    have : (i + 1) * k ≤ n * k := Nat.mul_le_mul_right _ hi
    rw [Nat.add_mul] at this; omega
  have hm : (i * k + j) % k = j := by
    rw [Nat.mul_comm i k, Nat.mul_add_mod]; exact Nat.mod_eq_of_lt hj
  have hj' : j < z.size := by rw [hz]; exact hj
  unfold madeCells
  simp [hlt, hz, hm]
  rw [getElem!_pos z j hj']; simp [hj']

theorem W.make {x y : Operand} {t e z : Nat} {ti ei : TyI} {kx ky : IntKind} {n : Int} (tt : Tab P) (h : tt.l.get t = some ti) (hel : ti.el = some (e, z)) (ha : ti.agg = false) (he : tt.l.get e = some ei) (hl : Nat.beq ei.zero.length ei.sz = true) (hz : Nat.beq ei.sz 0 = false)
    (hx : st.ev x = .p (.int kx n)) (hy : st.ev y = .p (.int ky n)) (hd : Nat.blt d st.n = true) (hby : Nat.ble ei.bytes 65536 = true) (h0 : 0 ≤ n) (hb : n ≤ 4294967296)
    (k : W false P ops rest T ((st.addRow ⟨e, ei.sz, List.replicate n.toNat ei.zero⟩).put d (.own st.nk))) : W false P ops (⟨some d, .makeSlice t x y, ty, pos, aft, none⟩ :: rest) T st := by
  obtain ⟨hu, hse⟩ := tt.slice h hel ha
  obtain ⟨inf, v, i1, i2, i3, i4, i5, i6⟩ := tt.zero he hl hz
  have hne : ei.sz ≠ 0 := fun e => by rw [e] at hz; cases hz
  have hlen := Nat.eq_of_beq_eq_true hl
  have hbb : (ei.bytes : Int) ≤ 65536 := by have := Nat.le_of_ble_eq_true hby; omega
  have hprod : (ei.bytes : Int) * n ≤ 281474976710656 := by
    have h1 : (ei.bytes : Int) * n ≤ 65536 * n := Int.mul_le_mul_of_nonneg_right hbb h0
    omega
  refine W.new_core (r := ⟨e, ei.sz, List.replicate n.toNat ei.zero⟩) (m := .own st.nk) (mk := fun b c => .slice (some ⟨b, 0, none⟩) n.toNat c) hd (fun w0 a w L cp sz ln s => ?_) (fun h S L cp sz ln e1 _ => ⟨by rw [e1]; simp, by omega⟩) k
  obtain ⟨g1, g2, g3⟩ := cellsPV_vr (h := w.heap) (S := stab w0 st.rows st.x L w.heap) _ _ i5
  refine ⟨madeCells v.cells (n.toNat * ei.sz), n.toNat, by simp [madeCells], by simp, by unfold maxLen; omega, fun e' he' => ?_, fun i e' j m he' hm => ?_, fun o ho hty => ?_⟩
  · have := List.eq_of_mem_replicate he'; rw [this]; exact hlen
  · have hi : i < n.toNat := by
      have := (List.getElem?_eq_some_iff.1 he').1; simpa using this
    have : e' = ei.zero := by
      have := List.mem_of_getElem? he'; exact List.eq_of_mem_replicate this
    subst this
    have hj : j < ei.sz := by have := (List.getElem?_eq_some_iff.1 hm).1; omega
    have hju : j < v.cells.size := by rw [i6]; exact hj
    have hvr := g2 j m v.cells[j] hm (by simp [hju])
    refine ⟨v.cells[j], ?_, hvr.one (List.all_eq_true.1 g3 m (List.mem_of_getElem? hm)), hvr⟩
    show (madeCells v.cells (n.toNat * ei.sz))[i * ei.sz + j]? = _
    rw [made_get _ _ _ _ i6 (by omega) i hi hj]
    simp [hju]
  · have hr := run_make (P := P) w t e inf v hu i1 i4 kx ky n n h0 (Int.le_refl _) (by rw [i3]; exact hprod) (by omega)
    rw [i2] at hr
    simp [execOp, ho, s.ev_int hx, s.ev_int hy, hr]

/-! ### Literals -/
/-- Values and what they read as, one by one. -/
def Alike (h : Array Obj) (S : Nat → Prop) (cs : List PV) (us : List Value) : Prop := cs.length = us.length ∧ ∀ (i : Nat) c u, cs[i]? = some c → us[i]? = some u → VR h S c u

theorem foldl_set (off : Nat) : ∀ (vs : List Value) (j : Nat) (cells : Array Value), off + j + vs.length ≤ cells.size →
    ((vs.zipIdx j).foldl (fun cs (p : Value × Nat) => cs.setIfInBounds (off + p.2) p.1) cells).toList = cells.toList.take (off + j) ++ vs ++ cells.toList.drop (off + j + vs.length)
  | [], j, cells, _ => by simp
  | v :: vs, j, cells, hl => by
    simp only [List.zipIdx_cons, List.foldl_cons]
    simp only [List.length_cons] at hl
    rw [foldl_set off vs (j + 1) _ (by simp; omega)]
    have hlt : off + j < cells.size := by omega
    simp only [Array.toList_setIfInBounds]
    have e1 : (cells.toList.set (off + j) v).take (off + (j + 1)) = cells.toList.take (off + j) ++ [v] := by
      rw [show off + (j + 1) = off + j + 1 by omega, List.take_succ_eq_append_getElem (by simp; omega), List.take_set_of_le (Nat.le_refl _)]
      simp
    have e2 : (cells.toList.set (off + j) v).drop (off + (j + 1) + vs.length) = cells.toList.drop (off + j + (vs.length + 1)) := by
      rw [List.drop_set_of_lt (by omega)]
      congr 1; omega
    rw [e1, e2]; simp

theorem Alike.spl {h : Array Obj} {S : Nat → Prop} {zs cs : List PV} {us vs : List Value} (ha : Alike h S zs us) (hb : Alike h S cs vs) {off : Nat} (hfit : off + cs.length ≤ zs.length) :
    Alike h S (Lo.spl zs off cs) (us.take off ++ vs ++ us.drop (off + vs.length)) := by
  obtain ⟨l1, v1⟩ := ha
  obtain ⟨l2, v2⟩ := hb
  unfold Lo.spl
  refine ⟨by simp; omega, fun i c u hc hu => ?_⟩
  have t1 : (zs.take off).length = off := by simp; omega
  have t2 : (us.take off).length = off := by simp; omega
  rcases Nat.lt_or_ge i off with h1 | h1
  · rw [List.append_assoc, List.getElem?_append_left (by omega), List.getElem?_take, if_pos h1] at hc hu
    exact v1 i c u hc hu
  · rcases Nat.lt_or_ge i (off + cs.length) with h2 | h2
    · rw [List.append_assoc, List.getElem?_append_right (by omega), List.getElem?_append_left (by omega)] at hc hu
      rw [t1] at hc; rw [t2] at hu
      exact v2 _ c u hc hu
    · rw [List.getElem?_append_right (by simp; omega), List.getElem?_drop] at hc hu
      simp only [List.length_append, t1] at hc
      simp only [List.length_append, t2] at hu
      rw [show off + cs.length + (i - (off + cs.length)) = i by omega] at hc
      rw [show off + vs.length + (i - (off + vs.length)) = i by omega] at hu
      exact v1 i c u hc hu

def cellsOf : MV → Option (List PV)
  | .p (.agg cs) => bif cs.all PV.flat then some cs else none
  | .p m => bif m.flat then some [m] else none
  | _ => none

def fillL (place : Nat → Option (Nat × Nat)) (st : St) : List PV → List (Nat × Operand) → Option (List PV)
  | zs, [] => some zs
  | zs, (i, x) :: r => match place i, cellsOf (st.ev x) with
    | some (off, size), some cs => bif Nat.beq cs.length size && Nat.ble (off + size) zs.length then fillL place st (spl zs off cs) r else none
    | _, _ => none

theorem cellsOf_alike {w0 : Bs} {a : Act} {w : World} {L cp sz ln : Nat → Nat} (s : SRL w0 st a w L cp sz ln) {x : Operand} {cs : List PV} (h : cellsOf (st.ev x) = some cs) :
    Alike w.heap (stab w0 st.rows st.x L w.heap) cs (a.eval x).cells.toList ∧ cs.all PV.flat = true := by
  cases hx : st.ev x with
  | p m =>
    have hv := s.ev_p hx
    rw [hx] at h
    cases m with
    | agg cs' =>
      simp only [cellsOf] at h
      cases hf : cs'.all PV.flat with
      | false => rw [hf] at h; cases h
      | true =>
        rw [hf] at h; cases h
        generalize a.eval x = v at *
        cases hv with
        | agg hl hall => exact ⟨⟨by simpa [Value.cells] using hl, fun i c u hc hu => hall i c u hc (by simpa [Value.cells] using hu)⟩, hf⟩
    | any => cases h
    | raw v =>
      have hf : v.oneCell' = true := by
        cases hf : v.oneCell' with
        | true => rfl
        | false => simp [cellsOf, PV.flat, hf] at h
      simp only [cellsOf, PV.flat, hf, cond_true, Option.some.injEq] at h
      subst h
      have hone := hv.one hf
      have hcells : (a.eval x).cells.toList = [a.eval x] := by
        generalize a.eval x = v at *
        cases v <;> first | rfl | cases hone
      refine ⟨⟨by rw [hcells]; rfl, fun i c u hc hu => ?_⟩, by simp [PV.flat, hf]⟩
      rw [hcells] at hu
      match i, hc, hu with
      | 0, hc, hu => simp at hc hu; subst hc; subst hu; exact hv
    | _ =>
      simp only [cellsOf, PV.flat, cond_true, Option.some.injEq] at h
      subst h
      have hone := hv.one rfl
      have hcells : (a.eval x).cells.toList = [a.eval x] := by
        generalize a.eval x = v at *
        cases v <;> first | rfl | cases hone
      refine ⟨⟨by rw [hcells]; rfl, fun i c u hc hu => ?_⟩, rfl⟩
      rw [hcells] at hu
      match i, hc, hu with
      | 0, hc, hu => simp at hc hu; subst hc; subst hu; exact hv
  | own k => rw [hx] at h; cases h
  | loc k i j => rw [hx] at h; cases h
  | win k i j => rw [hx] at h; cases h
  | undef => rw [hx] at h; cases h
  | tup xs => rw [hx] at h; cases h

theorem fill_run {w0 : Bs} {a : Act} {w : World} {L cp sz ln : Nat → Nat} (s : SRL w0 st a w L cp sz ln) {place place' : Nat → Option (Nat × Nat)} (hp : ∀ i p, place i = some p → place' i = some p) : ∀ (parts : List (Nat × Operand)) (zs F : List PV) (cells : Array Value),
    Alike w.heap (stab w0 st.rows st.x L w.heap) zs cells.toList → zs.all PV.flat = true → fillL place st zs parts = some F →
    ∃ C, Instr.fill place' cells (parts.map fun p => (p.1, a.eval p.2)) = some C ∧ Alike w.heap (stab w0 st.rows st.x L w.heap) F C.toList ∧ F.all PV.flat = true
  | [], zs, F, cells, ha, hf, h => by cases h; exact ⟨cells, rfl, ha, hf⟩
  | (i, x) :: r, zs, F, cells, ha, hf, h => by
    simp only [fillL] at h
    split at h
    · rename_i off size cs hpl hcs
      cases hb : (Nat.beq cs.length size && Nat.ble (off + size) zs.length) with
      | false => rw [hb] at h; cases h
      | true =>
        rw [hb] at h
        simp only [Bool.and_eq_true] at hb
        have h1 := Nat.eq_of_beq_eq_true hb.1
        have h2 := Nat.le_of_ble_eq_true hb.2
        obtain ⟨hal, hfl⟩ := cellsOf_alike s hcs
        have hlen : (a.eval x).cells.size = size := by have := hal.1; simp at this; omega
        have hzl : zs.length = cells.size := by simpa using ha.1
        have hnew := foldl_set off (a.eval x).cells.toList 0 cells (by simp; omega)
        simp only [Nat.add_zero] at hnew
        have hspl := ha.spl hal (off := off) (by omega)
        have hzi : ((a.eval x).cells.zipIdx.foldl (fun cs (c, j) => cs.setIfInBounds (off + j) c) cells).toList = cells.toList.take off ++ (a.eval x).cells.toList ++ cells.toList.drop (off + (a.eval x).cells.toList.length) := by
          rw [← hnew, ← Array.foldl_toList]
          simp
        obtain ⟨C, hC, hCa, hCf⟩ := fill_run s hp r (spl zs off cs) F _ (by rw [hzi]; exact hspl) (by
          unfold spl
          simp only [List.all_append, Bool.and_eq_true, List.all_eq_true]
          exact ⟨⟨fun m hm => List.all_eq_true.1 hf m (List.mem_of_mem_take hm), fun m hm => List.all_eq_true.1 hfl m hm⟩, fun m hm => List.all_eq_true.1 hf m (List.mem_of_mem_drop hm)⟩) h
        refine ⟨C, ?_, hCa, hCf⟩
        simp only [List.map_cons, Instr.fill, hp _ _ hpl]
        have hcond : ¬ ((decide ((a.eval x).cells.size ≠ size) || decide (off + (a.eval x).cells.size > cells.size)) = true) := by
          simp [hlen]; omega
        rw [if_neg hcond]
        exact hC
    · cases h

def zeroFlat (z : List PV) (k : Nat) (n : Nat) : List PV := (List.range (n * k)).map fun x => z.getD (x % k) .any

def flatEls : List (List PV) → List PV
  | [] => []
  | e :: r => e ++ flatEls r

theorem flat_get {z : Nat} : ∀ (els : List (List PV)), (∀ e ∈ els, e.length = z) → ∀ (i : Nat) e (j : Nat) m, els[i]? = some e → e[j]? = some m → (flatEls els)[i * z + j]? = some m
  | [], _, i, e, j, m, he, _ => by cases he
  | x :: r, hz, 0, e, j, m, he, hm => by
    simp at he; subst he
    have hj := (List.getElem?_eq_some_iff.1 hm).1
    simp only [flatEls, Nat.zero_mul, Nat.zero_add]
    rw [List.getElem?_append_left hj]; exact hm
  | x :: r, hz, i + 1, e, j, m, he, hm => by
    have hx := hz x (by simp)
    simp only [flatEls]
    rw [List.getElem?_append_right (by rw [hx, Nat.add_mul]; omega), hx, show (i + 1) * z + j - z = i * z + j by rw [Nat.add_mul]; omega]
    exact flat_get r (fun e he => hz e (by simp [he])) i e j m (by simpa using he) hm
theorem flat_length {z : Nat} : ∀ (els : List (List PV)), (∀ e ∈ els, e.length = z) → (flatEls els).length = els.length * z
  | [], _ => by simp [flatEls]
  | x :: r, hz => by
    simp only [flatEls, List.length_append, List.length_cons, flat_length r (fun e he => hz e (by simp [he])), hz x (by simp), Nat.add_mul]; omega

def lensB (z : Nat) : List (List PV) → Bool
  | [] => true
  | e :: r => Nat.beq e.length z && lensB z r
theorem lensB_all {z : Nat} : ∀ (els : List (List PV)), lensB z els = true → ∀ e ∈ els, e.length = z
  | [], _, e, he => by cases he
  | x :: r, h, e, he => by
    simp only [lensB, Bool.and_eq_true] at h
    cases he with
    | head => exact Nat.eq_of_beq_eq_true h.1
    | tail _ he => exact lensB_all r h.2 e he

def chunk (z : Nat) : Nat → List PV → List (List PV)
  | 0, _ => []
  | n + 1, l => l.take z :: chunk z n (l.drop z)

theorem chunk_flat {z : Nat} : ∀ (n : Nat) (l : List PV), l.length = n * z → flatEls (chunk z n l) = l ∧ (∀ e ∈ chunk z n l, e.length = z) ∧ (chunk z n l).length = n
  | 0, l, h => by
    have : l = [] := List.eq_nil_of_length_eq_zero (by simpa using h)
    subst this; exact ⟨rfl, (fun e he => by cases he), rfl⟩
  | n + 1, l, h => by
    rw [Nat.add_mul] at h
    obtain ⟨h1, h2, h3⟩ := chunk_flat (z := z) n (l.drop z) (by simp; omega)
    refine ⟨by simp only [chunk, flatEls, h1, List.take_append_drop], fun e he => ?_, by simp [chunk, h3]⟩
    simp only [chunk, List.mem_cons] at he
    rcases he with rfl | he
    · simp; omega
    · exact h2 e he

theorem fillL_length {place : Nat → Option (Nat × Nat)} : ∀ (parts : List (Nat × Operand)) (zs F : List PV), fillL place st zs parts = some F → F.length = zs.length
  | [], zs, F, h => by cases h; rfl
  | (i, x) :: r, zs, F, h => by
    simp only [fillL] at h
    split at h
    · rename_i off size cs hpl hcs
      cases hb : (Nat.beq cs.length size && Nat.ble (off + size) zs.length) with
      | false => rw [hb] at h; cases h
      | true =>
        rw [hb] at h
        simp only [Bool.and_eq_true] at hb
        have h1 := Nat.eq_of_beq_eq_true hb.1
        have h2 := Nat.le_of_ble_eq_true hb.2
        rw [fillL_length r _ F h]
        unfold spl; simp; omega
    · cases h

theorem W.lit {t e z len : Nat} {parts : Array (Nat × Operand)} {ti ei : TyI} {F : List PV} (tt : Tab P) (h : tt.l.get t = some ti) (hel : ti.el = some (e, z)) (ha : ti.agg = false) (he : tt.l.get e = some ei)
    (hzz : (Nat.beq ei.zero.length ei.sz && !Nat.beq ei.sz 0 && Nat.beq ei.sz z && Nat.ble (len * z) 16777216) = true)
    (hF : fillL (fun i => some (i * z, z)) st (zeroFlat ei.zero z len) parts.toList = some F) (hd : Nat.blt d st.n = true)
    (k : W false P ops rest T ((st.addRow ⟨e, z, chunk z len F⟩).put d (.own st.nk))) : W false P ops (⟨some d, .buildSlice t len parts, ty, pos, aft, none⟩ :: rest) T st := by
  simp only [Bool.and_eq_true, Bool.not_eq_true'] at hzz
  obtain ⟨⟨⟨z1, z2⟩, z3⟩, z4⟩ := hzz
  obtain ⟨hu, hse⟩ := tt.slice h hel ha
  obtain ⟨inf, v, i1, i2, i3, i4, i5, i6⟩ := tt.zero he z1 z2
  have hz3 := Nat.eq_of_beq_eq_true z3
  have hz4 := Nat.le_of_ble_eq_true z4
  have hne : ei.sz ≠ 0 := fun e => by rw [e] at z2; cases z2
  have hzlen := Nat.eq_of_beq_eq_true z1
  subst hz3
  have hFl : F.length = len * ei.sz := by rw [fillL_length _ _ _ hF]; simp [zeroFlat]
  obtain ⟨c1, c2, c3⟩ := chunk_flat len F hFl
  refine W.new_core (r := ⟨e, ei.sz, chunk ei.sz len F⟩) (m := .own st.nk) (mk := fun b c => .slice (some ⟨b, 0, none⟩) len c) hd (fun w0 a w L cp sz ln s => ?_) (fun h S L cp sz ln e1 _ => ⟨by rw [e1, c3], by omega⟩) k
  obtain ⟨g1, g2, g3⟩ := cellsPV_vr (h := w.heap) (S := stab w0 st.rows st.x L w.heap) _ _ i5
  have hbase : Alike w.heap (stab w0 st.rows st.x L w.heap) (zeroFlat ei.zero ei.sz len) ((Array.range (len * ei.sz)).map (v.cells[· % v.cells.size]!)).toList := by
    refine ⟨by simp [zeroFlat], fun i c u hc hu => ?_⟩
    have hi : i < len * ei.sz := by
      have := (List.getElem?_eq_some_iff.1 hc).1; simpa [zeroFlat] using this
    have hmod : i % ei.sz < ei.sz := Nat.mod_lt _ (by omega)
    have hm1 : i % ei.sz < ei.zero.length := by omega
    have hm2 : i % ei.sz < v.cells.size := by omega
    have hc' : ei.zero[i % ei.sz] = c := by
      simp [zeroFlat, hi] at hc
      have : ei.zero[i % ei.sz]? = some ei.zero[i % ei.sz] := by simp [hm1]
      rw [this] at hc; simpa using hc
    have hu' : v.cells[i % ei.sz] = u := by
      simp [hi, i6] at hu
      rw [getElem!_pos v.cells _ hm2] at hu; exact hu
    subst hc'; subst hu'
    exact g2 (i % ei.sz) _ _ (by simp [hm1]) (by simp [hm2])
  have hzf : (zeroFlat ei.zero ei.sz len).all PV.flat = true := by
    rw [List.all_eq_true]
    intro m hm
    simp only [zeroFlat, List.mem_map, List.mem_range] at hm
    obtain ⟨x, hx, rfl⟩ := hm
    have hmod : x % ei.sz < ei.zero.length := by rw [hzlen]; exact Nat.mod_lt _ (by omega)
    have : ei.zero.getD (x % ei.sz) .any = ei.zero[x % ei.sz] := by simp [hmod]
    rw [this]
    exact List.all_eq_true.1 g3 _ (List.getElem_mem hmod)
  obtain ⟨C, hC, hCa, hCf⟩ := fill_run s (place' := fun i => some (i * ei.sz, ei.sz)) (fun i p hp => hp) parts.toList _ F _ hbase hzf hF
  have hCs : C.size = len * ei.sz := by have := hCa.1; simp at this; omega
  refine ⟨C, len, hCs, by rw [c3]; exact Nat.le_refl _, ?_, c2, fun i e' j m he' hm => ?_, fun o ho hty => ?_⟩
  · have : len * 1 ≤ len * ei.sz := Nat.mul_le_mul_left _ (by omega)
    unfold maxLen; omega
  · have hg := flat_get (chunk ei.sz len F) c2 i e' j m he' hm
    rw [c1] at hg
    have hlt : i * ei.sz + j < C.size := by rw [hCs, ← hFl]; exact (List.getElem?_eq_some_iff.1 hg).1
    have hvr := hCa.2 _ m C[i * ei.sz + j] hg (by simp [hlt])
    exact ⟨C[i * ei.sz + j], by simp [hlt], hvr.one (List.all_eq_true.1 hCf m (List.mem_of_getElem? hg)), hvr⟩
  · have hparts : (parts.map fun (p : Nat × Operand) => (p.1, a.eval p.2)).toList = parts.toList.map fun p => (p.1, a.eval p.2) := by simp
    have hnle : ¬ (16777216 < len * ei.sz) := by omega
    by_cases hz0 : len * ei.sz = 0
    · have hl0 : len = 0 := by
        rcases Nat.mul_eq_zero.1 hz0 with h | h
        · exact h
        · exact absurd h hne
      have hrng : (Array.range (len * ei.sz)).map (v.cells[· % v.cells.size]!) = (Array.range (len * ei.sz)).map ((#[] : Array Value)[· % (#[] : Array Value).size]!) := by rw [hz0]; simp
      rw [hrng] at hC
      simp [execOp, ho, Instr.buildSlice, underlying, program, Sem.run, hu, run_sizeOf i1, i2, hz0] at hC ⊢
      simp [hC, newRow, newObj, Sem.run]
    · simp [execOp, ho, Instr.buildSlice, underlying, program, Sem.run, hu, run_sizeOf i1, i2, hnle, hz0, zeroValue, typeInfo, i1, i4] at hC ⊢
      simp [hC, newRow, newObj, Sem.run]

/-! ### append -/
theorem SRL.src {w0 : Bs} {a : Act} {w : World} {L cp sz ln : Nat → Nat} (s : SRL w0 st a w L cp sz ln) {m : MV} {v : Value} {z : Nat} {els : List (List PV)} (hm : MR st.nk w.heap (stab w0 st.rows st.x L w.heap) L cp sz ln m v) (h : rdA st m = some (.view z els)) :
    (els = [] ∧ ∃ ao c, v = .slice ao 0 c) ∨ ∃ (b off c : Nat) (U : Nat → Nat → Value), v = .slice (some ⟨b, off, none⟩) els.length c ∧ (∀ e ∈ els, e.length = z) ∧
      (∀ (i : Nat) e (j : Nat) m, els[i]? = some e → e[j]? = some m → hcell w.heap b (off + (i * z + j)) = some (U i j) ∧ (U i j).oneCell' = true) ∧
      (∀ (i : Nat) e (j : Nat) m, els[i]? = some e → e[j]? = some m → VR w.heap (stab w0 st.rows st.x L w.heap) m (U i j)) := by
  cases m with
  | p m =>
    cases h
    cases hm with
    | view0 => exact .inl ⟨rfl, _, _, rfl⟩
    | view U hn hc hS hsz hU hV => subst hn; exact .inr ⟨_, _, _, U, rfl, hsz, hU, hV⟩
  | own k =>
    simp only [rdA, Option.map_eq_some_iff] at h
    obtain ⟨r, hr, he⟩ := h
    cases he
    obtain ⟨hv, hk⟩ := hm
    subst hv
    obtain ⟨⟨C, h1, h2, h3, h4, h5, h6⟩, _, hsz, hln⟩ := s.rows k r hr
    have hget : ∀ (i : Nat) e (j : Nat) m, r.els[i]? = some e → e[j]? = some m → ∃ u, hcell w.heap (L k) (0 + (i * r.sz + j)) = some u ∧ u.oneCell' = true ∧ VR w.heap (stab w0 st.rows st.x L w.heap) m u := by
      intro i e j m he hm
      obtain ⟨u, hu, h1', hv⟩ := h6 i e j m he hm
      exact ⟨u, by simp [hcell, h1, hu], h1', hv⟩
    refine .inr ⟨L k, 0, cp k, fun i j => (hcell w.heap (L k) (0 + (i * r.sz + j))).getD Go.undef, by rw [hln], h5, fun i e j m he hm => ?_, fun i e j m he hm => ?_⟩
    · obtain ⟨u, hu, h1', hv⟩ := hget i e j m he hm
      simp only [hu, Option.getD_some]; exact ⟨trivial, h1'⟩
    · obtain ⟨u, hu, h1', hv⟩ := hget i e j m he hm
      simp only [hu, Option.getD_some]; exact hv
  | loc k i j =>
    simp only [rdA, Option.bind_eq_some_iff, Option.map_eq_some_iff] at h
    obtain ⟨r, hr, e, he, hx⟩ := h
    cases hx
  | win k i j => cases h
  | undef => cases h
  | tup xs => cases h

theorem W.append {x y : Operand} {t e z rk : Nat} {ti ei : TyI} {r : Row} {els2 : List (List PV)} (tt : Tab P) (h : tt.l.get t = some ti) (hel : ti.el = some (e, z)) (ha : ti.agg = false) (he : tt.l.get e = some ei)
    (hzz : (Nat.beq ei.zero.length ei.sz && !Nat.beq ei.sz 0 && Nat.beq ei.sz z && Nat.ble ei.bytes 32768) = true)
    (hx : st.ev x = .own rk) (hr : look st.rows rk = some r) (hrt : (Nat.beq r.ty e && Nat.beq r.sz z) = true) (hy : rdA st (st.ev y) = some (.view z els2)) (hd : Nat.blt d st.n = true) (hk0 : Nat.beq rk 0 = false)
    (hn : r.els.length + els2.length ≤ 4294967296)
    (k : W false P ops rest T { n := st.n, nk := st.nk, t := (d, .own rk) :: killT rk st.t, rows := (rk, ⟨r.ty, r.sz, r.els ++ els2⟩) :: st.rows, x := st.x }) :
    W false P ops (⟨some d, .call { callee := .builtin .append, args := #[x, y], argTypes := #[t, t] }, ty, pos, aft, none⟩ :: rest) T st := by
  have hd' : d < st.n := by simpa [Nat.blt_eq] using hd
  simp only [Bool.and_eq_true, Bool.not_eq_true'] at hzz hrt
  obtain ⟨⟨⟨z1, z2⟩, z3⟩, z4⟩ := hzz
  have hrt1 := Nat.eq_of_beq_eq_true hrt.1
  have hrt2 := Nat.eq_of_beq_eq_true hrt.2
  obtain ⟨hu, hse⟩ := tt.slice h hel ha
  obtain ⟨inf, v, i1, i2, i3, i4, i5, i6⟩ := tt.zero he z1 z2
  have hz3 := Nat.eq_of_beq_eq_true z3
  have hz4 := Nat.le_of_ble_eq_true z4
  have hne : ei.sz ≠ 0 := fun e => by rw [e] at z2; cases z2
  subst hz3
  intro w0 a w Qr hs hT
  obtain ⟨L, cp, sz, ln, s⟩ := hs
  obtain ⟨hxv, hxk⟩ := s.ev_own hx
  obtain ⟨⟨C, h1, h2, h3, h4, h5, h6⟩, hge, hsk, hlk⟩ := s.rows rk r hr
  have hyv := s.src (s.ev y) hy
  -- the new cells
  have hsrc : ∃ (ao : Option Addr) (c : Nat) (news : List Value), a.eval y = .slice ao els2.length c ∧ news.length = els2.length * ei.sz ∧ (∀ u ∈ news, u.oneCell' = true) ∧
      (∀ (i : Nat) e' (j : Nat) m, els2[i]? = some e' → e'[j]? = some m → ∃ u, news[i * ei.sz + j]? = some u ∧ VR w.heap (stab w0 st.rows st.x L w.heap) m u) ∧
      (∀ e' ∈ els2, e'.length = ei.sz) ∧ (els2 = [] ∨ ∃ ad, ao = some ad ∧ ∀ j u, news[j]? = some u → w.cell? (ad.add j) = some u) := by
    rcases hyv with ⟨rfl, ao, c, hv⟩ | ⟨b, off, c, U, hv, hsz, hU, hV⟩
    · exact ⟨ao, c, [], hv, by simp, (fun u hu => by cases hu), (fun i e' j m he' => by cases he'), (fun e' he' => by cases he'), .inl rfl⟩
    · rw [hv]
      refine ⟨_, c, (List.range (els2.length * ei.sz)).map (fun q => U (q / ei.sz) (q % ei.sz)), rfl, by simp, fun u hu => ?_, fun i e' j m he' hm => ?_, hsz, .inr ⟨_, rfl, fun j u hj => ?_⟩⟩
      · simp only [List.mem_map, List.mem_range] at hu
        obtain ⟨q, hq, rfl⟩ := hu
        have hi : q / ei.sz < els2.length := Nat.div_lt_of_lt_mul (by rw [Nat.mul_comm]; exact hq)
        have hjl : q % ei.sz < (els2[q / ei.sz]).length := by rw [hsz _ (List.getElem_mem hi)]; exact Nat.mod_lt _ (by omega)
        exact (hU (q / ei.sz) els2[q / ei.sz] (q % ei.sz) (els2[q / ei.sz])[q % ei.sz] (by simp [hi]) (by simp [hjl])).2
      · have hi := (List.getElem?_eq_some_iff.1 he').1
        have hj : j < ei.sz := by rw [← hsz e' (List.mem_of_getElem? he')]; exact (List.getElem?_eq_some_iff.1 hm).1
        have hlt : i * ei.sz + j < els2.length * ei.sz := by
          have : (i + 1) * ei.sz ≤ els2.length * ei.sz := Nat.mul_le_mul_right _ hi
          rw [Nat.add_mul] at this; omega
        refine ⟨U i j, ?_, hV i e' j m he' hm⟩
        have hdv : (i * ei.sz + j) / ei.sz = i := by rw [Nat.mul_comm, Nat.mul_add_div (by omega), Nat.div_eq_of_lt hj]; omega
        have hmd : (i * ei.sz + j) % ei.sz = j := by rw [Nat.mul_comm, Nat.mul_add_mod]; exact Nat.mod_eq_of_lt hj
        simp [hlt, hdv, hmd]
      · have hq : j < els2.length * ei.sz := by
          have := (List.getElem?_eq_some_iff.1 hj).1; simpa using this
        have hi : j / ei.sz < els2.length := Nat.div_lt_of_lt_mul (by rw [Nat.mul_comm]; exact hq)
        have hjl : j % ei.sz < (els2[j / ei.sz]).length := by rw [hsz _ (List.getElem_mem hi)]; exact Nat.mod_lt _ (by omega)
        have hu : U (j / ei.sz) (j % ei.sz) = u := by simpa [hq] using hj
        subst hu
        have := (hU (j / ei.sz) els2[j / ei.sz] (j % ei.sz) (els2[j / ei.sz])[j % ei.sz] (by simp [hi]) (by simp [hjl])).1
        rw [add_mk, cell?_eq]
        rw [show j / ei.sz * ei.sz + j % ei.sz = j by rw [Nat.mul_comm]; exact Nat.div_add_mod j ei.sz] at this
        exact this
  obtain ⟨ao, c, news, hyval, hnl, hnone, hncells, hnsz, hncase⟩ := hsrc
  -- the run, and the row behind it
  have hbytes : ∀ n : Nat, n ≤ 4294967296 → n * inf.bytes ≤ 140737488355328 := fun n hn' => by
    rw [i3]
    calc n * ei.bytes ≤ 4294967296 * 32768 := Nat.mul_le_mul hn' hz4
      _ = 140737488355328 := by decide
  have key : ∃ g c' w', (Builtin.append_ #[t, t] ty #[a.eval x, a.eval y]).run P w = .ok (.slice (some ⟨g, 0, none⟩) (r.els.length + els2.length) c') w' ∧ (g = L rk ∨ w.heap.size ≤ g) ∧
      w'.os = w.os ∧ w'.tape = w.tape ∧ w'.output = w.output ∧ w.heap.size ≤ w'.heap.size ∧ (∀ b, b < w.heap.size → b ≠ L rk → w'.heap[b]? = w.heap[b]?) ∧
      ∃ C', w'.heap[g]? = some (.cells C' r.ty (0, 0)) ∧ C'.size = c' * ei.sz ∧ r.els.length + els2.length ≤ c' ∧ c' ≤ maxLen ∧ C'.toList.take ((r.els.length + els2.length) * ei.sz) = C.toList.take (r.els.length * ei.sz) ++ news := by
    have hCl : (C.toList.take (r.els.length * ei.sz)).length = r.els.length * ei.sz := by
      simp only [List.length_take, Array.length_toList, h2, hrt2]
      have : r.els.length * ei.sz ≤ cp rk * ei.sz := Nat.mul_le_mul_right _ h3
      omega
    have hcat : (C.toList.take (r.els.length * ei.sz) ++ news).length = (r.els.length + els2.length) * ei.sz := by
      rw [List.length_append, hCl, hnl, Nat.add_mul]
    rw [hxv, hyval, hlk]
    rw [hrt1] at h1
    rcases hncase with hnil | ⟨ad, rfl, hadc⟩
    · subst hnil
      have hn0 : news = [] := List.eq_nil_of_length_eq_zero (by simpa using hnl)
      subst hn0
      have hrun : (Builtin.append_ #[t, t] ty #[.slice (some ⟨L rk, 0, none⟩) r.els.length (cp rk), .slice ao 0 c]).run P w = .ok (.slice (some ⟨L rk, 0, none⟩) r.els.length (cp rk)) w := by
        cases ao <;> simp [Builtin.append_, underlying, program, Sem.run, hu, sizeOf, typeInfo, i1, Builtin.lenOf, Builtin.firstCells, loadCells, loadCellsFrom, h3, storeCells]
      refine ⟨L rk, cp rk, w, by simpa using hrun, .inl rfl, rfl, rfl, rfl, Nat.le_refl _, fun _ _ _ => rfl, C, by rw [hrt1]; exact h1, by rw [h2, hrt2], by simpa using h3, h4, by simp⟩
    · by_cases hroom : r.els.length + els2.length ≤ cp rk
      · have hfit : r.els.length * inf.size + news.length ≤ C.size := by
          rw [hnl, h2, hrt2, i2, ← Nat.add_mul]; exact Nat.mul_le_mul_right _ hroom
        have hrn := run_append_room (P := P) w t ty e inf hu i1 (L rk) r.els.length (cp rk) C h1 ad els2.length c news (by rw [i2]; exact hnl) hadc hnone hroom hfit
        refine ⟨L rk, cp rk, _, hrn, .inl rfl, rfl, rfl, rfl, by simp, fun b _ hb => setRow_other w (L rk) b _ hb, _, by rw [hrt1]; exact setRow_heap w (L rk) C _ _ _ h1, ?_, hroom, h4, ?_⟩
        · simp only [List.size_toArray, List.length_append, List.length_take, List.length_drop, Array.length_toList]
          rw [h2, hrt2] at *
          omega
        · simp only [i2]
          rw [← hcat]
          exact List.take_left
      · have hrn := run_append_grow (P := P) w t ty e inf v hu i1 i4 ⟨L rk, 0, none⟩ r.els.length (cp rk) (C.toList.take (r.els.length * ei.sz)) (by rw [i2]; exact hCl) (fun j u hj => by
          rw [add_mk, cell?_eq]
          simp only [hcell, h1, Nat.zero_add]
          rw [List.getElem?_take] at hj
          split at hj
          · simpa using hj
          · cases hj) ad els2.length c news (by rw [i2]; exact hnl) hadc (by omega) (by omega) (growslice_fits (by omega) (hbytes _ hn))
        have hge' := grownCap_ge w (r.els.length + els2.length) (cp rk) e
        have hcm : grownCap w (r.els.length + els2.length) (cp rk) e ≤ maxLen := grownCap_le_maxLen w _ _ e (by unfold maxLen; omega)
        refine ⟨w.heap.size, _, _, hrn, .inr (Nat.le_refl _), rfl, rfl, rfl, by simp, fun b hb _ => heap_alloc_old w.drew _ b hb, _, by rw [hrt1]; exact heap_alloc_new w.drew _, ?_, hge', hcm, ?_⟩
        · simp only [Array.size_append, List.size_toArray, size_zeroCells, i6, hCl, hnl, ← Nat.add_mul]
          congr 1
          omega
        · simp only [Array.toList_append, List.append_assoc]
          rw [← List.append_assoc, ← hcat]
          exact List.take_left
  obtain ⟨g, c', w', hrun, hg, k1, k2, k3, k4, k5, C', k6, k7, k8, k9, k10⟩ := key
  have hCcell : ∀ (q : Nat) u, (C.toList.take (r.els.length * ei.sz) ++ news)[q]? = some u → C'[q]? = some u := fun q u hq => by
    rw [← k10, List.getElem?_take] at hq
    split at hq
    · simpa using hq
    · cases hq
  have hCl : (C.toList.take (r.els.length * ei.sz)).length = r.els.length * ei.sz := by
    simp only [List.length_take, Array.length_toList, h2, hrt2]
    have : r.els.length * ei.sz ≤ cp rk * ei.sz := Nat.mul_le_mul_right _ h3
    omega
  obtain ⟨L', cp', sz', ln', s', e1, e2, e3, e4⟩ := s.moved (w' := w') (r' := ⟨r.ty, r.sz, r.els ++ els2⟩) hr (fun e => by rw [e] at hk0; cases hk0) (g := g) (c := c') hg k1 k2 k3 k4 k5 (fun S hS => by
    refine ⟨C', k6, by rw [k7, hrt2], by simpa using k8, k9, fun e' he' => ?_, fun i e' j m he' hm => ?_⟩
    · rcases List.mem_append.1 he' with h' | h'
      · exact h5 e' h'
      · rw [hrt2]; exact hnsz e' h'
    · show ∃ u, C'[i * r.sz + j]? = some u ∧ _
      rw [hrt2]
      by_cases hi : i < r.els.length
      · rw [List.getElem?_append_left hi] at he'
        obtain ⟨u, hu, h1', hv⟩ := h6 i e' j m he' hm
        rw [hrt2] at hu
        have hj : j < ei.sz := by rw [← hrt2, ← h5 e' (List.mem_of_getElem? he')]; exact (List.getElem?_eq_some_iff.1 hm).1
        have hlt : i * ei.sz + j < r.els.length * ei.sz := by
          have : (i + 1) * ei.sz ≤ r.els.length * ei.sz := Nat.mul_le_mul_right _ hi
          rw [Nat.add_mul] at this; omega
        refine ⟨u, hCcell _ u ?_, h1', hv.mono hS⟩
        rw [List.getElem?_append_left (by rw [hCl]; exact hlt), List.getElem?_take, if_pos hlt]
        simpa using hu
      · rw [List.getElem?_append_right (by omega)] at he'
        obtain ⟨u, hu, hv⟩ := hncells _ e' j m he' hm
        refine ⟨u, hCcell _ u ?_, hnone u (List.mem_of_getElem? hu), hv.mono hS⟩
        rw [List.getElem?_append_right (by rw [hCl]; have : r.els.length * ei.sz ≤ i * ei.sz := Nat.mul_le_mul_right _ (by omega); omega), hCl]
        rw [show i * ei.sz + j - r.els.length * ei.sz = (i - r.els.length) * ei.sz + j by
          rw [Nat.sub_mul]
          have : r.els.length * ei.sz ≤ i * ei.sz := Nat.mul_le_mul_right _ (by omega)
          omega]
        exact hu)
  simp only [wpList, wanted_none, if_true]
  refine .inl ?_
  unfold Oper.wp
  have hex : (execOp a.eval ⟨some d, .call { callee := .builtin .append, args := #[x, y], argTypes := #[t, t] }, ty, pos, aft, none⟩).run P w = .ok (.value (.slice (some ⟨g, 0, none⟩) (r.els.length + els2.length) c')) w' := by
    simp [execOp, resolve, invoke, builtin, hrun]
  rw [hex]
  simp only [Oper.upon]
  refine k w0 _ w' Qr ⟨L', cp', sz', ln', s'.put (d := d) (m := .own rk) hd' ⟨?_, hxk⟩⟩ hT
  rw [e1, e2, e3]; simp
end

end Go.Lo
namespace Go.Lo
open Go.RowKit

def delR (k : Nat) : List (Nat × Row) → List (Nat × Row)
  | [] => []
  | (x, r) :: l => bif Nat.beq x k then delR k l else (x, r) :: delR k l
theorem beq_false_of {x k : Nat} (h : x ≠ k) : Nat.beq x k = false := by
  cases hb : Nat.beq x k with
  | false => rfl
  | true => exact absurd (Nat.eq_of_beq_eq_true hb) h
theorem look_delR (k : Nat) : ∀ (l : List (Nat × Row)) (x : Nat), look (delR k l) x = if x = k then none else look l x
  | [], x => by simp [delR, look]
  | (y, r) :: l, x => by
    simp only [delR]
    cases hy : Nat.beq y k with
    | true =>
      have := Nat.eq_of_beq_eq_true hy
      subst this
      simp only [cond_true]
      rw [look_delR y l x, look_cons]
      by_cases h : x = y
      · simp [h]
      · rw [if_neg h, if_neg h, if_neg (fun e => h e.symm)]
    | false =>
      simp only [cond_false]
      rw [look_cons, look_cons, look_delR k l x]
      by_cases h : y = x
      · subst h
        have : y ≠ k := fun e => by subst e; rw [Nat.beq_refl] at hy; cases hy
        simp [this]
      · simp [h]

def MV.frz (k : Nat) (r : Row) : MV → MV
  | .own x => bif Nat.beq x k then .p (.view r.sz r.els) else .own x
  | .loc x i j => bif Nat.beq x k then (match r.els[i]? with | some e => .p (.ref (e.drop j)) | none => .p .any) else .loc x i j
  | .win x i j => bif Nat.beq x k then .p .any else .win x i j
  | .tup _ => .p .any
  | m => m
def frzT (k : Nat) (r : Row) : List (Nat × MV) → List (Nat × MV)
  | [] => []
  | (t, m) :: l => (t, m.frz k r) :: frzT k r l
theorem look_frzT (k : Nat) (r : Row) : ∀ (l : List (Nat × MV)) (t : Nat), look (frzT k r l) t = (look l t).map (MV.frz k r)
  | [], t => rfl
  | (x, m) :: l, t => by
    simp only [frzT, look]
    cases Nat.beq x t with
    | true => rfl
    | false => exact look_frzT k r l t

def St.frz (st : St) (k : Nat) (r : Row) : St := { n := st.n, nk := st.nk, t := frzT k r st.t, rows := delR k st.rows, x := st.x }

theorem get_frz (st : St) (k t : Nat) (r : Row) : (st.frz k r).get t = (st.get t).frz k r := by
  unfold St.get St.frz
  simp only [look_frzT]
  cases look st.t t <;> rfl

section
variable {P : Program} {st : St} {w0 : Bs} {a : Act} {w w' : World} {L cp sz ln : Nat → Nat}

theorem SRL.frz (s : SRL w0 st a w L cp sz ln) {k : Nat} {r : Row} (hk : look st.rows k = some r) (hk0 : k ≠ 0) : SRL w0 (st.frz k r) a w L cp sz ln := by
  obtain ⟨g1, hge, hsk, hlk⟩ := s.rows k r hk
  have hklive : liveIn st.rows k := by unfold liveIn; rw [hk]; rfl
  have hnew : w0.w.heap.size ≤ L k := by
    rcases hge with h | h
    · exact h
    · exact absurd h.1 hk0
  have hlive : ∀ x, liveIn (delR k st.rows) x → x ≠ k ∧ liveIn st.rows x := fun x hx => by
    unfold liveIn at *; rw [look_delR] at hx
    by_cases h : x = k
    · rw [if_pos h] at hx; cases hx
    · rw [if_neg h] at hx; exact ⟨h, hx⟩
  have hb : ∀ b, stab w0 st.rows st.x L w.heap b → stab w0 (st.frz k r).rows st.x L w.heap b ∧ w.heap[b]? = w.heap[b]? := fun b hb =>
    ⟨⟨hb.1, hb.2.1, fun x hx => hb.2.2 x (hlive x hx).2⟩, rfl⟩
  have hkst : stab w0 (st.frz k r).rows st.x L w.heap (L k) := ⟨g1.lt, ⟨.inr hnew, s.frag_live hklive⟩, fun x hx e => (hlive x hx).1 (s.inj x k (hlive x hx).2 hklive e)⟩
  refine ⟨s.defers, s.size, fun t => ?_, fun x rx hx => ?_, fun x y hx hy => s.inj x y (hlive x hx).2 (hlive y hy).2, fun x hx => s.keys x (hlive x hx).2, s.below, s.pos, s.pin, fun b o hx => ⟨(s.frag b o hx).1, (s.frag b o hx).2.1, fun x hxl => (s.frag b o hx).2.2 x (hlive x hxl).2⟩⟩
  · rw [get_frz]
    have hm := s.tmps t
    cases hg : st.get t with
    | p m => rw [hg] at hm; exact VR.mono hm hb
    | own x =>
      rw [hg] at hm
      simp only [MV.frz]
      cases hx : Nat.beq x k with
      | false => exact hm
      | true =>
        have := Nat.eq_of_beq_eq_true hx
        subst this
        obtain ⟨C, h1, h2, h3, h4, h5, h6⟩ := g1
        obtain ⟨hv, _⟩ := hm
        have hget : ∀ (i : Nat) e (j : Nat) m, r.els[i]? = some e → e[j]? = some m → ∃ u, hcell w.heap (L x) (0 + (i * r.sz + j)) = some u ∧ u.oneCell' = true ∧ VR w.heap (stab w0 st.rows st.x L w.heap) m u := by
          intro i e j m he hm
          obtain ⟨u, hu, h1', hv⟩ := h6 i e j m he hm
          exact ⟨u, by simp [hcell, h1, hu], h1', hv⟩
        show VR w.heap _ (.view r.sz r.els) _
        rw [hv]
        refine VR.view (fun i j => (hcell w.heap (L x) (0 + (i * r.sz + j))).getD Go.undef) hlk.symm (by rw [hlk]; exact h3) hkst h5 (fun i e j m he hm => ?_) (fun i e j m he hm => ?_)
        · obtain ⟨u, hu, h1', hv⟩ := hget i e j m he hm
          simp only [hu, Option.getD_some]; exact ⟨trivial, h1'⟩
        · obtain ⟨u, hu, h1', hv⟩ := hget i e j m he hm
          simp only [hu, Option.getD_some]; exact hv.mono hb
    | loc x i j =>
      rw [hg] at hm
      simp only [MV.frz]
      cases hx : Nat.beq x k with
      | false => exact hm
      | true =>
        have := Nat.eq_of_beq_eq_true hx
        subst this
        simp only [cond_true]
        cases hei : r.els[i]? with
        | none => exact VR.any
        | some e =>
          obtain ⟨C, h1, h2, h3, h4, h5, h6⟩ := g1
          obtain ⟨hv, _⟩ := hm
          have hget : ∀ (n : Nat) m, (e.drop j)[n]? = some m → ∃ u, hcell w.heap (L x) (i * sz x + j + n) = some u ∧ u.oneCell' = true ∧ VR w.heap (stab w0 st.rows st.x L w.heap) m u := by
            intro n m hm
            rw [List.getElem?_drop] at hm
            obtain ⟨u, hu, h1', hv⟩ := h6 i e (j + n) m hei hm
            exact ⟨u, by simp [hcell, h1, hsk, Nat.add_assoc, hu], h1', hv⟩
          show VR w.heap _ (.ref (e.drop j)) _
          rw [hv]
          refine VR.ref (fun n => (hcell w.heap (L x) (i * sz x + j + n)).getD Go.undef) hkst (fun n m hm => ?_) (fun n m hm => ?_)
          · obtain ⟨u, hu, h1', hv⟩ := hget n m hm
            simp only [hu, Option.getD_some]; exact ⟨trivial, h1'⟩
          · obtain ⟨u, hu, h1', hv⟩ := hget n m hm
            simp only [hu, Option.getD_some]; exact hv.mono hb
    | win x i j =>
      rw [hg] at hm
      simp only [MV.frz]
      cases hx : Nat.beq x k with
      | false => exact hm
      | true => exact VR.any
    | undef => rw [hg] at hm; exact hm
    | tup xs => exact VR.any
  · have hx' : x ≠ k ∧ look st.rows x = some rx := by
      have hx2 : look (delR k st.rows) x = some rx := hx
      rw [look_delR] at hx2
      by_cases h : x = k
      · rw [if_pos h] at hx2; cases hx2
      · rw [if_neg h] at hx2; exact ⟨h, hx2⟩
    obtain ⟨q1, q2, q3, q4⟩ := s.rows x rx hx'.2
    exact ⟨q1.mono hb rfl, q2, q3, q4⟩

theorem SR.frz (s : SR w0 st a w) {k : Nat} {r : Row} (hk : look st.rows k = some r) (hk0 : Nat.beq k 0 = false) : SR w0 (st.frz k r) a w :=
  let ⟨L, cp, sz, ln, s⟩ := s; ⟨L, cp, sz, ln, s.frz hk (fun e => by rw [e] at hk0; cases hk0)⟩
end

section
variable {q : Bool} {P : Program} {ops : Array Oper} {rest : List Oper} {T : St → Prop} {Q : Exit → St → Prop} {st : St} {d : Nat} {ty : TypeId} {pos : String} {aft : Array Edge}

theorem W.frz {l : List Oper} {k : Nat} {r : Row} (hk : look st.rows k = some r) (hk0 : Nat.beq k 0 = false) (kk : W q P ops l T (st.frz k r)) : W q P ops l T st := by
  cases q
  · exact fun w0 a w Qr hs hT => kk w0 a w Qr (hs.frz hk hk0) hT
  · exact fun w0 a w Kr hs hT => kk w0 a w Kr (hs.frz hk hk0) hT
theorem Wc.frz {c : Code} {k : Nat} {r : Row} (hk : look st.rows k = some r) (hk0 : Nat.beq k 0 = false) (kk : Wc P c Q (st.frz k r)) : Wc P c Q st :=
  fun w0 a w Qr hs hq => kk w0 a w Qr (hs.frz hk hk0) hq
end
end Go.Lo
namespace Go.Lo
open Go.RowKit

def initM (N : Nat) (r : Row) (args : List PV) : St := { n := N, nk := 1, t := (0, .own 0) :: initT 1 args, rows := [(0, r)] }

def RMres (st : St) (rl : List ResultVar) : RM → Prop
  | .p m => ∃ t, rl = [.tmp t] ∧ st.get t = .p m ∧ m.val.isSome = true
  | .self => ∃ t, rl = [.tmp t] ∧ st.get t = .own 0
  | .unit => rl = []

def FinM (rl : List ResultVar) (r' : Row) (res : RM) : Exit → St → Prop
  | .ret, st => look st.rows 0 = some r' ∧ RMres st rl res
  | .normal, st => look st.rows 0 = some r' ∧ RMres st rl res
  | _, _ => False

theorem look_initT1 {args : List PV} {t : Nat} {m : MV} (h : look (initT 1 args) t = some m) : 1 ≤ t ∧ ∃ x, args[t - 1]? = some x ∧ m = .p x := look_initT _ _ _ _ h

theorem SR.initM {w : World} {S : Nat → Prop} {b cp N : Nat} {r : Row} {args : List PV} {vals : Array Value} (hSb : ¬ S b) (hRow : RowR w.heap (fun x => x < w.heap.size ∧ S x) b cp r) (hA : ArgsR w S args vals) (hN : args.length + 1 ≤ N) :
    SR ⟨w, S, (· = b), some (b, cp)⟩ (Lo.initM N r args) { tmps := (#[.slice (some ⟨b, 0, none⟩) r.els.length cp] ++ vals) ++ Array.replicate (N - (#[Value.slice (some ⟨b, 0, none⟩) r.els.length cp] ++ vals).size) Go.undef, defers := [] } w := by
  obtain ⟨hl, hall⟩ := hA
  have hlive : ∀ k, liveIn (Lo.initM N r args).rows k → k = 0 := fun k hk => by
    unfold liveIn at hk
    simp only [Lo.initM, look_cons, look] at hk
    by_cases h : 0 = k
    · exact h.symm
    · rw [if_neg h] at hk; cases hk
  have hst : ∀ x, x < w.heap.size ∧ S x → stab ⟨w, S, (· = b), some (b, cp)⟩ (Lo.initM N r args).rows Frag.nil (fun _ => b) w.heap x ∧ w.heap[x]? = w.heap[x]? := fun x hx =>
    ⟨⟨hx.1, ⟨.inl hx.2, rfl⟩, fun k hk e => by have e' : b = x := e; subst e'; exact hSb hx.2⟩, rfl⟩
  refine ⟨fun _ => b, fun _ => cp, fun _ => r.sz, fun _ => r.els.length, rfl, ?_, fun t => ?_, fun k r' hr => ?_, fun k k' hk hk' _ => by rw [hlive k hk, hlive k' hk'], fun k hk => by rw [hlive k hk]; exact Nat.one_pos, ⟨rfl, rfl, rfl, Nat.le_refl _, fun _ _ _ => rfl⟩, Nat.one_pos, (fun b' c h => by cases h; exact ⟨rfl, rfl⟩), fun b' o h => by cases h⟩
  · simp [Lo.initM, ← hl]; omega
  · unfold St.get
    simp only [Lo.initM, look_cons]
    by_cases h0 : 0 = t
    · subst h0
      rw [if_pos rfl]
      refine ⟨?_, Nat.one_pos⟩
      rw [Array.getD_eq_getD_getElem?, Array.getElem?_append_left (by simp; omega), Array.getElem?_append_left (by simp)]
      rfl
    · rw [if_neg h0]
      cases h : look (initT 1 args) t with
      | none => exact VR.any
      | some m =>
        obtain ⟨ht, x, hx, rfl⟩ := look_initT1 h
        have hlt : t - 1 < vals.size := by rw [← hl]; exact (List.getElem?_eq_some_iff.1 hx).1
        have hv := hall (t - 1) x vals[t - 1] hx (by simp [hlt])
        have he : ((#[Value.slice (some ⟨b, 0, none⟩) r.els.length cp] ++ vals) ++ Array.replicate (N - (#[Value.slice (some ⟨b, 0, none⟩) r.els.length cp] ++ vals).size) Go.undef).getD t Go.undef = vals[t - 1] := by
          have h1 : t < (#[Value.slice (some ⟨b, 0, none⟩) r.els.length cp] ++ vals).size := by simp; omega
          have h2 : ¬ t < 1 := by omega
          rw [Array.getD_eq_getD_getElem?, Array.getElem?_append_left h1, Array.getElem?_append_right (by simpa using ht)]
          simp [hlt]
        show MR _ _ _ _ _ _ _ (.p x) _
        rw [he]
        exact VR.mono hv hst
  · have hk0 := hlive k (by unfold liveIn; rw [hr]; rfl)
    subst hk0
    have : r = r' := by simpa [Lo.initM, look_cons] using hr
    subst this
    exact ⟨hRow.mono hst rfl, .inr ⟨rfl, rfl⟩, rfl, rfl⟩

theorem MHolds.mk {P : Program} {f : Nat} {fn : Func} {code : Code} {N : Nat} {rl : List ResultVar} {c : MCt} (hf : P.funcs[f]? = some fn) (hb : fn.body = some code) (hn : fn.ntmps = N) (hr : fn.results = rl.toArray)
    (hname : (fn.name == "runtime.NumGoroutine") = false) (h : ∀ r args K, c r args K → args.length + 1 ≤ N ∧ ∃ r' res, K r' res ∧ Wc P code (FinM rl r' res) (initM N r args)) : MHolds P f c := by
  refine ⟨⟨fn, hf, hname, by rw [hb]; rfl⟩, fun r args K hc => ?_⟩
  obtain ⟨hN, r', res, hK, hW⟩ := h r args K hc
  refine ⟨r', res, fun w S b cp vals hSb hRow hA => ?_, hK⟩
  refine calls_of_wp hf hb ?_
  rw [hn]
  refine hW _ _ w _ (SR.initM hSb hRow hA hN) fun e st' a' w' hQ hs => ?_
  have key : (look st'.rows 0 = some r' ∧ RMres st' rl res) → a'.defers = [] ∧ ∃ v, (results fn a'.tmps).run P w' = .ok v w' ∧ ∃ v', v = v ∧ v' = v ∧
      RowR w'.heap (fun x => x < w'.heap.size ∧ (S x ∨ w.heap.size ≤ x)) b cp r' ∧ RMok b cp r' res v ∧ Under ⟨w, S, (· = b), none⟩ w' := by
    rintro ⟨h1, h2⟩
    obtain ⟨L, cp', sz, ln, s⟩ := hs
    obtain ⟨e1, e2⟩ := s.pin b cp rfl
    obtain ⟨g1, g2, g3, g4⟩ := s.rows 0 r' h1
    rw [e1, e2] at g1
    have hrow : RowR w'.heap (fun x => x < w'.heap.size ∧ (S x ∨ w.heap.size ≤ x)) b cp r' := g1.mono (fun x hx => ⟨⟨hx.1, hx.2.1.1⟩, rfl⟩) rfl
    have hun : Under ⟨w, S, (· = b), none⟩ w' := ⟨s.below.os, s.below.tape, s.below.output, s.below.size, s.below.block⟩
    refine ⟨s.defers, ?_⟩
    cases res with
    | p m =>
      obtain ⟨t, rfl, hg, hm⟩ := h2
      obtain ⟨u, hu⟩ := Option.isSome_iff_exists.1 hm
      have hv := s.tmps t
      rw [hg] at hv
      have hval := VR.of_val hu hv
      have := results_run (P := P) (fn := fn) hr (a := a') (w := w') (vs := [u]) rfl (fun i x v hx hv' => by
        match i, hx, hv' with
        | 0, hx, hv' => simp at hx hv'; subst hx; subst hv'; simp [res1, ← hval])
      exact ⟨u, this, u, rfl, rfl, hrow, hu, hun⟩
    | self =>
      obtain ⟨t, rfl, hg⟩ := h2
      have hv := s.tmps t
      rw [hg] at hv
      have hval := hv.1
      rw [e1, e2, g4] at hval
      have := results_run (P := P) (fn := fn) hr (a := a') (w := w') (vs := [.slice (some ⟨b, 0, none⟩) r'.els.length cp]) rfl (fun i x v hx hv' => by
        match i, hx, hv' with
        | 0, hx, hv' => simp at hx hv'; subst hx; subst hv'; simp only [res1, hval]; rfl)
      exact ⟨_, this, _, rfl, rfl, hrow, rfl, hun⟩
    | unit =>
      have h2' : rl = [] := h2
      subst h2'
      have := results_run (P := P) (fn := fn) hr (a := a') (w := w') (vs := []) rfl (fun i x v hx => by cases hx)
      exact ⟨_, this, _, rfl, rfl, hrow, rfl, hun⟩
  cases e with
  | ret =>
    obtain ⟨h1, v, h2, v', _, rfl, h3⟩ := key hQ
    exact ⟨h1, v', h2, v', rfl, h3⟩
  | normal =>
    obtain ⟨h1, v, h2, v', _, rfl, h3⟩ := key hQ
    exact ⟨h1, v', h2, v', rfl, h3⟩
  | exit id => exact hQ.elim
  | goto l => exact hQ.elim
  | panic ch => exact hQ.elim
  | outgrown => exact hQ.elim

section
variable {P : Program} {ops : Array Oper} {rest : List Oper} {T : St → Prop} {st : St} {d : Nat} {ty : TypeId} {pos : String} {aft : Array Edge} {f : Nat} {xs : Array Operand} {ats : Array TypeId} {args : List PV}

def callMQ (P : Program) (ops : Array Oper) (rest : List Oper) (T : St → Prop) (st : St) (d k : Nat) (r r' : Row) : RM → Prop
  | .p m => r'.els.length = r.els.length ∧ W false P ops rest T (({ st with rows := (k, r') :: st.rows } : St).put d (.p m))
  | .self => Nat.beq k 0 = false ∧ W false P ops rest T { n := st.n, nk := st.nk, t := (d, .own k) :: killT k st.t, rows := (k, r') :: st.rows, x := st.x }
  | .unit => r'.els.length = r.els.length ∧ W false P ops rest T (({ st with rows := (k, r') :: st.rows } : St).put d (.p .any))

theorem W.callM {x : Operand} {ys : List Operand} {k : Nat} {r : Row} {mc : MCt} (hH : MHolds P f mc) (hxs : xs.toList = x :: ys) (hx : st.ev x = .own k) (hr : look st.rows k = some r) (ha : rdArgs st ys = some args) (hp : argsP st ys = true) (hd : Nat.blt d st.n = true)
    (hk : mc r args (fun r' res => r'.sz = r.sz ∧ callMQ P ops rest T st d k r r' res)) :
    W false P ops (⟨some d, .call { callee := .value (.func f), args := xs, argTypes := ats }, ty, pos, aft, none⟩ :: rest) T st := by
  have hd' : d < st.n := by simpa [Nat.blt_eq] using hd
  intro w0 a w Qr hs hT
  obtain ⟨L, cp, sz, ln, s⟩ := hs
  obtain ⟨r', res, hro, hsz, hK⟩ := hH.2 _ _ _ hk
  obtain ⟨hl, hall⟩ := s.rdArgsP _ _ hp ha
  obtain ⟨g1, g2, g3, g4⟩ := s.rows k r hr
  obtain ⟨hv, hkn⟩ := s.ev_own hx
  have hklive : liveIn st.rows k := by unfold liveIn; rw [hr]; rfl
  have hA : ArgsR w (stab w0 st.rows st.x L w.heap) args (ys.map a.eval).toArray := ⟨by simp [hl], fun i m u hm hu => hall i m u hm (by simpa using hu)⟩
  have hvals : xs.map a.eval = #[.slice (some ⟨L k, 0, none⟩) r.els.length (cp k)] ++ (ys.map a.eval).toArray := by
    apply Array.toList_inj.1
    simp [hxs, hv, g4]
  simp only [wpList, wanted_none, if_true]
  refine .inl ?_
  unfold Oper.wp
  rw [call_run hH.1 a.eval rfl _ rfl]
  simp only [Oper.upon]
  rw [hvals]
  refine (hro w (stab w0 st.rows st.x L w.heap) (L k) (cp k) _ (fun h => h.2.2 k hklive rfl) (g1.mono (fun b hb => ⟨⟨hb.1, hb⟩, rfl⟩) rfl) hA).mono ?_
  rintro e w' ⟨v, rfl, hrow, hres, hun⟩
  have hblk : ∀ b, b < w.heap.size → b ≠ L k → w'.heap[b]? = w.heap[b]? := fun b hb hne => hun.block b hb hne
  have hst : ∀ (L' : Nat → Nat), L' k = L k → (∀ x, x ≠ k → L' x = L x) → ∀ b, b < w'.heap.size ∧ (stab w0 st.rows st.x L w.heap b ∨ w.heap.size ≤ b) → stab w0 ((k, r') :: st.rows) st.x L' w'.heap b ∧ w'.heap[b]? = w'.heap[b]? := fun L' e1 e2 b hb => by
    refine ⟨⟨hb.1, ?_, fun x hxl => ?_⟩, rfl⟩
    · rcases hb.2 with h | h
      · exact h.2.1
      · exact ⟨.inr (Nat.le_trans s.below.size h), s.frag_none h⟩
    · have hxl' : liveIn st.rows x := by
        unfold liveIn at *; rw [look_cons] at hxl
        by_cases h : k = x
        · subst h; rw [hr]; rfl
        · rw [if_neg h] at hxl; exact hxl
      have : L' x = L x := by
        by_cases h : x = k
        · rw [h]; exact e1
        · exact e2 x h
      rw [this]
      rcases hb.2 with h | h
      · exact h.2.2 x hxl'
      · have := s.live_lt hxl'; omega
  cases res with
  | p m =>
    obtain ⟨hlen, hK⟩ := hK
    have s' := s.rewritten hr hsz hlen hun.os hun.tape hun.output hun.size hblk (hrow.mono (hst L rfl (fun _ _ => rfl)) rfl)
    exact hK w0 _ w' Qr ⟨L, cp, sz, ln, s'.put (d := d) hd' (m := .p m) (VR.of_val_mk hres)⟩ hT
  | unit =>
    obtain ⟨hlen, hK⟩ := hK
    have s' := s.rewritten hr hsz hlen hun.os hun.tape hun.output hun.size hblk (hrow.mono (hst L rfl (fun _ _ => rfl)) rfl)
    exact hK w0 _ w' Qr ⟨L, cp, sz, ln, s'.put (d := d) hd' (m := .p .any) VR.any⟩ hT
  | self =>
    obtain ⟨hk0, hK⟩ := hK
    obtain ⟨L', cp', sz', ln', s', e1, e2, e3, e4⟩ := s.movedG (w' := w') (r' := r') hr (fun e => by rw [e] at hk0; cases hk0) (g := L k) (c := cp k) (.inl rfl) hun.os hun.tape hun.output hun.size hblk (fun L' e1 e2 _ => hrow.mono (hst L' e1 e2) rfl)
    refine hK w0 _ w' Qr ⟨L', cp', sz', ln', s'.put (d := d) (m := .own k) hd' ⟨?_, hkn⟩⟩ hT
    rw [e1, e2, e3]; exact hres
end
end Go.Lo
namespace Go.Lo

@[irreducible] noncomputable def pB (p : Prop) : Bool := @decide p (Classical.propDecidable p)
theorem pB_t {p : Prop} : pB p = true ↔ p := by unfold pB; simp
theorem pB_f {p : Prop} : pB p = false ↔ ¬ p := by unfold pB; simp
theorem pB_eq {p : Prop} {b : Bool} (h : b = true ↔ p) : b = pB p := by
  cases b
  · have : ¬ p := fun hp => by have := h.2 hp; cases this
    rw [pB_f.2 this]
  · rw [pB_t.2 (h.1 rfl)]
theorem pB_true {p : Prop} (h : p) : true = pB p := (pB_t.2 h).symm
theorem pB_false {p : Prop} (h : ¬ p) : false = pB p := (pB_f.2 h).symm
theorem pB_ltB {a b : Int} {p : Prop} (h : a < b ↔ p) : ltB a b = pB p := pB_eq (by rw [ltB_t]; exact h)

/-- The element of a list at an index of Go's. -/
def ix {α : Type} [Inhabited α] (xs : List α) (n : Int) : α := xs.getD n.toNat default
theorem ixE {α : Type} [Inhabited α] {xs : List α} {enc : α → List PV} {n : Int} (h0 : 0 ≤ n) (h1 : n < xs.length) : (xs.map enc)[n.toNat]? = some (enc (ix xs n)) := by
  have : n.toNat < xs.length := by omega
  simp [ix, this]
theorem ix_get {α : Type} [Inhabited α] {xs : List α} {n : Nat} (h : n < xs.length) : ix xs (n : Int) = xs[n] := by simp [ix, h]

/-- The byte of a string at an index. -/
def sAt (s : ByteArray) (n : Int) : UInt8 := (s[n.toNat]?).getD 0
theorem sixE {s : ByteArray} {n : Int} (h0 : 0 ≤ n) (h1 : n < s.size) : s[n.toNat]? = some (sAt s n) := by
  have h : n.toNat < s.size := by omega
  have : s[n.toNat]? = some s[n.toNat] := by
    rw [getElem?_pos s n.toNat h]
  simp [sAt, this]

theorem toList_data (s : ByteArray) : s.toList = s.data.toList := by
  have key : ∀ (n i : Nat) (r : List UInt8), n = s.size - i → ByteArray.toList.loop s i r = r.reverse ++ s.data.toList.drop i := by
    intro n
    induction n with
    | zero =>
      intro i r hn
      unfold ByteArray.toList.loop
      rw [if_neg (by omega)]
      have hl : s.data.toList.length = s.size := rfl
      rw [List.drop_eq_nil_of_le (by omega)]
      simp
    | succ n ih =>
      intro i r hn
      unfold ByteArray.toList.loop
      have hlt : i < s.size := by omega
      rw [if_pos hlt, ih (i + 1) _ (by omega)]
      have hlt' : i < s.data.toList.length := hlt
      rw [List.drop_eq_getElem_cons hlt']
      have : s.get! i = s.data.toList[i] := by
        have h2 : i < s.data.size := by simpa using hlt'
        show s.data[i]! = _
        rw [getElem!_pos s.data i h2]; simp
      simp [this]
  unfold ByteArray.toList
  rw [key _ 0 [] rfl]
  simp

theorem sEq_t {x y : ByteArray} : sEq x y = true ↔ x = y := by
  unfold sEq
  rw [toList_data, toList_data, beq_iff_eq]
  constructor
  · intro h
    cases x; cases y
    simpa [Array.toList_inj] using h
  · intro h; rw [h]
theorem sEq_f {x y : ByteArray} : sEq x y = false ↔ x ≠ y := by
  rw [← Bool.not_eq_true, sEq_t]
theorem fin_pB {P : Program} {tt : Tab P} {rl : List ResultVar} {st : St} {b : Bool} {p : Prop} (he : resL st rl = some [.p (.bool b)]) (hk : distinctB (keysL st rl) = true) (hc : rl.all (cellTy tt.l st) = true) (e : b = true ↔ p) : ResOk tt rl [.p (.bool (pB p))] st :=
  fin_p he (by rw [pB_eq e]) hk hc
def allTo (q : Int → Prop) (n : Int) : Prop := ∀ i : Int, 0 ≤ i → i < n → q i
theorem allTo_zero (q : Int → Prop) : allTo q 0 := fun i h1 h2 => by omega
theorem allTo_succ {q : Int → Prop} {n : Int} (h : allTo q n) (hq : q n) : allTo q (n + 1) := fun i h1 h2 => by
  by_cases e : i = n
  · rw [e]; exact hq
  · exact h i h1 (by omega)
theorem allTo_le {q : Int → Prop} {n m : Int} (h : allTo q n) (hm : m ≤ n) : allTo q m := fun i h1 h2 => h i h1 (by omega)
theorem ix_mem {α : Type} [Inhabited α] {xs : List α} {n : Int} (h0 : 0 ≤ n) (h1 : n < xs.length) : ix xs n ∈ xs := by
  have : n.toNat < xs.length := by omega
  simp [ix, this]
theorem ix_prop {α : Type} [Inhabited α] {xs : List α} {p : α → Prop} (h : ∀ x ∈ xs, p x) (hd : p default) (n : Int) : p (ix xs n) := by
  unfold ix
  rcases Nat.lt_or_ge n.toNat xs.length with hl | hl
  · simp [hl]; exact h _ (List.getElem_mem hl)
  · simp [List.getElem?_eq_none hl]; exact hd
def sumN (f : Int → Int) : Nat → Int
  | 0 => 0
  | n + 1 => sumN f n + f n
/-- The sum of f over the indices below n. -/
def sumTo (f : Int → Int) (n : Int) : Int := sumN f n.toNat
theorem sumTo_zero (f : Int → Int) : sumTo f 0 = 0 := rfl
theorem sumTo_succ {f : Int → Int} {n : Int} (h : 0 ≤ n) : sumTo f (n + 1) = sumTo f n + f n := by
  obtain ⟨k, rfl⟩ := Int.eq_ofNat_of_zero_le h
  unfold sumTo
  rw [show ((k : Int) + 1).toNat = k + 1 by omega, Int.toNat_natCast]
  rfl
theorem sumTo_mono {f : Int → Int} (hf : ∀ i, 0 ≤ f i) {n m : Int} (h0 : 0 ≤ n) (h : n ≤ m) : sumTo f n ≤ sumTo f m := by
  obtain ⟨k, rfl⟩ : ∃ k : Nat, m = n + k := ⟨(m - n).toNat, by omega⟩
  clear h
  induction k with
  | zero => simp
  | succ k ih =>
    have := sumTo_succ (f := f) (n := n + k) (by omega)
    have h1 := hf (n + k)
    rw [show n + ((k + 1 : Nat) : Int) = n + k + 1 by omega, this]; omega
/-- What szX gives. -/
def szR (left k : Int) : Int := if left - k < 0 then -1 else left - k
theorem list_ext_ix {α : Type} [Inhabited α] {xs ys : List α} (hl : (xs.length : Int) = ys.length) (h : allTo (fun j => ix xs j = ix ys j) xs.length) : xs = ys := by
  apply List.ext_getElem (by omega)
  intro i h1 h2
  have h3 : ix xs (i : Int) = ix ys (i : Int) := h i (by omega) (by omega)
  rwa [ix_get h1, ix_get h2] at h3
/-- A list that is filled from the left. -/
def upd {α : Type} (enc : α → List PV) (z : List PV) (xs : List α) (i : Int) : List (List PV) := (xs.map enc).take i.toNat ++ List.replicate (xs.length - i.toNat) z
theorem upd_zero {α : Type} (enc : α → List PV) (z : List PV) (xs : List α) : upd enc z xs 0 = List.replicate xs.length z := by simp [upd]
theorem upd_length {α : Type} (enc : α → List PV) (z : List PV) (xs : List α) (i : Int) (h1 : i ≤ xs.length) : (upd enc z xs i).length = xs.length := by simp [upd]; omega
theorem upd_get {α : Type} {enc : α → List PV} {z : List PV} {xs : List α} {i : Int} (h0 : 0 ≤ i) (h1 : i < xs.length) : (upd enc z xs i)[i.toNat]? = some z := by
  have hl : ((xs.map enc).take i.toNat).length = i.toNat := by simp; omega
  unfold upd
  rw [List.getElem?_append_right (by omega), hl, Nat.sub_self]
  rw [List.getElem?_replicate, if_pos (by omega)]
theorem upd_set {α : Type} [Inhabited α] {enc : α → List PV} {z : List PV} {xs : List α} {i : Int} (h0 : 0 ≤ i) (h1 : i < xs.length) : (upd enc z xs i).set i.toNat (enc (ix xs i)) = upd enc z xs (i + 1) := by
  have hl : ((xs.map enc).take i.toNat).length = i.toNat := by simp; omega
  have hi : i.toNat < xs.length := by omega
  unfold upd
  rw [List.set_append_right _ _ (by omega), hl, Nat.sub_self]
  rw [show (i + 1).toNat = i.toNat + 1 by omega, List.take_succ_eq_append_getElem (by simpa using hi), List.append_assoc]
  congr 1
  rw [show xs.length - i.toNat = (xs.length - (i.toNat + 1)) + 1 by omega, List.replicate_succ, List.set_cons_zero]
  simp [ix, hi]
theorem upd_full {α : Type} (enc : α → List PV) (z : List PV) (xs : List α) : upd enc z xs xs.length = xs.map enc := by
  simp [upd]; exact List.take_of_length_le (by simp)
theorem fin_f {P : Program} {tt : Tab P} {rl : List ResultVar} {st : St} {r r' : Row} (he : resL st rl = some [.fresh r']) (e : r' = r) (hk : distinctB (keysL st rl) = true) (hc : rl.all (cellTy tt.l st) = true) : ResOk tt rl [.fresh r] st := by
  subst e
  exact ⟨he, hk, hc⟩
theorem rowEq {ty z : Nat} {a b : List (List PV)} (h : a = b) : (⟨ty, z, a⟩ : Row) = ⟨ty, z, b⟩ := by rw [h]
theorem sc_map {α : Type} {enc : α → List PV} {xs : List α} (h : ∀ x, ∀ m ∈ enc x, m.sc = true) : ∀ e ∈ xs.map enc, ∀ m ∈ e, m.sc = true := by
  intro e he
  obtain ⟨x, _, rfl⟩ := List.mem_map.1 he
  exact h x
abbrev I (n : Int) : PV := .int .i64 n
abbrev U8 (n : Int) : PV := .int .u8 n
theorem pI {a b : Int} (h : a = b) : MV.p (I a) = MV.p (I b) := by rw [h]
abbrev B (b : Bool) : PV := .bool b
theorem emp_iff {s : ByteArray} : s = ⟨#[]⟩ ↔ (s.size : Int) = 0 := by
  constructor
  · intro h; rw [h]; rfl
  · intro h
    have h' : s.size = 0 := by omega
    cases s with
    | mk d => congr; exact Array.eq_empty_of_size_eq_zero h'
end Go.Lo
